/-
  No cell of these rows narrows 'for every input' (looked for: loops, veiled, ifaces, maps, wideKeys, modest, calm, conditions, laid).
  DERIVED. THE GIVEN ROWS OF THIS SEAT. 12 by the template 'for every input the law returns true; each argument reads behind the call as it read before'; 0 by the template 'total and deterministic' (their statements: YtgglcpcfmhpcmaaTotals.lean).
  GIVEN WITH THE SEED: the statements are not yours to turn. If you find one false, say at which input.
  Laid BY PROGRAM, IN A SANDBOX (cutbox-rows.mjs): the forced cells as the released guide's own fill.sh prints them over the translation d53bc69010eaa9f4… (all of the seat's roots in one cut). By AI agents, Wed Nov 11 2026. No macro, syntax, notation, axiom, sorry.
-/
import Derived.Test.YtgglcpcfmhpcmaaChecked
import GoSem.Claim
import GoSem.ClaimJoined
import GoSem.ClaimMapViews
import Derived.JoinedTies
import Derived.KernelRfl
namespace Go.Proofs.Ytgglcpcfmhpcmaa
/- THE CELL 'sum', in the pinned program and in every row, IS THE sha256 OF THE DUMP (.gsa) THAT YtgglcpcfmhpcmaaProg.lean LOADS. Nothing in Lean hashes anything: it is a label: what it is worth is what the hold of that sum in a sandbox is worth. -/
noncomputable def Try.pinned : Pinned := { name := "ytgglcpcfmhpcmaa", sum := "d53bc69010eaa9f4c4efe4707bcaeffd73d4f5c1d3e7eb34d81cb8e5552573f9", checked := Try.checked }
namespace Rows
def none {H : Type} : Left H := { results := [], args := [] }

/-- 'laws.FnExactRollOn': WHATEVER THE INPUT: true; the input reads as it did. -/
def fnExactRollOnSpec : ChangeSpec := { name := "fnExactRollOn", fn := fun _ => fun
  | [d1, d2, d3] => { results := [.lit (.bool true)], args := [d1, d2, d3] }
  | _ => none }
def fnExactRollOnRow : OpenClaim := { program := "ytgglcpcfmhpcmaa", sum := "d53bc69010eaa9f4c4efe4707bcaeffd73d4f5c1d3e7eb34d81cb8e5552573f9", func := "loop.example/g00261/laws.FnExactRollOn", spec := "fnExactRollOn", apart := false }
def FnExactRollOnSaid : Prop := fnExactRollOnRow.holds Try.pinned (OpenSpec.ofChange fnExactRollOnSpec)

/-- ITS FALSE NEIGHBOUR: 'it returns false'. Refute it at one input. -/
def fnExactRollOnWrong : ChangeSpec := { name := "fnExactRollOn", fn := fun _ => fun
  | [d1, d2, d3] => { results := [.lit (.bool false)], args := [d1, d2, d3] }
  | _ => none }
def FnExactRollOnWrongFalsely : Prop := fnExactRollOnRow.holds Try.pinned (OpenSpec.ofChange fnExactRollOnWrong)

/-- 'laws.FnExactRollHash': WHATEVER THE INPUT: true; the input reads as it did. -/
def fnExactRollHashSpec : ChangeSpec := { name := "fnExactRollHash", fn := fun _ => fun
  | [d] => { results := [.lit (.bool true)], args := [d] }
  | _ => none }
def fnExactRollHashRow : OpenClaim := { program := "ytgglcpcfmhpcmaa", sum := "d53bc69010eaa9f4c4efe4707bcaeffd73d4f5c1d3e7eb34d81cb8e5552573f9", func := "loop.example/g00261/laws.FnExactRollHash", spec := "fnExactRollHash", apart := false }
def FnExactRollHashSaid : Prop := fnExactRollHashRow.holds Try.pinned (OpenSpec.ofChange fnExactRollHashSpec)

/-- ITS FALSE NEIGHBOUR: 'it returns false'. Refute it at one input. -/
def fnExactRollHashWrong : ChangeSpec := { name := "fnExactRollHash", fn := fun _ => fun
  | [d] => { results := [.lit (.bool false)], args := [d] }
  | _ => none }
def FnExactRollHashWrongFalsely : Prop := fnExactRollHashRow.holds Try.pinned (OpenSpec.ofChange fnExactRollHashWrong)

/-- 'laws.FnExactLongestAt': WHATEVER THE INPUT: true; the input reads as it did. -/
def fnExactLongestAtSpec : ChangeSpec := { name := "fnExactLongestAt", fn := fun _ => fun
  | [d1, d2] => { results := [.lit (.bool true)], args := [d1, d2] }
  | _ => none }
def fnExactLongestAtRow : OpenClaim := { program := "ytgglcpcfmhpcmaa", sum := "d53bc69010eaa9f4c4efe4707bcaeffd73d4f5c1d3e7eb34d81cb8e5552573f9", func := "loop.example/g00261/laws.FnExactLongestAt", spec := "fnExactLongestAt", apart := false }
def FnExactLongestAtSaid : Prop := fnExactLongestAtRow.holds Try.pinned (OpenSpec.ofChange fnExactLongestAtSpec)

/-- ITS FALSE NEIGHBOUR: 'it returns false'. Refute it at one input. -/
def fnExactLongestAtWrong : ChangeSpec := { name := "fnExactLongestAt", fn := fun _ => fun
  | [d1, d2] => { results := [.lit (.bool false)], args := [d1, d2] }
  | _ => none }
def FnExactLongestAtWrongFalsely : Prop := fnExactLongestAtRow.holds Try.pinned (OpenSpec.ofChange fnExactLongestAtWrong)

/-- 'laws.FnExactGoodTokens': WHATEVER THE INPUT: true; the input reads as it did. -/
def fnExactGoodTokensSpec : ChangeSpec := { name := "fnExactGoodTokens", fn := fun _ => fun
  | [d] => { results := [.lit (.bool true)], args := [d] }
  | _ => none }
def fnExactGoodTokensRow : OpenClaim := { program := "ytgglcpcfmhpcmaa", sum := "d53bc69010eaa9f4c4efe4707bcaeffd73d4f5c1d3e7eb34d81cb8e5552573f9", func := "loop.example/g00261/laws.FnExactGoodTokens", spec := "fnExactGoodTokens", apart := false }
def FnExactGoodTokensSaid : Prop := fnExactGoodTokensRow.holds Try.pinned (OpenSpec.ofChange fnExactGoodTokensSpec)

/-- ITS FALSE NEIGHBOUR: 'it returns false'. Refute it at one input. -/
def fnExactGoodTokensWrong : ChangeSpec := { name := "fnExactGoodTokens", fn := fun _ => fun
  | [d] => { results := [.lit (.bool false)], args := [d] }
  | _ => none }
def FnExactGoodTokensWrongFalsely : Prop := fnExactGoodTokensRow.holds Try.pinned (OpenSpec.ofChange fnExactGoodTokensWrong)

/-- 'laws.FnLongest': WHATEVER THE INPUT: true; the input reads as it did. -/
def fnLongestSpec : ChangeSpec := { name := "fnLongest", fn := fun _ => fun
  | [d] => { results := [.lit (.bool true)], args := [d] }
  | _ => none }
def fnLongestRow : OpenClaim := { program := "ytgglcpcfmhpcmaa", sum := "d53bc69010eaa9f4c4efe4707bcaeffd73d4f5c1d3e7eb34d81cb8e5552573f9", func := "loop.example/g00261/laws.FnLongest", spec := "fnLongest", apart := false }
def FnLongestSaid : Prop := fnLongestRow.holds Try.pinned (OpenSpec.ofChange fnLongestSpec)

/-- ITS FALSE NEIGHBOUR: 'it returns false'. Refute it at one input. -/
def fnLongestWrong : ChangeSpec := { name := "fnLongest", fn := fun _ => fun
  | [d] => { results := [.lit (.bool false)], args := [d] }
  | _ => none }
def FnLongestWrongFalsely : Prop := fnLongestRow.holds Try.pinned (OpenSpec.ofChange fnLongestWrong)

/-- 'laws.FnExactExpandTokens': WHATEVER THE INPUT: true; the input reads as it did. -/
def fnExactExpandTokensSpec : ChangeSpec := { name := "fnExactExpandTokens", fn := fun _ => fun
  | [d] => { results := [.lit (.bool true)], args := [d] }
  | _ => none }
def fnExactExpandTokensRow : OpenClaim := { program := "ytgglcpcfmhpcmaa", sum := "d53bc69010eaa9f4c4efe4707bcaeffd73d4f5c1d3e7eb34d81cb8e5552573f9", func := "loop.example/g00261/laws.FnExactExpandTokens", spec := "fnExactExpandTokens", apart := false }
def FnExactExpandTokensSaid : Prop := fnExactExpandTokensRow.holds Try.pinned (OpenSpec.ofChange fnExactExpandTokensSpec)

/-- ITS FALSE NEIGHBOUR: 'it returns false'. Refute it at one input. -/
def fnExactExpandTokensWrong : ChangeSpec := { name := "fnExactExpandTokens", fn := fun _ => fun
  | [d] => { results := [.lit (.bool false)], args := [d] }
  | _ => none }
def FnExactExpandTokensWrongFalsely : Prop := fnExactExpandTokensRow.holds Try.pinned (OpenSpec.ofChange fnExactExpandTokensWrong)

/-- 'laws.FnExactUnsqueeze': WHATEVER THE INPUT: true; the input reads as it did. -/
def fnExactUnsqueezeSpec : ChangeSpec := { name := "fnExactUnsqueeze", fn := fun _ => fun
  | [d] => { results := [.lit (.bool true)], args := [d] }
  | _ => none }
def fnExactUnsqueezeRow : OpenClaim := { program := "ytgglcpcfmhpcmaa", sum := "d53bc69010eaa9f4c4efe4707bcaeffd73d4f5c1d3e7eb34d81cb8e5552573f9", func := "loop.example/g00261/laws.FnExactUnsqueeze", spec := "fnExactUnsqueeze", apart := false }
def FnExactUnsqueezeSaid : Prop := fnExactUnsqueezeRow.holds Try.pinned (OpenSpec.ofChange fnExactUnsqueezeSpec)

/-- ITS FALSE NEIGHBOUR: 'it returns false'. Refute it at one input. -/
def fnExactUnsqueezeWrong : ChangeSpec := { name := "fnExactUnsqueeze", fn := fun _ => fun
  | [d] => { results := [.lit (.bool false)], args := [d] }
  | _ => none }
def FnExactUnsqueezeWrongFalsely : Prop := fnExactUnsqueezeRow.holds Try.pinned (OpenSpec.ofChange fnExactUnsqueezeWrong)

/-- 'laws.FnExactSqueeze': WHATEVER THE INPUT: true; the input reads as it did. -/
def fnExactSqueezeSpec : ChangeSpec := { name := "fnExactSqueeze", fn := fun _ => fun
  | [d] => { results := [.lit (.bool true)], args := [d] }
  | _ => none }
def fnExactSqueezeRow : OpenClaim := { program := "ytgglcpcfmhpcmaa", sum := "d53bc69010eaa9f4c4efe4707bcaeffd73d4f5c1d3e7eb34d81cb8e5552573f9", func := "loop.example/g00261/laws.FnExactSqueeze", spec := "fnExactSqueeze", inPlace := ["internal/abi.NoEscape"], apart := false }
def FnExactSqueezeSaid : Prop := fnExactSqueezeRow.holds Try.pinned (OpenSpec.ofChange fnExactSqueezeSpec)

/-- ITS FALSE NEIGHBOUR: 'it returns false'. Refute it at one input. -/
def fnExactSqueezeWrong : ChangeSpec := { name := "fnExactSqueeze", fn := fun _ => fun
  | [d] => { results := [.lit (.bool false)], args := [d] }
  | _ => none }
def FnExactSqueezeWrongFalsely : Prop := fnExactSqueezeRow.holds Try.pinned (OpenSpec.ofChange fnExactSqueezeWrong)

/-- 'laws.FnExactTokensOf': WHATEVER THE INPUT: true; the input reads as it did. -/
def fnExactTokensOfSpec : ChangeSpec := { name := "fnExactTokensOf", fn := fun _ => fun
  | [d] => { results := [.lit (.bool true)], args := [d] }
  | _ => none }
def fnExactTokensOfRow : OpenClaim := { program := "ytgglcpcfmhpcmaa", sum := "d53bc69010eaa9f4c4efe4707bcaeffd73d4f5c1d3e7eb34d81cb8e5552573f9", func := "loop.example/g00261/laws.FnExactTokensOf", spec := "fnExactTokensOf", apart := false }
def FnExactTokensOfSaid : Prop := fnExactTokensOfRow.holds Try.pinned (OpenSpec.ofChange fnExactTokensOfSpec)

/-- ITS FALSE NEIGHBOUR: 'it returns false'. Refute it at one input. -/
def fnExactTokensOfWrong : ChangeSpec := { name := "fnExactTokensOf", fn := fun _ => fun
  | [d] => { results := [.lit (.bool false)], args := [d] }
  | _ => none }
def FnExactTokensOfWrongFalsely : Prop := fnExactTokensOfRow.holds Try.pinned (OpenSpec.ofChange fnExactTokensOfWrong)

/-- 'laws.FnExactUnpackTokens': WHATEVER THE INPUT: true; the input reads as it did. -/
def fnExactUnpackTokensSpec : ChangeSpec := { name := "fnExactUnpackTokens", fn := fun _ => fun
  | [d] => { results := [.lit (.bool true)], args := [d] }
  | _ => none }
def fnExactUnpackTokensRow : OpenClaim := { program := "ytgglcpcfmhpcmaa", sum := "d53bc69010eaa9f4c4efe4707bcaeffd73d4f5c1d3e7eb34d81cb8e5552573f9", func := "loop.example/g00261/laws.FnExactUnpackTokens", spec := "fnExactUnpackTokens", apart := false }
def FnExactUnpackTokensSaid : Prop := fnExactUnpackTokensRow.holds Try.pinned (OpenSpec.ofChange fnExactUnpackTokensSpec)

/-- ITS FALSE NEIGHBOUR: 'it returns false'. Refute it at one input. -/
def fnExactUnpackTokensWrong : ChangeSpec := { name := "fnExactUnpackTokens", fn := fun _ => fun
  | [d] => { results := [.lit (.bool false)], args := [d] }
  | _ => none }
def FnExactUnpackTokensWrongFalsely : Prop := fnExactUnpackTokensRow.holds Try.pinned (OpenSpec.ofChange fnExactUnpackTokensWrong)

/-- 'laws.FnExactPackTokens': WHATEVER THE INPUT: true; the input reads as it did. -/
def fnExactPackTokensSpec : ChangeSpec := { name := "fnExactPackTokens", fn := fun _ => fun
  | [d] => { results := [.lit (.bool true)], args := [d] }
  | _ => none }
def fnExactPackTokensRow : OpenClaim := { program := "ytgglcpcfmhpcmaa", sum := "d53bc69010eaa9f4c4efe4707bcaeffd73d4f5c1d3e7eb34d81cb8e5552573f9", func := "loop.example/g00261/laws.FnExactPackTokens", spec := "fnExactPackTokens", inPlace := ["internal/abi.NoEscape"], apart := false }
def FnExactPackTokensSaid : Prop := fnExactPackTokensRow.holds Try.pinned (OpenSpec.ofChange fnExactPackTokensSpec)

/-- ITS FALSE NEIGHBOUR: 'it returns false'. Refute it at one input. -/
def fnExactPackTokensWrong : ChangeSpec := { name := "fnExactPackTokens", fn := fun _ => fun
  | [d] => { results := [.lit (.bool false)], args := [d] }
  | _ => none }
def FnExactPackTokensWrongFalsely : Prop := fnExactPackTokensRow.holds Try.pinned (OpenSpec.ofChange fnExactPackTokensWrong)

/-- 'laws.FnSqueezed': WHATEVER THE INPUT: true; the input reads as it did. -/
def fnSqueezedSpec : ChangeSpec := { name := "fnSqueezed", fn := fun _ => fun
  | [d1, d2] => { results := [.lit (.bool true)], args := [d1, d2] }
  | _ => none }
def fnSqueezedRow : OpenClaim := { program := "ytgglcpcfmhpcmaa", sum := "d53bc69010eaa9f4c4efe4707bcaeffd73d4f5c1d3e7eb34d81cb8e5552573f9", func := "loop.example/g00261/laws.FnSqueezed", spec := "fnSqueezed", inPlace := ["internal/abi.NoEscape"], apart := false }
def FnSqueezedSaid : Prop := fnSqueezedRow.holds Try.pinned (OpenSpec.ofChange fnSqueezedSpec)

/-- ITS FALSE NEIGHBOUR: 'it returns false'. Refute it at one input. -/
def fnSqueezedWrong : ChangeSpec := { name := "fnSqueezed", fn := fun _ => fun
  | [d1, d2] => { results := [.lit (.bool false)], args := [d1, d2] }
  | _ => none }
def FnSqueezedWrongFalsely : Prop := fnSqueezedRow.holds Try.pinned (OpenSpec.ofChange fnSqueezedWrong)

/- THE SECOND FORM. 'bulk': how many values and letters a reading holds, each counted each time it is reached (what is shared counts as often as it is met; a slice's spare places count too). A statement '..UptoSaid' is the law's where the arguments, and the package variables that the reading takes, are together of bulk at most 1048576: NARROWER than '..Said'. Prove '..Said' where nothing that the law and all that it calls make is longer than what came in: it says more and counts as full. Else prove '..UptoSaid'. A law counts once. -/
mutual
def uptoBulk {H : Type} : DataW H → Nat
  | .lit (.string bytes) => bytes.length + 1
  | .lit _ => 1
  | .nil => 1
  | .ptr d => uptoBulk d + 1
  | .slice elems spare => uptoBulkAll elems + uptoBulkAll spare + 1
  | .agg parts => uptoBulkAll parts + 1
  | .iface _ d => uptoBulk d + 1
  | .map entries => uptoBulkEntries entries + 1
  | .held _ => 1
def uptoBulkAll {H : Type} : List (DataW H) → Nat
  | [] => 0
  | d :: r => uptoBulk d + uptoBulkAll r
def uptoBulkEntries {H : Type} : List (Lit × DataW H) → Nat
  | [] => 0
  | x :: r => uptoBulkEntry x + uptoBulkEntries r
def uptoBulkEntry {H : Type} : Lit × DataW H → Nat
  | (.string bytes, d) => bytes.length + uptoBulk d + 1
  | (_, d) => uptoBulk d + 1
 end
def uptoSmall : (H : Type) → List (DataW H) → Bool := fun _ ds => decide (uptoBulkAll ds ≤ 1048576)
def OpenSpec.upto (s : _root_.Go.ChangeSpec) : _root_.Go.OpenSpec := { _root_.Go.OpenSpec.ofChange s with cond := some uptoSmall }

/-- 'laws.FnExactRollOn', WHERE WHAT IT READS IS OF BULK AT MOST 1048576: true; the input reads as it did. -/
def fnExactRollOnUptoRow : OpenClaim := { program := "ytgglcpcfmhpcmaa", sum := "d53bc69010eaa9f4c4efe4707bcaeffd73d4f5c1d3e7eb34d81cb8e5552573f9", func := "loop.example/g00261/laws.FnExactRollOn", spec := "fnExactRollOn", apart := false, narrowed := true }
def FnExactRollOnUptoSaid : Prop := fnExactRollOnUptoRow.holds Try.pinned (OpenSpec.upto fnExactRollOnSpec)

/-- 'laws.FnExactRollHash', WHERE WHAT IT READS IS OF BULK AT MOST 1048576: true; the input reads as it did. -/
def fnExactRollHashUptoRow : OpenClaim := { program := "ytgglcpcfmhpcmaa", sum := "d53bc69010eaa9f4c4efe4707bcaeffd73d4f5c1d3e7eb34d81cb8e5552573f9", func := "loop.example/g00261/laws.FnExactRollHash", spec := "fnExactRollHash", apart := false, narrowed := true }
def FnExactRollHashUptoSaid : Prop := fnExactRollHashUptoRow.holds Try.pinned (OpenSpec.upto fnExactRollHashSpec)

/-- 'laws.FnExactLongestAt', WHERE WHAT IT READS IS OF BULK AT MOST 1048576: true; the input reads as it did. -/
def fnExactLongestAtUptoRow : OpenClaim := { program := "ytgglcpcfmhpcmaa", sum := "d53bc69010eaa9f4c4efe4707bcaeffd73d4f5c1d3e7eb34d81cb8e5552573f9", func := "loop.example/g00261/laws.FnExactLongestAt", spec := "fnExactLongestAt", apart := false, narrowed := true }
def FnExactLongestAtUptoSaid : Prop := fnExactLongestAtUptoRow.holds Try.pinned (OpenSpec.upto fnExactLongestAtSpec)

/-- 'laws.FnExactGoodTokens', WHERE WHAT IT READS IS OF BULK AT MOST 1048576: true; the input reads as it did. -/
def fnExactGoodTokensUptoRow : OpenClaim := { program := "ytgglcpcfmhpcmaa", sum := "d53bc69010eaa9f4c4efe4707bcaeffd73d4f5c1d3e7eb34d81cb8e5552573f9", func := "loop.example/g00261/laws.FnExactGoodTokens", spec := "fnExactGoodTokens", apart := false, narrowed := true }
def FnExactGoodTokensUptoSaid : Prop := fnExactGoodTokensUptoRow.holds Try.pinned (OpenSpec.upto fnExactGoodTokensSpec)

/-- 'laws.FnLongest', WHERE WHAT IT READS IS OF BULK AT MOST 1048576: true; the input reads as it did. -/
def fnLongestUptoRow : OpenClaim := { program := "ytgglcpcfmhpcmaa", sum := "d53bc69010eaa9f4c4efe4707bcaeffd73d4f5c1d3e7eb34d81cb8e5552573f9", func := "loop.example/g00261/laws.FnLongest", spec := "fnLongest", apart := false, narrowed := true }
def FnLongestUptoSaid : Prop := fnLongestUptoRow.holds Try.pinned (OpenSpec.upto fnLongestSpec)

/-- 'laws.FnExactExpandTokens', WHERE WHAT IT READS IS OF BULK AT MOST 1048576: true; the input reads as it did. -/
def fnExactExpandTokensUptoRow : OpenClaim := { program := "ytgglcpcfmhpcmaa", sum := "d53bc69010eaa9f4c4efe4707bcaeffd73d4f5c1d3e7eb34d81cb8e5552573f9", func := "loop.example/g00261/laws.FnExactExpandTokens", spec := "fnExactExpandTokens", apart := false, narrowed := true }
def FnExactExpandTokensUptoSaid : Prop := fnExactExpandTokensUptoRow.holds Try.pinned (OpenSpec.upto fnExactExpandTokensSpec)

/-- 'laws.FnExactUnsqueeze', WHERE WHAT IT READS IS OF BULK AT MOST 1048576: true; the input reads as it did. -/
def fnExactUnsqueezeUptoRow : OpenClaim := { program := "ytgglcpcfmhpcmaa", sum := "d53bc69010eaa9f4c4efe4707bcaeffd73d4f5c1d3e7eb34d81cb8e5552573f9", func := "loop.example/g00261/laws.FnExactUnsqueeze", spec := "fnExactUnsqueeze", apart := false, narrowed := true }
def FnExactUnsqueezeUptoSaid : Prop := fnExactUnsqueezeUptoRow.holds Try.pinned (OpenSpec.upto fnExactUnsqueezeSpec)

/-- 'laws.FnExactSqueeze', WHERE WHAT IT READS IS OF BULK AT MOST 1048576: true; the input reads as it did. -/
def fnExactSqueezeUptoRow : OpenClaim := { program := "ytgglcpcfmhpcmaa", sum := "d53bc69010eaa9f4c4efe4707bcaeffd73d4f5c1d3e7eb34d81cb8e5552573f9", func := "loop.example/g00261/laws.FnExactSqueeze", spec := "fnExactSqueeze", inPlace := ["internal/abi.NoEscape"], apart := false, narrowed := true }
def FnExactSqueezeUptoSaid : Prop := fnExactSqueezeUptoRow.holds Try.pinned (OpenSpec.upto fnExactSqueezeSpec)

/-- 'laws.FnExactTokensOf', WHERE WHAT IT READS IS OF BULK AT MOST 1048576: true; the input reads as it did. -/
def fnExactTokensOfUptoRow : OpenClaim := { program := "ytgglcpcfmhpcmaa", sum := "d53bc69010eaa9f4c4efe4707bcaeffd73d4f5c1d3e7eb34d81cb8e5552573f9", func := "loop.example/g00261/laws.FnExactTokensOf", spec := "fnExactTokensOf", apart := false, narrowed := true }
def FnExactTokensOfUptoSaid : Prop := fnExactTokensOfUptoRow.holds Try.pinned (OpenSpec.upto fnExactTokensOfSpec)

/-- 'laws.FnExactUnpackTokens', WHERE WHAT IT READS IS OF BULK AT MOST 1048576: true; the input reads as it did. -/
def fnExactUnpackTokensUptoRow : OpenClaim := { program := "ytgglcpcfmhpcmaa", sum := "d53bc69010eaa9f4c4efe4707bcaeffd73d4f5c1d3e7eb34d81cb8e5552573f9", func := "loop.example/g00261/laws.FnExactUnpackTokens", spec := "fnExactUnpackTokens", apart := false, narrowed := true }
def FnExactUnpackTokensUptoSaid : Prop := fnExactUnpackTokensUptoRow.holds Try.pinned (OpenSpec.upto fnExactUnpackTokensSpec)

/-- 'laws.FnExactPackTokens', WHERE WHAT IT READS IS OF BULK AT MOST 1048576: true; the input reads as it did. -/
def fnExactPackTokensUptoRow : OpenClaim := { program := "ytgglcpcfmhpcmaa", sum := "d53bc69010eaa9f4c4efe4707bcaeffd73d4f5c1d3e7eb34d81cb8e5552573f9", func := "loop.example/g00261/laws.FnExactPackTokens", spec := "fnExactPackTokens", inPlace := ["internal/abi.NoEscape"], apart := false, narrowed := true }
def FnExactPackTokensUptoSaid : Prop := fnExactPackTokensUptoRow.holds Try.pinned (OpenSpec.upto fnExactPackTokensSpec)

/-- 'laws.FnSqueezed', WHERE WHAT IT READS IS OF BULK AT MOST 1048576: true; the input reads as it did. -/
def fnSqueezedUptoRow : OpenClaim := { program := "ytgglcpcfmhpcmaa", sum := "d53bc69010eaa9f4c4efe4707bcaeffd73d4f5c1d3e7eb34d81cb8e5552573f9", func := "loop.example/g00261/laws.FnSqueezed", spec := "fnSqueezed", inPlace := ["internal/abi.NoEscape"], apart := false, narrowed := true }
def FnSqueezedUptoSaid : Prop := fnSqueezedUptoRow.holds Try.pinned (OpenSpec.upto fnSqueezedSpec)

end Rows
end Go.Proofs.Ytgglcpcfmhpcmaa
