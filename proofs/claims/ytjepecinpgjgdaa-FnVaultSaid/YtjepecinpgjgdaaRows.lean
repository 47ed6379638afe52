/-
  No cell of these rows narrows 'for every input' (looked for: loops, veiled, ifaces, maps, wideKeys, modest, calm, conditions, laid).
  DERIVED. THE GIVEN ROWS OF THIS SEAT. 11 by the template 'for every input the law returns true; each argument reads behind the call as it read before'; 0 by the template 'total and deterministic' (their statements: YtjepecinpgjgdaaTotals.lean).
  GIVEN WITH THE SEED: the statements are not yours to turn. If you find one false, say at which input.
  Laid BY PROGRAM, IN A SANDBOX (cutbox-rows.mjs): the forced cells as the released guide's own fill.sh prints them over the translation e840873d16150129… (all of the seat's roots in one cut). By AI agents, Wed Nov 11 2026. No macro, syntax, notation, axiom, sorry.
-/
import Derived.Test.YtjepecinpgjgdaaChecked
import GoSem.Claim
import GoSem.ClaimJoined
import GoSem.ClaimMapViews
import Derived.JoinedTies
import Derived.KernelRfl
namespace Go.Proofs.Ytjepecinpgjgdaa
/- THE CELL 'sum', in the pinned program and in every row, IS THE sha256 OF THE DUMP (.gsa) THAT YtjepecinpgjgdaaProg.lean LOADS. Nothing in Lean hashes anything: it is a label: what it is worth is what the hold of that sum in a sandbox is worth. -/
noncomputable def Try.pinned : Pinned := { name := "ytjepecinpgjgdaa", sum := "e840873d16150129ec6862658fbfe4f5fcd06accbb6b3063f2da817a27be6803", checked := Try.checked }
namespace Rows
def none {H : Type} : Left H := { results := [], args := [] }

/-- 'laws.FnExactCutsOf': WHATEVER THE INPUT: true; the input reads as it did. -/
def fnExactCutsOfSpec : ChangeSpec := { name := "fnExactCutsOf", fn := fun _ => fun
  | [d] => { results := [.lit (.bool true)], args := [d] }
  | _ => none }
def fnExactCutsOfRow : OpenClaim := { program := "ytjepecinpgjgdaa", sum := "e840873d16150129ec6862658fbfe4f5fcd06accbb6b3063f2da817a27be6803", func := "loop.example/g00261/laws.FnExactCutsOf", spec := "fnExactCutsOf", apart := false }
def FnExactCutsOfSaid : Prop := fnExactCutsOfRow.holds Try.pinned (OpenSpec.ofChange fnExactCutsOfSpec)

/-- ITS FALSE NEIGHBOUR: 'it returns false'. Refute it at one input. -/
def fnExactCutsOfWrong : ChangeSpec := { name := "fnExactCutsOf", fn := fun _ => fun
  | [d] => { results := [.lit (.bool false)], args := [d] }
  | _ => none }
def FnExactCutsOfWrongFalsely : Prop := fnExactCutsOfRow.holds Try.pinned (OpenSpec.ofChange fnExactCutsOfWrong)

/-- 'laws.FnRolled': WHATEVER THE INPUT: true; the input reads as it did. -/
def fnRolledSpec : ChangeSpec := { name := "fnRolled", fn := fun _ => fun
  | [d1, d2] => { results := [.lit (.bool true)], args := [d1, d2] }
  | _ => none }
def fnRolledRow : OpenClaim := { program := "ytjepecinpgjgdaa", sum := "e840873d16150129ec6862658fbfe4f5fcd06accbb6b3063f2da817a27be6803", func := "loop.example/g00261/laws.FnRolled", spec := "fnRolled", apart := false }
def FnRolledSaid : Prop := fnRolledRow.holds Try.pinned (OpenSpec.ofChange fnRolledSpec)

/-- ITS FALSE NEIGHBOUR: 'it returns false'. Refute it at one input. -/
def fnRolledWrong : ChangeSpec := { name := "fnRolled", fn := fun _ => fun
  | [d1, d2] => { results := [.lit (.bool false)], args := [d1, d2] }
  | _ => none }
def FnRolledWrongFalsely : Prop := fnRolledRow.holds Try.pinned (OpenSpec.ofChange fnRolledWrong)

/-- 'laws.FnExactPiecesOf': WHATEVER THE INPUT: true; the input reads as it did. -/
def fnExactPiecesOfSpec : ChangeSpec := { name := "fnExactPiecesOf", fn := fun _ => fun
  | [d] => { results := [.lit (.bool true)], args := [d] }
  | _ => none }
def fnExactPiecesOfRow : OpenClaim := { program := "ytjepecinpgjgdaa", sum := "e840873d16150129ec6862658fbfe4f5fcd06accbb6b3063f2da817a27be6803", func := "loop.example/g00261/laws.FnExactPiecesOf", spec := "fnExactPiecesOf", apart := false }
def FnExactPiecesOfSaid : Prop := fnExactPiecesOfRow.holds Try.pinned (OpenSpec.ofChange fnExactPiecesOfSpec)

/-- ITS FALSE NEIGHBOUR: 'it returns false'. Refute it at one input. -/
def fnExactPiecesOfWrong : ChangeSpec := { name := "fnExactPiecesOf", fn := fun _ => fun
  | [d] => { results := [.lit (.bool false)], args := [d] }
  | _ => none }
def FnExactPiecesOfWrongFalsely : Prop := fnExactPiecesOfRow.holds Try.pinned (OpenSpec.ofChange fnExactPiecesOfWrong)

/-- 'laws.FnCuts': WHATEVER THE INPUT: true; the input reads as it did. -/
def fnCutsSpec : ChangeSpec := { name := "fnCuts", fn := fun _ => fun
  | [d1, d2] => { results := [.lit (.bool true)], args := [d1, d2] }
  | _ => none }
def fnCutsRow : OpenClaim := { program := "ytjepecinpgjgdaa", sum := "e840873d16150129ec6862658fbfe4f5fcd06accbb6b3063f2da817a27be6803", func := "loop.example/g00261/laws.FnCuts", spec := "fnCuts", apart := false }
def FnCutsSaid : Prop := fnCutsRow.holds Try.pinned (OpenSpec.ofChange fnCutsSpec)

/-- ITS FALSE NEIGHBOUR: 'it returns false'. Refute it at one input. -/
def fnCutsWrong : ChangeSpec := { name := "fnCuts", fn := fun _ => fun
  | [d1, d2] => { results := [.lit (.bool false)], args := [d1, d2] }
  | _ => none }
def FnCutsWrongFalsely : Prop := fnCutsRow.holds Try.pinned (OpenSpec.ofChange fnCutsWrong)

/-- 'laws.FnExactGoodVault': WHATEVER THE INPUT: true; the input reads as it did. -/
def fnExactGoodVaultSpec : ChangeSpec := { name := "fnExactGoodVault", fn := fun _ => fun
  | [d] => { results := [.lit (.bool true)], args := [d] }
  | _ => none }
def fnExactGoodVaultRow : OpenClaim := { program := "ytjepecinpgjgdaa", sum := "e840873d16150129ec6862658fbfe4f5fcd06accbb6b3063f2da817a27be6803", func := "loop.example/g00261/laws.FnExactGoodVault", spec := "fnExactGoodVault", apart := false }
def FnExactGoodVaultSaid : Prop := fnExactGoodVaultRow.holds Try.pinned (OpenSpec.ofChange fnExactGoodVaultSpec)

/-- ITS FALSE NEIGHBOUR: 'it returns false'. Refute it at one input. -/
def fnExactGoodVaultWrong : ChangeSpec := { name := "fnExactGoodVault", fn := fun _ => fun
  | [d] => { results := [.lit (.bool false)], args := [d] }
  | _ => none }
def FnExactGoodVaultWrongFalsely : Prop := fnExactGoodVaultRow.holds Try.pinned (OpenSpec.ofChange fnExactGoodVaultWrong)

/-- 'laws.FnExactTextIn': WHATEVER THE INPUT: true; the input reads as it did. -/
def fnExactTextInSpec : ChangeSpec := { name := "fnExactTextIn", fn := fun _ => fun
  | [d1, d2] => { results := [.lit (.bool true)], args := [d1, d2] }
  | _ => none }
def fnExactTextInRow : OpenClaim := { program := "ytjepecinpgjgdaa", sum := "e840873d16150129ec6862658fbfe4f5fcd06accbb6b3063f2da817a27be6803", func := "loop.example/g00261/laws.FnExactTextIn", spec := "fnExactTextIn", inPlace := ["internal/abi.NoEscape", "internal/bytealg.MakeNoZero"], apart := false }
def FnExactTextInSaid : Prop := fnExactTextInRow.holds Try.pinned (OpenSpec.ofChange fnExactTextInSpec)

/-- ITS FALSE NEIGHBOUR: 'it returns false'. Refute it at one input. -/
def fnExactTextInWrong : ChangeSpec := { name := "fnExactTextIn", fn := fun _ => fun
  | [d1, d2] => { results := [.lit (.bool false)], args := [d1, d2] }
  | _ => none }
def FnExactTextInWrongFalsely : Prop := fnExactTextInRow.holds Try.pinned (OpenSpec.ofChange fnExactTextInWrong)

/-- 'laws.FnExactBytesKept': WHATEVER THE INPUT: true; the input reads as it did. -/
def fnExactBytesKeptSpec : ChangeSpec := { name := "fnExactBytesKept", fn := fun _ => fun
  | [d] => { results := [.lit (.bool true)], args := [d] }
  | _ => none }
def fnExactBytesKeptRow : OpenClaim := { program := "ytjepecinpgjgdaa", sum := "e840873d16150129ec6862658fbfe4f5fcd06accbb6b3063f2da817a27be6803", func := "loop.example/g00261/laws.FnExactBytesKept", spec := "fnExactBytesKept", inPlace := ["internal/abi.NoEscape", "internal/bytealg.MakeNoZero"], apart := false }
def FnExactBytesKeptSaid : Prop := fnExactBytesKeptRow.holds Try.pinned (OpenSpec.ofChange fnExactBytesKeptSpec)

/-- ITS FALSE NEIGHBOUR: 'it returns false'. Refute it at one input. -/
def fnExactBytesKeptWrong : ChangeSpec := { name := "fnExactBytesKept", fn := fun _ => fun
  | [d] => { results := [.lit (.bool false)], args := [d] }
  | _ => none }
def FnExactBytesKeptWrongFalsely : Prop := fnExactBytesKeptRow.holds Try.pinned (OpenSpec.ofChange fnExactBytesKeptWrong)

/-- 'laws.FnExactDropFile': WHATEVER THE INPUT: true; the input reads as it did. -/
def fnExactDropFileSpec : ChangeSpec := { name := "fnExactDropFile", fn := fun _ => fun
  | [d1, d2] => { results := [.lit (.bool true)], args := [d1, d2] }
  | _ => none }
def fnExactDropFileRow : OpenClaim := { program := "ytjepecinpgjgdaa", sum := "e840873d16150129ec6862658fbfe4f5fcd06accbb6b3063f2da817a27be6803", func := "loop.example/g00261/laws.FnExactDropFile", spec := "fnExactDropFile", apart := false }
def FnExactDropFileSaid : Prop := fnExactDropFileRow.holds Try.pinned (OpenSpec.ofChange fnExactDropFileSpec)

/-- ITS FALSE NEIGHBOUR: 'it returns false'. Refute it at one input. -/
def fnExactDropFileWrong : ChangeSpec := { name := "fnExactDropFile", fn := fun _ => fun
  | [d1, d2] => { results := [.lit (.bool false)], args := [d1, d2] }
  | _ => none }
def FnExactDropFileWrongFalsely : Prop := fnExactDropFileRow.holds Try.pinned (OpenSpec.ofChange fnExactDropFileWrong)

/-- 'laws.FnExactNewVault': WHATEVER THE INPUT: true; the input reads as it did. -/
def fnExactNewVaultSpec : ChangeSpec := { name := "fnExactNewVault", fn := fun _ => fun
  | [d] => { results := [.lit (.bool true)], args := [d] }
  | _ => none }
def fnExactNewVaultRow : OpenClaim := { program := "ytjepecinpgjgdaa", sum := "e840873d16150129ec6862658fbfe4f5fcd06accbb6b3063f2da817a27be6803", func := "loop.example/g00261/laws.FnExactNewVault", spec := "fnExactNewVault", unfollowed := true, recurses := true, apart := false }
def FnExactNewVaultSaid : Prop := fnExactNewVaultRow.holds Try.pinned (OpenSpec.ofChange fnExactNewVaultSpec)

/-- ITS FALSE NEIGHBOUR: 'it returns false'. Refute it at one input. -/
def fnExactNewVaultWrong : ChangeSpec := { name := "fnExactNewVault", fn := fun _ => fun
  | [d] => { results := [.lit (.bool false)], args := [d] }
  | _ => none }
def FnExactNewVaultWrongFalsely : Prop := fnExactNewVaultRow.holds Try.pinned (OpenSpec.ofChange fnExactNewVaultWrong)

/-- 'laws.FnExactPutText': WHATEVER THE INPUT: true; the input reads as it did. -/
def fnExactPutTextSpec : ChangeSpec := { name := "fnExactPutText", fn := fun _ => fun
  | [d1, d2] => { results := [.lit (.bool true)], args := [d1, d2] }
  | _ => none }
def fnExactPutTextRow : OpenClaim := { program := "ytjepecinpgjgdaa", sum := "e840873d16150129ec6862658fbfe4f5fcd06accbb6b3063f2da817a27be6803", func := "loop.example/g00261/laws.FnExactPutText", spec := "fnExactPutText", unfollowed := true, recurses := true, apart := false }
def FnExactPutTextSaid : Prop := fnExactPutTextRow.holds Try.pinned (OpenSpec.ofChange fnExactPutTextSpec)

/-- ITS FALSE NEIGHBOUR: 'it returns false'. Refute it at one input. -/
def fnExactPutTextWrong : ChangeSpec := { name := "fnExactPutText", fn := fun _ => fun
  | [d1, d2] => { results := [.lit (.bool false)], args := [d1, d2] }
  | _ => none }
def FnExactPutTextWrongFalsely : Prop := fnExactPutTextRow.holds Try.pinned (OpenSpec.ofChange fnExactPutTextWrong)

/-- 'laws.FnVault': WHATEVER THE INPUT: true; the input reads as it did. -/
def fnVaultSpec : ChangeSpec := { name := "fnVault", fn := fun _ => fun
  | [d1, d2] => { results := [.lit (.bool true)], args := [d1, d2] }
  | _ => none }
def fnVaultRow : OpenClaim := { program := "ytjepecinpgjgdaa", sum := "e840873d16150129ec6862658fbfe4f5fcd06accbb6b3063f2da817a27be6803", func := "loop.example/g00261/laws.FnVault", spec := "fnVault", inPlace := ["internal/abi.NoEscape", "internal/bytealg.MakeNoZero"], unfollowed := true, recurses := true, apart := false }
def FnVaultSaid : Prop := fnVaultRow.holds Try.pinned (OpenSpec.ofChange fnVaultSpec)

/-- ITS FALSE NEIGHBOUR: 'it returns false'. Refute it at one input. -/
def fnVaultWrong : ChangeSpec := { name := "fnVault", fn := fun _ => fun
  | [d1, d2] => { results := [.lit (.bool false)], args := [d1, d2] }
  | _ => none }
def FnVaultWrongFalsely : Prop := fnVaultRow.holds Try.pinned (OpenSpec.ofChange fnVaultWrong)

/- THE SECOND FORM. 'bulk': how many values and letters a reading holds, each counted each time it is reached (what is shared counts as often as it is met; a slice's spare places count too). A statement '..UptoSaid' is the law's where the arguments, and the package variables that the reading takes, are together of bulk at most 1048576: NARROWER than '..Said'. Prove '..Said' where nothing that the law and all that it calls make is longer than what came in: it says more and counts as full. Else prove '..UptoSaid'. A law counts once. -/
mutual
def uptoBulk {H : Type} : DataW H → Nat
  | .lit (.string bytes) => bytes.length + 1
  | .lit _ => 1
  | .nil => 1
  | .ptr d => uptoBulk d + 1
  | .slice elems spare => uptoBulkAll elems + uptoBulkAll spare + 1
  | .agg parts => uptoBulkAll parts + 1
  | .iface _ d => uptoBulk d + 1
  | .map entries => uptoBulkEntries entries + 1
  | .held _ => 1
def uptoBulkAll {H : Type} : List (DataW H) → Nat
  | [] => 0
  | d :: r => uptoBulk d + uptoBulkAll r
def uptoBulkEntries {H : Type} : List (Lit × DataW H) → Nat
  | [] => 0
  | x :: r => uptoBulkEntry x + uptoBulkEntries r
def uptoBulkEntry {H : Type} : Lit × DataW H → Nat
  | (.string bytes, d) => bytes.length + uptoBulk d + 1
  | (_, d) => uptoBulk d + 1
 end
def uptoSmall : (H : Type) → List (DataW H) → Bool := fun _ ds => decide (uptoBulkAll ds ≤ 1048576)
def OpenSpec.upto (s : _root_.Go.ChangeSpec) : _root_.Go.OpenSpec := { _root_.Go.OpenSpec.ofChange s with cond := some uptoSmall }

/-- 'laws.FnExactCutsOf', WHERE WHAT IT READS IS OF BULK AT MOST 1048576: true; the input reads as it did. -/
def fnExactCutsOfUptoRow : OpenClaim := { program := "ytjepecinpgjgdaa", sum := "e840873d16150129ec6862658fbfe4f5fcd06accbb6b3063f2da817a27be6803", func := "loop.example/g00261/laws.FnExactCutsOf", spec := "fnExactCutsOf", apart := false, narrowed := true }
def FnExactCutsOfUptoSaid : Prop := fnExactCutsOfUptoRow.holds Try.pinned (OpenSpec.upto fnExactCutsOfSpec)

/-- 'laws.FnRolled', WHERE WHAT IT READS IS OF BULK AT MOST 1048576: true; the input reads as it did. -/
def fnRolledUptoRow : OpenClaim := { program := "ytjepecinpgjgdaa", sum := "e840873d16150129ec6862658fbfe4f5fcd06accbb6b3063f2da817a27be6803", func := "loop.example/g00261/laws.FnRolled", spec := "fnRolled", apart := false, narrowed := true }
def FnRolledUptoSaid : Prop := fnRolledUptoRow.holds Try.pinned (OpenSpec.upto fnRolledSpec)

/-- 'laws.FnExactPiecesOf', WHERE WHAT IT READS IS OF BULK AT MOST 1048576: true; the input reads as it did. -/
def fnExactPiecesOfUptoRow : OpenClaim := { program := "ytjepecinpgjgdaa", sum := "e840873d16150129ec6862658fbfe4f5fcd06accbb6b3063f2da817a27be6803", func := "loop.example/g00261/laws.FnExactPiecesOf", spec := "fnExactPiecesOf", apart := false, narrowed := true }
def FnExactPiecesOfUptoSaid : Prop := fnExactPiecesOfUptoRow.holds Try.pinned (OpenSpec.upto fnExactPiecesOfSpec)

/-- 'laws.FnCuts', WHERE WHAT IT READS IS OF BULK AT MOST 1048576: true; the input reads as it did. -/
def fnCutsUptoRow : OpenClaim := { program := "ytjepecinpgjgdaa", sum := "e840873d16150129ec6862658fbfe4f5fcd06accbb6b3063f2da817a27be6803", func := "loop.example/g00261/laws.FnCuts", spec := "fnCuts", apart := false, narrowed := true }
def FnCutsUptoSaid : Prop := fnCutsUptoRow.holds Try.pinned (OpenSpec.upto fnCutsSpec)

/-- 'laws.FnExactGoodVault', WHERE WHAT IT READS IS OF BULK AT MOST 1048576: true; the input reads as it did. -/
def fnExactGoodVaultUptoRow : OpenClaim := { program := "ytjepecinpgjgdaa", sum := "e840873d16150129ec6862658fbfe4f5fcd06accbb6b3063f2da817a27be6803", func := "loop.example/g00261/laws.FnExactGoodVault", spec := "fnExactGoodVault", apart := false, narrowed := true }
def FnExactGoodVaultUptoSaid : Prop := fnExactGoodVaultUptoRow.holds Try.pinned (OpenSpec.upto fnExactGoodVaultSpec)

/-- 'laws.FnExactTextIn', WHERE WHAT IT READS IS OF BULK AT MOST 1048576: true; the input reads as it did. -/
def fnExactTextInUptoRow : OpenClaim := { program := "ytjepecinpgjgdaa", sum := "e840873d16150129ec6862658fbfe4f5fcd06accbb6b3063f2da817a27be6803", func := "loop.example/g00261/laws.FnExactTextIn", spec := "fnExactTextIn", inPlace := ["internal/abi.NoEscape", "internal/bytealg.MakeNoZero"], apart := false, narrowed := true }
def FnExactTextInUptoSaid : Prop := fnExactTextInUptoRow.holds Try.pinned (OpenSpec.upto fnExactTextInSpec)

/-- 'laws.FnExactBytesKept', WHERE WHAT IT READS IS OF BULK AT MOST 1048576: true; the input reads as it did. -/
def fnExactBytesKeptUptoRow : OpenClaim := { program := "ytjepecinpgjgdaa", sum := "e840873d16150129ec6862658fbfe4f5fcd06accbb6b3063f2da817a27be6803", func := "loop.example/g00261/laws.FnExactBytesKept", spec := "fnExactBytesKept", inPlace := ["internal/abi.NoEscape", "internal/bytealg.MakeNoZero"], apart := false, narrowed := true }
def FnExactBytesKeptUptoSaid : Prop := fnExactBytesKeptUptoRow.holds Try.pinned (OpenSpec.upto fnExactBytesKeptSpec)

/-- 'laws.FnExactDropFile', WHERE WHAT IT READS IS OF BULK AT MOST 1048576: true; the input reads as it did. -/
def fnExactDropFileUptoRow : OpenClaim := { program := "ytjepecinpgjgdaa", sum := "e840873d16150129ec6862658fbfe4f5fcd06accbb6b3063f2da817a27be6803", func := "loop.example/g00261/laws.FnExactDropFile", spec := "fnExactDropFile", apart := false, narrowed := true }
def FnExactDropFileUptoSaid : Prop := fnExactDropFileUptoRow.holds Try.pinned (OpenSpec.upto fnExactDropFileSpec)

/-- 'laws.FnExactNewVault', WHERE WHAT IT READS IS OF BULK AT MOST 1048576: true; the input reads as it did. -/
def fnExactNewVaultUptoRow : OpenClaim := { program := "ytjepecinpgjgdaa", sum := "e840873d16150129ec6862658fbfe4f5fcd06accbb6b3063f2da817a27be6803", func := "loop.example/g00261/laws.FnExactNewVault", spec := "fnExactNewVault", unfollowed := true, recurses := true, apart := false, narrowed := true }
def FnExactNewVaultUptoSaid : Prop := fnExactNewVaultUptoRow.holds Try.pinned (OpenSpec.upto fnExactNewVaultSpec)

/-- 'laws.FnExactPutText', WHERE WHAT IT READS IS OF BULK AT MOST 1048576: true; the input reads as it did. -/
def fnExactPutTextUptoRow : OpenClaim := { program := "ytjepecinpgjgdaa", sum := "e840873d16150129ec6862658fbfe4f5fcd06accbb6b3063f2da817a27be6803", func := "loop.example/g00261/laws.FnExactPutText", spec := "fnExactPutText", unfollowed := true, recurses := true, apart := false, narrowed := true }
def FnExactPutTextUptoSaid : Prop := fnExactPutTextUptoRow.holds Try.pinned (OpenSpec.upto fnExactPutTextSpec)

/-- 'laws.FnVault', WHERE WHAT IT READS IS OF BULK AT MOST 1048576: true; the input reads as it did. -/
def fnVaultUptoRow : OpenClaim := { program := "ytjepecinpgjgdaa", sum := "e840873d16150129ec6862658fbfe4f5fcd06accbb6b3063f2da817a27be6803", func := "loop.example/g00261/laws.FnVault", spec := "fnVault", inPlace := ["internal/abi.NoEscape", "internal/bytealg.MakeNoZero"], unfollowed := true, recurses := true, apart := false, narrowed := true }
def FnVaultUptoSaid : Prop := fnVaultUptoRow.holds Try.pinned (OpenSpec.upto fnVaultSpec)

end Rows
end Go.Proofs.Ytjepecinpgjgdaa
