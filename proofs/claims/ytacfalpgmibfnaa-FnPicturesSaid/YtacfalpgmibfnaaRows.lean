/-
  No cell of these rows narrows 'for every input' (looked for: loops, veiled, ifaces, maps, wideKeys, modest, calm, conditions, laid).
  DERIVED. THE GIVEN ROWS OF THIS SEAT. 11 by the template 'for every input the law returns true; each argument reads behind the call as it read before'; 0 by the template 'total and deterministic' (their statements: YtacfalpgmibfnaaTotals.lean).
  GIVEN WITH THE SEED: the statements are not yours to turn. If you find one false, say at which input.
  Laid BY PROGRAM, IN A SANDBOX (cutbox-rows.mjs): the forced cells as the released guide's own fill.sh prints them over the translation 4c3356239bd83867… (all of the seat's roots in one cut). By AI agents, Wed Nov 11 2026. No macro, syntax, notation, axiom, sorry.
-/
import Derived.Test.YtacfalpgmibfnaaChecked
import GoSem.Claim
import GoSem.ClaimJoined
import GoSem.ClaimMapViews
import Derived.JoinedTies
import Derived.KernelRfl
namespace Go.Proofs.Ytacfalpgmibfnaa
/- THE CELL 'sum', in the pinned program and in every row, IS THE sha256 OF THE DUMP (.gsa) THAT YtacfalpgmibfnaaProg.lean LOADS. Nothing in Lean hashes anything: it is a label: what it is worth is what the hold of that sum in a sandbox is worth. -/
noncomputable def Try.pinned : Pinned := { name := "ytacfalpgmibfnaa", sum := "4c3356239bd83867b6b7f25bbab8cf71b9feb3781ba3c7abe3c3d80117c5c73c", checked := Try.checked }
namespace Rows
def none {H : Type} : Left H := { results := [], args := [] }

/-- 'laws.FnExactNewCow': WHATEVER THE INPUT: true; the input reads as it did. -/
def fnExactNewCowSpec : ChangeSpec := { name := "fnExactNewCow", fn := fun _ => fun
  | [d] => { results := [.lit (.bool true)], args := [d] }
  | _ => none }
def fnExactNewCowRow : OpenClaim := { program := "ytacfalpgmibfnaa", sum := "4c3356239bd83867b6b7f25bbab8cf71b9feb3781ba3c7abe3c3d80117c5c73c", func := "loop.example/g00261/laws.FnExactNewCow", spec := "fnExactNewCow", apart := false }
def FnExactNewCowSaid : Prop := fnExactNewCowRow.holds Try.pinned (OpenSpec.ofChange fnExactNewCowSpec)

/-- ITS FALSE NEIGHBOUR: 'it returns false'. Refute it at one input. -/
def fnExactNewCowWrong : ChangeSpec := { name := "fnExactNewCow", fn := fun _ => fun
  | [d] => { results := [.lit (.bool false)], args := [d] }
  | _ => none }
def FnExactNewCowWrongFalsely : Prop := fnExactNewCowRow.holds Try.pinned (OpenSpec.ofChange fnExactNewCowWrong)

/-- 'laws.FnExactGoodCow': WHATEVER THE INPUT: true; the input reads as it did. -/
def fnExactGoodCowSpec : ChangeSpec := { name := "fnExactGoodCow", fn := fun _ => fun
  | [d] => { results := [.lit (.bool true)], args := [d] }
  | _ => none }
def fnExactGoodCowRow : OpenClaim := { program := "ytacfalpgmibfnaa", sum := "4c3356239bd83867b6b7f25bbab8cf71b9feb3781ba3c7abe3c3d80117c5c73c", func := "loop.example/g00261/laws.FnExactGoodCow", spec := "fnExactGoodCow", unfollowed := true, recurses := true, apart := false }
def FnExactGoodCowSaid : Prop := fnExactGoodCowRow.holds Try.pinned (OpenSpec.ofChange fnExactGoodCowSpec)

/-- ITS FALSE NEIGHBOUR: 'it returns false'. Refute it at one input. -/
def fnExactGoodCowWrong : ChangeSpec := { name := "fnExactGoodCow", fn := fun _ => fun
  | [d] => { results := [.lit (.bool false)], args := [d] }
  | _ => none }
def FnExactGoodCowWrongFalsely : Prop := fnExactGoodCowRow.holds Try.pinned (OpenSpec.ofChange fnExactGoodCowWrong)

/-- 'laws.FnExactUsedCells': WHATEVER THE INPUT: true; the input reads as it did. -/
def fnExactUsedCellsSpec : ChangeSpec := { name := "fnExactUsedCells", fn := fun _ => fun
  | [d] => { results := [.lit (.bool true)], args := [d] }
  | _ => none }
def fnExactUsedCellsRow : OpenClaim := { program := "ytacfalpgmibfnaa", sum := "4c3356239bd83867b6b7f25bbab8cf71b9feb3781ba3c7abe3c3d80117c5c73c", func := "loop.example/g00261/laws.FnExactUsedCells", spec := "fnExactUsedCells", unfollowed := true, recurses := true, apart := false }
def FnExactUsedCellsSaid : Prop := fnExactUsedCellsRow.holds Try.pinned (OpenSpec.ofChange fnExactUsedCellsSpec)

/-- ITS FALSE NEIGHBOUR: 'it returns false'. Refute it at one input. -/
def fnExactUsedCellsWrong : ChangeSpec := { name := "fnExactUsedCells", fn := fun _ => fun
  | [d] => { results := [.lit (.bool false)], args := [d] }
  | _ => none }
def FnExactUsedCellsWrongFalsely : Prop := fnExactUsedCellsRow.holds Try.pinned (OpenSpec.ofChange fnExactUsedCellsWrong)

/-- 'laws.FnExactLeafAt': WHATEVER THE INPUT: true; the input reads as it did. -/
def fnExactLeafAtSpec : ChangeSpec := { name := "fnExactLeafAt", fn := fun _ => fun
  | [d1, d2, d3] => { results := [.lit (.bool true)], args := [d1, d2, d3] }
  | _ => none }
def fnExactLeafAtRow : OpenClaim := { program := "ytacfalpgmibfnaa", sum := "4c3356239bd83867b6b7f25bbab8cf71b9feb3781ba3c7abe3c3d80117c5c73c", func := "loop.example/g00261/laws.FnExactLeafAt", spec := "fnExactLeafAt", unfollowed := true, recurses := true, apart := false }
def FnExactLeafAtSaid : Prop := fnExactLeafAtRow.holds Try.pinned (OpenSpec.ofChange fnExactLeafAtSpec)

/-- ITS FALSE NEIGHBOUR: 'it returns false'. Refute it at one input. -/
def fnExactLeafAtWrong : ChangeSpec := { name := "fnExactLeafAt", fn := fun _ => fun
  | [d1, d2, d3] => { results := [.lit (.bool false)], args := [d1, d2, d3] }
  | _ => none }
def FnExactLeafAtWrongFalsely : Prop := fnExactLeafAtRow.holds Try.pinned (OpenSpec.ofChange fnExactLeafAtWrong)

/-- 'laws.FnExactSharedBy': WHATEVER THE INPUT: true; the input reads as it did. -/
def fnExactSharedBySpec : ChangeSpec := { name := "fnExactSharedBy", fn := fun _ => fun
  | [d1, d2, d3] => { results := [.lit (.bool true)], args := [d1, d2, d3] }
  | _ => none }
def fnExactSharedByRow : OpenClaim := { program := "ytacfalpgmibfnaa", sum := "4c3356239bd83867b6b7f25bbab8cf71b9feb3781ba3c7abe3c3d80117c5c73c", func := "loop.example/g00261/laws.FnExactSharedBy", spec := "fnExactSharedBy", unfollowed := true, recurses := true, apart := false }
def FnExactSharedBySaid : Prop := fnExactSharedByRow.holds Try.pinned (OpenSpec.ofChange fnExactSharedBySpec)

/-- ITS FALSE NEIGHBOUR: 'it returns false'. Refute it at one input. -/
def fnExactSharedByWrong : ChangeSpec := { name := "fnExactSharedBy", fn := fun _ => fun
  | [d1, d2, d3] => { results := [.lit (.bool false)], args := [d1, d2, d3] }
  | _ => none }
def FnExactSharedByWrongFalsely : Prop := fnExactSharedByRow.holds Try.pinned (OpenSpec.ofChange fnExactSharedByWrong)

/-- 'laws.FnExactLeavesOf': WHATEVER THE INPUT: true; the input reads as it did. -/
def fnExactLeavesOfSpec : ChangeSpec := { name := "fnExactLeavesOf", fn := fun _ => fun
  | [d1, d2] => { results := [.lit (.bool true)], args := [d1, d2] }
  | _ => none }
def fnExactLeavesOfRow : OpenClaim := { program := "ytacfalpgmibfnaa", sum := "4c3356239bd83867b6b7f25bbab8cf71b9feb3781ba3c7abe3c3d80117c5c73c", func := "loop.example/g00261/laws.FnExactLeavesOf", spec := "fnExactLeavesOf", unfollowed := true, recurses := true, apart := false }
def FnExactLeavesOfSaid : Prop := fnExactLeavesOfRow.holds Try.pinned (OpenSpec.ofChange fnExactLeavesOfSpec)

/-- ITS FALSE NEIGHBOUR: 'it returns false'. Refute it at one input. -/
def fnExactLeavesOfWrong : ChangeSpec := { name := "fnExactLeavesOf", fn := fun _ => fun
  | [d1, d2] => { results := [.lit (.bool false)], args := [d1, d2] }
  | _ => none }
def FnExactLeavesOfWrongFalsely : Prop := fnExactLeavesOfRow.holds Try.pinned (OpenSpec.ofChange fnExactLeavesOfWrong)

/-- 'laws.FnExactTakePicture': WHATEVER THE INPUT: true; the input reads as it did. -/
def fnExactTakePictureSpec : ChangeSpec := { name := "fnExactTakePicture", fn := fun _ => fun
  | [d1, d2] => { results := [.lit (.bool true)], args := [d1, d2] }
  | _ => none }
def fnExactTakePictureRow : OpenClaim := { program := "ytacfalpgmibfnaa", sum := "4c3356239bd83867b6b7f25bbab8cf71b9feb3781ba3c7abe3c3d80117c5c73c", func := "loop.example/g00261/laws.FnExactTakePicture", spec := "fnExactTakePicture", unfollowed := true, recurses := true, apart := false }
def FnExactTakePictureSaid : Prop := fnExactTakePictureRow.holds Try.pinned (OpenSpec.ofChange fnExactTakePictureSpec)

/-- ITS FALSE NEIGHBOUR: 'it returns false'. Refute it at one input. -/
def fnExactTakePictureWrong : ChangeSpec := { name := "fnExactTakePicture", fn := fun _ => fun
  | [d1, d2] => { results := [.lit (.bool false)], args := [d1, d2] }
  | _ => none }
def FnExactTakePictureWrongFalsely : Prop := fnExactTakePictureRow.holds Try.pinned (OpenSpec.ofChange fnExactTakePictureWrong)

/-- 'laws.FnExactDropPicture': WHATEVER THE INPUT: true; the input reads as it did. -/
def fnExactDropPictureSpec : ChangeSpec := { name := "fnExactDropPicture", fn := fun _ => fun
  | [d1, d2] => { results := [.lit (.bool true)], args := [d1, d2] }
  | _ => none }
def fnExactDropPictureRow : OpenClaim := { program := "ytacfalpgmibfnaa", sum := "4c3356239bd83867b6b7f25bbab8cf71b9feb3781ba3c7abe3c3d80117c5c73c", func := "loop.example/g00261/laws.FnExactDropPicture", spec := "fnExactDropPicture", unfollowed := true, recurses := true, apart := false }
def FnExactDropPictureSaid : Prop := fnExactDropPictureRow.holds Try.pinned (OpenSpec.ofChange fnExactDropPictureSpec)

/-- ITS FALSE NEIGHBOUR: 'it returns false'. Refute it at one input. -/
def fnExactDropPictureWrong : ChangeSpec := { name := "fnExactDropPicture", fn := fun _ => fun
  | [d1, d2] => { results := [.lit (.bool false)], args := [d1, d2] }
  | _ => none }
def FnExactDropPictureWrongFalsely : Prop := fnExactDropPictureRow.holds Try.pinned (OpenSpec.ofChange fnExactDropPictureWrong)

/-- 'laws.FnExactPutLeaf': WHATEVER THE INPUT: true; the input reads as it did. -/
def fnExactPutLeafSpec : ChangeSpec := { name := "fnExactPutLeaf", fn := fun _ => fun
  | [d1, d2, d3, d4] => { results := [.lit (.bool true)], args := [d1, d2, d3, d4] }
  | _ => none }
def fnExactPutLeafRow : OpenClaim := { program := "ytacfalpgmibfnaa", sum := "4c3356239bd83867b6b7f25bbab8cf71b9feb3781ba3c7abe3c3d80117c5c73c", func := "loop.example/g00261/laws.FnExactPutLeaf", spec := "fnExactPutLeaf", unfollowed := true, recurses := true, apart := false }
def FnExactPutLeafSaid : Prop := fnExactPutLeafRow.holds Try.pinned (OpenSpec.ofChange fnExactPutLeafSpec)

/-- ITS FALSE NEIGHBOUR: 'it returns false'. Refute it at one input. -/
def fnExactPutLeafWrong : ChangeSpec := { name := "fnExactPutLeaf", fn := fun _ => fun
  | [d1, d2, d3, d4] => { results := [.lit (.bool false)], args := [d1, d2, d3, d4] }
  | _ => none }
def FnExactPutLeafWrongFalsely : Prop := fnExactPutLeafRow.holds Try.pinned (OpenSpec.ofChange fnExactPutLeafWrong)

/-- 'laws.FnShared': WHATEVER THE INPUT: true; the input reads as it did. -/
def fnSharedSpec : ChangeSpec := { name := "fnShared", fn := fun _ => fun
  | [d1, d2] => { results := [.lit (.bool true)], args := [d1, d2] }
  | _ => none }
def fnSharedRow : OpenClaim := { program := "ytacfalpgmibfnaa", sum := "4c3356239bd83867b6b7f25bbab8cf71b9feb3781ba3c7abe3c3d80117c5c73c", func := "loop.example/g00261/laws.FnShared", spec := "fnShared", unfollowed := true, recurses := true, apart := false }
def FnSharedSaid : Prop := fnSharedRow.holds Try.pinned (OpenSpec.ofChange fnSharedSpec)

/-- ITS FALSE NEIGHBOUR: 'it returns false'. Refute it at one input. -/
def fnSharedWrong : ChangeSpec := { name := "fnShared", fn := fun _ => fun
  | [d1, d2] => { results := [.lit (.bool false)], args := [d1, d2] }
  | _ => none }
def FnSharedWrongFalsely : Prop := fnSharedRow.holds Try.pinned (OpenSpec.ofChange fnSharedWrong)

/-- 'laws.FnPictures': WHATEVER THE INPUT: true; the input reads as it did. -/
def fnPicturesSpec : ChangeSpec := { name := "fnPictures", fn := fun _ => fun
  | [d] => { results := [.lit (.bool true)], args := [d] }
  | _ => none }
def fnPicturesRow : OpenClaim := { program := "ytacfalpgmibfnaa", sum := "4c3356239bd83867b6b7f25bbab8cf71b9feb3781ba3c7abe3c3d80117c5c73c", func := "loop.example/g00261/laws.FnPictures", spec := "fnPictures", unfollowed := true, recurses := true, apart := false }
def FnPicturesSaid : Prop := fnPicturesRow.holds Try.pinned (OpenSpec.ofChange fnPicturesSpec)

/-- ITS FALSE NEIGHBOUR: 'it returns false'. Refute it at one input. -/
def fnPicturesWrong : ChangeSpec := { name := "fnPictures", fn := fun _ => fun
  | [d] => { results := [.lit (.bool false)], args := [d] }
  | _ => none }
def FnPicturesWrongFalsely : Prop := fnPicturesRow.holds Try.pinned (OpenSpec.ofChange fnPicturesWrong)

/- THE SECOND FORM. 'bulk': how many values and letters a reading holds, each counted each time it is reached (what is shared counts as often as it is met; a slice's spare places count too). A statement '..UptoSaid' is the law's where the arguments, and the package variables that the reading takes, are together of bulk at most 1048576: NARROWER than '..Said'. Prove '..Said' where nothing that the law and all that it calls make is longer than what came in: it says more and counts as full. Else prove '..UptoSaid'. A law counts once. -/
mutual
def uptoBulk {H : Type} : DataW H → Nat
  | .lit (.string bytes) => bytes.length + 1
  | .lit _ => 1
  | .nil => 1
  | .ptr d => uptoBulk d + 1
  | .slice elems spare => uptoBulkAll elems + uptoBulkAll spare + 1
  | .agg parts => uptoBulkAll parts + 1
  | .iface _ d => uptoBulk d + 1
  | .map entries => uptoBulkEntries entries + 1
  | .held _ => 1
def uptoBulkAll {H : Type} : List (DataW H) → Nat
  | [] => 0
  | d :: r => uptoBulk d + uptoBulkAll r
def uptoBulkEntries {H : Type} : List (Lit × DataW H) → Nat
  | [] => 0
  | x :: r => uptoBulkEntry x + uptoBulkEntries r
def uptoBulkEntry {H : Type} : Lit × DataW H → Nat
  | (.string bytes, d) => bytes.length + uptoBulk d + 1
  | (_, d) => uptoBulk d + 1
 end
def uptoSmall : (H : Type) → List (DataW H) → Bool := fun _ ds => decide (uptoBulkAll ds ≤ 1048576)
def OpenSpec.upto (s : _root_.Go.ChangeSpec) : _root_.Go.OpenSpec := { _root_.Go.OpenSpec.ofChange s with cond := some uptoSmall }

/-- 'laws.FnExactNewCow', WHERE WHAT IT READS IS OF BULK AT MOST 1048576: true; the input reads as it did. -/
def fnExactNewCowUptoRow : OpenClaim := { program := "ytacfalpgmibfnaa", sum := "4c3356239bd83867b6b7f25bbab8cf71b9feb3781ba3c7abe3c3d80117c5c73c", func := "loop.example/g00261/laws.FnExactNewCow", spec := "fnExactNewCow", apart := false, narrowed := true }
def FnExactNewCowUptoSaid : Prop := fnExactNewCowUptoRow.holds Try.pinned (OpenSpec.upto fnExactNewCowSpec)

/-- 'laws.FnExactGoodCow', WHERE WHAT IT READS IS OF BULK AT MOST 1048576: true; the input reads as it did. -/
def fnExactGoodCowUptoRow : OpenClaim := { program := "ytacfalpgmibfnaa", sum := "4c3356239bd83867b6b7f25bbab8cf71b9feb3781ba3c7abe3c3d80117c5c73c", func := "loop.example/g00261/laws.FnExactGoodCow", spec := "fnExactGoodCow", unfollowed := true, recurses := true, apart := false, narrowed := true }
def FnExactGoodCowUptoSaid : Prop := fnExactGoodCowUptoRow.holds Try.pinned (OpenSpec.upto fnExactGoodCowSpec)

/-- 'laws.FnExactUsedCells', WHERE WHAT IT READS IS OF BULK AT MOST 1048576: true; the input reads as it did. -/
def fnExactUsedCellsUptoRow : OpenClaim := { program := "ytacfalpgmibfnaa", sum := "4c3356239bd83867b6b7f25bbab8cf71b9feb3781ba3c7abe3c3d80117c5c73c", func := "loop.example/g00261/laws.FnExactUsedCells", spec := "fnExactUsedCells", unfollowed := true, recurses := true, apart := false, narrowed := true }
def FnExactUsedCellsUptoSaid : Prop := fnExactUsedCellsUptoRow.holds Try.pinned (OpenSpec.upto fnExactUsedCellsSpec)

/-- 'laws.FnExactLeafAt', WHERE WHAT IT READS IS OF BULK AT MOST 1048576: true; the input reads as it did. -/
def fnExactLeafAtUptoRow : OpenClaim := { program := "ytacfalpgmibfnaa", sum := "4c3356239bd83867b6b7f25bbab8cf71b9feb3781ba3c7abe3c3d80117c5c73c", func := "loop.example/g00261/laws.FnExactLeafAt", spec := "fnExactLeafAt", unfollowed := true, recurses := true, apart := false, narrowed := true }
def FnExactLeafAtUptoSaid : Prop := fnExactLeafAtUptoRow.holds Try.pinned (OpenSpec.upto fnExactLeafAtSpec)

/-- 'laws.FnExactSharedBy', WHERE WHAT IT READS IS OF BULK AT MOST 1048576: true; the input reads as it did. -/
def fnExactSharedByUptoRow : OpenClaim := { program := "ytacfalpgmibfnaa", sum := "4c3356239bd83867b6b7f25bbab8cf71b9feb3781ba3c7abe3c3d80117c5c73c", func := "loop.example/g00261/laws.FnExactSharedBy", spec := "fnExactSharedBy", unfollowed := true, recurses := true, apart := false, narrowed := true }
def FnExactSharedByUptoSaid : Prop := fnExactSharedByUptoRow.holds Try.pinned (OpenSpec.upto fnExactSharedBySpec)

/-- 'laws.FnExactLeavesOf', WHERE WHAT IT READS IS OF BULK AT MOST 1048576: true; the input reads as it did. -/
def fnExactLeavesOfUptoRow : OpenClaim := { program := "ytacfalpgmibfnaa", sum := "4c3356239bd83867b6b7f25bbab8cf71b9feb3781ba3c7abe3c3d80117c5c73c", func := "loop.example/g00261/laws.FnExactLeavesOf", spec := "fnExactLeavesOf", unfollowed := true, recurses := true, apart := false, narrowed := true }
def FnExactLeavesOfUptoSaid : Prop := fnExactLeavesOfUptoRow.holds Try.pinned (OpenSpec.upto fnExactLeavesOfSpec)

/-- 'laws.FnExactTakePicture', WHERE WHAT IT READS IS OF BULK AT MOST 1048576: true; the input reads as it did. -/
def fnExactTakePictureUptoRow : OpenClaim := { program := "ytacfalpgmibfnaa", sum := "4c3356239bd83867b6b7f25bbab8cf71b9feb3781ba3c7abe3c3d80117c5c73c", func := "loop.example/g00261/laws.FnExactTakePicture", spec := "fnExactTakePicture", unfollowed := true, recurses := true, apart := false, narrowed := true }
def FnExactTakePictureUptoSaid : Prop := fnExactTakePictureUptoRow.holds Try.pinned (OpenSpec.upto fnExactTakePictureSpec)

/-- 'laws.FnExactDropPicture', WHERE WHAT IT READS IS OF BULK AT MOST 1048576: true; the input reads as it did. -/
def fnExactDropPictureUptoRow : OpenClaim := { program := "ytacfalpgmibfnaa", sum := "4c3356239bd83867b6b7f25bbab8cf71b9feb3781ba3c7abe3c3d80117c5c73c", func := "loop.example/g00261/laws.FnExactDropPicture", spec := "fnExactDropPicture", unfollowed := true, recurses := true, apart := false, narrowed := true }
def FnExactDropPictureUptoSaid : Prop := fnExactDropPictureUptoRow.holds Try.pinned (OpenSpec.upto fnExactDropPictureSpec)

/-- 'laws.FnExactPutLeaf', WHERE WHAT IT READS IS OF BULK AT MOST 1048576: true; the input reads as it did. -/
def fnExactPutLeafUptoRow : OpenClaim := { program := "ytacfalpgmibfnaa", sum := "4c3356239bd83867b6b7f25bbab8cf71b9feb3781ba3c7abe3c3d80117c5c73c", func := "loop.example/g00261/laws.FnExactPutLeaf", spec := "fnExactPutLeaf", unfollowed := true, recurses := true, apart := false, narrowed := true }
def FnExactPutLeafUptoSaid : Prop := fnExactPutLeafUptoRow.holds Try.pinned (OpenSpec.upto fnExactPutLeafSpec)

/-- 'laws.FnShared', WHERE WHAT IT READS IS OF BULK AT MOST 1048576: true; the input reads as it did. -/
def fnSharedUptoRow : OpenClaim := { program := "ytacfalpgmibfnaa", sum := "4c3356239bd83867b6b7f25bbab8cf71b9feb3781ba3c7abe3c3d80117c5c73c", func := "loop.example/g00261/laws.FnShared", spec := "fnShared", unfollowed := true, recurses := true, apart := false, narrowed := true }
def FnSharedUptoSaid : Prop := fnSharedUptoRow.holds Try.pinned (OpenSpec.upto fnSharedSpec)

/-- 'laws.FnPictures', WHERE WHAT IT READS IS OF BULK AT MOST 1048576: true; the input reads as it did. -/
def fnPicturesUptoRow : OpenClaim := { program := "ytacfalpgmibfnaa", sum := "4c3356239bd83867b6b7f25bbab8cf71b9feb3781ba3c7abe3c3d80117c5c73c", func := "loop.example/g00261/laws.FnPictures", spec := "fnPictures", unfollowed := true, recurses := true, apart := false, narrowed := true }
def FnPicturesUptoSaid : Prop := fnPicturesUptoRow.holds Try.pinned (OpenSpec.upto fnPicturesSpec)

end Rows
end Go.Proofs.Ytacfalpgmibfnaa
