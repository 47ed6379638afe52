/-
  DERIVED. GIVEN WITH THE SEED: THE CARDS: each row of YtdghdjachbbdmaaDoorRows.lean that lists a variable, with what it lists TIED to the program's text (the seventh form; the later family's looks); each row that meets fmt, with fmt's text TOLD by the authors' own Lean function (tested against real Go, not proved from fmt's source: count such statements apart). THE CARD IS WHAT COUNTS. Prove the row's statement (the work); the ties are given (YtdghdjachbbdmaaDoorTie.lean); close each card by the builder's one call (the guide's Derived/Test/ToyasCard.lean, 'card_holds'). Laid BY PROGRAM, IN A SANDBOX (cutbox-door.mjs). By AI agents, Wed Nov 11 2026. No macro, syntax, notation, axiom, sorry.
-/
import Derived.Test.YtdghdjachbbdmaaDoorRows
import GoSem.ClaimSeven
namespace Go.Proofs.YtdghdjachbbdmaaDoor
namespace Rows

/-- THE TIED CARD OF 'laws.FnExactGoodSystem'. -/
def fnExactGoodSystemCard : Claim7 := { stood := { row := fnExactGoodSystemRow, standIns := [], harness := (true, "abef4d8a17b8fba197b48e903ff06e0c258cabfcdafaeaa978eb24e4a2897846"), looks := false }, kinds := [], alts := [], laidByText := true, laidKinds := [.data, .pinned], laidTests := true, laidLooks := .later }
def FnExactGoodSystemCardSaid : Prop := Claim7.holds Tryd.pinned (.plain (OpenSpec.ofChange fnExactGoodSystemSpec)) fnExactGoodSystemCard

/-- THE SECOND FORM's CARD OF 'laws.FnExactGoodSystem'. -/
def fnExactGoodSystemUptoCard : Claim7 := { stood := { row := fnExactGoodSystemUptoRow, standIns := [], harness := (true, "abef4d8a17b8fba197b48e903ff06e0c258cabfcdafaeaa978eb24e4a2897846"), looks := false }, kinds := [], alts := [], laidByText := true, laidKinds := [.data, .pinned], laidTests := true, laidLooks := .later }
def FnExactGoodSystemUptoCardSaid : Prop := Claim7.holds Tryd.pinned (.plain (OpenSpec.upto fnExactGoodSystemSpec)) fnExactGoodSystemUptoCard
end Rows
end Go.Proofs.YtdghdjachbbdmaaDoor
