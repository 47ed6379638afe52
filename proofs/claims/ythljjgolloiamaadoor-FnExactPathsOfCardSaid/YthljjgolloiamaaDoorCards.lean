/-
  DERIVED. GIVEN WITH THE SEED: THE CARDS: each row of YthljjgolloiamaaDoorRows.lean that lists a variable, with what it lists TIED to the program's text (the seventh form; the later family's looks); each row that meets fmt, with fmt's text TOLD by the authors' own Lean function (tested against real Go, not proved from fmt's source: count such statements apart). THE CARD IS WHAT COUNTS. Prove the row's statement (the work); the ties are given (YthljjgolloiamaaDoorTie.lean); close each card by the builder's one call (the guide's Derived/Test/ToyasCard.lean, 'card_holds'). Laid BY PROGRAM, IN A SANDBOX (cutbox-door.mjs). By AI agents, Wed Nov 11 2026. No macro, syntax, notation, axiom, sorry.
-/
import Derived.Test.YthljjgolloiamaaDoorRows
import GoSem.ClaimSeven
namespace Go.Proofs.YthljjgolloiamaaDoor
namespace Rows

/-- THE TIED CARD OF 'laws.FnExactLinksOf'. -/
def fnExactLinksOfCard : Claim7 := { stood := { row := fnExactLinksOfRow, standIns := [], harness := (true, "2cbe46320bb768e69401324704ddc41a1b98e711c13594270ea3e188f995c73b"), looks := false }, kinds := [], alts := [], laidByText := true, laidKinds := [.data, .pinned], laidTests := true, laidLooks := .later }
def FnExactLinksOfCardSaid : Prop := Claim7.holds Tryd.pinned (.plain (OpenSpec.ofChange fnExactLinksOfSpec)) fnExactLinksOfCard

/-- THE TIED CARD OF 'laws.FnExactListDir'. -/
def fnExactListDirCard : Claim7 := { stood := { row := fnExactListDirRow, standIns := [], harness := (true, "2cbe46320bb768e69401324704ddc41a1b98e711c13594270ea3e188f995c73b"), looks := false }, kinds := [], alts := [], laidByText := true, laidKinds := [.data, .pinned], laidTests := true, laidLooks := .later }
def FnExactListDirCardSaid : Prop := Claim7.holds Tryd.pinned (.plain (OpenSpec.ofChange fnExactListDirSpec)) fnExactListDirCard

/-- THE TIED CARD OF 'laws.FnExactPathsOf'. -/
def fnExactPathsOfCard : Claim7 := { stood := { row := fnExactPathsOfRow, standIns := [], harness := (true, "2cbe46320bb768e69401324704ddc41a1b98e711c13594270ea3e188f995c73b"), looks := false }, kinds := [], alts := [], laidByText := true, laidKinds := [.data, .pinned], laidTests := true, laidLooks := .later }
def FnExactPathsOfCardSaid : Prop := Claim7.holds Tryd.pinned (.plain (OpenSpec.ofChange fnExactPathsOfSpec)) fnExactPathsOfCard

/-- THE TIED CARD OF 'laws.FnExactPutName'. -/
def fnExactPutNameCard : Claim7 := { stood := { row := fnExactPutNameRow, standIns := [], harness := (true, "2cbe46320bb768e69401324704ddc41a1b98e711c13594270ea3e188f995c73b"), looks := false }, kinds := [], alts := [], laidByText := true, laidKinds := [.data, .pinned], laidTests := true, laidLooks := .later }
def FnExactPutNameCardSaid : Prop := Claim7.holds Tryd.pinned (.plain (OpenSpec.ofChange fnExactPutNameSpec)) fnExactPutNameCard

/-- THE TIED CARD OF 'laws.FnExactPlayDir'. -/
def fnExactPlayDirCard : Claim7 := { stood := { row := fnExactPlayDirRow, standIns := [], harness := (true, "2cbe46320bb768e69401324704ddc41a1b98e711c13594270ea3e188f995c73b"), looks := false }, kinds := [], alts := [], laidByText := true, laidKinds := [.data, .pinned], laidTests := true, laidLooks := .later }
def FnExactPlayDirCardSaid : Prop := Claim7.holds Tryd.pinned (.plain (OpenSpec.ofChange fnExactPlayDirSpec)) fnExactPlayDirCard

/-- THE SECOND FORM's CARD OF 'laws.FnExactLinksOf'. -/
def fnExactLinksOfUptoCard : Claim7 := { stood := { row := fnExactLinksOfUptoRow, standIns := [], harness := (true, "2cbe46320bb768e69401324704ddc41a1b98e711c13594270ea3e188f995c73b"), looks := false }, kinds := [], alts := [], laidByText := true, laidKinds := [.data, .pinned], laidTests := true, laidLooks := .later }
def FnExactLinksOfUptoCardSaid : Prop := Claim7.holds Tryd.pinned (.plain (OpenSpec.upto fnExactLinksOfSpec)) fnExactLinksOfUptoCard

/-- THE SECOND FORM's CARD OF 'laws.FnExactListDir'. -/
def fnExactListDirUptoCard : Claim7 := { stood := { row := fnExactListDirUptoRow, standIns := [], harness := (true, "2cbe46320bb768e69401324704ddc41a1b98e711c13594270ea3e188f995c73b"), looks := false }, kinds := [], alts := [], laidByText := true, laidKinds := [.data, .pinned], laidTests := true, laidLooks := .later }
def FnExactListDirUptoCardSaid : Prop := Claim7.holds Tryd.pinned (.plain (OpenSpec.upto fnExactListDirSpec)) fnExactListDirUptoCard

/-- THE SECOND FORM's CARD OF 'laws.FnExactPathsOf'. -/
def fnExactPathsOfUptoCard : Claim7 := { stood := { row := fnExactPathsOfUptoRow, standIns := [], harness := (true, "2cbe46320bb768e69401324704ddc41a1b98e711c13594270ea3e188f995c73b"), looks := false }, kinds := [], alts := [], laidByText := true, laidKinds := [.data, .pinned], laidTests := true, laidLooks := .later }
def FnExactPathsOfUptoCardSaid : Prop := Claim7.holds Tryd.pinned (.plain (OpenSpec.upto fnExactPathsOfSpec)) fnExactPathsOfUptoCard

/-- THE SECOND FORM's CARD OF 'laws.FnExactPutName'. -/
def fnExactPutNameUptoCard : Claim7 := { stood := { row := fnExactPutNameUptoRow, standIns := [], harness := (true, "2cbe46320bb768e69401324704ddc41a1b98e711c13594270ea3e188f995c73b"), looks := false }, kinds := [], alts := [], laidByText := true, laidKinds := [.data, .pinned], laidTests := true, laidLooks := .later }
def FnExactPutNameUptoCardSaid : Prop := Claim7.holds Tryd.pinned (.plain (OpenSpec.upto fnExactPutNameSpec)) fnExactPutNameUptoCard

/-- THE SECOND FORM's CARD OF 'laws.FnExactPlayDir'. -/
def fnExactPlayDirUptoCard : Claim7 := { stood := { row := fnExactPlayDirUptoRow, standIns := [], harness := (true, "2cbe46320bb768e69401324704ddc41a1b98e711c13594270ea3e188f995c73b"), looks := false }, kinds := [], alts := [], laidByText := true, laidKinds := [.data, .pinned], laidTests := true, laidLooks := .later }
def FnExactPlayDirUptoCardSaid : Prop := Claim7.holds Tryd.pinned (.plain (OpenSpec.upto fnExactPlayDirSpec)) fnExactPlayDirUptoCard
end Rows
end Go.Proofs.YthljjgolloiamaaDoor
