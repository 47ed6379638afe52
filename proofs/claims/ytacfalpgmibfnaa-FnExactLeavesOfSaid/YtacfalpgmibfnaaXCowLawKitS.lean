import Derived.Test.YtacfalpgmibfnaaXCowLawKit
import Derived.Test.YtacfalpgmibfnaaYCowlawsS
/-! Small words for the walks of the cow laws. -/
namespace Go.Proofs.Ytacfalpgmibfnaa.PCow
open Go.RowKit Go.Proofs.YtacfalpgmibfnaaW.PrintWords Go.Proofs.YtacfalpgmibfnaaW.PrintLast Go.Proofs.YtacfalpgmibfnaaW.PrintMore Go.Proofs.Ytacfalpgmibfnaa.E
set_option linter.unusedSimpArgs false
set_option linter.unusedVariables false
theorem held_strs {k n : Nat} {A : Option Addr} {c : Nat} {l : List ByteArray} {a r : Int} {w : World} (h : n = l.length ∧ n ≤ c ∧ Kd.C Kd.string w A l.length l) (hf : laws_heldStringS.f k l a = some r) : Calls Try.prog 33 #[.slice A n c, .int .i64 a] w fun e w' => e = .returned (.int .i64 r) ∧ Below w.heap.size w w' := by
  obtain ⟨rfl, h1, h2⟩ := h
  exact laws_heldStringS.calls k A c l a r w h2 h1 hf
end Go.Proofs.Ytacfalpgmibfnaa.PCow
