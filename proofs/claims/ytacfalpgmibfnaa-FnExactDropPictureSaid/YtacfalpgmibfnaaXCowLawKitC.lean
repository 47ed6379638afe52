import Derived.Test.YtacfalpgmibfnaaXCowLawKit
import Derived.Test.YtacfalpgmibfnaaYCowlawsH
/-! Small words for the walks of the cow laws. -/
namespace Go.Proofs.Ytacfalpgmibfnaa.PCow
open Go.RowKit Go.Proofs.YtacfalpgmibfnaaW.PrintWords Go.Proofs.YtacfalpgmibfnaaW.PrintLast Go.Proofs.YtacfalpgmibfnaaW.PrintMore Go.Proofs.Ytacfalpgmibfnaa.E
set_option linter.unusedSimpArgs false
set_option linter.unusedVariables false
theorem held_cow {k n0 n1 : Nat} {A0 A1 : Option Addr} {c0 c1 : Nat} {l0 : List CL} {l1 : List Int} {L a r : Int} {w : World} (h0 : n0 = l0.length ∧ n0 ≤ c0 ∧ Kd.C k68 w A0 l0.length l0) (h1 : n1 = l1.length ∧ n1 ≤ c1 ∧ Kd.C (Kd.int .i64) w A1 l1.length l1) (hf : laws_heldCow.f k l0 l1 L a = some r) :
    Calls Try.prog 18 #[.agg #[.slice A0 n0 c0, .slice A1 n1 c1, .int .i64 L], .int .i64 a] w fun e w' => e = .returned (.int .i64 r) ∧ Below w.heap.size w w' := by
  obtain ⟨rfl, h2, h3⟩ := h0
  obtain ⟨rfl, h4, h5⟩ := h1
  exact laws_heldCow.calls k A0 c0 l0 A1 c1 l1 L a r w h3 h2 h5 h4 hf
end Go.Proofs.Ytacfalpgmibfnaa.PCow
