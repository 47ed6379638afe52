import Derived.Test.YtacfalpgmibfnaaZCowGood
import Derived.Test.YtacfalpgmibfnaaYCowused
/-! UsedCells, plain law: both count the same cells. -/
namespace Go.Proofs.Ytacfalpgmibfnaa.PCow
open Go.RowKit Go.Proofs.YtacfalpgmibfnaaW.PrintWords Go.Proofs.YtacfalpgmibfnaaW.PrintLast Go.Proofs.YtacfalpgmibfnaaW.PrintMore Go.Proofs.Ytacfalpgmibfnaa.E
set_option linter.unusedSimpArgs false
set_option linter.unusedVariables false
theorem used_loop (C : List S68) (hn : C.length ≤ 80) : ∀ (f i : Nat) (a : Int), i + f = C.length → 0 ≤ a → a ≤ i → ∃ b, 0 ≤ b ∧ b ≤ 80 ∧ Ev (fun k => spec_UsedCells.l0 k a C (C.length : Int) (i : Int)) (b, true) ∧ Ev (fun k => impl_UsedCells.l0 k a C (C.length : Int) (i : Int)) (b, true) := by
  intro f
  induction f with
  | zero =>
    intro i a hi h0 h1
    exact ⟨a, h0, by omega, Ev.step (fun _ => spec_UsedCells.l0.eq_2 ..) (ev_neg (by omega) (ev_ret rfl)), Ev.step (fun _ => impl_UsedCells.l0.eq_2 ..) (ev_neg (by omega) (ev_ret rfl))⟩
  | succ f ih =>
    intro i a hi h0 h1
    have e1 : wrap64 ((i : Int) + 1) = ((i + 1 : Nat) : Int) := by rw [w64 (by omega) (by omega)]; omega
    have e2 : wrap64 (a + 1) = a + 1 := w64 (by omega) (by omega)
    by_cases hp : (rd_T68 C (i : Int)).f0 > 0
    · obtain ⟨b, b0, b1, h2, h3⟩ := ih (i + 1) (a + 1) (by omega) (by omega) (by omega)
      refine ⟨b, b0, b1, Ev.step (fun _ => spec_UsedCells.l0.eq_2 ..) (ev_pos (by omega) (ev_pos (by omega) (ev_pos (by omega) (ev_pos hp ?_)))), Ev.step (fun _ => impl_UsedCells.l0.eq_2 ..) (ev_pos (by omega) (ev_pos (by omega) (ev_pos (by omega) (ev_pos hp ?_))))⟩
      · rw [e1, e2]; exact h2
      · rw [e1, e2]; exact h3
    · obtain ⟨b, b0, b1, h2, h3⟩ := ih (i + 1) a (by omega) (by omega) (by omega)
      refine ⟨b, b0, b1, Ev.step (fun _ => spec_UsedCells.l0.eq_2 ..) (ev_pos (by omega) (ev_pos (by omega) (ev_pos (by omega) (ev_neg hp ?_)))), Ev.step (fun _ => impl_UsedCells.l0.eq_2 ..) (ev_pos (by omega) (ev_pos (by omega) (ev_pos (by omega) (ev_neg hp ?_))))⟩
      · rw [e1]; exact h2
      · rw [e1]; exact h3
theorem used_both (C : List S68) (roots : List Int) (L : Int) : ∃ p, Ev (fun k => spec_UsedCells.f k C roots L) p ∧ Ev (fun k => impl_UsedCells.f k C roots L) p := by
  obtain ⟨b, hb1, hb2⟩ := spec_impl C roots L
  unfold spec_UsedCells.f impl_UsedCells.f impl_GoodCow.f
  cases b with
  | false => exact ⟨(0, false), Ev.bind hb1 (ev_false rfl (ev_ret rfl)), ev_bindc hb2 (ev_false rfl (ev_ret rfl))⟩
  | true =>
    obtain ⟨_, _, hn, _⟩ := good_tree hb2
    obtain ⟨n, _, _, h1, h2⟩ := used_loop C hn C.length 0 0 (by omega) (by omega) (by omega)
    exact ⟨(n, true), Ev.bind hb1 (ev_true rfl h1), ev_bindc hb2 (ev_true rfl h2)⟩
end Go.Proofs.Ytacfalpgmibfnaa.PCow
