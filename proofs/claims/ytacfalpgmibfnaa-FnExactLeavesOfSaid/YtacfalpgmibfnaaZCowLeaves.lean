import Derived.Test.YtacfalpgmibfnaaZCowLeaf
import Derived.Test.YtacfalpgmibfnaaYCowspecLeavesOf
import Derived.Test.YtacfalpgmibfnaaYCowimplLeavesOf
/-! LeavesOf, plain law. -/
namespace Go.Proofs.Ytacfalpgmibfnaa.PCow
open Go.RowKit Go.Proofs.YtacfalpgmibfnaaW.PrintWords Go.Proofs.YtacfalpgmibfnaaW.PrintLast Go.Proofs.YtacfalpgmibfnaaW.PrintMore Go.Proofs.Ytacfalpgmibfnaa.E
set_option linter.unusedSimpArgs false
set_option linter.unusedVariables false
section
variable {C : List S68} {roots : List Int} {L : Int}
theorem plc_le (L : Int) : 1 ≤ plc L ∧ plc L ≤ 16 := by
  unfold plc
  split
  · omega
  · split <;> omega
theorem leaves_loop {V c v : List Int} (hI : Inv C roots L V [] c v) (h1 : 1 ≤ L) (h3 : L ≤ 3) (a : Int) (ha : 0 ≤ a ∧ a < (roots.length : Int)) : ∀ (f : Nat) (i : Int) (out : List ByteArray), 0 ≤ i → i + f = plc L → out.length ≤ i →
    ∃ ws : List ByteArray, ws.length ≤ 16 ∧ Ev (fun k => spec_LeavesOf.l0 k a out i C roots L) (ws, true) ∧ Ev (fun k => impl_LeavesOf.l0 k a out (plc L) i C roots L) (ws, true) := by
  have hp := plc_le L
  have hpl := (places_both C roots L h1 h3).1
  intro f
  induction f with
  | zero =>
    intro i out h0 hi ho
    exact ⟨out, by omega, Ev.step (fun _ => spec_LeavesOf.l0.eq_2 ..) (Ev.bind hpl (ev_neg (by omega) (ev_ret rfl))), Ev.step (fun _ => impl_LeavesOf.l0.eq_2 ..) (ev_neg (by omega) (ev_ret rfl))⟩
  | succ f ih =>
    intro i out h0 hi ho
    obtain ⟨r, r1, r2⟩ := leaf_both hI h1 h3 a i ha h0 (by omega)
    obtain ⟨ws, w1, w2, w3⟩ := ih (i + 1) (out ++ [r]) (by omega) (by omega) (by rw [List.length_append]; simp; omega)
    have e : wrap64 (i + 1) = i + 1 := w64 (by omega) (by omega)
    refine ⟨ws, w1, Ev.step (fun _ => spec_LeavesOf.l0.eq_2 ..) (Ev.bind hpl (ev_pos (by omega) (ev_pos ha.1 (ev_pos ha.2 (Ev.bind r1 (ev_pos (by omega) ?_)))))), Ev.step (fun _ => impl_LeavesOf.l0.eq_2 ..) (ev_pos (by omega) (Ev.bind r2 (ev_pos (by omega) ?_)))⟩
    · rw [e]; exact w2
    · rw [e]; exact w3
end
theorem leaves_both (C : List S68) (roots : List Int) (L a : Int) : ∃ ws b, ws.length ≤ 16 ∧ Ev (fun k => spec_LeavesOf.f k C roots L a) (ws, b) ∧ Ev (fun k => impl_LeavesOf.f k C roots L a) (ws, b) := by
  obtain ⟨g, hb1, hb2⟩ := spec_impl C roots L
  unfold spec_LeavesOf.f impl_LeavesOf.f
  cases g with
  | false =>
    exact ⟨[], false, by simp, Ev.bind hb1 (ev_false rfl (Ev.step (fun _ => spec_LeavesOf.j0.eq_2 ..) (ev_pos rfl (ev_ret rfl)))), ev_bindc (is_root C roots L a false (by simp) hb2) (ev_false rfl (ev_ret rfl))⟩
  | true =>
    obtain ⟨hL1, hL3, hn, hr1, hr8, V, c, v, hI, _⟩ := good_tree hb2
    have hR := is_root C roots L a true (fun _ => hr8) hb2
    have hS : spec_l1In.f a 0 (wrap64 ((roots.length : Int) - 1)) = some (decide (0 ≤ a ∧ a < (roots.length : Int))) := by
      rw [w64 (x := (roots.length : Int) - 1) (by omega) (by omega), in_dec]
      congr 1
      rw [decide_eq_decide]
      omega
    by_cases ha : 0 ≤ a ∧ a < (roots.length : Int)
    · have hp := plc_le L
      obtain ⟨ws, w1, w2, w3⟩ := leaves_loop hI hL1 hL3 a ha (plc L).toNat 0 [] (by omega) (by omega) (by simp)
      refine ⟨ws, true, w1, Ev.bind hb1 (ev_true rfl (ev_bindc hS ?_)), ev_bindc hR (ev_true (by rw [decide_eq_true ha]; rfl) (ev_bindc (places_both C roots L hL1 hL3).2 w3))⟩
      rw [decide_eq_true ha]
      exact Ev.step (fun _ => spec_LeavesOf.j0.eq_2 ..) (ev_neg (by simp) w2)
    · refine ⟨[], false, by simp, Ev.bind hb1 (ev_true rfl (ev_bindc hS ?_)), ev_bindc hR (ev_false (by rw [decide_eq_false ha]; rfl) (ev_ret rfl))⟩
      rw [decide_eq_false ha]
      exact Ev.step (fun _ => spec_LeavesOf.j0.eq_2 ..) (ev_pos rfl (ev_ret rfl))
end Go.Proofs.Ytacfalpgmibfnaa.PCow
