import Derived.Test.YtacfalpgmibfnaaZCowGood
import Derived.Test.YtacfalpgmibfnaaZCowOwnPure
import Derived.Test.YtacfalpgmibfnaaXCowTake
import Derived.Test.YtacfalpgmibfnaaYCowspecTakePicture
/-! TakePicture, plain law. -/
namespace Go.Proofs.Ytacfalpgmibfnaa.PCow
open Go.RowKit Go.Proofs.YtacfalpgmibfnaaW.PrintWords Go.Proofs.YtacfalpgmibfnaaW.PrintLast Go.Proofs.YtacfalpgmibfnaaW.PrintMore Go.Proofs.Ytacfalpgmibfnaa.E
set_option linter.unusedSimpArgs false
set_option linter.unusedVariables false
theorem l1In_root (a : Int) (roots : List Int) (h : (roots.length : Int) ≤ 8) : spec_l1In.f a 0 (wrap64 ((roots.length : Int) - 1)) = some (decide (0 ≤ a ∧ a < (roots.length : Int))) := by
  rw [w64 (x := (roots.length : Int) - 1) (by omega) (by omega), in_dec]
  congr 1
  rw [decide_eq_decide]
  omega
theorem root_ref {C : List CL} {roots : List Int} {L : Int} {V c v : List Int} (hI : Inv C roots L V [] c v) (a : Int) (h0 : 0 ≤ a) (h1 : a < (roots.length : Int)) : RefOK C v (rd roots a, L) := by
  have hl : a.toNat < roots.length := by omega
  have := hI.root _ (List.getElem_mem hl)
  rw [← rd_getD hl, show ((a.toNat : Nat) : Int) = a by omega] at this
  exact this
theorem take_ev {C : List CL} {roots : List Int} {L a : Int} {V c v : List Int} (hI : Inv C roots L V [] c v) (hn : C.length ≤ 80) (hr8 : (roots.length : Int) < 8) (hk : ∀ x ∈ C, x.f2.length ≤ 1048576) (h0 : 0 ≤ a) (h1 : a < (roots.length : Int)) :
    ∃ C1 R1, C1.length = C.length ∧ R1.length ≤ 8 ∧ (∀ x ∈ C1, x.f2.length ≤ 1048576) ∧ takeM C roots L a = some (C1, R1, L, true) ∧ Ev (fun k => spec_TakePicture.j0 k a false C roots L) (C1, R1, L, true) := by
  have hk0 : ∀ i : Int, 0 ≤ i → i < (C.length : Int) → (rd_T68 C i).f2.length ≤ 1048576 := fun i i0 i1 => by
    have hl : i.toNat < C.length := by omega
    have e : rd_T68 C i = C[i.toNat] := by rw [rd_cl, List.getD_eq_getElem?_getD, List.getElem?_eq_getElem hl]; rfl
    rw [e]
    exact hk _ (List.getElem_mem hl)
  unfold takeM
  rw [if_pos (ownB_of (by omega) (by omega) hk), if_pos ⟨h0, h1⟩]
  by_cases hp : rd roots a ≥ 0
  · have hlt : rd roots a < (C.length : Int) := by
      rcases root_ref hI a h0 h1 with e | ⟨_, e, _, _⟩
      · simp only at e; omega
      · exact e
    rw [if_pos hp, if_pos hlt]
    refine ⟨_, _, by rw [List.length_set], by simp; omega, fun x hx => ?_, rfl, Ev.step (fun _ => spec_TakePicture.j0.eq_2 ..) (ev_neg (by simp) (Ev.bind (own_ev C roots L (by omega) hk (by omega)) (ev_pos h0 (ev_pos h1 (ev_pos (show roots.length < 17592186044416 by omega) (ev_some (ev_pos hp (ev_pos hp (ev_pos hlt (ev_ret rfl)))))))))) ⟩
    rcases List.mem_or_eq_of_mem_set hx with e | e
    · exact hk x e
    · subst e
      exact hk0 _ hp hlt
  · rw [if_neg hp]
    exact ⟨C, _, rfl, by simp; omega, hk, rfl, Ev.step (fun _ => spec_TakePicture.j0.eq_2 ..) (ev_neg (by simp) (Ev.bind (own_ev C roots L (by omega) hk (by omega)) (ev_pos h0 (ev_pos h1 (ev_pos (show roots.length < 17592186044416 by omega) (ev_some (ev_neg hp (ev_ret rfl))))))))⟩
theorem take_both (C : List CL) (roots : List Int) (L a : Int) (hk : ∀ x ∈ C, x.f2.length ≤ 1048576) : ∃ C1 R1 L1 b, C1.length ≤ 80 ∧ R1.length ≤ 8 ∧ (∀ x ∈ C1, x.f2.length ≤ 1048576) ∧ Ev (fun k => spec_TakePicture.f k C roots L a) (C1, R1, L1, b) ∧ Ev (fun k => impl_TakePicture.f k C roots L a) (C1, R1, L1, b) := by
  obtain ⟨g, hb1, hb2⟩ := spec_impl C roots L
  unfold spec_TakePicture.f impl_TakePicture.f
  have no : ∀ x, Ev (fun k => spec_TakePicture.j0 k a true C roots L) x ↔ ([], [], 0, false) = x := fun x => by
    constructor
    · intro h
      exact ev_unique (Ev.step (fun _ => spec_TakePicture.j0.eq_2 ..) (ev_pos rfl (ev_ret rfl))) h
    · rintro rfl
      exact Ev.step (fun _ => spec_TakePicture.j0.eq_2 ..) (ev_pos rfl (ev_ret rfl))
  cases g with
  | false => exact ⟨[], [], 0, false, by simp, by simp, by simp, Ev.bind hb1 (ev_false rfl ((no _).2 rfl)), ev_bindc (is_root C roots L a false (by simp) hb2) (ev_false rfl (ev_ret rfl))⟩
  | true =>
    obtain ⟨hL1, hL3, hn, hr1, hr8, V, c, v, hI, _⟩ := good_tree hb2
    have hR := is_root C roots L a true (fun _ => hr8) hb2
    have hS := l1In_root a roots hr8
    by_cases ha : 0 ≤ a ∧ a < (roots.length : Int)
    · have da := decide_eq_true ha
      by_cases h8 : (roots.length : Int) = 8
      · refine ⟨[], [], 0, false, by simp, by simp, by simp, Ev.bind hb1 (ev_true rfl (ev_bindc hS (ev_true da ?_))), ev_bindc hR (ev_true (by rw [da]; rfl) (ev_pos h8 (ev_ret rfl)))⟩
        rw [show ((roots.length : Int) == 8) = true by simpa using h8]
        exact (no _).2 rfl
      · obtain ⟨C1, R1, q1, q2, q3, q4, q5⟩ := take_ev hI hn (by omega) hk ha.1 ha.2
        refine ⟨C1, R1, L, true, by omega, q2, q3, Ev.bind hb1 (ev_true rfl (ev_bindc hS (ev_true da ?_))), ev_bindc hR (ev_true (by rw [da]; rfl) (ev_neg h8 (ev_const q4)))⟩
        rw [show ((roots.length : Int) == 8) = false by simpa using h8]
        exact q5
    · have da := decide_eq_false ha
      exact ⟨[], [], 0, false, by simp, by simp, by simp, Ev.bind hb1 (ev_true rfl (ev_bindc hS (ev_false da ((no _).2 rfl)))), ev_bindc hR (ev_false (by rw [da]; rfl) (ev_ret rfl))⟩
end Go.Proofs.Ytacfalpgmibfnaa.PCow
