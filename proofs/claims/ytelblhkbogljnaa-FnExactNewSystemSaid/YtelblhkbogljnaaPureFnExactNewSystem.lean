import Derived.Test.YtelblhkbogljnaaYSyslawsFnExactNewSystem
/-! NewSystem: the program's and the reference's are one. -/
namespace Go.Proofs.Ytelblhkbogljnaa.Pure
open Go.RowKit Go.Proofs.Ytelblhkbogljnaa.PSys Go.Proofs.YtelblhkbogljnaaW.PrintWords Go.Proofs.YtelblhkbogljnaaW.PrintLast Go.Proofs.YtelblhkbogljnaaW.PrintMore Go.Proofs.Ytelblhkbogljnaa.E
set_option linter.unusedSimpArgs false
set_option linter.unusedVariables false
theorem rd_one (x : EL) : rd_T35 [x] 0 = x := rfl
theorem small_cases {M : List EL} (h : M.length ≤ 1) : M = [] ∨ ∃ x, M = [x] := by
 match M, h with
 | [], _ => exact .inl rfl
 | [x], _ => exact .inr ⟨x, rfl⟩
theorem one_w : wrap64 (0 + 1) = 1 := w64 (by omega) (by omega)
theorem sort_ev (M : List EL) (h : M.length ≤ 1) : Ev (fun k => spec_l5BySize.f k M) M := by
 unfold spec_l5BySize.f
 rcases small_cases h with rfl | ⟨x, rfl⟩
 ·exact Ev.step (fun _ => spec_l5BySize.l0.eq_2 ..) (ev_neg (by simp) (ev_ret rfl))
 ·refine Ev.step (fun _ => spec_l5BySize.l0.eq_2 ..) (ev_pos (by simp) (ev_pos (by omega) (ev_pos (by simp) ?_)))
  refine Ev.step (fun _ => spec_l5BySize.l1.eq_2 ..) (ev_neg (by simp) (ev_pos (by omega) (ev_pos (by simp) (ev_some (ev_pos (by simp) (ev_some (ev_pos (by simp) (ev_some (ev_some (ev_pos (by simp) ?_))))))))))
  rw [one_w]
  exact Ev.step (fun _ => spec_l5BySize.l0.eq_2 ..) (ev_neg (by simp) (ev_ret rfl))
theorem of_ev (b : Int) (M : List EL) (h : M.length ≤ 1) : Ev (fun k => spec_l5Of.f k b M) (b, M, M) := by
 unfold spec_l5Of.f
 exact ev_some (ev_pos (by simp; omega) (Ev.bind (sort_ev M h) (ev_ret rfl)))
theorem eqE_ev (M : List EL) (h : M.length ≤ 1) : Ev (fun k => laws_eqExtentS.f k M M) true := by
 unfold laws_eqExtentS.f
 refine ev_pos rfl ?_
 rcases small_cases h with rfl | ⟨x, rfl⟩
 ·exact Ev.step (fun _ => laws_eqExtentS.l0.eq_2 ..) (ev_neg (by simp) (ev_ret rfl))
 ·refine Ev.step (fun _ => laws_eqExtentS.l0.eq_2 ..) (ev_pos (by simp) (ev_pos (by omega) (ev_pos (by simp) (ev_bindc (a := true) ?_ (ev_true rfl ?_)))))
  ·unfold laws_eqExtent.f
   rw [if_pos rfl, if_pos rfl]
  ·rw [one_w]
   exact Ev.step (fun _ => laws_eqExtentS.l0.eq_2 ..) (ev_neg (by simp) (ev_ret rfl))
theorem eqS_ev (h b : Int) (M : List EL) (hM : M.length ≤ 1) : Ev (fun k => laws_eqSystem.f k h b M M [] h b M M []) true := by
 unfold laws_eqSystem.f laws_eqFree.f
 refine ev_pos rfl (Ev.bind (a := true) (ev_pos rfl (Ev.bind (eqE_ev M hM) (ev_true rfl (Ev.bind (eqE_ev M hM) (ev_true rfl (ev_ret rfl)))))) (ev_true rfl (ev_bindc (a := true) rfl (ev_true rfl (ev_ret rfl)))))
theorem mark_ev (M : List EL) (hM : M.length ≤ 1) (m : Int) (h0 : 0 ≤ m) (h1 : m ≤ 1000) : ∃ M', M'.length ≤ 1 ∧ Ev (fun k => laws_markExtentS.f k M m) (m + 2 * M.length, M') ∧ Ev (fun k => laws_heldExtentS.f k M' m) (m + 2 * M.length) := by
 unfold laws_markExtentS.f laws_heldExtentS.f
 rcases small_cases hM with rfl | ⟨x, rfl⟩
 ·refine ⟨[], by simp, Ev.step (fun _ => laws_markExtentS.l0.eq_2 ..) (ev_neg (by simp) (ev_ret (by simp))), Ev.step (fun _ => laws_heldExtentS.l0.eq_2 ..) (ev_neg (by simp) (ev_ret (by simp)))⟩
 ·have e1 : wrap64 (m + 1) = m + 1 := w64 (by omega) (by omega)
  have e2 : wrap64 (wrap64 (m + 1) + 1) = m + 2 := by rw [e1, w64 (by omega) (by omega)]; omega
  refine ⟨[⟨m, m + 1⟩], by simp, ?_, ?_⟩
  ·refine Ev.step (fun _ => laws_markExtentS.l0.eq_2 ..) (ev_pos (by simp) (ev_pos (by omega) (ev_some ?_)))
   rw [e2, e1, one_w]
   exact Ev.step (fun _ => laws_markExtentS.l0.eq_2 ..) (ev_neg (by simp) (ev_ret rfl))
  ·refine Ev.step (fun _ => laws_heldExtentS.l0.eq_2 ..) (ev_pos (by simp) (ev_pos (by omega) (ev_pos rfl (ev_pos (by rw [e1]; rfl) ?_))))
   rw [e2, one_w]
   exact Ev.step (fun _ => laws_heldExtentS.l0.eq_2 ..) (ev_neg (by simp) (ev_ret rfl))
theorem spec_ev (b h : Nat) (hb : 1 ≤ b) (hb2 : b ≤ 400) (hh : h ≤ b) : Ev (fun k => spec_NewSystem.f k b h) ((h : Int), (b : Int), newL b h, newL b h, [], true) := by
 unfold spec_NewSystem.f
 refine ev_bindc (a := true) ?_ (ev_true rfl (ev_bindc (a := true) ?_ ?_))
 ·unfold spec_l1In.f
  rw [if_pos (by omega), decide_eq_true (by omega)]
 ·unfold spec_l1In.f
  rw [if_pos (by omega), decide_eq_true (by omega)]
 ·refine Ev.step (fun _ => spec_NewSystem.j0.eq_2 ..) (ev_false rfl (Ev.bind (of_ev b [] (by simp)) ?_))
  by_cases hlt : (h : Int) < (b : Int)
  ·refine ev_pos hlt ?_
   rw [w64 (x := (b : Int) - h) (by omega) (by omega)]
   have e : newL b h = [⟨(h : Int), (b : Int) - h⟩] := newL_yes (by omega)
   rw [e]
   exact Ev.bind (of_ev b [⟨(h : Int), (b : Int) - h⟩] (by simp)) (ev_ret rfl)
  ·refine ev_neg hlt ?_
   rw [newL_no (by omega)]
   exact ev_ret rfl
theorem spec_no (a0 a1 : Int) (h : ¬ ((1 ≤ a0 ∧ a0 ≤ 400) ∧ (0 ≤ a1 ∧ a1 ≤ a0))) : Ev (fun k => spec_NewSystem.f k a0 a1) (0, 0, [], [], [], false) := by
 have e : ∀ a b c : Int, spec_l1In.f a b c = some (decide (b ≤ a ∧ a ≤ c)) := by
  intro a b c
  unfold spec_l1In.f
  by_cases h : a ≥ b
  ·by_cases h2 : a ≤ c
   ·simp [h, h2] <;> omega
   ·simp [h, h2]
  ·simp [h] <;> omega
 unfold spec_NewSystem.f
 refine ev_bindc (e _ _ _) ?_
 by_cases h1 : 1 ≤ a0 ∧ a0 ≤ 400
 ·refine ev_true (decide_eq_true h1) (ev_bindc (e _ _ _) ?_)
  rw [decide_eq_false (show ¬ (0 ≤ a1 ∧ a1 ≤ a0) from fun h2 => h ⟨h1, h2⟩)]
  exact Ev.step (fun _ => spec_NewSystem.j0.eq_2 ..) (ev_true rfl (ev_ret rfl))
 ·exact ev_false (decide_eq_false h1) (Ev.step (fun _ => spec_NewSystem.j0.eq_2 ..) (ev_true rfl (ev_ret rfl)))
theorem law_ev (a0 a1 h b : Int) (M : List EL) (hM : M.length ≤ 1) (r : Bool) (hs : Ev (fun k => spec_NewSystem.f k a0 a1) (h, b, M, M, [], r)) (hi : impl_NewSystem.f a0 a1 = some (h, b, M, M, [], r)) : Ev (fun k => laws_FnExactNewSystem.f k a0 a1) true := by
 unfold laws_FnExactNewSystem.f
 refine Ev.bind hs (ev_bindc hi (Ev.bind (eqS_ev h b M hM) (ev_true rfl ?_)))
 have hrr : (r != r) = false := by simp
 dsimp only
 rw [hrr]
 obtain ⟨M1, hl1, em1, eh1⟩ := mark_ev M hM 1 (by omega) (by omega)
 obtain ⟨M2, hl2, em2, eh2⟩ := mark_ev M hM (1 + 2 * M.length) (by omega) (by omega)
 have EH : Ev (fun k => laws_heldSystem.f k h b M1 M2 [] 1) (1 + 2 * (M.length : Int) + 2 * (M.length : Int)) := by
  unfold laws_heldSystem.f laws_heldFree.f
  exact Ev.bind (Ev.bind eh1 (ev_neg (by omega) (Ev.bind eh2 (ev_neg (by omega) (ev_ret rfl))))) (ev_neg (by omega) (ev_bindc rfl (ev_neg (by omega) (ev_ret rfl))))
 refine Ev.step (fun _ => laws_FnExactNewSystem.j0.eq_2 ..) (ev_false rfl (Ev.bind (a := (1 + 2 * (M.length : Int) + 2 * (M.length : Int), M1, M2)) ?_ ?_))
 ·unfold laws_markSystem.f laws_markFree.f
  exact ev_pos rfl (Ev.bind em1 (Ev.bind em2 (ev_ret rfl)))
 ·refine Ev.bind EH (ev_neg (by omega) (ev_pos rfl (ev_bindc hi (Ev.bind (eqS_ev h b M hM) (ev_true rfl ?_)))))
  dsimp only
  rw [hrr]
  exact Ev.step (fun _ => laws_FnExactNewSystem.j1.eq_2 ..) (ev_false rfl (Ev.bind EH (ev_neg (by omega) (ev_pos rfl (ev_ret rfl)))))
theorem FnExactNewSystem : laws_FnExactNewSystem.Pure := by
 intro a0 a1 h0 h1
 by_cases h : (1 ≤ a0 ∧ a0 ≤ 400) ∧ (0 ≤ a1 ∧ a1 ≤ a0)
 ·obtain ⟨b, rfl⟩ : ∃ b : Nat, a0 = (b : Int) := ⟨a0.toNat, by omega⟩
  obtain ⟨hd, rfl⟩ : ∃ hd : Nat, a1 = (hd : Int) := ⟨a1.toNat, by omega⟩
  obtain ⟨K, hK⟩ := law_ev b hd hd b (newL b hd) (newL_len b hd) true (spec_ev b hd (by omega) (by omega) (by omega)) (by unfold impl_NewSystem.f; rw [if_pos h, Int.toNat_natCast, Int.toNat_natCast])
  exact ⟨K, hK _ (Nat.le_refl _)⟩
 ·obtain ⟨K, hK⟩ := law_ev a0 a1 0 0 [] (by simp) false (spec_no a0 a1 h) (by unfold impl_NewSystem.f; rw [if_neg h])
  exact ⟨K, hK _ (Nat.le_refl _)⟩
end Go.Proofs.Ytelblhkbogljnaa.Pure
