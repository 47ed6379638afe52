import Derived.Test.YtacfalpgmibfnaaZFnExactGoodCowSpec
import Derived.Test.YtacfalpgmibfnaaYFnExactGoodCowx3
/-! GoodCow, plain law: the specification's loops, in rounds. -/
namespace Go.Proofs.Ytacfalpgmibfnaa.PFnExactGoodCow
open Go.RowKit Go.Proofs.YtacfalpgmibfnaaW.PrintWords Go.Proofs.YtacfalpgmibfnaaW.PrintLast Go.Proofs.YtacfalpgmibfnaaW.PrintMore Go.Proofs.Ytacfalpgmibfnaa.E
set_option linter.unusedSimpArgs false
set_option linter.unusedVariables false
theorem l2_ev (C : List S68) (c : List Int) (hn : C.length ≤ 80) (hc : c.length = C.length) : ∀ f i : Nat, i + f = C.length → Ev (fun k => spec_GoodCow.l2 k c C (C.length : Int) (i : Int)) (endM C c f i) := by
  intro f
  induction f with
  | zero =>
    intro i hi
    exact Ev.step (fun _ => spec_GoodCow.l2.eq_2 ..) (ev_neg (by omega) (ev_ret rfl))
  | succ f ih =>
    intro i hi
    have h1 := ih (i + 1) (by omega)
    refine Ev.step (fun _ => spec_GoodCow.l2.eq_2 ..) (ev_pos (by omega) (ev_pos (by omega) (ev_pos (by omega) (ev_pos (by omega) ?_))))
    rw [w64 (x := (i : Int) + 1) (by omega) (by omega)]
    unfold endM okEnd
    by_cases q0 : (rd_T68 C (i : Int)).f0 = rd c (i : Int)
    · refine ev_pos q0 ?_
      rw [if_pos q0]
      by_cases q1 : (rd_T68 C (i : Int)).f0 = 0
      · refine ev_pos q1 ?_
        rw [if_pos q1]
        by_cases q2 : (rd_T68 C (i : Int)).f1.size = 0
        · refine ev_pos (ba_nil.2 q2) ?_
          rw [if_pos q2]
          by_cases q3 : (rd_T68 C (i : Int)).f2.length = 0
          · refine ev_neg (by omega) ?_
            rw [decide_eq_true q3, if_pos rfl]
            exact h1
          · refine ev_pos (by omega) ?_
            rw [decide_eq_false q3, if_neg (by simp)]
            exact ev_ret rfl
        · refine ev_neg (fun e => q2 (ba_nil.1 e)) ?_
          rw [if_neg q2, if_neg (by simp)]
          exact ev_ret rfl
      · refine ev_neg q1 ?_
        rw [if_neg q1, if_pos rfl]
        exact h1
    · refine ev_neg q0 ?_
      rw [if_neg q0, if_neg (by simp)]
      exact ev_ret rfl
theorem l1_ev (C : List S68) (roots s : List Int) (m : Nat) (hm : (m : Int) + 1 ≤ 3) (hn : C.length ≤ 80) (hs : s.length = C.length) (hr : (roots.length : Int) ≤ 8) : ∀ (f i : Nat) (at_ v : List Int) (b : Bool), i + f = roots.length → loopK (levM C (m + 1)) (roots.drop i) at_ = some (b, v) →
    Ev (fun k => spec_GoodCow.l1 k s at_ roots (roots.length : Int) (i : Int) C roots ((m : Int) + 1)) (if b = true then endM C s C.length 0 else false) := by
  intro f
  induction f with
  | zero =>
    intro i at_ v b hi h
    rw [List.drop_of_length_le (by omega)] at h
    simp only [loopK, Option.some.injEq, Prod.mk.injEq] at h
    obtain ⟨rfl, rfl⟩ := h
    exact Ev.step (fun _ => spec_GoodCow.l1.eq_2 ..) (ev_neg (by omega) (l2_ev C s hn hs C.length 0 (by omega)))
  | succ f ih =>
    intro i at_ v b hi h
    have hil : i < roots.length := by omega
    obtain ⟨z, hz⟩ : ∃ z, rd roots (i : Int) = z := ⟨_, rfl⟩
    have hd : roots.drop i = z :: roots.drop (i + 1) := by
      rw [List.drop_eq_getElem_cons hil, ← hz]
      congr 1
      unfold rd
      rw [List.getD_eq_getElem?_getD, Int.toNat_natCast, List.getElem?_eq_getElem hil]
      rfl
    rw [hd] at h
    simp only [loopK] at h
    obtain ⟨⟨b1, a1⟩, e1, e2⟩ := Option.bind_eq_some_iff.1 h
    refine Ev.step (fun _ => spec_GoodCow.l1.eq_2 ..) (ev_pos (by omega) (ev_pos (by omega) (ev_pos (by omega) (ev_bindc (a := (b1, a1)) ?_ ?_))))
    · unfold spec_l14Levels.f
      rw [if_pos (by omega), hz, show ((m : Int) + 1).toNat = m + 1 by omega]
      exact e1
    · rw [w64 (x := (i : Int) + 1) (by omega) (by omega)]
      dsimp only
      cases b1 with
      | true => exact ev_true rfl (ih (i + 1) a1 v b (by omega) (by simpa using e2))
      | false =>
        simp only [Bool.false_eq_true, if_false, Option.some.injEq, Prod.mk.injEq] at e2
        obtain ⟨rfl, rfl⟩ := e2
        exact ev_false rfl (ev_ret rfl)
theorem l0_ev (C : List S68) (roots : List Int) (m : Nat) (hm : (m : Int) + 1 ≤ 3) (hn : C.length ≤ 80) (hr : (roots.length : Int) ≤ 8) (r : Bool) : ∀ (f i : Nat) (seen s : List Int) (b : Bool), i + f = roots.length → loopK (deepM C (m + 1)) (roots.drop i) seen = some (b, s) →
    (b = true → Ev (fun k => spec_GoodCow.l1 k s (List.replicate C.length 0) roots (roots.length : Int) ((0 : Nat) : Int) C roots ((m : Int) + 1)) r) → (b = false → r = false) →
    Ev (fun k => spec_GoodCow.l0 k seen roots (roots.length : Int) (i : Int) C roots ((m : Int) + 1)) r := by
  intro f
  induction f with
  | zero =>
    intro i seen s b hi h hT hF
    rw [List.drop_of_length_le (by omega)] at h
    simp only [loopK, Option.some.injEq, Prod.mk.injEq] at h
    obtain ⟨rfl, rfl⟩ := h
    refine Ev.step (fun _ => spec_GoodCow.l0.eq_2 ..) (ev_neg (by omega) (ev_pos (by omega) (ev_pos (by omega) ?_)))
    rw [Int.toNat_natCast]
    exact hT rfl
  | succ f ih =>
    intro i seen s b hi h hT hF
    have hil : i < roots.length := by omega
    obtain ⟨z, hz⟩ : ∃ z, rd roots (i : Int) = z := ⟨_, rfl⟩
    have hd : roots.drop i = z :: roots.drop (i + 1) := by
      rw [List.drop_eq_getElem_cons hil, ← hz]
      congr 1
      unfold rd
      rw [List.getD_eq_getElem?_getD, Int.toNat_natCast, List.getElem?_eq_getElem hil]
      rfl
    rw [hd] at h
    simp only [loopK] at h
    obtain ⟨⟨b1, a1⟩, e1, e2⟩ := Option.bind_eq_some_iff.1 h
    refine Ev.step (fun _ => spec_GoodCow.l0.eq_2 ..) (ev_pos (by omega) (ev_pos (by omega) (ev_pos (by omega) (ev_bindc (a := (b1, a1)) ?_ ?_))))
    · unfold spec_l14Deep.f
      rw [if_pos (by omega), hz, show ((m : Int) + 1).toNat = m + 1 by omega]
      exact e1
    · rw [w64 (x := (i : Int) + 1) (by omega) (by omega)]
      dsimp only
      cases b1 with
      | true => exact ev_true rfl (ih (i + 1) a1 s b (by omega) (by simpa using e2) hT hF)
      | false =>
        simp only [Bool.false_eq_true, if_false, Option.some.injEq, Prod.mk.injEq] at e2
        obtain ⟨rfl, rfl⟩ := e2
        exact ev_false rfl (ev_ret (hF rfl).symm)
theorem in_dec (a b c : Int) : spec_l1In.f a b c = some (decide (b ≤ a ∧ a ≤ c)) := by
  unfold spec_l1In.f
  by_cases h : a ≥ b
  · rw [if_pos h]
    have h' : b ≤ a := h
    simp [h']
  · rw [if_neg h, decide_eq_false (by omega)]
theorem spec_impl (C : List S68) (roots : List Int) (L : Int) : ∃ b, Ev (fun k => spec_GoodCow.f k C roots L) b ∧ goodC 100 C roots L = some b := by
  unfold spec_GoodCow.f
  by_cases hL : 1 ≤ L ∧ L ≤ 3
  · have hiL : inR L 1 3 = true := by unfold inR; exact decide_eq_true hL
    by_cases h80 : (C.length : Int) > 80
    · refine ⟨false, ev_bindc (in_dec L 1 3) (ev_true (decide_eq_true hL) (ev_pos h80 (Ev.step (fun _ => spec_GoodCow.j0.eq_2 ..) (ev_pos rfl (ev_ret rfl))))), ?_⟩
      unfold goodC
      rw [if_pos hiL, if_pos h80]
    · by_cases hR : 1 ≤ (roots.length : Int) ∧ (roots.length : Int) ≤ 8
      · obtain ⟨m, hm⟩ : ∃ m : Nat, L = (m : Int) + 1 := ⟨(L - 1).toNat, by omega⟩
        subst hm
        have key : ∀ b, Ev (fun k => spec_GoodCow.l0 k (List.replicate C.length 0) roots (roots.length : Int) ((0 : Nat) : Int) C roots ((m : Int) + 1)) b → Ev (fun k => (spec_l1In.f ((m : Int) + 1) 1 3).bind fun t121 => (if t121 = true then (if (C.length : Int) > 80 then (spec_GoodCow.j0 k true C roots ((m : Int) + 1)) else ((spec_l1In.f (roots.length : Int) 1 8).bind fun t122 => (spec_GoodCow.j0 k (!t122) C roots ((m : Int) + 1)))) else (spec_GoodCow.j0 k true C roots ((m : Int) + 1)))) b := fun b hb => by
          refine ev_bindc (in_dec _ 1 3) (ev_true (decide_eq_true hL) (ev_neg h80 (ev_bindc (in_dec _ 1 8) ?_)))
          rw [decide_eq_true hR]
          refine Ev.step (fun _ => spec_GoodCow.j0.eq_2 ..) (ev_neg (by simp) (ev_pos (by omega) (ev_pos (by omega) ?_)))
          rw [Int.toNat_natCast]
          exact hb
        rcases cow_join (C := C) (roots := roots) m hL.2 (by omega) hR.1 hR.2 with ⟨c, v, e, hc, e1, e2⟩ | ⟨e, h⟩
        · exact ⟨_, key _ (l0_ev C roots m hL.2 (by omega) hR.2 _ roots.length 0 _ c true (by omega) (by rw [List.drop_zero]; exact e1) (fun _ => l1_ev C roots c m hL.2 (by omega) hc hR.2 roots.length 0 _ v true (by omega) (by rw [List.drop_zero]; exact e2)) (by simp)), e⟩
        · rcases h with ⟨s, e1⟩ | ⟨s, a, e1, e2⟩
          · exact ⟨false, key _ (l0_ev C roots m hL.2 (by omega) hR.2 _ roots.length 0 _ s false (by omega) (by rw [List.drop_zero]; exact e1) (by simp) (fun _ => rfl)), e⟩
          · obtain ⟨b', s', f1, f2⟩ := loopK_tot (F := deepM C (m + 1)) (n := C.length) (deep_tot C m) roots (List.replicate C.length 0) (by simp)
            rw [e1] at f1
            simp only [Option.some.injEq, Prod.mk.injEq] at f1
            obtain ⟨_, rfl⟩ := f1
            exact ⟨false, key _ (l0_ev C roots m hL.2 (by omega) hR.2 _ roots.length 0 _ s true (by omega) (by rw [List.drop_zero]; exact e1) (fun _ => l1_ev C roots s m hL.2 (by omega) f2 hR.2 roots.length 0 _ a false (by omega) (by rw [List.drop_zero]; exact e2)) (by simp)), e⟩
      · refine ⟨false, ev_bindc (in_dec L 1 3) (ev_true (decide_eq_true hL) (ev_neg h80 (ev_bindc (in_dec _ 1 8) ?_))), ?_⟩
        · rw [decide_eq_false hR]
          exact Ev.step (fun _ => spec_GoodCow.j0.eq_2 ..) (ev_pos rfl (ev_ret rfl))
        · unfold goodC
          rw [if_pos hiL, if_neg h80, if_neg (by unfold inR; rw [decide_eq_false hR]; simp)]
  · refine ⟨false, ev_bindc (in_dec L 1 3) (ev_false (decide_eq_false hL) (Ev.step (fun _ => spec_GoodCow.j0.eq_2 ..) (ev_pos rfl (ev_ret rfl)))), ?_⟩
    unfold goodC
    rw [if_neg (by unfold inR; rw [decide_eq_false hL]; simp)]
end Go.Proofs.Ytacfalpgmibfnaa.PFnExactGoodCow
