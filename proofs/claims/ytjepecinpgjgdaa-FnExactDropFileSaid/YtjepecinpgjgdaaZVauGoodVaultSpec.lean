import Derived.Test.YtjepecinpgjgdaaZVauEq
import Derived.Test.YtjepecinpgjgdaaXVauGood
import Derived.Test.YtjepecinpgjgdaaYVauspecGoodVault
/-! The reference's GoodVault answers what the program's does. -/
namespace Go.Proofs.Ytjepecinpgjgdaa.ZVau
open Go.RowKit Go.Proofs.Ytjepecinpgjgdaa.PVau Go.Proofs.YtjepecinpgjgdaaW.PrintWords Go.Proofs.YtjepecinpgjgdaaW.PrintLast Go.Proofs.YtjepecinpgjgdaaW.PrintMore Go.Proofs.Ytjepecinpgjgdaa.E
set_option linter.unusedSimpArgs false
set_option linter.unusedVariables false
theorem rdK_nat (ps : List IK) (i : Nat) (h : i < ps.length) : rd_T89 ps (i : Int) = ps[i] := by
 unfold rd_T89
 exact getD_at ps _ (i : Int) (by omega)
theorem l15At_ev (ps : List IK) (t : ByteArray) (hl : (ps.length : Int) ≤ 100000000000) (n : Nat) (hn : n ≤ ps.length) :
  ∃ r : Int, Ev (fun k => spec_l15At.f k (ps.take n) t) r ∧ ((r ≥ 0) ↔ seenB ps n t = true) := by
 unfold spec_l15At.f
 obtain ⟨r, hp, hr⟩ := ex_loop (fun k (_ : Unit) i => spec_l15At.l0 k t (ps.take n) ((ps.take n).length : Int) i) (ps.take n).length (fun i _ => ∀ j : Nat, (j : Int) < i → ∀ x, (ps.take n)[j]? = some x → x.f0 ≠ t) (fun r => (r ≥ 0) ↔ seenB ps n t = true)
  (fun _ hs => ⟨-1, by
   refine ⟨fun h => by omega, fun h => ?_⟩
   unfold seenB at h
   obtain ⟨x, hx, hd⟩ := List.any_eq_true.1 h
   obtain ⟨j, hj, rfl⟩ := List.getElem_of_mem hx
   exact absurd (of_decide_eq_true hd) (hs j (by omega) _ (List.getElem?_eq_getElem hj)), Ev.step (fun _ => spec_l15At.l0.eq_2 ..) (ev_neg (by omega) (ev_ret rfl))⟩)
  (fun _ i h0 h1 hs => by
   have hi : i.toNat < (ps.take n).length := by omega
   have er : rd_T89 (ps.take n) i = (ps.take n)[i.toNat] := getD_at _ _ i hi
   have hlt : ((ps.take n).length : Int) ≤ 100000000000 := by rw [List.length_take]; omega
   by_cases he : (rd_T89 (ps.take n) i).f0 = t
   ·refine .inl ⟨i, ⟨fun _ => ?_, fun _ => h0⟩, Ev.step (fun _ => spec_l15At.l0.eq_2 ..) (ev_pos (by omega) (ev_pos h0 (ev_pos (by omega) (ev_pos (ba_eq.2 he) (ev_ret rfl)))))⟩
    unfold seenB
    exact List.any_eq_true.2 ⟨_, List.getElem_mem hi, decide_eq_true (by rw [← er]; exact he)⟩
   ·refine .inr ⟨(), fun j hj x hx => ?_, fun r hr => Ev.step (fun _ => spec_l15At.l0.eq_2 ..) (ev_pos (by omega) (ev_pos h0 (ev_pos (by omega) (ev_neg (fun h => he (ba_eq.1 h)) ?_))))⟩
    ·by_cases hji : j = i.toNat
     ·subst hji
      rw [List.getElem?_eq_getElem hi] at hx
      obtain rfl := Option.some.inj hx
      rw [← er]; exact he
     ·exact hs j (by omega) x hx
    ·rw [w64 (x := i + 1) (by omega) (by omega)]
     exact hr) () (fun j hj => by omega)
 exact ⟨r, hr, hp⟩
theorem spec_l2 (ps : List IK) (fs : List IF) (U : List Int) (hl : (ps.length : Int) ≤ 100000000000) (hU : U.length = ps.length) : ∀ (f i : Nat), i + f = ps.length →
  Ev (fun k => spec_GoodVault.l2 k U ps (ps.length : Int) (i : Int) ps fs) (goodP ps U f i && (decide ((ps.length : Int) ≤ 100) && decide ((fs.length : Int) ≤ 20))) := by
 intro f
 induction f with
 | zero =>
  intro i h0
  refine Ev.step (fun _ => spec_GoodVault.l2.eq_2 ..) (ev_neg (by omega) ?_)
  by_cases h : (ps.length : Int) ≤ 100
  ·exact ev_pos h (ev_ret (by simp [goodP, h]))
  ·exact ev_neg h (ev_ret (by simp [goodP, h]))
 | succ f ih =>
  intro i h0
  refine Ev.step (fun _ => spec_GoodVault.l2.eq_2 ..) (ev_pos (by omega) (ev_pos (by omega) (ev_pos (by omega) ?_)))
  simp only [goodP]
  by_cases h1 : 1 ≤ (rd_T89 ps i).f0.size ∧ (rd_T89 ps i).f0.size ≤ 24
  ·refine ev_bindc (a := true) ?_ (ev_true rfl (ev_pos (by omega) ?_))
   ·unfold spec_l1In.f
    rw [if_pos (by omega)]
    simp; omega
   rw [show ((i : Int) : Int).toNat = i from Int.toNat_natCast i]
   obtain ⟨r, hr, hri⟩ := l15At_ev ps (rd_T89 ps i).f0 hl i (by omega)
   refine Ev.bind hr ?_
   by_cases h2 : seenB ps i (rd_T89 ps i).f0 = true
   ·have : okP ps U i = false := by unfold okP; rw [if_pos h1, if_pos h2]
    rw [this]
    exact ev_pos (hri.2 h2) (ev_ret (by simp))
   ·refine ev_neg (fun h => h2 (hri.1 h)) (ev_pos (by omega) ?_)
    by_cases h3 : (rd_T89 ps i).f1 = rd U i
    ·refine ev_pos h3 ?_
     by_cases h4 : (rd_T89 ps i).f1 < 1
     ·have : okP ps U i = false := by
       unfold okP
       rw [if_pos h1, if_neg h2, if_pos h3]
       simpa using h4
      rw [this]
      exact ev_pos h4 (ev_ret (by simp))
     ·have : okP ps U i = true := by
       unfold okP
       rw [if_pos h1, if_neg h2, if_pos h3]
       simp; omega
      rw [this, if_pos rfl]
      refine ev_neg h4 ?_
      rw [w64 (x := (i : Int) + 1) (by omega) (by omega)]
      exact ih (i + 1) (by omega)
    ·have : okP ps U i = false := by unfold okP; rw [if_pos h1, if_neg h2, if_neg h3]
     rw [this]
     exact ev_neg h3 (ev_ret (by simp))
  ·have : okP ps U i = false := by unfold okP; rw [if_neg h1]
   rw [this]
   refine ev_bindc (a := false) ?_ (ev_false rfl (ev_ret (by simp)))
   unfold spec_l1In.f
   split <;> simp; omega
def fin (ps : List IK) (fs : List IF) (o : Option (List Int)) : Bool := match o with
 | none => false
 | some V => goodP ps V ps.length 0 && (decide ((ps.length : Int) ≤ 100) && decide ((fs.length : Int) ≤ 20))
theorem spec_l1 (ps : List IK) (fs : List IF) (q : List Int) (j : Int) (hl : (ps.length : Int) ≤ 100000000000) (hq : (q.length : Int) ≤ 100000000000) (hj : j < 100000000000) (hj0 : 0 ≤ j) (r : Bool) :
  ∀ (f i : Nat) (U : List Int), i + f = q.length → U.length = ps.length →
  (∀ V, incs ps.length U (q.drop i) = some V → V.length = ps.length → Ev (fun k => if (q.length : Int) > 200 then some false else spec_GoodVault.l0 k V fs (fs.length : Int) (j + 1) ps fs) r) → (incs ps.length U (q.drop i) = none → r = false) →
  Ev (fun k => spec_GoodVault.l1 k U fs (fs.length : Int) j q (q.length : Int) (i : Int) ps fs q) r := by
 intro f
 induction f with
 | zero =>
  intro i U h0 hU hV hN
  rw [List.drop_of_length_le (by omega)] at hV
  refine Ev.step (fun _ => spec_GoodVault.l1.eq_2 ..) (ev_neg (by omega) ?_)
  rw [w64 (x := j + 1) (by omega) (by omega)]
  exact hV U rfl hU
 | succ f ih =>
  intro i U h0 hU hV hN
  have hi : i < q.length := by omega
  have er : rd q (i : Int) = q[i] := getD_at q _ (i : Int) (by omega)
  rw [List.drop_eq_getElem_cons hi] at hV hN
  simp only [incs] at hV hN
  rw [← er] at hV hN
  refine Ev.step (fun _ => spec_GoodVault.l1.eq_2 ..) (ev_pos (by omega) (ev_pos (by omega) (ev_pos (by omega) ?_)))
  rw [w64 (x := (ps.length : Int) - 1) (by omega) (by omega), w64 (x := (i : Int) + 1) (by omega) (by omega)]
  by_cases hin : 0 ≤ rd q (i : Int) ∧ rd q (i : Int) ≤ (ps.length : Int) - 1
  ·rw [if_pos hin] at hV hN
   refine ev_bindc (a := true) ?_ (ev_true rfl (ev_pos hin.1 (ev_pos (by omega) ?_)))
   ·unfold spec_l1In.f
    rw [if_pos (by omega)]
    simp; omega
   ·exact ih (i + 1) _ (by omega) (by rw [List.length_set]; exact hU) hV hN
  ·rw [if_neg hin] at hN
   rw [hN rfl]
   refine ev_bindc (a := false) ?_ (ev_false rfl (ev_ret rfl))
   unfold spec_l1In.f
   split <;> simp; omega
theorem spec_l0 (ps : List IK) (fs : List IF) (hl : (ps.length : Int) ≤ 1048576) (hf : (fs.length : Int) ≤ 1048576) (hw : ∀ x ∈ fs, (x.f0.length : Int) ≤ 1048576) : ∀ (f j : Nat) (U : List Int), j + f = fs.length → U.length = ps.length →
  Ev (fun k => spec_GoodVault.l0 k U fs (fs.length : Int) (j : Int) ps fs) (fin ps fs (gV ps.length U (fs.drop j))) := by
 intro f
 induction f with
 | zero =>
  intro j U h0 hU
  rw [List.drop_of_length_le (by omega)]
  refine Ev.step (fun _ => spec_GoodVault.l0.eq_2 ..) (ev_neg (by omega) ?_)
  exact spec_l2 ps fs U (by omega) hU ps.length 0 (by omega)
 | succ f ih =>
  intro j U h0 hU
  have hj : j < fs.length := by omega
  have er : rd_T87 fs (j : Int) = fs[j] := getD_at fs _ (j : Int) (by omega)
  have h2 := hw _ (List.getElem_mem hj)
  rw [← er] at h2
  rw [List.drop_eq_getElem_cons hj, ← er]
  simp only [gV]
  refine Ev.step (fun _ => spec_GoodVault.l0.eq_2 ..) (ev_pos (by omega) (ev_pos (by omega) (ev_pos (by omega) ?_)))
  refine spec_l1 ps fs (rd_T87 fs j).f0 (j : Int) (by omega) (by omega) (by omega) (by omega) _ (rd_T87 fs j).f0.length 0 U (by omega) hU (fun V hV hVl => ?_) (fun hN => ?_)
  ·rw [List.drop_zero] at hV
   by_cases h200 : ((rd_T87 fs j).f0.length : Int) > 200
   ·rw [if_pos h200]
    exact ev_pos h200 (ev_ret rfl)
   ·rw [if_neg h200, hV]
    exact ev_neg h200 (ih (j + 1) V (by omega) hVl)
  ·rw [List.drop_zero] at hN
   rw [hN]
   split <;> rfl
theorem good_fin (ps : List IK) (fs : List IF) : good ps fs = fin ps fs (gV ps.length (List.replicate ps.length 0) fs) := by
 unfold good fin
 by_cases h1 : (ps.length : Int) > 100
 ·rw [if_pos (.inl h1)]
  split
  ·rfl
  ·rw [decide_eq_false (show ¬ (ps.length : Int) ≤ 100 by omega)]
   simp
 ·by_cases h2 : (fs.length : Int) > 20
  ·rw [if_pos (.inr h2)]
   split
   ·rfl
   ·rw [decide_eq_false (show ¬ (fs.length : Int) ≤ 20 by omega)]
    simp
  ·rw [if_neg (by omega), decide_eq_true (show (ps.length : Int) ≤ 100 by omega), decide_eq_true (show (fs.length : Int) ≤ 20 by omega)]
   cases gV ps.length (List.replicate ps.length 0) fs <;> simp
theorem spec_good (ps : List IK) (fs : List IF) (hl : (ps.length : Int) ≤ 1048576) (hf : (fs.length : Int) ≤ 1048576) (hw : ∀ x ∈ fs, (x.f0.length : Int) ≤ 1048576) : Ev (fun k => spec_GoodVault.f k ps fs) (good ps fs) := by
 unfold spec_GoodVault.f
 rw [good_fin]
 refine ev_pos (by omega) (ev_pos (by omega) ?_)
 rw [show ((ps.length : Int) : Int).toNat = ps.length from Int.toNat_natCast _]
 exact spec_l0 ps fs hl hf hw fs.length 0 _ (by omega) (by simp)
end Go.Proofs.Ytjepecinpgjgdaa.ZVau
