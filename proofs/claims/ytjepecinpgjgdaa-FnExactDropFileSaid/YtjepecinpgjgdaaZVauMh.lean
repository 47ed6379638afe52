import Derived.Test.YtjepecinpgjgdaaXVauMark
import Derived.Test.YtjepecinpgjgdaaYVaulawsH
import Derived.Test.YtjepecinpgjgdaaLoops
/-! Marks of the laws: what is marked is held, for texts, numbers, pieces, files and a vault. -/
namespace Go.Proofs.Ytjepecinpgjgdaa.ZVau
open Go.RowKit Go.Proofs.Ytjepecinpgjgdaa.PVau Go.Proofs.YtjepecinpgjgdaaW.PrintWords Go.Proofs.YtjepecinpgjgdaaW.PrintLast Go.Proofs.YtjepecinpgjgdaaW.PrintMore Go.Proofs.Ytjepecinpgjgdaa.E
set_option linter.unusedSimpArgs false
set_option linter.unusedVariables false
theorem str_size (xs : List Int) : (strOfNums xs).size = xs.length := by
 simp [strOfNums, ByteArray.size]
theorem mt_l : ∀ (f : Nat) (x : Int) (s : ByteArray), 0 ≤ x → x ≤ 100000000000000 → x < 2 ^ f → s.size + f ≤ 1000 → ∃ v, Ev (fun k => laws_markText.l0 k x s) v := by
 intro f
 induction f with
 | zero =>
  intro x s h0 hm h1 h2
  refine ⟨_, Ev.step (fun _ => laws_markText.l0.eq_2 ..) (ev_neg (by simp at h1; omega) (ev_pos (by omega) (ev_ret rfl)))⟩
 | succ f ih =>
  intro x s h0 hm h1 h2
  by_cases h : x > 0
  ·have hp : (2 : Int) ^ (f + 1) = 2 * 2 ^ f := by rw [Int.pow_succ]; omega
   have hx : x / 10 < 2 ^ f := by omega
   have e : wrap64 (Int.tdiv x 10) = x / 10 := by
    rw [tdiv_pos h0]
    exact w64 (by omega) (by omega)
   obtain ⟨v, hv⟩ := ih (x / 10) (strOfNums ([(wrap64 (48 + (Int.tmod x 10))) % 256] : List Int) ++ s) (by omega) (by omega) hx (by rw [ByteArray.size_append, str_size]; simp; omega)
   refine ⟨v, Ev.step (fun _ => laws_markText.l0.eq_2 ..) (ev_pos h (ev_some (ev_pos ?_ ?_)))⟩
   ·rw [str_size]; simp; omega
   ·rw [e]; exact hv
  ·exact ⟨_, Ev.step (fun _ => laws_markText.l0.eq_2 ..) (ev_neg h (ev_pos (by omega) (ev_ret rfl)))⟩
theorem mt (m : Int) (h0 : 0 ≤ m) (h1 : m < 100000000000000) : ∃ v, Ev (fun k => laws_markText.f k m) v := by
 obtain ⟨v, hv⟩ := mt_l 64 m ⟨#[]⟩ h0 (by omega) (by simp; omega) (by simp [ByteArray.size])
 by_cases h : m ≤ 0
 ·exact ⟨_, by unfold laws_markText.f; exact ev_pos h (ev_ret rfl)⟩
 ·exact ⟨v, by unfold laws_markText.f; exact ev_neg h hv⟩
theorem mhInt_l (f : Nat) : ∀ (l : List Int) (m i : Int), 0 ≤ i → i + f = l.length → (l.length : Int) ≤ 10000000000000 → 0 ≤ m → m + f ≤ 10000000000000 →
  ∃ l', l'.length = l.length ∧ (∀ j : Nat, j < i → l'[j]? = l[j]?) ∧ Ev (fun k => laws_markIntS.l0 k l m i) (m + f, l') ∧ Ev (fun k => laws_heldIntS.l0 k l' m i) (m + f) := by
 induction f with
 | zero =>
  intro l m i h0 h1 hL h2 h3
  refine ⟨l, rfl, fun _ _ => rfl, ?_, ?_⟩
  ·exact Ev.step (fun _ => laws_markIntS.l0.eq_2 ..) (ev_neg (by omega) (ev_ret (by simp)))
  ·exact Ev.step (fun _ => laws_heldIntS.l0.eq_2 ..) (ev_neg (by omega) (ev_ret (by simp)))
 | succ f ih =>
  intro l m i h0 h1 hL h2 h3
  obtain ⟨l', hl, hk, hm, hh⟩ := ih (l.set i.toNat m) (m + 1) (i + 1) (by omega) (by simp; omega) (by simp; omega) (by omega) (by omega)
  have e : m + 1 + (f : Int) = m + ((f + 1 : Nat) : Int) := by omega
  rw [e] at hm hh
  refine ⟨l', by simpa using hl, ?_, ?_, ?_⟩
  ·intro j hj
   rw [hk j (by omega), List.getElem?_set_ne (by omega)]
  ·refine Ev.step (fun _ => laws_markIntS.l0.eq_2 ..) (ev_pos (by omega) (ev_pos h0 ?_))
   rw [w64 (x := m + 1) (by omega) (by omega), w64 (x := i + 1) (by omega) (by omega)]
   exact hm
  ·have er : rd l' i = m := by
    unfold rd
    rw [List.getD_eq_getElem?_getD, hk i.toNat (by omega), List.getElem?_set_self (by omega)]
    rfl
   refine Ev.step (fun _ => laws_heldIntS.l0.eq_2 ..) (ev_pos (by simp at hl; omega) (ev_pos h0 (ev_pos er ?_)))
   rw [w64 (x := m + 1) (by omega) (by omega), w64 (x := i + 1) (by omega) (by omega)]
   exact hh
theorem mhInt (l : List Int) (m : Int) (h0 : 0 ≤ m) (h1 : m + l.length ≤ 10000000000000) :
  ∃ l', l'.length = l.length ∧ Ev (fun k => laws_markIntS.f k l m) (m + l.length, l') ∧ Ev (fun k => laws_heldIntS.f k l' m) (m + l.length) := by
 obtain ⟨l', hl, _, hm, hh⟩ := mhInt_l l.length l m 0 (by omega) (by omega) (by omega) h0 h1
 exact ⟨l', hl, hm, hh⟩
theorem mhKept_l (n : Nat) (hn : (n : Int) ≤ 1048576) (f : Nat) : ∀ (l : List KL) (m i : Int), l.length = n → 0 ≤ i → i + f = n → 0 ≤ m → m + f * 2 ≤ 10000000000000 →
  ∃ l', l'.length = n ∧ (∀ j : Nat, j < i → l'[j]? = l[j]?) ∧ Ev (fun k => markKM k n f i m l) (m + f * 2, l') ∧ Ev (fun k => laws_heldKeptS.l0 k l' m i) (m + f * 2) := by
 induction f with
 | zero =>
  intro l m i hl h0 h1 h2 h3
  refine ⟨l, hl, fun _ _ => rfl, ?_, ?_⟩
  ·exact ev_neg (by omega) (ev_ret (by simp))
  ·exact Ev.step (fun _ => laws_heldKeptS.l0.eq_2 ..) (ev_neg (by omega) (ev_ret (by simp)))
 | succ f ih =>
  intro l m i hl h0 h1 h2 h3
  have e1 : wrap64 (m + 1) = m + 1 := w64 (by omega) (by omega)
  have e2 : wrap64 (m + 1 + 1) = m + 2 := by rw [w64 (by omega) (by omega)]; omega
  have e3 : wrap64 (i + 1) = i + 1 := w64 (by omega) (by omega)
  obtain ⟨v, hv⟩ := mt m (by omega) (by omega)
  obtain ⟨l', hl', hkp, hm, hh⟩ := ih (l.set i.toNat ⟨v, m + 1⟩) (m + 2) (i + 1) (by simpa using hl) (by omega) (by omega) (by omega) (by omega)
  have e : m + 2 + (f : Int) * 2 = m + ((f + 1 : Nat) : Int) * 2 := by omega
  rw [e] at hm hh
  refine ⟨l', hl', fun j hj => ?_, ?_, ?_⟩
  ·rw [hkp j (by omega), List.getElem?_set_ne (by omega)]
  ·refine ev_pos (by omega) ?_
   rw [e1, e2]
   exact Ev.bind hv hm
  ·have er2 : rd_T89 l' i = ⟨v, m + 1⟩ := by
    rw [rd_kl, List.getD_eq_getElem?_getD, hkp i.toNat (by omega), List.getElem?_set_self (by omega)]
    rfl
   refine Ev.step (fun _ => laws_heldKeptS.l0.eq_2 ..) (ev_pos (by omega) (ev_pos h0 ?_))
   rw [er2, e1, e2, e3]
   exact Ev.bind hv (ev_pos rfl (ev_pos rfl hh))
theorem mhFile_l (n : Nat) (hn : (n : Int) ≤ 1048576) (f : Nat) : ∀ (l : List FL) (m i : Int), l.length = n → (∀ x ∈ l, x.f0.length ≤ 1048576) → 0 ≤ i → i + f = n → 0 ≤ m → m + f * 1048600 ≤ 10000000000000 →
  ∃ l' m', l'.length = n ∧ (∀ j : Nat, j < i → l'[j]? = l[j]?) ∧ m ≤ m' ∧ m' ≤ m + f * 1048600 ∧ Ev (fun k => markFM k n f i m l) (m', l') ∧ Ev (fun k => laws_heldFileS.l0 k l' m i) m' := by
 induction f with
 | zero =>
  intro l m i hl hk h0 h1 h2 h3
  refine ⟨l, m, hl, fun _ _ => rfl, by omega, by omega, ?_, ?_⟩
  ·exact ev_neg (by omega) (ev_ret rfl)
  ·exact Ev.step (fun _ => laws_heldFileS.l0.eq_2 ..) (ev_neg (by omega) (ev_ret rfl))
 | succ f ih =>
  intro l m i hl hk h0 h1 h2 h3
  have hil : i.toNat < l.length := by omega
  have er : rd_T87 l i = l[i.toNat] := by
   rw [rd_fl, List.getD_eq_getElem?_getD, List.getElem?_eq_getElem hil]
   rfl
  have hx := hk _ (List.getElem_mem hil)
  rw [← er] at hx
  have e3 : wrap64 (i + 1) = i + 1 := w64 (by omega) (by omega)
  obtain ⟨q, hq, hq1, hq2⟩ := mhInt (rd_T87 l i).f0 m (by omega) (by omega)
  obtain ⟨l', m', hl', hkp, hm1, hm2, hm, hh⟩ := ih (l.set i.toNat ⟨q⟩) (m + (rd_T87 l i).f0.length) (i + 1) (by simpa using hl) (fun x hx2 => by
   rcases List.mem_or_eq_of_mem_set hx2 with h4 | h4
   ·exact hk x h4
   ·subst h4
    show q.length ≤ 1048576
    omega) (by omega) (by omega) (by omega) (by omega)
  refine ⟨l', m', hl', fun j hj => ?_, by omega, by omega, ?_, ?_⟩
  ·rw [hkp j (by omega), List.getElem?_set_ne (by omega)]
  ·exact ev_pos (by omega) (Ev.bind hq1 hm)
  ·have er2 : rd_T87 l' i = ⟨q⟩ := by
    rw [rd_fl, List.getD_eq_getElem?_getD, hkp i.toNat (by omega), List.getElem?_set_self (by omega)]
    rfl
   refine Ev.step (fun _ => laws_heldFileS.l0.eq_2 ..) (ev_pos (by omega) (ev_pos h0 ?_))
   rw [er2, e3]
   exact Ev.bind hq2 (ev_neg (by omega) hh)
/-- A vault: what is marked is held. -/
theorem mhVault (l : List KL) (r : List FL) (h0 : (l.length : Int) ≤ 1048576) (h1 : (r.length : Int) ≤ 1048576) (hk : ∀ x ∈ r, x.f0.length ≤ 1048576) :
  ∃ m l' r', 0 ≤ m ∧ Ev (fun k => laws_markVault.f k l r 1) (m, l', r') ∧ Ev (fun k => laws_heldVault.f k l' r' 1) m := by
 obtain ⟨l', hl, _, hm, hh⟩ := mhKept_l l.length h0 l.length l 1 0 rfl (by omega) (by omega) (by omega) (by omega)
 obtain ⟨r', m', hr, _, hr1, hr2, hr3, hr4⟩ := mhFile_l r.length h1 r.length r (1 + l.length * 2) 0 rfl hk (by omega) (by omega) (by omega) (by omega)
 refine ⟨m', l', r', by omega, ?_, ?_⟩
 ·unfold laws_markVault.f laws_markKeptS.f laws_markFileS.f
  exact Ev.bind hm (Ev.bind hr3 (ev_ret rfl))
 ·unfold laws_heldVault.f laws_heldKeptS.f laws_heldFileS.f
  exact Ev.bind hh (ev_neg (by omega) (Ev.bind hr4 (ev_neg (by omega) (ev_ret rfl))))
end Go.Proofs.Ytjepecinpgjgdaa.ZVau
