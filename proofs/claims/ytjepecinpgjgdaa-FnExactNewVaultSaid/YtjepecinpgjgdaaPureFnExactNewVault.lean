import Derived.Test.YtjepecinpgjgdaaXVauLFnExactNewVault
import Derived.Test.YtjepecinpgjgdaaZVauPut
import Derived.Test.YtjepecinpgjgdaaZVauMh
import Derived.Test.YtjepecinpgjgdaaZVauEq
namespace Go.Proofs.Ytjepecinpgjgdaa.Pure
open Go.RowKit Go.Proofs.Ytjepecinpgjgdaa.PVau Go.Proofs.YtjepecinpgjgdaaW.PrintWords Go.Proofs.YtjepecinpgjgdaaW.PrintLast Go.Proofs.Ytjepecinpgjgdaa.E Go.Proofs.Ytjepecinpgjgdaa.ZVau
set_option linter.unusedSimpArgs false
set_option linter.unusedVariables false
theorem szStringS (l : List ByteArray) (hm : l.length ≤ 9223372036854775807) (hw : ∀ x ∈ l, x.size ≤ 9223372036854775807) :
  ∃ r, (r < 0 ∨ (l.length : Int) ≤ 1048576) ∧ Ev (fun k => laws_szStringS.f k l 1048576) r := by
 unfold laws_szStringS.f
 rw [w64 (x := 1048576 - (l.length : Int)) (by omega) (by omega)]
 by_cases hn : 1048576 - (l.length : Int) < 0
 ·exact ⟨-1, .inl (by omega), ev_pos hn (ev_ret rfl)⟩
 ·obtain ⟨r, hp, hr⟩ := ex_loop (fun k (a : Int) i => laws_szStringS.l0 k l a i) l.length (fun i a => 0 ≤ a ∧ a ≤ 1048576)
   (fun r => r < 0 ∨ (l.length : Int) ≤ 1048576)
   (fun s hs => ⟨s, .inr (by omega), Ev.step (fun _ => laws_szStringS.l0.eq_2 ..) (ev_neg (by omega) (ev_ret rfl))⟩)
   (fun s i h2 h3 hs => by
    have hi : i.toNat < l.length := by omega
    have er : rdOf ByteArray.empty l i = l[i.toNat] := getD_at l _ i hi
    have hx := hw _ (List.getElem_mem hi)
    rw [← er] at hx
    have e : wrap64 (s - ((rdOf ByteArray.empty l i).size : Int)) = s - (rdOf ByteArray.empty l i).size := w64 (by omega) (by omega)
    by_cases hn : s - ((rdOf ByteArray.empty l i).size : Int) < 0
    ·refine .inl ⟨-1, .inl (by omega), Ev.step (fun _ => laws_szStringS.l0.eq_2 ..) (ev_pos (by omega) (ev_pos h2 (ev_pos (by omega) (ev_ret rfl))))⟩
    ·refine .inr ⟨s - ((rdOf ByteArray.empty l i).size : Int), ⟨by omega, by omega⟩, fun r hr => Ev.step (fun _ => laws_szStringS.l0.eq_2 ..) (ev_pos (by omega) (ev_pos h2 (ev_neg (by omega) ?_)))⟩
     rw [e, w64 (x := i + 1) (by omega) (by omega)]
     exact hr) (1048576 - (l.length : Int)) ⟨by omega, by omega⟩
  exact ⟨r, hp, ev_neg hn hr⟩
theorem toStringS (l : List ByteArray) (hl : (l.length : Int) ≤ 1048576) : Ev (fun k => laws_toStringS.f k l) l := by
 unfold laws_toStringS.f
 refine ev_pos (by omega) (ev_pos (by omega) ?_)
 refine to_loop l (fun x => x) (fun k x i => laws_toStringS.l0 k l x i) _ (by simp) (fun x i hi h0 h1 hx r hr => ?_) _ (Ev.step (fun _ => laws_toStringS.l0.eq_2 ..) (ev_neg (by omega) (ev_ret (by simp))))
 have er : rdOf ByteArray.empty l i = l[i.toNat] := getD_at l _ i hi
 refine Ev.step (fun _ => laws_toStringS.l0.eq_2 ..) (ev_pos (by omega) (ev_pos h0 (ev_pos (by omega) ?_)))
 rw [w64 (x := i + 1) (by omega) (by omega), er]
 exact hr
theorem mhString_l (f : Nat) : ∀ (l : List ByteArray) (m i : Int), 0 ≤ i → i + f = l.length → (l.length : Int) ≤ 10000000000000 → 0 ≤ m → m + f ≤ 10000000000000 →
  ∃ l', Ev (fun k => laws_markStringS.l0 k l m i) (m + f, l') := by
 induction f with
 | zero =>
  intro l m i h0 h1 hL h2 h3
  exact ⟨l, Ev.step (fun _ => laws_markStringS.l0.eq_2 ..) (ev_neg (by omega) (ev_ret (by simp)))⟩
 | succ f ih =>
  intro l m i h0 h1 hL h2 h3
  obtain ⟨v, hv⟩ := mt m h2 (by omega)
  obtain ⟨l', hm⟩ := ih (l.set i.toNat v) (m + 1) (i + 1) (by omega) (by simp; omega) (by simp; omega) (by omega) (by omega)
  have e : m + 1 + (f : Int) = m + ((f + 1 : Nat) : Int) := by omega
  rw [e] at hm
  refine ⟨l', Ev.step (fun _ => laws_markStringS.l0.eq_2 ..) (ev_pos (by omega) (Ev.bind hv (ev_pos h0 ?_)))⟩
  rw [w64 (x := m + 1) (by omega) (by omega), w64 (x := i + 1) (by omega) (by omega)]
  exact hm
theorem eqString_l (f : Nat) : ∀ (l : List ByteArray) (i : Int), 0 ≤ i → i + f = l.length → (l.length : Int) ≤ 100000000000 → Ev (fun k => laws_eqStringS.l0 k l l i) true := by
 induction f with
 | zero =>
  intro l i h0 h1 h2
  exact Ev.step (fun _ => laws_eqStringS.l0.eq_2 ..) (ev_neg (by omega) (ev_ret rfl))
 | succ f ih =>
  intro l i h0 h1 h2
  refine Ev.step (fun _ => laws_eqStringS.l0.eq_2 ..) (ev_pos (by omega) (ev_pos h0 (ev_pos (by omega) (ev_pos rfl ?_))))
  rw [w64 (x := i + 1) (by omega) (by omega)]
  exact ih l (i + 1) (by omega) (by omega) h2
theorem eqString (l : List ByteArray) (h : (l.length : Int) ≤ 100000000000) : Ev (fun k => laws_eqStringS.f k l l) true := by
 unfold laws_eqStringS.f
 exact ev_pos rfl (eqString_l l.length l 0 (by omega) (by omega) h)
def Fit (C : List KL) (R : List FL) : Prop := (C.length : Int) ≤ 1048576 ∧ (R.length : Int) ≤ 1048576 ∧ ∀ x ∈ R, x.f0.length ≤ 1048576
theorem new_l (l : List ByteArray) (hl : (l.length : Int) ≤ 1048576) (f : Nat) : ∀ (i : Int) (C : List KL) (R : List FL), 0 ≤ i → i + f = l.length → Fit C R →
  ∃ C1 R1 b, Fit C1 R1 ∧ Ev (fun k => spec_NewVault.l0 k l (l.length : Int) i C R) (C1, R1, b) ∧ Ev (fun k => impl_NewVault.l0 k l (l.length : Int) i C R) (C1, R1, b) := by
 induction f with
 | zero =>
  intro i C R h0 h1 h2
  exact ⟨C, R, true, h2, Ev.step (fun _ => spec_NewVault.l0.eq_2 ..) (ev_neg (by omega) (ev_ret rfl)), Ev.step (fun _ => impl_NewVault.l0.eq_2 ..) (ev_neg (by omega) (ev_ret rfl))⟩
 | succ f ih =>
  intro i C R h0 h1 h2
  obtain ⟨C2, R2, b, h3, h4, h5⟩ := put_both C R (rdOf ByteArray.empty l i) (by have := h2.1; omega) (by have := h2.2.1; omega) h2.2.2
  cases b with
  | false =>
   exact ⟨[], [], false, ⟨by simp, by simp, fun x hx => by cases hx⟩, Ev.step (fun _ => spec_NewVault.l0.eq_2 ..) (ev_pos (by omega) (ev_pos h0 (ev_pos (by omega) (Ev.bind h4 (ev_false rfl (ev_ret rfl)))))),
    Ev.step (fun _ => impl_NewVault.l0.eq_2 ..) (ev_pos (by omega) (ev_pos h0 (ev_pos (by omega) (Ev.bind h5 (ev_false rfl (ev_ret rfl))))))⟩
  | true =>
   obtain ⟨C1, R1, b1, g1, g2, g3⟩ := ih (i + 1) C2 R2 (by omega) (by omega) h3
   refine ⟨C1, R1, b1, g1, Ev.step (fun _ => spec_NewVault.l0.eq_2 ..) (ev_pos (by omega) (ev_pos h0 (ev_pos (by omega) (Ev.bind h4 (ev_true rfl ?_))))), Ev.step (fun _ => impl_NewVault.l0.eq_2 ..) (ev_pos (by omega) (ev_pos h0 (ev_pos (by omega) (Ev.bind h5 (ev_true rfl ?_)))))⟩
   ·rw [w64 (x := i + 1) (by omega) (by omega)]; exact g2
   ·rw [w64 (x := i + 1) (by omega) (by omega)]; exact g3
theorem FnExactNewVault (l0 : List ByteArray) (h : l0.length ≤ 9223372036854775807 ∧ ∀ y0 ∈ l0, y0.size ≤ 9223372036854775807) : ∃ k, laws_FnExactNewVault.ok k l0 := by
 obtain ⟨r, hp, hr⟩ := szStringS l0 h.1 h.2
 obtain ⟨K1, e1⟩ := hr
 by_cases hn : r < 0
 ·exact ⟨K1, .inl ⟨r, e1 _ (Nat.le_refl _), hn⟩⟩
 ·have hs := hp.resolve_left hn
  obtain ⟨C1, R1, wb, ⟨hc1, hr1, hk1⟩, ⟨K2, e2⟩, ⟨K3, e3⟩⟩ := new_l l0 hs l0.length 0 [] [] (by omega) (by omega) ⟨by simp, by simp, fun x hx => by cases hx⟩
  obtain ⟨K4, e4⟩ := toStringS l0 hs
  obtain ⟨K5, e5⟩ := eqVault C1 R1 (by omega) (by omega) (fun x hx => by have := hk1 x hx; omega)
  obtain ⟨K6, e6⟩ := eqString l0 (by omega)
  obtain ⟨l', ⟨K7, e7⟩⟩ := mhString_l l0.length l0 1 0 (by omega) (by omega) (by omega) (by omega) (by omega)
  obtain ⟨m2, l2, r2, hm2, ⟨K8, e8⟩, ⟨K9, e9⟩⟩ := mhVault C1 R1 (by omega) (by omega) hk1
  exact ⟨K1 + K2 + K3 + K4 + K5 + K6 + K7 + K8 + K9, .inr ⟨r, _, C1, R1, wb, _, l', m2, l2, r2, e1 _ (by omega), hn, e4 _ (by omega), e2 _ (by omega), e3 _ (by omega), e5 _ (by omega), e6 _ (by omega), e7 _ (by omega), by omega, e8 _ (by omega), e9 _ (by omega), by omega⟩⟩
end Go.Proofs.Ytjepecinpgjgdaa.Pure
