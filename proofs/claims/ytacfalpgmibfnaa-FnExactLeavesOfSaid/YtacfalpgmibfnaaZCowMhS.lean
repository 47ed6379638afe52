import Derived.Test.YtacfalpgmibfnaaZCowMh
import Derived.Test.YtacfalpgmibfnaaYCowlawsS
/-! Marks of the laws: what is marked is held, for texts, numbers, cells and a cow; a row is like itself. -/
namespace Go.Proofs.Ytacfalpgmibfnaa.ZCow
open Go.RowKit Go.Proofs.Ytacfalpgmibfnaa.PCow Go.Proofs.YtacfalpgmibfnaaW.PrintWords Go.Proofs.YtacfalpgmibfnaaW.PrintLast Go.Proofs.YtacfalpgmibfnaaW.PrintMore Go.Proofs.Ytacfalpgmibfnaa.E
set_option linter.unusedSimpArgs false
set_option linter.unusedVariables false
theorem mhString_l (f : Nat) : ∀ (l : List ByteArray) (m i : Int), 0 ≤ i → i + f = l.length → (l.length : Int) ≤ 10000000000000 → 0 ≤ m → m + f ≤ 10000000000000 →
    ∃ l', l'.length = l.length ∧ (∀ j : Nat, j < i → l'[j]? = l[j]?) ∧ Ev (fun k => laws_markStringS.l0 k l m i) (m + f, l') ∧ Ev (fun k => laws_heldStringS.l0 k l' m i) (m + f) := by
  induction f with
  | zero =>
    intro l m i h0 h1 hL h2 h3
    refine ⟨l, rfl, fun _ _ => rfl, ?_, ?_⟩
    · exact Ev.step (fun _ => laws_markStringS.l0.eq_2 ..) (ev_neg (by omega) (ev_ret (by simp)))
    · exact Ev.step (fun _ => laws_heldStringS.l0.eq_2 ..) (ev_neg (by omega) (ev_ret (by simp)))
  | succ f ih =>
    intro l m i h0 h1 hL h2 h3
    obtain ⟨v, hv⟩ := mt m h2 (by omega)
    obtain ⟨l', hl, hk, hm, hh⟩ := ih (l.set i.toNat v) (m + 1) (i + 1) (by omega) (by simp; omega) (by simp; omega) (by omega) (by omega)
    have e : m + 1 + (f : Int) = m + ((f + 1 : Nat) : Int) := by omega
    rw [e] at hm hh
    refine ⟨l', by simpa using hl, ?_, ?_, ?_⟩
    · intro j hj
      rw [hk j (by omega), List.getElem?_set_ne (by omega)]
    · refine Ev.step (fun _ => laws_markStringS.l0.eq_2 ..) (ev_pos (by omega) (Ev.bind hv (ev_pos h0 ?_)))
      rw [w64 (x := m + 1) (by omega) (by omega), w64 (x := i + 1) (by omega) (by omega)]
      exact hm
    · have er : rdOf ByteArray.empty l' i = v := by
        unfold rdOf
        rw [List.getD_eq_getElem?_getD, hk i.toNat (by omega), List.getElem?_set_self (by omega)]
        rfl
      refine Ev.step (fun _ => laws_heldStringS.l0.eq_2 ..) (ev_pos (by simp at hl; omega) (ev_pos h0 (Ev.bind hv (ev_pos (by rw [er]) ?_))))
      rw [w64 (x := m + 1) (by omega) (by omega), w64 (x := i + 1) (by omega) (by omega)]
      exact hh
theorem mhString (l : List ByteArray) (m : Int) (h0 : 0 ≤ m) (h1 : m + l.length ≤ 10000000000000) :
    ∃ l', l'.length = l.length ∧ Ev (fun k => laws_markStringS.f k l m) (m + l.length, l') ∧ Ev (fun k => laws_heldStringS.f k l' m) (m + l.length) := by
  obtain ⟨l', hl, _, hm, hh⟩ := mhString_l l.length l m 0 (by omega) (by omega) (by omega) h0 h1
  exact ⟨l', hl, hm, hh⟩
theorem eqString_l (f : Nat) : ∀ (l : List ByteArray) (i : Int), 0 ≤ i → i + f = l.length → (l.length : Int) ≤ 100000000000 → Ev (fun k => laws_eqStringS.l0 k l l i) true := by
  induction f with
  | zero =>
    intro l i h0 h1 h2
    exact Ev.step (fun _ => laws_eqStringS.l0.eq_2 ..) (ev_neg (by omega) (ev_ret rfl))
  | succ f ih =>
    intro l i h0 h1 h2
    refine Ev.step (fun _ => laws_eqStringS.l0.eq_2 ..) (ev_pos (by omega) (ev_pos h0 (ev_pos (by omega) (ev_pos rfl ?_))))
    rw [w64 (x := i + 1) (by omega) (by omega)]
    exact ih l (i + 1) (by omega) (by omega) h2
theorem eqString (l : List ByteArray) (h : (l.length : Int) ≤ 100000000000) : Ev (fun k => laws_eqStringS.f k l l) true := by
  unfold laws_eqStringS.f
  exact ev_pos rfl (eqString_l l.length l 0 (by omega) (by omega) h)
end Go.Proofs.Ytacfalpgmibfnaa.ZCow
