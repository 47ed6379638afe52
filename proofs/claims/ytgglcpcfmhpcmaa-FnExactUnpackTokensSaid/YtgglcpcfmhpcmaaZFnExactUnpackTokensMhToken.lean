import Derived.Test.YtgglcpcfmhpcmaaZFnExactUnpackTokensMt
/-! A row of tokens: what is marked is held, and a row is like itself. -/
namespace Go.Proofs.Ytgglcpcfmhpcmaa.ZFnExactUnpackTokens
open Go.RowKit Go.Proofs.Ytgglcpcfmhpcmaa.PFnExactUnpackTokens Go.Proofs.YtgglcpcfmhpcmaaW.PrintWords Go.Proofs.YtgglcpcfmhpcmaaW.PrintLast Go.Proofs.YtgglcpcfmhpcmaaW.PrintMore Go.Proofs.Ytgglcpcfmhpcmaa.E
set_option linter.unusedSimpArgs false
set_option linter.unusedVariables false

theorem rdT_set (l : List S56) (i : Int) (x : S56) (h0 : 0 ≤ i) (h1 : i < l.length) : rd_T56 (l.set i.toNat x) i = x := by
  unfold rd_T56
  rw [List.getD_eq_getElem?_getD, List.getElem?_set_self (by omega)]
  rfl
theorem mhT_l (f : Nat) : ∀ (l : List S56) (m i : Int), 0 ≤ i → i + f = l.length → (l.length : Int) ≤ 100000000000 → 0 ≤ m → m + 3 * f ≤ 100000000000 →
    ∃ l', l'.length = l.length ∧ (∀ j : Nat, j < i → l'[j]? = l[j]?) ∧ Ev (fun k => laws_markTokenS.l0 k l m i) (m + 3 * f, l') ∧ Ev (fun k => laws_heldTokenS.l0 k l' m i) (m + 3 * f) := by
  induction f with
  | zero =>
    intro l m i h0 h1 hL h2 h3
    refine ⟨l, rfl, fun _ _ => rfl, ?_, ?_⟩
    · refine Ev.step (fun _ => laws_markTokenS.l0.eq_2 ..) (ev_neg (by omega) (ev_ret ?_))
      simp
    · refine Ev.step (fun _ => laws_heldTokenS.l0.eq_2 ..) (ev_neg (by omega) (ev_ret ?_))
      simp
  | succ f ih =>
    intro l m i h0 h1 hL h2 h3
    obtain ⟨v, hv⟩ := mt m h2 (by omega)
    obtain ⟨l', hl, hk, hm, hh⟩ := ih (l.set i.toNat ⟨v, m + 1, m + 1 + 1⟩) (m + 1 + 1 + 1) (i + 1) (by omega) (by simp; omega) (by simp; omega) (by omega) (by omega)
    have e : m + 1 + 1 + 1 + 3 * (f : Int) = m + 3 * ((f + 1 : Nat) : Int) := by omega
    rw [e] at hm hh
    refine ⟨l', by simpa using hl, ?_, ?_, ?_⟩
    · intro j hj
      rw [hk j (by omega), List.getElem?_set_ne (by omega)]
    · refine Ev.step (fun _ => laws_markTokenS.l0.eq_2 ..) (ev_pos (by omega) (Ev.bind hv (ev_pos h0 (ev_some (ev_some ?_)))))
      rw [w64 (x := m + 1) (by omega) (by omega), w64 (x := m + 1 + 1) (by omega) (by omega), w64 (x := m + 1 + 1 + 1) (by omega) (by omega), w64 (x := i + 1) (by omega) (by omega)]
      rw [rdT_set _ _ _ h0 (by (try simp only [List.length_set]); omega), List.set_set, rdT_set _ _ _ h0 (by (try simp only [List.length_set]); omega), List.set_set]
      exact hm
    · have er : rd_T56 l' i = ⟨v, m + 1, m + 1 + 1⟩ := by
        unfold rd_T56
        rw [List.getD_eq_getElem?_getD, hk i.toNat (by omega), List.getElem?_set_self (by omega)]
        rfl
      refine Ev.step (fun _ => laws_heldTokenS.l0.eq_2 ..) (ev_pos (by simp at hl; omega) (ev_pos h0 (Ev.bind hv ?_)))
      rw [er, w64 (x := m + 1) (by omega) (by omega), w64 (x := m + 1 + 1) (by omega) (by omega), w64 (x := m + 1 + 1 + 1) (by omega) (by omega), w64 (x := i + 1) (by omega) (by omega)]
      exact ev_pos rfl (ev_pos rfl (ev_pos rfl hh))
theorem mhToken (l : List S56) (m : Int) (h0 : 0 ≤ m) (h1 : m + 3 * l.length ≤ 100000000000) :
    ∃ l', l'.length = l.length ∧ Ev (fun k => laws_markTokenS.f k l m) (m + 3 * l.length, l') ∧ Ev (fun k => laws_heldTokenS.f k l' m) (m + 3 * l.length) := by
  obtain ⟨l', hl, _, hm, hh⟩ := mhT_l l.length l m 0 (by omega) (by omega) (by omega) h0 h1
  exact ⟨l', hl, hm, hh⟩
theorem eqT_l (f : Nat) : ∀ (l : List S56) (i : Int), 0 ≤ i → i + f = l.length → (l.length : Int) ≤ 100000000000 → Ev (fun k => laws_eqTokenS.l0 k l l i) true := by
  induction f with
  | zero =>
    intro l i h0 h1 h2
    exact Ev.step (fun _ => laws_eqTokenS.l0.eq_2 ..) (ev_neg (by omega) (ev_ret rfl))
  | succ f ih =>
    intro l i h0 h1 h2
    refine Ev.step (fun _ => laws_eqTokenS.l0.eq_2 ..) (ev_pos (by omega) (ev_pos h0 (ev_pos (by omega) ?_)))
    refine ev_bindc (a := true) ?_ (ev_true rfl ?_)
    · unfold laws_eqToken.f
      rw [if_pos rfl, if_pos rfl, if_pos rfl]
    · rw [w64 (x := i + 1) (by omega) (by omega)]
      exact ih l (i + 1) (by omega) (by omega) h2
theorem eqToken (l : List S56) (h : (l.length : Int) ≤ 100000000000) : Ev (fun k => laws_eqTokenS.f k l l) true := by
  unfold laws_eqTokenS.f
  exact ev_pos rfl (eqT_l l.length l 0 (by omega) (by omega) h)
end Go.Proofs.Ytgglcpcfmhpcmaa.ZFnExactUnpackTokens
