import Derived.Test.YtgglcpcfmhpcmaaZFnExactPackTokensLzGood
/-! A row of tokens that came in: its size, and its copy of the program's own type. -/
namespace Go.Proofs.Ytgglcpcfmhpcmaa.ZFnExactPackTokens
open Go.RowKit Go.Proofs.Ytgglcpcfmhpcmaa.PFnExactPackTokens Go.Proofs.YtgglcpcfmhpcmaaW.PrintWords Go.Proofs.YtgglcpcfmhpcmaaW.PrintLast Go.Proofs.YtgglcpcfmhpcmaaW.PrintMore Go.Proofs.Ytgglcpcfmhpcmaa.E
set_option linter.unusedSimpArgs false
set_option linter.unusedVariables false

theorem sz_l (l : List S55) (hl : (l.length : Int) ≤ 1048576) (hw : ∀ x ∈ l, x.f0.size ≤ 9223372036854775807) : ∀ (f : Nat) (a i : Int), 0 ≤ a → a ≤ 1048576 → 0 ≤ i → i + f = l.length → ∃ r, Ev (fun k => laws_szTokenS.l0 k l a i) r := by
  intro f
  induction f with
  | zero =>
    intro a i h0 h1 h2 h3
    exact ⟨_, Ev.step (fun _ => laws_szTokenS.l0.eq_2 ..) (ev_neg (by omega) (ev_ret rfl))⟩
  | succ f ih =>
    intro a i h0 h1 h2 h3
    have hi : i.toNat < l.length := by omega
    have er : rd_T55 l i = l[i.toNat] := by
      unfold rd_T55
      rw [List.getD_eq_getElem?_getD, List.getElem?_eq_getElem hi]
      rfl
    have hs := hw _ (List.getElem_mem hi)
    rw [← er] at hs
    have e : wrap64 (a - ((rd_T55 l i).f0.size : Int)) = a - (rd_T55 l i).f0.size := w64 (by omega) (by omega)
    by_cases hn : a - ((rd_T55 l i).f0.size : Int) < 0
    · refine ⟨_, Ev.step (fun _ => laws_szTokenS.l0.eq_2 ..) (ev_pos (by omega) (ev_pos h2 (ev_bindc (a := -1) ?_ (ev_pos (by omega) (ev_ret rfl)))))⟩
      unfold laws_szToken.f
      rw [e, if_pos hn]
    · obtain ⟨r, hr⟩ := ih (a - ((rd_T55 l i).f0.size : Int)) (i + 1) (by omega) (by omega) (by omega) (by omega)
      refine ⟨r, Ev.step (fun _ => laws_szTokenS.l0.eq_2 ..) (ev_pos (by omega) (ev_pos h2 (ev_bindc (a := a - ((rd_T55 l i).f0.size : Int)) ?_ (ev_neg hn ?_))))⟩
      · unfold laws_szToken.f
        rw [e, if_neg hn]
      · rw [w64 (x := i + 1) (by omega) (by omega)]
        exact hr
theorem sz (l : List S55) (hm : l.length ≤ 9223372036854775807) (hw : ∀ x ∈ l, x.f0.size ≤ 9223372036854775807) : ∃ r, Ev (fun k => laws_szTokenS.f k l 1048576) r ∧ (r < 0 ∨ (l.length : Int) ≤ 1048576) := by
  unfold laws_szTokenS.f
  rw [w64 (x := 1048576 - (l.length : Int)) (by omega) (by omega)]
  by_cases hn : 1048576 - (l.length : Int) < 0
  · exact ⟨-1, ev_pos hn (ev_ret rfl), .inl (by omega)⟩
  · obtain ⟨r, hr⟩ := sz_l l (by omega) hw l.length (1048576 - (l.length : Int)) 0 (by omega) (by omega) (by omega) (by omega)
    exact ⟨r, ev_neg hn hr, .inr (by omega)⟩
def conv (l : List S55) : List S56 := l.map fun t => ⟨t.f0, t.f1, t.f2⟩
theorem to_l (l : List S55) (hl : (l.length : Int) ≤ 1048576) : ∀ (f : Nat) (x : List S56) (i : Int), 0 ≤ i → i + f = l.length → x.length = l.length → (∀ j : Nat, j < i → x[j]? = (conv l)[j]?) → Ev (fun k => laws_toTokenS.l0 k l x i) (conv l) := by
  intro f
  induction f with
  | zero =>
    intro x i h0 h1 h2 h3
    refine Ev.step (fun _ => laws_toTokenS.l0.eq_2 ..) (ev_neg (by omega) (ev_ret ?_))
    refine List.ext_getElem? fun j => ?_
    by_cases hj : j < l.length
    · exact h3 j (by omega)
    · rw [List.getElem?_eq_none (by omega), List.getElem?_eq_none (by simp [conv]; omega)]
  | succ f ih =>
    intro x i h0 h1 h2 h3
    have hi : i.toNat < l.length := by omega
    have er : rd_T55 l i = l[i.toNat] := by
      unfold rd_T55
      rw [List.getD_eq_getElem?_getD, List.getElem?_eq_getElem hi]
      rfl
    refine Ev.step (fun _ => laws_toTokenS.l0.eq_2 ..) (ev_pos (by omega) (ev_pos h0 (ev_bindc (a := ((rd_T55 l i).f0, (rd_T55 l i).f1, (rd_T55 l i).f2)) rfl (ev_pos (by omega) ?_))))
    rw [w64 (x := i + 1) (by omega) (by omega)]
    refine ih _ _ (by omega) (by omega) (by simpa using h2) ?_
    intro j hj
    by_cases hji : j = i.toNat
    · rw [hji, List.getElem?_set_self (by omega), er]
      simp [conv, List.getElem?_eq_getElem hi]
    · rw [List.getElem?_set_ne (by omega)]
      exact h3 j (by omega)
theorem toS (l : List S55) (hl : (l.length : Int) ≤ 1048576) : Ev (fun k => laws_toTokenS.f k l) (conv l) := by
  unfold laws_toTokenS.f
  exact ev_pos (by omega) (ev_pos (by omega) (to_l l hl l.length _ 0 (by omega) (by omega) (by simp) (fun j hj => by omega)))
theorem conv_len (l : List S55) : (conv l).length = l.length := by simp [conv]
theorem eqT_l (f : Nat) : ∀ (l : List S56) (i : Int), 0 ≤ i → i + f = l.length → (l.length : Int) ≤ 100000000000 → Ev (fun k => laws_eqTokenS.l0 k l l i) true := by
  induction f with
  | zero =>
    intro l i h0 h1 h2
    exact Ev.step (fun _ => laws_eqTokenS.l0.eq_2 ..) (ev_neg (by omega) (ev_ret rfl))
  | succ f ih =>
    intro l i h0 h1 h2
    refine Ev.step (fun _ => laws_eqTokenS.l0.eq_2 ..) (ev_pos (by omega) (ev_pos h0 (ev_pos (by omega) ?_)))
    refine ev_bindc (a := true) ?_ (ev_true rfl ?_)
    · unfold laws_eqToken.f
      rw [if_pos rfl, if_pos rfl, if_pos rfl]
    · rw [w64 (x := i + 1) (by omega) (by omega)]
      exact ih l (i + 1) (by omega) (by omega) h2
theorem eqToken (l : List S56) (h : (l.length : Int) ≤ 100000000000) : Ev (fun k => laws_eqTokenS.f k l l) true := by
  unfold laws_eqTokenS.f
  exact ev_pos rfl (eqT_l l.length l 0 (by omega) (by omega) h)
end Go.Proofs.Ytgglcpcfmhpcmaa.ZFnExactPackTokens
