import Derived.Test.YtacfalpgmibfnaaYCowlawsA
import Derived.Test.YtacfalpgmibfnaaLoops
/-! A cow that came in: its size, its copy of the program's own type, and a cow is like itself. -/
namespace Go.Proofs.Ytacfalpgmibfnaa.ZCow
open Go.RowKit Go.Proofs.Ytacfalpgmibfnaa.PCow Go.Proofs.YtacfalpgmibfnaaW.PrintWords Go.Proofs.YtacfalpgmibfnaaW.PrintLast Go.Proofs.YtacfalpgmibfnaaW.PrintMore Go.Proofs.Ytacfalpgmibfnaa.E
set_option linter.unusedSimpArgs false
set_option linter.unusedVariables false
abbrev LC := S99
abbrev IC := S68
theorem szCell1 (x : LC) (s : Int) (h0 : 0 ≤ s) (h1 : s ≤ 1048576) (hw : x.f1.size ≤ 9223372036854775807) (hv : x.f2.length ≤ 9223372036854775807) :
    ∃ r, laws_szCell.f x.f0 x.f1 x.f2 s = some r ∧ (r < 0 ∨ (0 ≤ r ∧ r ≤ s ∧ x.f2.length ≤ 1048576)) := by
  unfold laws_szCell.f laws_szIntS.f
  rw [w64 (x := s - (x.f1.size : Int)) (by omega) (by omega)]
  by_cases hn : s - (x.f1.size : Int) < 0
  · rw [if_pos hn]; exact ⟨-1, rfl, .inl (by omega)⟩
  · rw [if_neg hn, w64 (x := s - (x.f1.size : Int) - (x.f2.length : Int)) (by omega) (by omega)]
    by_cases hm : s - (x.f1.size : Int) - (x.f2.length : Int) < 0
    · rw [if_pos hm]; exact ⟨-1, rfl, .inl (by omega)⟩
    · rw [if_neg hm]
      refine ⟨s - (x.f1.size : Int) - (x.f2.length : Int), ?_, .inr ⟨by omega, by omega, by omega⟩⟩
      simp only [Option.bind_some]
      rw [if_neg hm]
theorem szCellS (l : List LC) (a : Int) (h0 : 0 ≤ a) (h1 : a ≤ 1048576) (hm : l.length ≤ 9223372036854775807) (hw : ∀ x ∈ l, x.f1.size ≤ 9223372036854775807 ∧ x.f2.length ≤ 9223372036854775807) :
    ∃ r, (r < 0 ∨ (0 ≤ r ∧ r ≤ 1048576 ∧ (l.length : Int) ≤ 1048576 ∧ ∀ x ∈ l, x.f2.length ≤ 1048576)) ∧ Ev (fun k => laws_szCellS.f k l a) r := by
  unfold laws_szCellS.f
  rw [w64 (x := a - (l.length : Int)) (by omega) (by omega)]
  by_cases hn : a - (l.length : Int) < 0
  · exact ⟨-1, .inl (by omega), ev_pos hn (ev_ret rfl)⟩
  · obtain ⟨r, hp, hr⟩ := ex_loop (fun k (a : Int) i => laws_szCellS.l0 k l a i) l.length (fun i a => 0 ≤ a ∧ a ≤ 1048576 ∧ ∀ j : Nat, (j : Int) < i → ∀ x, l[j]? = some x → x.f2.length ≤ 1048576)
      (fun r => r < 0 ∨ (0 ≤ r ∧ r ≤ 1048576 ∧ (l.length : Int) ≤ 1048576 ∧ ∀ x ∈ l, x.f2.length ≤ 1048576))
      (fun s hs => ⟨s, .inr ⟨hs.1, hs.2.1, by omega, fun x hx => by
        obtain ⟨j, hj, rfl⟩ := List.getElem_of_mem hx
        exact hs.2.2 j (by omega) _ (List.getElem?_eq_getElem hj)⟩, Ev.step (fun _ => laws_szCellS.l0.eq_2 ..) (ev_neg (by omega) (ev_ret rfl))⟩)
      (fun s i h2 h3 hs => by
        have hi : i.toNat < l.length := by omega
        have er : rd_T99 l i = l[i.toNat] := getD_at l _ i hi
        have hx := hw _ (List.getElem_mem hi)
        rw [← er] at hx
        obtain ⟨q, e, hq⟩ := szCell1 (rd_T99 l i) s hs.1 hs.2.1 hx.1 hx.2
        by_cases hn : q < 0
        · exact .inl ⟨-1, .inl (by omega), Ev.step (fun _ => laws_szCellS.l0.eq_2 ..) (ev_pos (by omega) (ev_pos h2 (ev_bindc e (ev_pos hn (ev_ret rfl)))))⟩
        · obtain ⟨q1, q2, q3⟩ := hq.resolve_left hn
          refine .inr ⟨q, ⟨q1, by omega, fun j hj x hjx => ?_⟩, fun r hr => Ev.step (fun _ => laws_szCellS.l0.eq_2 ..) (ev_pos (by omega) (ev_pos h2 (ev_bindc e (ev_neg hn ?_))))⟩
          · by_cases hji : j = i.toNat
            · subst hji
              rw [List.getElem?_eq_getElem hi] at hjx
              obtain rfl := Option.some.inj hjx
              rw [← er]; exact q3
            · exact hs.2.2 j (by omega) x hjx
          · rw [w64 (x := i + 1) (by omega) (by omega)]
            exact hr) (a - (l.length : Int)) ⟨by omega, by omega, fun j hj => by omega⟩
    exact ⟨r, hp, ev_neg hn hr⟩
def Small (l0 : List LC) (l1 : List Int) : Prop := ((l0.length : Int) ≤ 1048576 ∧ ∀ x ∈ l0, x.f2.length ≤ 1048576) ∧ (l1.length : Int) ≤ 1048576
theorem szCow (l0 : List LC) (l1 : List Int) (a : Int) (hm0 : l0.length ≤ 9223372036854775807) (hw0 : ∀ x ∈ l0, x.f1.size ≤ 9223372036854775807 ∧ x.f2.length ≤ 9223372036854775807) (hm1 : l1.length ≤ 9223372036854775807) :
    ∃ r, (r < 0 ∨ Small l0 l1) ∧ Ev (fun k => laws_szCow.f k l0 l1 a 1048576) r := by
  unfold laws_szCow.f
  obtain ⟨r, hp, hr⟩ := szCellS l0 1048576 (by omega) (by omega) hm0 hw0
  by_cases hn : r < 0
  · exact ⟨-1, .inl (by omega), Ev.bind hr (ev_pos hn (ev_ret rfl))⟩
  · obtain ⟨a1, a2, a3, a4⟩ := hp.resolve_left hn
    have e : laws_szIntS.f l1 r = some (if r - (l1.length : Int) < 0 then -1 else r - (l1.length : Int)) := by
      unfold laws_szIntS.f
      rw [w64 (x := r - (l1.length : Int)) (by omega) (by omega)]
      split <;> rfl
    by_cases hn2 : r - (l1.length : Int) < 0
    · rw [if_pos hn2] at e
      exact ⟨-1, .inl (by omega), Ev.bind hr (ev_neg hn (ev_bindc e (ev_pos (by omega) (ev_ret rfl))))⟩
    · rw [if_neg hn2] at e
      exact ⟨_, .inr ⟨⟨a3, a4⟩, by omega⟩, Ev.bind hr (ev_neg hn (ev_bindc e (ev_neg hn2 (ev_ret rfl))))⟩
def cC (x : LC) : IC := ⟨x.f0, x.f1, x.f2⟩
theorem toIntS (l : List Int) (hl : (l.length : Int) ≤ 1048576) : Ev (fun k => laws_toIntS.f k l) l := by
  unfold laws_toIntS.f
  refine ev_pos (by omega) (ev_pos (by omega) ?_)
  refine to_loop l (fun x => x) (fun k x i => laws_toIntS.l0 k l x i) _ (by simp) (fun x i hi h0 h1 hx r hr => ?_) _ (Ev.step (fun _ => laws_toIntS.l0.eq_2 ..) (ev_neg (by omega) (ev_ret (by simp))))
  have er : rd l i = l[i.toNat] := getD_at l _ i hi
  refine Ev.step (fun _ => laws_toIntS.l0.eq_2 ..) (ev_pos (by omega) (ev_pos h0 (ev_pos (by omega) ?_)))
  rw [w64 (x := i + 1) (by omega) (by omega), er]
  exact hr
theorem toCellS (l : List LC) (hl : (l.length : Int) ≤ 1048576) (hw : ∀ x ∈ l, x.f2.length ≤ 1048576) : Ev (fun k => laws_toCellS.f k l) (l.map cC) := by
  unfold laws_toCellS.f
  refine ev_pos (by omega) (ev_pos (by omega) ?_)
  refine to_loop l cC (fun k x i => laws_toCellS.l0 k l x i) _ (by simp) (fun x i hi h0 h1 hx r hr => ?_) _ (Ev.step (fun _ => laws_toCellS.l0.eq_2 ..) (ev_neg (by omega) (ev_ret rfl)))
  have er : rd_T99 l i = l[i.toNat] := getD_at l _ i hi
  have h2 := hw _ (List.getElem_mem hi)
  rw [← er] at h2
  refine Ev.step (fun _ => laws_toCellS.l0.eq_2 ..) (ev_pos (by omega) (ev_pos h0 (Ev.bind (a := ((rd_T99 l i).f0, (rd_T99 l i).f1, (rd_T99 l i).f2)) ?_ (ev_pos (by omega) ?_))))
  · unfold laws_toCell.f
    exact Ev.bind (toIntS _ (by omega)) (ev_ret rfl)
  · rw [w64 (x := i + 1) (by omega) (by omega), er]
    exact hr
theorem toCow (l0 : List LC) (l1 : List Int) (a : Int) (h : Small l0 l1) : Ev (fun k => laws_toCow.f k l0 l1 a) (l0.map cC, l1, a) := by
  unfold laws_toCow.f
  exact Ev.bind (toCellS l0 h.1.1 h.1.2) (Ev.bind (toIntS l1 h.2) (ev_ret rfl))
theorem eqIntS (l : List Int) (h : (l.length : Int) ≤ 100000000000) : Ev (fun k => laws_eqIntS.f k l l) true := by
  unfold laws_eqIntS.f
  refine ev_pos rfl (up_loop (fun k i => laws_eqIntS.l0 k l l i) l.length true (Ev.step (fun _ => laws_eqIntS.l0.eq_2 ..) (ev_neg (by omega) (ev_ret rfl))) (fun i h0 h1 hr => ?_))
  refine Ev.step (fun _ => laws_eqIntS.l0.eq_2 ..) (ev_pos (by omega) (ev_pos h0 (ev_pos (by omega) (ev_pos rfl ?_))))
  rw [w64 (x := i + 1) (by omega) (by omega)]
  exact hr
theorem eqCellS (l : List IC) (h : (l.length : Int) ≤ 100000000000) (hw : ∀ x ∈ l, (x.f2.length : Int) ≤ 100000000000) : Ev (fun k => laws_eqCellS.f k l l) true := by
  unfold laws_eqCellS.f
  refine ev_pos rfl (up_loop (fun k i => laws_eqCellS.l0 k l l i) l.length true (Ev.step (fun _ => laws_eqCellS.l0.eq_2 ..) (ev_neg (by omega) (ev_ret rfl))) (fun i h0 h1 hr => ?_))
  have hi : i.toNat < l.length := by omega
  have er : rd_T68 l i = l[i.toNat] := getD_at l _ i hi
  have h2 := hw _ (List.getElem_mem hi)
  rw [← er] at h2
  refine Ev.step (fun _ => laws_eqCellS.l0.eq_2 ..) (ev_pos (by omega) (ev_pos h0 (ev_pos (by omega) (Ev.bind (a := true) ?_ (ev_true rfl ?_)))))
  · unfold laws_eqCell.f
    exact ev_pos rfl (ev_pos rfl (Ev.bind (eqIntS _ h2) (ev_true rfl (ev_ret rfl))))
  · rw [w64 (x := i + 1) (by omega) (by omega)]
    exact hr
theorem eqCow (l0 : List IC) (l1 : List Int) (a : Int) (h0 : (l0.length : Int) ≤ 100000000000) (h1 : (l1.length : Int) ≤ 100000000000) (hw : ∀ x ∈ l0, (x.f2.length : Int) ≤ 100000000000) : Ev (fun k => laws_eqCow.f k l0 l1 a l0 l1 a) true := by
  unfold laws_eqCow.f
  exact Ev.bind (eqCellS l0 h0 hw) (ev_true rfl (Ev.bind (eqIntS l1 h1) (ev_true rfl (ev_pos rfl (ev_ret rfl)))))
end Go.Proofs.Ytacfalpgmibfnaa.ZCow
