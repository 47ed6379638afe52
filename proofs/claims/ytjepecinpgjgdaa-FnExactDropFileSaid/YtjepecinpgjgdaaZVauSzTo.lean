import Derived.Test.YtjepecinpgjgdaaZVauEq
import Derived.Test.YtjepecinpgjgdaaYVaulawsA
import Derived.Test.YtjepecinpgjgdaaLoops
/-! A vault that came in: its size, its copy of the program's own type, and. -/
namespace Go.Proofs.Ytjepecinpgjgdaa.ZVau
open Go.RowKit Go.Proofs.Ytjepecinpgjgdaa.PVau Go.Proofs.YtjepecinpgjgdaaW.PrintWords Go.Proofs.YtjepecinpgjgdaaW.PrintLast Go.Proofs.YtjepecinpgjgdaaW.PrintMore Go.Proofs.Ytjepecinpgjgdaa.E
set_option linter.unusedSimpArgs false
set_option linter.unusedVariables false
theorem szKeptS (l : List LK) (a : Int) (h0 : 0 ≤ a) (h1 : a ≤ 1048576) (hm : l.length ≤ 9223372036854775807) (hw : ∀ x ∈ l, x.f0.size ≤ 9223372036854775807) :
  ∃ r, (r < 0 ∨ (0 ≤ r ∧ r ≤ 1048576 ∧ (l.length : Int) ≤ 1048576 ∧ ∀ x ∈ l, x.f0.size ≤ 1048576)) ∧ Ev (fun k => laws_szKeptS.f k l a) r := by
 unfold laws_szKeptS.f
 rw [w64 (x := a - (l.length : Int)) (by omega) (by omega)]
 by_cases hn : a - (l.length : Int) < 0
 ·exact ⟨-1, .inl (by omega), ev_pos hn (ev_ret rfl)⟩
 ·obtain ⟨r, hp, hr⟩ := ex_loop (fun k (a : Int) i => laws_szKeptS.l0 k l a i) l.length (fun i a => 0 ≤ a ∧ a ≤ 1048576 ∧ ∀ j : Nat, (j : Int) < i → ∀ x, l[j]? = some x → x.f0.size ≤ 1048576)
   (fun r => r < 0 ∨ (0 ≤ r ∧ r ≤ 1048576 ∧ (l.length : Int) ≤ 1048576 ∧ ∀ x ∈ l, x.f0.size ≤ 1048576))
   (fun s hs => ⟨s, .inr ⟨hs.1, hs.2.1, by omega, fun x hx => by
    obtain ⟨j, hj, rfl⟩ := List.getElem_of_mem hx
    exact hs.2.2 j (by omega) _ (List.getElem?_eq_getElem hj)⟩, Ev.step (fun _ => laws_szKeptS.l0.eq_2 ..) (ev_neg (by omega) (ev_ret rfl))⟩)
   (fun s i h2 h3 hs => by
    have hi : i.toNat < l.length := by omega
    have er : rd_T108 l i = l[i.toNat] := getD_at l _ i hi
    have hx := hw _ (List.getElem_mem hi)
    rw [← er] at hx
    have e : wrap64 (s - ((rd_T108 l i).f0.size : Int)) = s - (rd_T108 l i).f0.size := w64 (by omega) (by omega)
    by_cases hn : s - ((rd_T108 l i).f0.size : Int) < 0
    ·refine .inl ⟨-1, .inl (by omega), Ev.step (fun _ => laws_szKeptS.l0.eq_2 ..) (ev_pos (by omega) (ev_pos h2 (ev_bindc (a := -1) ?_ (ev_pos (by omega) (ev_ret rfl)))))⟩
     unfold laws_szKept.f
     rw [e, if_pos hn]
    ·refine .inr ⟨s - ((rd_T108 l i).f0.size : Int), ⟨by omega, by omega, fun j hj x hjx => ?_⟩, fun r hr => Ev.step (fun _ => laws_szKeptS.l0.eq_2 ..) (ev_pos (by omega) (ev_pos h2 (ev_bindc (a := s - ((rd_T108 l i).f0.size : Int)) ?_ (ev_neg hn ?_))))⟩
     ·by_cases hji : j = i.toNat
      ·subst hji
       rw [List.getElem?_eq_getElem hi] at hjx
       obtain rfl := Option.some.inj hjx
       rw [← er]; omega
      ·exact hs.2.2 j (by omega) x hjx
     ·unfold laws_szKept.f
      rw [e, if_neg hn]
     ·rw [w64 (x := i + 1) (by omega) (by omega)]
      exact hr) (a - (l.length : Int)) ⟨by omega, by omega, fun j hj => by omega⟩
  exact ⟨r, hp, ev_neg hn hr⟩
theorem szFileS (l : List LF) (a : Int) (h0 : 0 ≤ a) (h1 : a ≤ 1048576) (hm : l.length ≤ 9223372036854775807) (hw : ∀ x ∈ l, x.f0.length ≤ 9223372036854775807) :
  ∃ r, (r < 0 ∨ (0 ≤ r ∧ r ≤ 1048576 ∧ (l.length : Int) ≤ 1048576 ∧ ∀ x ∈ l, x.f0.length ≤ 1048576)) ∧ Ev (fun k => laws_szFileS.f k l a) r := by
 unfold laws_szFileS.f
 rw [w64 (x := a - (l.length : Int)) (by omega) (by omega)]
 by_cases hn : a - (l.length : Int) < 0
 ·exact ⟨-1, .inl (by omega), ev_pos hn (ev_ret rfl)⟩
 ·obtain ⟨r, hp, hr⟩ := ex_loop (fun k (a : Int) i => laws_szFileS.l0 k l a i) l.length (fun i a => 0 ≤ a ∧ a ≤ 1048576 ∧ ∀ j : Nat, (j : Int) < i → ∀ x, l[j]? = some x → x.f0.length ≤ 1048576)
   (fun r => r < 0 ∨ (0 ≤ r ∧ r ≤ 1048576 ∧ (l.length : Int) ≤ 1048576 ∧ ∀ x ∈ l, x.f0.length ≤ 1048576))
   (fun s hs => ⟨s, .inr ⟨hs.1, hs.2.1, by omega, fun x hx => by
    obtain ⟨j, hj, rfl⟩ := List.getElem_of_mem hx
    exact hs.2.2 j (by omega) _ (List.getElem?_eq_getElem hj)⟩, Ev.step (fun _ => laws_szFileS.l0.eq_2 ..) (ev_neg (by omega) (ev_ret rfl))⟩)
   (fun s i h2 h3 hs => by
    have hi : i.toNat < l.length := by omega
    have er : rd_T110 l i = l[i.toNat] := getD_at l _ i hi
    have hx := hw _ (List.getElem_mem hi)
    rw [← er] at hx
    have e : wrap64 (s - ((rd_T110 l i).f0.length : Int)) = s - (rd_T110 l i).f0.length := w64 (by omega) (by omega)
    by_cases hn : s - ((rd_T110 l i).f0.length : Int) < 0
    ·refine .inl ⟨-1, .inl (by omega), Ev.step (fun _ => laws_szFileS.l0.eq_2 ..) (ev_pos (by omega) (ev_pos h2 (ev_bindc (a := -1) ?_ (ev_pos (by omega) (ev_ret rfl)))))⟩
     unfold laws_szFile.f laws_szIntS.f
     rw [e, if_pos hn]
     rfl
    ·refine .inr ⟨s - ((rd_T110 l i).f0.length : Int), ⟨by omega, by omega, fun j hj x hjx => ?_⟩, fun r hr => Ev.step (fun _ => laws_szFileS.l0.eq_2 ..) (ev_pos (by omega) (ev_pos h2 (ev_bindc (a := s - ((rd_T110 l i).f0.length : Int)) ?_ (ev_neg hn ?_))))⟩
     ·by_cases hji : j = i.toNat
      ·subst hji
       rw [List.getElem?_eq_getElem hi] at hjx
       obtain rfl := Option.some.inj hjx
       rw [← er]; omega
      ·exact hs.2.2 j (by omega) x hjx
     ·unfold laws_szFile.f laws_szIntS.f
      rw [e, if_neg hn]
      simp only [Option.bind_some]
      rw [if_neg hn]
     ·rw [w64 (x := i + 1) (by omega) (by omega)]
      exact hr) (a - (l.length : Int)) ⟨by omega, by omega, fun j hj => by omega⟩
  exact ⟨r, hp, ev_neg hn hr⟩
/-- What a vault's size says, where it isn't too large. -/
def Small (l0 : List LK) (l1 : List LF) : Prop := ((l0.length : Int) ≤ 1048576 ∧ ∀ x ∈ l0, x.f0.size ≤ 1048576) ∧ ((l1.length : Int) ≤ 1048576 ∧ ∀ x ∈ l1, x.f0.length ≤ 1048576)
theorem szVault (l0 : List LK) (l1 : List LF) (hm0 : l0.length ≤ 9223372036854775807) (hw0 : ∀ x ∈ l0, x.f0.size ≤ 9223372036854775807) (hm1 : l1.length ≤ 9223372036854775807) (hw1 : ∀ x ∈ l1, x.f0.length ≤ 9223372036854775807) :
  ∃ r, (r < 0 ∨ (0 ≤ r ∧ r ≤ 1048576 ∧ Small l0 l1)) ∧ Ev (fun k => laws_szVault.f k l0 l1 1048576) r := by
 unfold laws_szVault.f
 obtain ⟨r, hp, hr⟩ := szKeptS l0 1048576 (by omega) (by omega) hm0 hw0
 by_cases hn : r < 0
 ·exact ⟨-1, .inl (by omega), Ev.bind hr (ev_pos hn (ev_ret rfl))⟩
 ·obtain ⟨a1, a2, a3, a4⟩ := hp.resolve_left hn
  obtain ⟨q, hq, hqr⟩ := szFileS l1 r a1 a2 hm1 hw1
  by_cases hn2 : q < 0
  ·exact ⟨-1, .inl (by omega), Ev.bind hr (ev_neg hn (Ev.bind hqr (ev_pos hn2 (ev_ret rfl))))⟩
  ·obtain ⟨b1, b2, b3, b4⟩ := hq.resolve_left hn2
   exact ⟨q, .inr ⟨b1, b2, ⟨a3, a4⟩, b3, b4⟩, Ev.bind hr (ev_neg hn (Ev.bind hqr (ev_neg hn2 (ev_ret rfl))))⟩
def cK (x : LK) : IK := ⟨x.f0, x.f1⟩
def cF (x : LF) : IF := ⟨x.f0⟩
theorem toKeptS (l : List LK) (hl : (l.length : Int) ≤ 1048576) : Ev (fun k => laws_toKeptS.f k l) (l.map cK) := by
 unfold laws_toKeptS.f
 refine ev_pos (by omega) (ev_pos (by omega) ?_)
 refine to_loop l cK (fun k x i => laws_toKeptS.l0 k l x i) _ (by simp) (fun x i hi h0 h1 hx r hr => ?_) _ (Ev.step (fun _ => laws_toKeptS.l0.eq_2 ..) (ev_neg (by omega) (ev_ret rfl)))
 have er : rd_T108 l i = l[i.toNat] := getD_at l _ i hi
 refine Ev.step (fun _ => laws_toKeptS.l0.eq_2 ..) (ev_pos (by omega) (ev_pos h0 (ev_bindc (a := ((rd_T108 l i).f0, (rd_T108 l i).f1)) rfl (ev_pos (by omega) ?_))))
 rw [w64 (x := i + 1) (by omega) (by omega), er]
 exact hr
theorem toIntS (l : List Int) (hl : (l.length : Int) ≤ 1048576) : Ev (fun k => laws_toIntS.f k l) l := by
 unfold laws_toIntS.f
 refine ev_pos (by omega) (ev_pos (by omega) ?_)
 refine to_loop l (fun x => x) (fun k x i => laws_toIntS.l0 k l x i) _ (by simp) (fun x i hi h0 h1 hx r hr => ?_) _ (Ev.step (fun _ => laws_toIntS.l0.eq_2 ..) (ev_neg (by omega) (ev_ret (by simp))))
 have er : rd l i = l[i.toNat] := getD_at l _ i hi
 refine Ev.step (fun _ => laws_toIntS.l0.eq_2 ..) (ev_pos (by omega) (ev_pos h0 (ev_pos (by omega) ?_)))
 rw [w64 (x := i + 1) (by omega) (by omega), er]
 exact hr
theorem toFileS (l : List LF) (hl : (l.length : Int) ≤ 1048576) (hw : ∀ x ∈ l, x.f0.length ≤ 1048576) : Ev (fun k => laws_toFileS.f k l) (l.map cF) := by
 unfold laws_toFileS.f
 refine ev_pos (by omega) (ev_pos (by omega) ?_)
 refine to_loop l cF (fun k x i => laws_toFileS.l0 k l x i) _ (by simp) (fun x i hi h0 h1 hx r hr => ?_) _ (Ev.step (fun _ => laws_toFileS.l0.eq_2 ..) (ev_neg (by omega) (ev_ret rfl)))
 have er : rd_T110 l i = l[i.toNat] := getD_at l _ i hi
 have h2 := hw _ (List.getElem_mem hi)
 rw [← er] at h2
 refine Ev.step (fun _ => laws_toFileS.l0.eq_2 ..) (ev_pos (by omega) (ev_pos h0 (Ev.bind (a := (rd_T110 l i).f0) ?_ (ev_pos (by omega) ?_))))
 ·unfold laws_toFile.f
  exact Ev.bind (toIntS _ (by omega)) (ev_ret rfl)
 ·rw [w64 (x := i + 1) (by omega) (by omega), er]
  exact hr
theorem toVault (l0 : List LK) (l1 : List LF) (h : Small l0 l1) : Ev (fun k => laws_toVault.f k l0 l1) (l0.map cK, l1.map cF) := by
 unfold laws_toVault.f
 exact Ev.bind (toKeptS l0 h.1.1) (Ev.bind (toFileS l1 h.2.1 h.2.2) (ev_ret rfl))
theorem map_cK (l : List LK) : (l.map cK).length = l.length := by simp
theorem map_cF (l : List LF) : (l.map cF).length = l.length := by simp
theorem mem_cF {l : List LF} {n : Nat} (h : ∀ x ∈ l, x.f0.length ≤ n) : ∀ x ∈ l.map cF, (x.f0.length : Int) ≤ n := by
 intro x hx
 obtain ⟨y, hy, rfl⟩ := List.mem_map.1 hx
 have := h y hy
 show ((y.f0.length : Nat) : Int) ≤ n
 omega
end Go.Proofs.Ytjepecinpgjgdaa.ZVau
