import Derived.Test.YthljjgolloiamaaDoorEv
import Derived.Test.YthljjgolloiamaaDoorYNamlawsA
import Derived.Test.YthljjgolloiamaaDoorYNamlawsE
import Derived.Test.YthljjgolloiamaaDoorYNamlawsT
import Derived.Test.YthljjgolloiamaaDoorXNamGoodS
import Derived.Test.YthljjgolloiamaaDoorYNamlawsheldNameS
import Derived.Test.YthljjgolloiamaaDoorYNamlawsmarkText
import Derived.Test.YthljjgolloiamaaDoorYNamlawsmarkStringS
import Derived.Test.YthljjgolloiamaaDoorYNamlawsheldStringS
import Derived.Test.YthljjgolloiamaaDoorYNamlawseqStringS
import Derived.Test.YthljjgolloiamaaDoorXNamGoodS
import Derived.Test.YthljjgolloiamaaDoorXNamSortS
import Derived.Sort.Walk0
import Derived.Test.YthljjgolloiamaaDoorXNamLFnExactPathsOf
import Derived.Test.YthljjgolloiamaaDoorWMore
import Derived.ChangeArms
import Derived.Deep.Slices
/-! Loops over a row, told once: a state, what holds of it, and one step. -/
namespace Go.Proofs.YthljjgolloiamaaDoor.E
open Go.RowKit Go.Proofs.YthljjgolloiamaaDoorW.PrintWords Go.Proofs.YthljjgolloiamaaDoorW.PrintMore
theorem st_loop {σ ρ : Type} (F : Nat → σ → Int → Option ρ) (n : Nat) (Inv : Int → σ → Prop)
    (hstep : ∀ (s : σ) (i : Int), 0 ≤ i → i < (n : Int) → Inv i s → ∃ s', Inv (i + 1) s' ∧ ∀ r, Ev (fun k => F k s' (i + 1)) r → Ev (fun k => F k s i) r) (s : σ) (h0 : Inv 0 s) :
    ∃ s', Inv (n : Int) s' ∧ ∀ r, Ev (fun k => F k s' n) r → Ev (fun k => F k s 0) r := by
  have key : ∀ (f : Nat) (s : σ) (i : Int), 0 ≤ i → i + f = n → Inv i s → ∃ s', Inv (n : Int) s' ∧ ∀ r, Ev (fun k => F k s' n) r → Ev (fun k => F k s i) r := by
    intro f
    induction f with
    | zero =>
      intro s i h1 h2 h3
      obtain rfl : i = n := by omega
      exact ⟨s, h3, fun _ h => h⟩
    | succ f ih =>
      intro s i h1 h2 h3
      obtain ⟨s1, h4, h5⟩ := hstep s i h1 (by omega) h3
      obtain ⟨s2, h6, h7⟩ := ih s1 (i + 1) (by omega) (by omega) h4
      exact ⟨s2, h6, fun r hr => h5 r (h7 r hr)⟩
  exact key n s 0 (by omega) (by omega) h0
theorem ex_loop {σ ρ : Type} (F : Nat → σ → Int → Option ρ) (n : Nat) (Inv : Int → σ → Prop) (Post : ρ → Prop)
    (hend : ∀ s, Inv (n : Int) s → ∃ r, Post r ∧ Ev (fun k => F k s n) r)
    (hstep : ∀ (s : σ) (i : Int), 0 ≤ i → i < (n : Int) → Inv i s → (∃ r, Post r ∧ Ev (fun k => F k s i) r) ∨ ∃ s', Inv (i + 1) s' ∧ ∀ r, Ev (fun k => F k s' (i + 1)) r → Ev (fun k => F k s i) r) (s : σ) (h0 : Inv 0 s) :
    ∃ r, Post r ∧ Ev (fun k => F k s 0) r := by
  have key : ∀ (f : Nat) (s : σ) (i : Int), 0 ≤ i → i + f = n → Inv i s → ∃ r, Post r ∧ Ev (fun k => F k s i) r := by
    intro f
    induction f with
    | zero =>
      intro s i h1 h2 h3
      obtain rfl : i = n := by omega
      exact hend s h3
    | succ f ih =>
      intro s i h1 h2 h3
      rcases hstep s i h1 (by omega) h3 with h4 | ⟨s1, h4, h5⟩
      · exact h4
      · obtain ⟨r, hp, hr⟩ := ih s1 (i + 1) (by omega) (by omega) h4
        exact ⟨r, hp, h5 r hr⟩
  exact key n s 0 (by omega) (by omega) h0
/-- A loop that only counts up. -/
theorem up_loop {ρ : Type} (F : Nat → Int → Option ρ) (n : Nat) (r : ρ) (hend : Ev (fun k => F k n) r)
    (hstep : ∀ i : Int, 0 ≤ i → i < (n : Int) → Ev (fun k => F k (i + 1)) r → Ev (fun k => F k i) r) : Ev (fun k => F k 0) r := by
  obtain ⟨_, _, h⟩ := st_loop (σ := Unit) (fun k _ i => F k i) n (fun i _ => ∀ j : Int, j = i → True) (fun _ i h0 h1 _ => ⟨(), fun _ _ => trivial, fun q hq => by
    by_cases e : q = r
    · subst e; exact hstep i h0 h1 hq
    · exfalso
      have key : ∀ (f : Nat) (i : Int), 0 ≤ i → i + f = n → Ev (fun k => F k i) r := by
        intro f
        induction f with
        | zero => intro i h1 h2; obtain rfl : i = n := by omega
                  exact hend
        | succ f ih => intro i h1 h2; exact hstep i h1 (by omega) (ih (i + 1) (by omega) (by omega))
      exact e (ev_unique hq (key (n - (i + 1)).toNat (i + 1) (by omega) (by omega)))⟩) () (fun _ _ => trivial)
  exact h r hend
/-- A row made element by element. -/
theorem to_loop {α β ρ : Type} (l : List α) (g : α → β) (F : Nat → List β → Int → Option ρ) (x0 : List β) (hx : x0.length = l.length)
    (hstep : ∀ (x : List β) (i : Int) (hi : i.toNat < l.length), 0 ≤ i → i < (l.length : Int) → x.length = l.length → ∀ r, Ev (fun k => F k (x.set i.toNat (g l[i.toNat])) (i + 1)) r → Ev (fun k => F k x i) r) (r : ρ)
    (hend : Ev (fun k => F k (l.map g) l.length) r) : Ev (fun k => F k x0 0) r := by
  obtain ⟨x, ⟨h1, h2⟩, h3⟩ := st_loop F l.length (fun i x => x.length = l.length ∧ ∀ j : Nat, (j : Int) < i → x[j]? = (l.map g)[j]?) (fun x i h0 hi hI => by
    have hi2 : i.toNat < l.length := by omega
    refine ⟨x.set i.toNat (g l[i.toNat]), ⟨by simpa using hI.1, fun j hj => ?_⟩, hstep x i hi2 h0 hi hI.1⟩
    by_cases hji : j = i.toNat
    · subst hji
      rw [List.getElem?_set_self (by omega)]
      simp [List.getElem?_eq_getElem hi2]
    · rw [List.getElem?_set_ne (by omega)]
      exact hI.2 j (by omega)) x0 ⟨hx, fun j hj => by omega⟩
  refine h3 r ?_
  have : x = l.map g := by
    refine List.ext_getElem? fun j => ?_
    by_cases hj : j < l.length
    · exact h2 j (by omega)
    · rw [List.getElem?_eq_none (by omega), List.getElem?_eq_none (by simp; omega)]
  rw [this]
  exact hend
theorem getD_at {α : Type} (l : List α) (d : α) (i : Int) (h : i.toNat < l.length) : l.getD i.toNat d = l[i.toNat] := by
  rw [List.getD_eq_getElem?_getD, List.getElem?_eq_getElem h]
  rfl
end Go.Proofs.YthljjgolloiamaaDoor.E
/-! A name space that came in: its size, its copy of the program's own type, and that it is like itself. -/
namespace Go.Proofs.YthljjgolloiamaaDoor.ZNam
open Go.RowKit Go.Proofs.YthljjgolloiamaaDoor.PNam Go.Proofs.YthljjgolloiamaaDoorW.PrintWords Go.Proofs.YthljjgolloiamaaDoorW.PrintLast Go.Proofs.YthljjgolloiamaaDoorW.PrintMore Go.Proofs.YthljjgolloiamaaDoor.E
set_option linter.unusedSimpArgs false
set_option linter.unusedVariables false
abbrev LN := S51
abbrev LI := S114
theorem szNameS (l : List LN) (a : Int) (h0 : 0 ≤ a) (h1 : a ≤ 1048576) (hm : l.length ≤ 9223372036854775807) (hw : ∀ x ∈ l, x.f0.size ≤ 9223372036854775807) :
    ∃ r, (r < 0 ∨ (0 ≤ r ∧ r ≤ 1048576 ∧ (l.length : Int) ≤ 1048576 ∧ ∀ x ∈ l, x.f0.size ≤ 1048576)) ∧ Ev (fun k => laws_szNameS.f k l a) r := by
  unfold laws_szNameS.f
  rw [w64 (x := a - (l.length : Int)) (by omega) (by omega)]
  by_cases hn : a - (l.length : Int) < 0
  · exact ⟨-1, .inl (by omega), ev_pos hn (ev_ret rfl)⟩
  · obtain ⟨r, hp, hr⟩ := ex_loop (fun k (a : Int) i => laws_szNameS.l0 k l a i) l.length (fun i a => 0 ≤ a ∧ a ≤ 1048576 ∧ ∀ j : Nat, (j : Int) < i → ∀ x, l[j]? = some x → x.f0.size ≤ 1048576)
      (fun r => r < 0 ∨ (0 ≤ r ∧ r ≤ 1048576 ∧ (l.length : Int) ≤ 1048576 ∧ ∀ x ∈ l, x.f0.size ≤ 1048576))
      (fun s hs => ⟨s, .inr ⟨hs.1, hs.2.1, by omega, fun x hx => by
        obtain ⟨j, hj, rfl⟩ := List.getElem_of_mem hx
        exact hs.2.2 j (by omega) _ (List.getElem?_eq_getElem hj)⟩, Ev.step (fun _ => laws_szNameS.l0.eq_2 ..) (ev_neg (by omega) (ev_ret rfl))⟩)
      (fun s i h2 h3 hs => by
        have hi : i.toNat < l.length := by omega
        have er : rd_T51 l i = l[i.toNat] := getD_at l _ i hi
        have hx := hw _ (List.getElem_mem hi)
        rw [← er] at hx
        have e : wrap64 (s - ((rd_T51 l i).f0.size : Int)) = s - (rd_T51 l i).f0.size := w64 (by omega) (by omega)
        by_cases hn : s - ((rd_T51 l i).f0.size : Int) < 0
        · refine .inl ⟨-1, .inl (by omega), Ev.step (fun _ => laws_szNameS.l0.eq_2 ..) (ev_pos (by omega) (ev_pos h2 (ev_bindc (a := -1) ?_ (ev_pos (by omega) (ev_ret rfl)))))⟩
          unfold laws_szName.f
          rw [e, if_pos hn]
        · refine .inr ⟨s - ((rd_T51 l i).f0.size : Int), ⟨by omega, by omega, fun j hj x hjx => ?_⟩, fun r hr => Ev.step (fun _ => laws_szNameS.l0.eq_2 ..) (ev_pos (by omega) (ev_pos h2 (ev_bindc (a := s - ((rd_T51 l i).f0.size : Int)) ?_ (ev_neg hn ?_))))⟩
          · by_cases hji : j = i.toNat
            · subst hji
              rw [List.getElem?_eq_getElem hi] at hjx
              obtain rfl := Option.some.inj hjx
              rw [← er]; omega
            · exact hs.2.2 j (by omega) x hjx
          · unfold laws_szName.f
            rw [e, if_neg hn]
          · rw [w64 (x := i + 1) (by omega) (by omega)]
            exact hr) (a - (l.length : Int)) ⟨by omega, by omega, fun j hj => by omega⟩
    exact ⟨r, hp, ev_neg hn hr⟩
/-- What the size of an inode says, where it isn't too large. -/
def SmI (v : LI) : Prop := (v.f2.length : Int) ≤ 1048576 ∧ ∀ x ∈ v.f2, x.f0.size ≤ 1048576
def SmN (l : List LI) : Prop := (l.length : Int) ≤ 1048576 ∧ ∀ v ∈ l, SmI v
theorem szInode (v : LI) (a : Int) (h0 : 0 ≤ a) (h1 : a ≤ 1048576) (hw : v.f2.length ≤ 9223372036854775807 ∧ ∀ x ∈ v.f2, x.f0.size ≤ 9223372036854775807) :
    ∃ r, (r < 0 ∨ (0 ≤ r ∧ r ≤ 1048576 ∧ SmI v)) ∧ Ev (fun k => laws_szInode.f k v.f0 v.f1 v.f2 a) r := by
  obtain ⟨r, hp, hr⟩ := szNameS v.f2 a h0 h1 hw.1 hw.2
  unfold laws_szInode.f
  by_cases hn : r < 0
  · exact ⟨-1, .inl (by omega), Ev.bind hr (ev_pos hn (ev_ret rfl))⟩
  · obtain ⟨a1, a2, a3, a4⟩ := hp.resolve_left hn
    exact ⟨r, .inr ⟨a1, a2, a3, a4⟩, Ev.bind hr (ev_neg hn (ev_ret rfl))⟩
theorem szInodeS (l : List LI) (a : Int) (h0 : 0 ≤ a) (h1 : a ≤ 1048576) (hm : l.length ≤ 9223372036854775807) (hw : ∀ v ∈ l, v.f2.length ≤ 9223372036854775807 ∧ ∀ x ∈ v.f2, x.f0.size ≤ 9223372036854775807) :
    ∃ r, (r < 0 ∨ (0 ≤ r ∧ r ≤ 1048576 ∧ SmN l)) ∧ Ev (fun k => laws_szInodeS.f k l a) r := by
  unfold laws_szInodeS.f
  rw [w64 (x := a - (l.length : Int)) (by omega) (by omega)]
  by_cases hn : a - (l.length : Int) < 0
  · exact ⟨-1, .inl (by omega), ev_pos hn (ev_ret rfl)⟩
  · obtain ⟨r, hp, hr⟩ := ex_loop (fun k (a : Int) i => laws_szInodeS.l0 k l a i) l.length (fun i a => 0 ≤ a ∧ a ≤ 1048576 ∧ ∀ j : Nat, (j : Int) < i → ∀ x, l[j]? = some x → SmI x)
      (fun r => r < 0 ∨ (0 ≤ r ∧ r ≤ 1048576 ∧ SmN l))
      (fun s hs => ⟨s, .inr ⟨hs.1, hs.2.1, by omega, fun x hx => by
        obtain ⟨j, hj, rfl⟩ := List.getElem_of_mem hx
        exact hs.2.2 j (by omega) _ (List.getElem?_eq_getElem hj)⟩, Ev.step (fun _ => laws_szInodeS.l0.eq_2 ..) (ev_neg (by omega) (ev_ret rfl))⟩)
      (fun s i h2 h3 hs => by
        have hi : i.toNat < l.length := by omega
        have er : rd_T114 l i = l[i.toNat] := getD_at l _ i hi
        have hx := hw _ (List.getElem_mem hi)
        rw [← er] at hx
        obtain ⟨q, hq, hqr⟩ := szInode (rd_T114 l i) s hs.1 hs.2.1 hx
        by_cases hn : q < 0
        · exact .inl ⟨-1, .inl (by omega), Ev.step (fun _ => laws_szInodeS.l0.eq_2 ..) (ev_pos (by omega) (ev_pos h2 (Ev.bind hqr (ev_pos hn (ev_ret rfl)))))⟩
        · obtain ⟨a1, a2, a3⟩ := hq.resolve_left hn
          refine .inr ⟨q, ⟨a1, a2, fun j hj x hjx => ?_⟩, fun r hr => Ev.step (fun _ => laws_szInodeS.l0.eq_2 ..) (ev_pos (by omega) (ev_pos h2 (Ev.bind hqr (ev_neg hn ?_))))⟩
          · by_cases hji : j = i.toNat
            · subst hji
              rw [List.getElem?_eq_getElem hi] at hjx
              obtain rfl := Option.some.inj hjx
              rw [← er]; exact a3
            · exact hs.2.2 j (by omega) x hjx
          · rw [w64 (x := i + 1) (by omega) (by omega)]
            exact hr) (a - (l.length : Int)) ⟨by omega, by omega, fun j hj => by omega⟩
    exact ⟨r, hp, ev_neg hn hr⟩
theorem szNames (l : List LI) (hm : l.length ≤ 9223372036854775807) (hw : ∀ v ∈ l, v.f2.length ≤ 9223372036854775807 ∧ ∀ x ∈ v.f2, x.f0.size ≤ 9223372036854775807) :
    ∃ r, (r < 0 ∨ (0 ≤ r ∧ r ≤ 1048576 ∧ SmN l)) ∧ Ev (fun k => laws_szNames.f k l 1048576) r := by
  obtain ⟨r, hp, hr⟩ := szInodeS l 1048576 (by omega) (by omega) hm hw
  unfold laws_szNames.f
  by_cases hn : r < 0
  · exact ⟨-1, .inl (by omega), Ev.bind hr (ev_pos hn (ev_ret rfl))⟩
  · exact ⟨r, hp, Ev.bind hr (ev_neg hn (ev_ret rfl))⟩
def cN (x : LN) : NL := ⟨x.f0, x.f1⟩
def cI (v : LI) : IN := ⟨v.f0, v.f1, v.f2.map cN⟩
theorem toNameS (l : List LN) (hl : (l.length : Int) ≤ 1048576) : Ev (fun k => laws_toNameS.f k l) (l.map cN) := by
  unfold laws_toNameS.f
  refine ev_pos (by omega) (ev_pos (by omega) ?_)
  refine to_loop l cN (fun k x i => laws_toNameS.l0 k l x i) _ (by simp) (fun x i hi h0 h1 hx r hr => ?_) _ (Ev.step (fun _ => laws_toNameS.l0.eq_2 ..) (ev_neg (by omega) (ev_ret rfl)))
  have er : rd_T51 l i = l[i.toNat] := getD_at l _ i hi
  refine Ev.step (fun _ => laws_toNameS.l0.eq_2 ..) (ev_pos (by omega) (ev_pos h0 (ev_bindc (a := ((rd_T51 l i).f0, (rd_T51 l i).f1)) rfl (ev_pos (by omega) ?_))))
  rw [w64 (x := i + 1) (by omega) (by omega), er]
  exact hr
theorem toInodeS (l : List LI) (h : SmN l) : Ev (fun k => laws_toInodeS.f k l) (l.map cI) := by
  obtain ⟨hl, hw⟩ := h
  unfold laws_toInodeS.f
  refine ev_pos (by omega) (ev_pos (by omega) ?_)
  refine to_loop l cI (fun k x i => laws_toInodeS.l0 k l x i) _ (by simp) (fun x i hi h0 h1 hx r hr => ?_) _ (Ev.step (fun _ => laws_toInodeS.l0.eq_2 ..) (ev_neg (by omega) (ev_ret rfl)))
  have er : rd_T114 l i = l[i.toNat] := getD_at l _ i hi
  have h2 := hw _ (List.getElem_mem hi)
  rw [← er] at h2
  refine Ev.step (fun _ => laws_toInodeS.l0.eq_2 ..) (ev_pos (by omega) (ev_pos h0 (Ev.bind (a := ((rd_T114 l i).f0, (rd_T114 l i).f1, (rd_T114 l i).f2.map cN)) ?_ (ev_pos (by omega) ?_))))
  · unfold laws_toInode.f
    exact Ev.bind (toNameS _ h2.1) (ev_ret rfl)
  · rw [w64 (x := i + 1) (by omega) (by omega), er]
    exact hr
theorem toNames (l : List LI) (h : SmN l) : Ev (fun k => laws_toNames.f k l) (l.map cI) := by
  unfold laws_toNames.f
  exact Ev.bind (toInodeS l h) (ev_ret rfl)
theorem eqNameS (l : List NL) (h : (l.length : Int) ≤ 100000000000) : Ev (fun k => laws_eqNameS.f k l l) true := by
  unfold laws_eqNameS.f
  refine ev_pos rfl (up_loop (fun k i => laws_eqNameS.l0 k l l i) l.length true (Ev.step (fun _ => laws_eqNameS.l0.eq_2 ..) (ev_neg (by omega) (ev_ret rfl))) (fun i h0 h1 hr => ?_))
  refine Ev.step (fun _ => laws_eqNameS.l0.eq_2 ..) (ev_pos (by omega) (ev_pos h0 (ev_pos (by omega) (ev_bindc (a := true) ?_ (ev_true rfl ?_)))))
  · unfold laws_eqName.f
    rw [if_pos rfl, if_pos rfl]
  · rw [w64 (x := i + 1) (by omega) (by omega)]
    exact hr
theorem eqInodeS (l : List IN) (h : (l.length : Int) ≤ 100000000000) (hw : ∀ x ∈ l, (x.f2.length : Int) ≤ 100000000000) : Ev (fun k => laws_eqInodeS.f k l l) true := by
  unfold laws_eqInodeS.f
  refine ev_pos rfl (up_loop (fun k i => laws_eqInodeS.l0 k l l i) l.length true (Ev.step (fun _ => laws_eqInodeS.l0.eq_2 ..) (ev_neg (by omega) (ev_ret rfl))) (fun i h0 h1 hr => ?_))
  have hi : i.toNat < l.length := by omega
  have er : rd_T76 l i = l[i.toNat] := getD_at l _ i hi
  have h2 := hw _ (List.getElem_mem hi)
  rw [← er] at h2
  refine Ev.step (fun _ => laws_eqInodeS.l0.eq_2 ..) (ev_pos (by omega) (ev_pos h0 (ev_pos (by omega) (Ev.bind (a := true) ?_ (ev_true rfl ?_)))))
  · unfold laws_eqInode.f
    exact ev_neg (by simp) (ev_pos rfl (Ev.bind (eqNameS _ h2) (ev_true rfl (ev_ret rfl))))
  · rw [w64 (x := i + 1) (by omega) (by omega)]
    exact hr
theorem eqNames (l : List LI) (h : SmN l) : Ev (fun k => laws_eqNames.f k (l.map cI) (l.map cI)) true := by
  unfold laws_eqNames.f
  refine Ev.bind (eqInodeS _ (by rw [List.length_map]; have := h.1; omega) (fun x hx => ?_)) (ev_true rfl (ev_ret rfl))
  obtain ⟨v, hv, rfl⟩ := List.mem_map.1 hx
  have := (h.2 v hv).1
  show (((v.f2.map cN).length : Nat) : Int) ≤ 100000000000
  rw [List.length_map]; omega
theorem szOk_map (l : List LI) (h : SmN l) : szOk (l.map cI) = true := by
  unfold szOk
  refine List.all_eq_true.2 fun x hx => ?_
  obtain ⟨v, hv, rfl⟩ := List.mem_map.1 hx
  refine List.all_eq_true.2 fun y hy => ?_
  obtain ⟨z, hz, rfl⟩ := List.mem_map.1 hy
  have := (h.2 v hv).2 z hz
  exact decide_eq_true (show z.f0.size ≤ 9223372036854775807 by omega)
end Go.Proofs.YthljjgolloiamaaDoor.ZNam
/-! Marks of the names' laws: what is marked is held. -/
namespace Go.Proofs.YthljjgolloiamaaDoor.ZNam
open Go.RowKit Go.Proofs.YthljjgolloiamaaDoor.PNam Go.Proofs.YthljjgolloiamaaDoorW.PrintWords Go.Proofs.YthljjgolloiamaaDoorW.PrintLast Go.Proofs.YthljjgolloiamaaDoorW.PrintMore Go.Proofs.YthljjgolloiamaaDoor.E
set_option linter.unusedSimpArgs false
set_option linter.unusedVariables false
theorem str_size (xs : List Int) : (strOfNums xs).size = xs.length := by
  simp [strOfNums, ByteArray.size]
theorem mt_l : ∀ (f : Nat) (x : Int) (s : ByteArray), 0 ≤ x → x ≤ 100000000000000 → x < 2 ^ f → s.size + f ≤ 1000 → ∃ v, Ev (fun k => laws_markText.l0 k x s) v := by
  intro f
  induction f with
  | zero =>
    intro x s h0 hm h1 h2
    refine ⟨_, Ev.step (fun _ => laws_markText.l0.eq_2 ..) (ev_neg (by simp at h1; omega) (ev_pos (by omega) (ev_ret rfl)))⟩
  | succ f ih =>
    intro x s h0 hm h1 h2
    by_cases h : x > 0
    · have hp : (2 : Int) ^ (f + 1) = 2 * 2 ^ f := by rw [Int.pow_succ]; omega
      have hx : x / 10 < 2 ^ f := by omega
      have e : wrap64 (Int.tdiv x 10) = x / 10 := by
        rw [tdiv_pos h0]
        exact w64 (by omega) (by omega)
      obtain ⟨v, hv⟩ := ih (x / 10) (strOfNums ([(wrap64 (48 + (Int.tmod x 10))) % 256] : List Int) ++ s) (by omega) (by omega) hx (by rw [ByteArray.size_append, str_size]; simp; omega)
      refine ⟨v, Ev.step (fun _ => laws_markText.l0.eq_2 ..) (ev_pos h (ev_some (ev_pos ?_ ?_)))⟩
      · rw [str_size]; simp; omega
      · rw [e]; exact hv
    · exact ⟨_, Ev.step (fun _ => laws_markText.l0.eq_2 ..) (ev_neg h (ev_pos (by omega) (ev_ret rfl)))⟩
theorem mt (m : Int) (h0 : 0 ≤ m) (h1 : m < 100000000000000) : ∃ v, Ev (fun k => laws_markText.f k m) v := by
  obtain ⟨v, hv⟩ := mt_l 64 m ⟨#[]⟩ h0 (by omega) (by simp; omega) (by simp [ByteArray.size])
  by_cases h : m ≤ 0
  · exact ⟨_, by unfold laws_markText.f; exact ev_pos h (ev_ret rfl)⟩
  · exact ⟨v, by unfold laws_markText.f; exact ev_neg h hv⟩
theorem rd_nm (xs : List NL) (i : Int) : rd_T60 xs i = xs.getD i.toNat z60 := rfl
theorem mhName_l (f : Nat) : ∀ (l : List NL) (m i : Int), 0 ≤ i → i + f = l.length → (l.length : Int) ≤ 10000000000 → 0 ≤ m → m + 2 * f ≤ 10000000000000 →
    ∃ l', l'.length = l.length ∧ (∀ j : Nat, j < i → l'[j]? = l[j]?) ∧ Ev (fun k => laws_markNameS.l0 k l m i) (m + 2 * f, l') ∧ Ev (fun k => laws_heldNameS.l0 k l' m i) (m + 2 * f) := by
  induction f with
  | zero =>
    intro l m i h0 h1 hL h2 h3
    refine ⟨l, rfl, fun _ _ => rfl, ?_, ?_⟩
    · exact Ev.step (fun _ => laws_markNameS.l0.eq_2 ..) (ev_neg (by omega) (ev_ret (by simp)))
    · exact Ev.step (fun _ => laws_heldNameS.l0.eq_2 ..) (ev_neg (by omega) (ev_ret (by simp)))
  | succ f ih =>
    intro l m i h0 h1 hL h2 h3
    obtain ⟨v, hv⟩ := mt m h2 (by omega)
    have e1 : wrap64 (m + 1) = m + 1 := w64 (by omega) (by omega)
    have e2 : wrap64 (m + 1 + 1) = m + 2 := by rw [w64 (by omega) (by omega)]; omega
    have e3 : wrap64 (i + 1) = i + 1 := w64 (by omega) (by omega)
    obtain ⟨l', hl, hk, hm, hh⟩ := ih (l.set i.toNat ⟨v, m + 1⟩) (m + 2) (i + 1) (by omega) (by simp; omega) (by simp; omega) (by omega) (by omega)
    have e : m + 2 + 2 * (f : Int) = m + 2 * ((f + 1 : Nat) : Int) := by omega
    rw [e] at hm hh
    refine ⟨l', by simpa using hl, ?_, ?_, ?_⟩
    · intro j hj
      rw [hk j (by omega), List.getElem?_set_ne (by omega)]
    · refine Ev.step (fun _ => laws_markNameS.l0.eq_2 ..) (ev_pos (by omega) (Ev.bind hv (ev_pos h0 (ev_some ?_))))
      have er : (rd_T60 (l.set i.toNat ⟨v, (rd_T60 l i).f1⟩) i).f0 = v := by
        rw [rd_nm, List.getD_eq_getElem?_getD, List.getElem?_set_self (by omega)]
        rfl
      rw [er, e1, e2, e3, List.set_set]
      exact hm
    · have er : rd_T60 l' i = ⟨v, m + 1⟩ := by
        rw [rd_nm, List.getD_eq_getElem?_getD, hk i.toNat (by omega), List.getElem?_set_self (by omega)]
        rfl
      refine Ev.step (fun _ => laws_heldNameS.l0.eq_2 ..) (ev_pos (by simp at hl; omega) (ev_pos h0 (Ev.bind hv ?_)))
      rw [er, e1, e2, e3]
      exact ev_pos rfl (ev_pos rfl hh)
theorem mhName (l : List NL) (m : Int) (h0 : 0 ≤ m) (h1 : m ≤ 5000000000000) (h2 : (l.length : Int) ≤ 10000000) :
    ∃ l', l'.length = l.length ∧ Ev (fun k => laws_markNameS.f k l m) (m + 2 * l.length, l') ∧ Ev (fun k => laws_heldNameS.f k l' m) (m + 2 * l.length) := by
  obtain ⟨l', hl, _, hm, hh⟩ := mhName_l l.length l m 0 (by omega) (by omega) (by omega) h0 (by omega)
  exact ⟨l', hl, hm, hh⟩
theorem mkI_l (n : Nat) (hn : (n : Int) ≤ 1048576) (f : Nat) : ∀ (l : List IN) (m i : Int), l.length = n → (∀ x ∈ l, (x.f2.length : Int) ≤ 1048576) → 0 ≤ i → i + f = n → 0 ≤ m → m + f * 2097200 ≤ 5000000000000 →
    ∃ l' m', m ≤ m' ∧ Ev (fun k => markIM k n f i m l) (m', l') := by
  induction f with
  | zero =>
    intro l m i hl hk h0 h1 h2 h3
    exact ⟨l, m, by omega, ev_neg (by omega) (ev_ret rfl)⟩
  | succ f ih =>
    intro l m i hl hk h0 h1 h2 h3
    have hil : i.toNat < l.length := by omega
    have er : rd_T76 l i = l[i.toNat] := by
      rw [rd_in, List.getD_eq_getElem?_getD, List.getElem?_eq_getElem hil]
      rfl
    have hx := hk _ (List.getElem_mem hil)
    rw [← er] at hx
    have e1 : wrap64 (m + 1) = m + 1 := w64 (by omega) (by omega)
    have e2 : wrap64 (m + 1 + 1) = m + 2 := by rw [w64 (by omega) (by omega)]; omega
    obtain ⟨q, hq, hq1, _⟩ := mhName (rd_T76 l i).f2 (m + 2) (by omega) (by omega) (by omega)
    obtain ⟨l', m', hm1, hm⟩ := ih (l.set i.toNat ⟨Int.tmod m 3 == 0, m + 1, q⟩) (m + 2 + 2 * (rd_T76 l i).f2.length) (i + 1) (by simpa using hl) (fun x hx2 => by
      rcases List.mem_or_eq_of_mem_set hx2 with h4 | h4
      · exact hk x h4
      · subst h4
        show (q.length : Int) ≤ 1048576
        omega) (by omega) (by omega) (by omega) (by omega)
    refine ⟨l', m', by omega, ev_pos (by omega) ?_⟩
    rw [e1, e2]
    exact Ev.bind hq1 hm
theorem mkNames (l : List IN) (h0 : (l.length : Int) ≤ 1048576) (hk : ∀ x ∈ l, (x.f2.length : Int) ≤ 1048576) : ∃ m l', 0 ≤ m ∧ Ev (fun k => laws_markNames.f k l 1) (m, l') := by
  obtain ⟨l', m', hm1, hm⟩ := mkI_l l.length h0 l.length l 1 0 rfl hk (by omega) (by omega) (by omega) (by omega)
  exact ⟨m', l', by omega, hm⟩
end Go.Proofs.YthljjgolloiamaaDoor.ZNam
/-! A row of texts: what is marked is held, and a row is like itself. -/
namespace Go.Proofs.YthljjgolloiamaaDoor.ZNam
open Go.RowKit Go.Proofs.YthljjgolloiamaaDoor.PNam Go.Proofs.YthljjgolloiamaaDoorW.PrintWords Go.Proofs.YthljjgolloiamaaDoorW.PrintLast Go.Proofs.YthljjgolloiamaaDoorW.PrintMore Go.Proofs.YthljjgolloiamaaDoor.E
set_option linter.unusedSimpArgs false
set_option linter.unusedVariables false

theorem mhString_l (f : Nat) : ∀ (l : List ByteArray) (m i : Int), 0 ≤ i → i + f = l.length → (l.length : Int) ≤ 100000000000 → 0 ≤ m → m + f ≤ 100000000000 →
    ∃ l', l'.length = l.length ∧ (∀ j : Nat, j < i → l'[j]? = l[j]?) ∧ Ev (fun k => laws_markStringS.l0 k l m i) (m + f, l') ∧ Ev (fun k => laws_heldStringS.l0 k l' m i) (m + f) := by
  induction f with
  | zero =>
    intro l m i h0 h1 hL h2 h3
    refine ⟨l, rfl, fun _ _ => rfl, ?_, ?_⟩
    · exact Ev.step (fun _ => laws_markStringS.l0.eq_2 ..) (ev_neg (by omega) (ev_ret (by simp)))
    · exact Ev.step (fun _ => laws_heldStringS.l0.eq_2 ..) (ev_neg (by omega) (ev_ret (by simp)))
  | succ f ih =>
    intro l m i h0 h1 hL h2 h3
    obtain ⟨v, hv⟩ := mt m h2 (by omega)
    obtain ⟨l', hl, hk, hm, hh⟩ := ih (l.set i.toNat v) (m + 1) (i + 1) (by omega) (by simp; omega) (by simp; omega) (by omega) (by omega)
    have e : m + 1 + (f : Int) = m + ((f + 1 : Nat) : Int) := by omega
    rw [e] at hm hh
    refine ⟨l', by simpa using hl, ?_, ?_, ?_⟩
    · intro j hj
      rw [hk j (by omega), List.getElem?_set_ne (by omega)]
    · refine Ev.step (fun _ => laws_markStringS.l0.eq_2 ..) (ev_pos (by omega) (Ev.bind hv (ev_pos h0 ?_)))
      rw [w64 (x := m + 1) (by omega) (by omega), w64 (x := i + 1) (by omega) (by omega)]
      exact hm
    · have er : rdOf ByteArray.empty l' i = v := by
        unfold rdOf
        rw [List.getD_eq_getElem?_getD, hk i.toNat (by omega), List.getElem?_set_self (by omega)]
        rfl
      refine Ev.step (fun _ => laws_heldStringS.l0.eq_2 ..) (ev_pos (by simp at hl; omega) (ev_pos h0 (Ev.bind hv (ev_pos (by rw [er]) ?_))))
      rw [w64 (x := m + 1) (by omega) (by omega), w64 (x := i + 1) (by omega) (by omega)]
      exact hh
theorem mhString (l : List ByteArray) (m : Int) (h0 : 0 ≤ m) (h1 : m + l.length ≤ 100000000000) :
    ∃ l', l'.length = l.length ∧ Ev (fun k => laws_markStringS.f k l m) (m + l.length, l') ∧ Ev (fun k => laws_heldStringS.f k l' m) (m + l.length) := by
  obtain ⟨l', hl, _, hm, hh⟩ := mhString_l l.length l m 0 (by omega) (by omega) (by omega) h0 h1
  exact ⟨l', hl, hm, hh⟩
theorem eqString_l (f : Nat) : ∀ (l : List ByteArray) (i : Int), 0 ≤ i → i + f = l.length → (l.length : Int) ≤ 100000000000 → Ev (fun k => laws_eqStringS.l0 k l l i) true := by
  induction f with
  | zero =>
    intro l i h0 h1 h2
    exact Ev.step (fun _ => laws_eqStringS.l0.eq_2 ..) (ev_neg (by omega) (ev_ret rfl))
  | succ f ih =>
    intro l i h0 h1 h2
    refine Ev.step (fun _ => laws_eqStringS.l0.eq_2 ..) (ev_pos (by omega) (ev_pos h0 (ev_pos (by omega) (ev_pos rfl ?_))))
    rw [w64 (x := i + 1) (by omega) (by omega)]
    exact ih l (i + 1) (by omega) (by omega) h2
theorem eqString (l : List ByteArray) (h : (l.length : Int) ≤ 100000000000) : Ev (fun k => laws_eqStringS.f k l l) true := by
  unfold laws_eqStringS.f
  exact ev_pos rfl (eqString_l l.length l 0 (by omega) (by omega) h)
end Go.Proofs.YthljjgolloiamaaDoor.ZNam
/-! Texts put in one by one are the sorted row of them. -/
namespace Go.Proofs.YthljjgolloiamaaDoor.ZNam
open Go.RowKit Go.Proofs.YthljjgolloiamaaDoor.PNam Go.Proofs.YthljjgolloiamaaDoorW.PrintWords Go.Proofs.YthljjgolloiamaaDoorW.PrintLast Go.Proofs.YthljjgolloiamaaDoorW.PrintMore Go.Proofs.YthljjgolloiamaaDoor.E
set_option linter.unusedSimpArgs false
set_option linter.unusedVariables false
abbrev tx (s : ByteArray) : List UInt8 := s.data.toList
abbrev AscT (l : List ByteArray) : Prop := l.Pairwise fun x y => tx x ≤ tx y
def insP (p : ByteArray) : List ByteArray → List ByteArray
  | [] => [p]
  | q :: r => if Op.bytesLess q.toList p.toList = true then q :: insP p r else p :: q :: r
theorem less_iff {a b : ByteArray} : Op.bytesLess a.toList b.toList = true ↔ tx a < tx b := by
  rw [ByteArray.toList_eq, ByteArray.toList_eq, bytesLess_eq, decide_eq_true_iff]
theorem less_no {a b : ByteArray} : ¬ Op.bytesLess a.toList b.toList = true ↔ tx b ≤ tx a := by
  rw [less_iff]; exact List.not_lt
theorem insP_perm (p : ByteArray) : ∀ l : List ByteArray, (insP p l).Perm (p :: l)
  | [] => .refl _
  | q :: r => by
    unfold insP
    split
    · exact ((insP_perm p r).cons q).trans (.swap p q r)
    · exact .refl _
theorem insP_asc (p : ByteArray) : ∀ {l : List ByteArray}, AscT l → AscT (insP p l)
  | [], _ => List.pairwise_singleton ..
  | q :: r, h => by
    obtain ⟨h1, h2⟩ := List.pairwise_cons.1 h
    unfold insP
    split
    · rename_i hlt
      refine List.pairwise_cons.2 ⟨fun z hz => ?_, insP_asc p h2⟩
      rcases List.mem_cons.1 ((insP_perm p r).mem_iff.1 hz) with e | e
      · subst e
        exact List.le_of_lt (less_iff.1 hlt)
      · exact h1 z e
    · rename_i hlt
      have hlt := less_no.1 hlt
      refine List.pairwise_cons.2 ⟨fun z hz => ?_, h⟩
      rcases List.mem_cons.1 hz with e | e
      · subst e; exact hlt
      · exact List.le_trans hlt (h1 z e)
def insAll (o : List ByteArray) : List ByteArray → List ByteArray
  | [] => o
  | p :: r => insAll (insP p o) r
theorem insAll_append : ∀ (a b o : List ByteArray), insAll o (a ++ b) = insAll (insAll o a) b
  | [], _, _ => rfl
  | p :: a, b, o => insAll_append a b (insP p o)
theorem insAll_perm : ∀ (l o : List ByteArray), (insAll o l).Perm (o ++ l)
  | [], o => by rw [insAll, List.append_nil]
  | p :: r, o => by
    rw [insAll]
    exact (insAll_perm r _).trans (((insP_perm p o).append_right r).trans List.perm_middle.symm)
theorem insAll_len (l o : List ByteArray) : (insAll o l).length = o.length + l.length := by rw [(insAll_perm l o).length_eq, List.length_append]
theorem insAll_asc : ∀ (l : List ByteArray) {o : List ByteArray}, AscT o → AscT (insAll o l)
  | [], _, h => h
  | p :: r, _, h => insAll_asc r (insP_asc p h)
theorem of_tx (s : ByteArray) : (⟨(tx s).toArray⟩ : ByteArray) = s := by simp [tx]
theorem sortB_perm (l : List ByteArray) : (sortB l).Perm l := by
  have h1 : (sortL l).Perm (l.map fun s => s.data.toList) := List.mergeSort_perm _ _
  have h2 := h1.map (fun s => (⟨s.toArray⟩ : ByteArray))
  rw [List.map_map] at h2
  have e : ((fun s : List UInt8 => (⟨s.toArray⟩ : ByteArray)) ∘ fun s : ByteArray => s.data.toList) = id := by
    funext s; exact of_tx s
  rw [e, List.map_id] at h2
  exact h2
theorem sortB_asc (l : List ByteArray) : AscT (sortB l) := by
  have h1 : (sortL l).Pairwise (fun x y => decide (x ≤ y) = true) := List.pairwise_mergeSort (fun a b c h1 h2 => (decide_eq_true (List.le_trans (of_decide_eq_true h1) (of_decide_eq_true h2) : a ≤ c) : decide (a ≤ c) = true)) (fun a b => by
    rw [Bool.or_eq_true, decide_eq_true_iff, decide_eq_true_iff]; exact List.le_total a b) _
  unfold sortB
  rw [AscT, List.pairwise_map]
  exact h1.imp fun h => of_decide_eq_true h
theorem sorted_is {o : List ByteArray} (ho : AscT o) (l : List ByteArray) : insAll o l = sortB (o ++ l) := by
  refine List.Perm.eq_of_pairwise (fun a b _ _ h1 h2 => ?_) (insAll_asc l ho) (sortB_asc _) ((insAll_perm l o).trans (sortB_perm _).symm)
  have := List.le_antisymm h1 h2
  rw [← of_tx a, ← of_tx b, this]
/-- The place that the loop comes to. -/
theorem insP_at (p : ByteArray) : ∀ (o : List ByteArray) (n : Nat), n ≤ o.length → (∀ j (h : j < o.length), j < n → Op.bytesLess o[j].toList p.toList = true) → (∀ h : n < o.length, ¬ Op.bytesLess o[n].toList p.toList = true) → insP p o = o.take n ++ p :: o.drop n
  | [], n, hn, _, _ => by
    obtain rfl : n = 0 := by simpa using hn
    rfl
  | q :: r, 0, _, _, h => by
    unfold insP
    have h0 : ¬ Op.bytesLess q.toList p.toList = true := h (by simp)
    rw [if_neg h0]
    rfl
  | q :: r, n + 1, hn, h1, h2 => by
    unfold insP
    have h0 : Op.bytesLess q.toList p.toList = true := h1 0 (by simp) (by omega)
    rw [if_pos h0, insP_at p r n (by simpa using hn) (fun j h hj => h1 (j + 1) (by simpa using h) (by omega)) (fun h => h2 (by simpa using h))]
    rfl
/-! The paths below an inode. -/
def Lev (l : List IN) : Nat → Nat → Prop
  | 0, k => (inoAt l k).f2 = []
  | m + 1, k => ∀ x ∈ (inoAt l k).f2, (1 ≤ x.f1 ∧ x.f1 < (l.length : Int)) ∧ Lev l m x.f1.toNat
theorem lev_of {l : List IN} (hr : ∀ k : Nat, ∀ x ∈ (inoAt l k).f2, 1 ≤ x.f1 ∧ x.f1 < (l.length : Int)) : ∀ (m f d : Nat) (W : List (Nat × Nat)) (S R : Nat → Int), G l W S R → (∀ k, 0 ≤ S k) → (f, d) ∈ W → d + m = 8 → Lev l m f := by
  intro m
  induction m with
  | zero =>
    intro f d W S R h hS hm hd
    have h1 := (h.pick hS (List.perm_cons_erase hm)).2.2
    show (inoAt l f).f2 = []
    cases hL : (inoAt l f).f2 with
    | nil => rfl
    | cons x r =>
      have h2 := (h1.deep (fun k => Int.le_trans (hS k) (up_le S f k)) (x.f1.toNat, d + 1) (List.mem_append_right _ (List.mem_map.2 ⟨x.f1.toNat, List.mem_map.2 ⟨x, by rw [hL]; exact List.mem_cons_self .., rfl⟩, rfl⟩))).1
      dsimp only at h2
      omega
  | succ m ih =>
    intro f d W S R h hS hm hd x hx
    have h1 := (h.pick hS (List.perm_cons_erase hm)).2.2
    exact ⟨hr f x hx, ih x.f1.toNat (d + 1) _ _ _ h1 (fun k => Int.le_trans (hS k) (up_le S f k)) (List.mem_append_right _ (List.mem_map.2 ⟨x.f1.toNat, List.mem_map.2 ⟨x, hx, rfl⟩, rfl⟩)) (by omega)⟩
theorem lev_root {l : List IN} (h : goodN l = true) : Lev l 8 0 := by
  obtain ⟨R, hR, _⟩ := (good_iff.1 (goodN_iff.1 h)).run
  have hB := bas_good h
  intro x hx
  exact ⟨hB.rng 0 x hx, lev_of hB.rng 7 x.f1.toNat 1 _ _ R hR (fun _ => Int.le_refl _) (List.mem_map.2 ⟨x.f1.toNat, List.mem_map.2 ⟨x, hx, rfl⟩, rfl⟩) (by omega)⟩
def ownP (p x : ByteArray) : ByteArray := p ++ ⟨#[47]⟩ ++ x
def pathsL (l : List IN) : Nat → Nat → ByteArray → List ByteArray
  | 0, _, _ => []
  | m + 1, k, p => (inoAt l k).f2.flatMap fun x => ownP p x.f0 :: pathsL l m x.f1.toNat (ownP p x.f0)
theorem pathsL_nil {l : List IN} {k : Nat} (h : (inoAt l k).f2 = []) : ∀ (m : Nat) (p : ByteArray), pathsL l m k p = []
  | 0, _ => rfl
  | m + 1, p => by rw [pathsL, h]; rfl
def manyP : Nat → Nat
  | 0 => 0
  | m + 1 => 20 * (1 + manyP m)
theorem flat_le {α β : Type} (f : α → List β) (b : Nat) : ∀ (L : List α), (∀ x ∈ L, (f x).length ≤ b) → (L.flatMap f).length ≤ L.length * b
  | [], _ => by simp
  | x :: r, h => by
    rw [List.flatMap_cons, List.length_append, List.length_cons, Nat.add_mul, Nat.one_mul]
    have h1 := flat_le f b r (fun y hy => h y (List.mem_cons_of_mem _ hy))
    have h2 := h x (List.mem_cons_self ..)
    omega
theorem pathsL_len {l : List IN} (hf : ∀ k : Nat, (inoAt l k).f2.length ≤ 20) : ∀ (m k : Nat) (p : ByteArray), (pathsL l m k p).length ≤ manyP m
  | 0, _, _ => Nat.le_refl _
  | m + 1, k, p => by
    rw [pathsL, manyP]
    refine Nat.le_trans (flat_le _ (1 + manyP m) _ (fun x _ => ?_)) (Nat.mul_le_mul_right _ (hf k))
    rw [List.length_cons]
    have := pathsL_len hf m x.f1.toNat (ownP p x.f0)
    omega
end Go.Proofs.YthljjgolloiamaaDoor.ZNam
/-! The plain law of PathsOf. -/
namespace Go.Proofs.YthljjgolloiamaaDoor.ZNam
open Go.RowKit Go.Proofs.YthljjgolloiamaaDoor.PNam Go.Proofs.YthljjgolloiamaaDoorW.PrintWords Go.Proofs.YthljjgolloiamaaDoorW.PrintLast Go.Proofs.YthljjgolloiamaaDoorW.PrintMore Go.Proofs.YthljjgolloiamaaDoor.E
set_option linter.unusedSimpArgs false
set_option linter.unusedVariables false
theorem okName_size {s : ByteArray} (h : okName s = true) : s.size ≤ 12 := by
  unfold okName at h
  simp only [Bool.and_eq_true, decide_eq_true_eq] at h
  omega
theorem ownP_size (p x : ByteArray) : (ownP p x).size = p.size + 1 + x.size := by
  unfold ownP
  rw [ByteArray.size_append, ByteArray.size_append]
  rfl
theorem own1_size (p : ByteArray) : (p ++ (⟨#[47]⟩ : ByteArray)).size = p.size + 1 := by
  rw [ByteArray.size_append]
  rfl
/-- The names of a directory, as the loops meet them. -/
structure Dir1 (l : List IN) (m : Nat) (L : List NL) (p : ByteArray) : Prop where
  kid : ∀ i : Nat, i < L.length → ∃ f : Nat, (rd_T60 L (i : Int)).f1 = (f : Int) ∧ f < l.length ∧ Lev l m f ∧ (rd_T60 L (i : Int)).f0.size ≤ 12
  few : L.length ≤ 20
  psz : p.size + 13 * (m + 1) ≤ 1000
def tailP (l : List IN) (m : Nat) (L : List NL) (p : ByteArray) (i : Nat) : List ByteArray := (L.drop i).flatMap fun x => ownP p x.f0 :: pathsL l m x.f1.toNat (ownP p x.f0)
theorem tailP_step {l : List IN} {m : Nat} {L : List NL} {p : ByteArray} {i f : Nat} (h : i < L.length) (hf : (rd_T60 L (i : Int)).f1 = (f : Int)) :
    tailP l m L p i = ownP p (rd_T60 L (i : Int)).f0 :: (pathsL l m f (ownP p (rd_T60 L (i : Int)).f0) ++ tailP l m L p (i + 1)) := by
  unfold tailP
  have hd : L.drop i = rd_T60 L (i : Int) :: L.drop (i + 1) := by rw [rd_name h]; exact List.drop_eq_getElem_cons h
  rw [hd, List.flatMap_cons, hf]
  rfl
theorem tailP_len {l : List IN} (hf : ∀ k : Nat, (inoAt l k).f2.length ≤ 20) (m : Nat) (L : List NL) (p : ByteArray) (i : Nat) : (tailP l m L p i).length ≤ (L.length - i) * (1 + manyP m) := by
  have h := flat_le (fun x : NL => ownP p x.f0 :: pathsL l m x.f1.toNat (ownP p x.f0)) (1 + manyP m) (L.drop i) (fun x _ => by
    rw [List.length_cons]
    have := pathsL_len hf m x.f1.toNat (ownP p x.f0)
    omega)
  rwa [List.length_drop] at h
theorem dir1_of {l : List IN} (hg : GoodS l) {m k : Nat} {p : ByteArray} (hk : k < l.length) (hl : Lev l (m + 1) k) (hp : p.size + 13 * (m + 1) ≤ 1000) : Dir1 l m (inoAt l k).f2 p := by
  have hi := hg.ino k hk
  refine ⟨fun i h => ?_, hi.few, hp⟩
  obtain ⟨⟨h1, h2⟩, h3⟩ := hl _ (rd_mem h)
  exact ⟨(rd_T60 (inoAt l k).f2 (i : Int)).f1.toNat, by omega, by omega, h3, okName_size (hi.nm i h).ok⟩
theorem below_i {l : List IN} (hg : GoodS l) : ∀ (m k : Nat) (p : ByteArray) (L : List ByteArray), Lev l m k → k < l.length → p.size + 13 * m ≤ 1000 → L.length + (pathsL l m k p).length ≤ 1000000000000 →
    Ev (fun K => impl_Names_pathsBelow.f K l (k : Int) p L) (L ++ pathsL l m k p) := by
  have hB := bas_of hg.n1 hg.n2 hg.ino
  intro m
  induction m with
  | zero =>
    intro k p L hl hk hp hL
    have h0 : (inoAt l k).f2 = [] := hl
    refine Ev.step (fun _ => impl_Names_pathsBelow.f.eq_2 ..) (ev_pos (by omega) (ev_pos (by omega) ?_))
    show Ev (fun K => impl_Names_pathsBelow.l0 K p L (inoAt l k).f2 ((inoAt l k).f2.length : Int) 0 l) _
    rw [h0]
    refine Ev.step (fun _ => impl_Names_pathsBelow.l0.eq_2 ..) (ev_neg (by simp) (ev_ret ?_))
    rw [pathsL, List.append_nil]
  | succ m ih =>
    intro k p L hl hk hp hL
    have hD := dir1_of hg hk hl hp
    refine Ev.step (fun _ => impl_Names_pathsBelow.f.eq_2 ..) (ev_pos (by omega) (ev_pos (by omega) ?_))
    show Ev (fun K => impl_Names_pathsBelow.l0 K p L (inoAt l k).f2 ((inoAt l k).f2.length : Int) 0 l) _
    rw [pathsL] at hL ⊢
    generalize (inoAt l k).f2 = X at hD hL ⊢
    have key : ∀ (f i : Nat) (L : List ByteArray), i + f = X.length → L.length + (tailP l m X p i).length ≤ 1000000000000 → Ev (fun K => impl_Names_pathsBelow.l0 K p L X (X.length : Int) (i : Int) l) (L ++ tailP l m X p i) := by
      intro f
      induction f with
      | zero =>
        intro i L hi hL
        refine Ev.step (fun _ => impl_Names_pathsBelow.l0.eq_2 ..) (ev_neg (by omega) (ev_ret ?_))
        unfold tailP
        rw [List.drop_of_length_le (by omega), List.flatMap_nil, List.append_nil]
      | succ f ihf =>
        intro i L hi hL
        have hil : i < X.length := by omega
        obtain ⟨q, hq, hql, hqv, hsz⟩ := hD.kid i hil
        have hX := hD.few
        have hP := hD.psz
        rw [tailP_step hil hq] at hL ⊢
        rw [List.length_cons, List.length_append] at hL
        have hz2 : (p ++ (⟨#[47]⟩ : ByteArray)).size + (rd_T60 X (i : Int)).f0.size ≤ 9223372036854775807 := by rw [own1_size]; omega
        have hzo : (ownP p (rd_T60 X (i : Int)).f0).size + 13 * m ≤ 1000 := by rw [ownP_size]; omega
        have hz2 := Aside0.mk hz2
        have hzo := Aside0.mk hzo
        have z0 : (i : Int) < (X.length : Int) := by omega
        have z1 : 0 ≤ (i : Int) := by omega
        have z2 : p.size + 1 ≤ 9223372036854775807 := by omega
        have z3 : L.length < 8796093022208 := by omega
        have z4 : 0 ≤ (q : Int) := by omega
        have z5 : (q : Int) < (l.length : Int) := by omega
        have z6 : i + 1 + f = X.length := by omega
        have ei := Aside0.mk (show wrap64 ((i : Int) + 1) = ((i + 1 : Nat) : Int) by rw [w64 (by omega) (by omega)]; omega)
        refine Ev.step (fun _ => impl_Names_pathsBelow.l0.eq_2 ..) (ev_pos z0 (ev_pos z1 (ev_pos z0 (ev_pos z2 (ev_pos hz2.out (ev_pos z3 (ev_some ?_)))))))
        rw [hq, ei.out]
        clear ei hz2 z0 z1 z2 z3
        refine ev_pos z4 (ev_pos z5 ?_)
        show Ev (fun K => if (inoAt l q).f0 = true then _ else _) _
        have e1 : L ++ ownP p (rd_T60 X (i : Int)).f0 :: (pathsL l m q (ownP p (rd_T60 X (i : Int)).f0) ++ tailP l m X p (i + 1)) = ((L ++ [ownP p (rd_T60 X (i : Int)).f0]) ++ pathsL l m q (ownP p (rd_T60 X (i : Int)).f0)) ++ tailP l m X p (i + 1) := by simp
        rw [e1]
        cases hd : (inoAt l q).f0 with
        | true =>
          refine ev_pos rfl (Ev.bind (ih q (ownP p (rd_T60 X (i : Int)).f0) (L ++ [ownP p (rd_T60 X (i : Int)).f0]) hqv hql hzo.out (by simp only [List.length_append, List.length_singleton]; omega)) ?_)
          exact ihf (i + 1) _ z6 (by simp only [List.length_append, List.length_singleton]; omega)
        | false =>
          refine ev_neg (by simp) ?_
          rw [pathsL_nil (hB.fil q hd), List.append_nil]
          exact ihf (i + 1) _ z6 (by simp only [List.length_append, List.length_singleton]; omega)
    exact key X.length 0 L (by omega) hL
theorem below_s {l : List IN} (hg : GoodS l) : ∀ (m k : Nat) (p : ByteArray) (L : List ByteArray), Lev l m k → k < l.length → p.size + 13 * m ≤ 1000 → L.length + (pathsL l m k p).length ≤ 1000000000000 →
    Ev (fun K => spec_l13Paths.f K l (k : Int) p L) (insAll L (pathsL l m k p)) := by
  intro m
  induction m with
  | zero =>
    intro k p L hl hk hp hL
    have h0 : (inoAt l k).f2 = [] := hl
    refine Ev.step (fun _ => spec_l13Paths.f.eq_2 ..) (ev_pos (by omega) (ev_pos (by omega) ?_))
    show Ev (fun K => spec_l13Paths.l0 K p L (inoAt l k).f2 ((inoAt l k).f2.length : Int) 0 l) _
    rw [h0]
    refine Ev.step (fun _ => spec_l13Paths.l0.eq_2 ..) (ev_neg (by simp) (ev_ret ?_))
    rw [pathsL, insAll]
  | succ m ih =>
    intro k p L hl hk hp hL
    have hD := dir1_of hg hk hl hp
    refine Ev.step (fun _ => spec_l13Paths.f.eq_2 ..) (ev_pos (by omega) (ev_pos (by omega) ?_))
    show Ev (fun K => spec_l13Paths.l0 K p L (inoAt l k).f2 ((inoAt l k).f2.length : Int) 0 l) _
    rw [pathsL] at hL ⊢
    generalize (inoAt l k).f2 = X at hD hL ⊢
    have key : ∀ (f i : Nat) (L : List ByteArray), i + f = X.length → L.length + (tailP l m X p i).length ≤ 1000000000000 → Ev (fun K => spec_l13Paths.l0 K p L X (X.length : Int) (i : Int) l) (insAll L (tailP l m X p i)) := by
      intro f
      induction f with
      | zero =>
        intro i L hi hL
        refine Ev.step (fun _ => spec_l13Paths.l0.eq_2 ..) (ev_neg (by omega) (ev_ret ?_))
        unfold tailP
        rw [List.drop_of_length_le (by omega), List.flatMap_nil, insAll]
      | succ f ihf =>
        intro i L hi hL
        have hil : i < X.length := by omega
        obtain ⟨q, hq, hql, hqv, hsz⟩ := hD.kid i hil
        have hX := hD.few
        have hP := hD.psz
        rw [tailP_step hil hq] at hL ⊢
        rw [List.length_cons, List.length_append] at hL
        have hz2 : (p ++ (⟨#[47]⟩ : ByteArray)).size + (rd_T60 X (i : Int)).f0.size ≤ 9223372036854775807 := by rw [own1_size]; omega
        have hzo : (ownP p (rd_T60 X (i : Int)).f0).size + 13 * m ≤ 1000 := by rw [ownP_size]; omega
        have hz2 := Aside0.mk hz2
        have hzo := Aside0.mk hzo
        have z0 : (i : Int) < (X.length : Int) := by omega
        have z1 : 0 ≤ (i : Int) := by omega
        have z2 : p.size + 1 ≤ 9223372036854775807 := by omega
        have z3 : L.length < 8796093022208 := by omega
        have z4 : 0 ≤ (q : Int) := by omega
        have z5 : (q : Int) < (l.length : Int) := by omega
        have z6 : i + 1 + f = X.length := by omega
        have ei := Aside0.mk (show wrap64 ((i : Int) + 1) = ((i + 1 : Nat) : Int) by rw [w64 (by omega) (by omega)]; omega)
        refine Ev.step (fun _ => spec_l13Paths.l0.eq_2 ..) (ev_pos z0 (ev_pos z1 (ev_pos z0 (ev_pos z2 (ev_pos hz2.out ?_)))))
        rw [hq]
        show Ev (fun K => spec_l13Paths.l1 K p L (ownP p (rd_T60 X (i : Int)).f0) 0 X (X.length : Int) (i : Int) l (rd_T60 X (i : Int)).f0 (q : Int)) _
        rw [insAll, insAll_append]
        generalize ownP p (rd_T60 X (i : Int)).f0 = o at hL hzo ⊢
        have cont : ∀ n : Nat, n ≤ L.length → insP o L = L.take n ++ o :: L.drop n → Ev (fun K => (spec_l13Paths.f K l (q : Int) o ((([] : List ByteArray) ++ L.take n) ++ [o] ++ L.drop n)).bind fun t => spec_l13Paths.l0 K p t X (X.length : Int) (wrap64 ((i : Int) + 1)) l) (insAll (insAll (insP o L) (pathsL l m q o)) (tailP l m X p (i + 1))) := by
          intro n hn e
          have e2 : (([] : List ByteArray) ++ L.take n) ++ [o] ++ L.drop n = insP o L := by rw [e]; simp
          have hil2 : (insP o L).length = L.length + 1 := by rw [(insP_perm o L).length_eq, List.length_cons]
          rw [e2, ei.out]
          refine Ev.bind (ih q o (insP o L) hqv hql hzo.out (by omega)) ?_
          refine ihf (i + 1) _ z6 ?_
          rw [insAll_len]
          omega
        have find : ∀ (g j : Nat), j + g = L.length → (∀ a (h : a < L.length), a < j → Op.bytesLess L[a].toList o.toList = true) → Ev (fun K => spec_l13Paths.l1 K p L o (j : Int) X (X.length : Int) (i : Int) l (rd_T60 X (i : Int)).f0 (q : Int)) (insAll (insAll (insP o L) (pathsL l m q o)) (tailP l m X p (i + 1))) := by
          intro g
          induction g with
          | zero =>
            intro j hj hlt
            have e := insP_at o L j (by omega) hlt (fun h => by omega)
            have ht : (L.take j).length = j := by rw [List.length_take]; omega
            refine Ev.step (fun _ => spec_l13Paths.l1.eq_2 ..) (ev_neg (by omega) (ev_pos (by omega) (ev_pos (by omega) (ev_some (ev_pos (by simp only [Int.toNat_natCast, ht, List.length_nil]; omega) (ev_some (ev_pos (by simp only [Int.toNat_natCast, List.length_append, ht, List.length_nil]; omega) (ev_some (ev_some (ev_pos (by simp only [Int.toNat_natCast, List.length_append, ht, List.length_nil, List.length_drop, List.length_singleton]; omega) ?_))))))))))
            rw [Int.toNat_natCast]
            exact cont j (by omega) e
          | succ g ihg =>
            intro j hj hlt
            have hjl : j < L.length := by omega
            have hr : rdOf ByteArray.empty L (j : Int) = L[j] := by
              unfold rdOf
              rw [Int.toNat_natCast, List.getD_eq_getElem?_getD, List.getElem?_eq_getElem hjl]; rfl
            by_cases hb : Op.bytesLess L[j].toList o.toList = true
            · refine Ev.step (fun _ => spec_l13Paths.l1.eq_2 ..) (ev_pos (by omega) (ev_pos (by omega) (ev_pos (by rw [hr]; exact hb) ?_)))
              rw [w64 (x := (j : Int) + 1) (by omega) (by omega)]
              exact ihg (j + 1) (by omega) (fun a h ha => by
                by_cases e : a = j
                · subst e; exact hb
                · exact hlt a h (by omega))
            · have e := insP_at o L j (by omega) hlt (fun _ => hb)
              have ht : (L.take j).length = j := by rw [List.length_take]; omega
              refine Ev.step (fun _ => spec_l13Paths.l1.eq_2 ..) (ev_pos (by omega) (ev_pos (by omega) (ev_neg (by rw [hr]; exact hb) (ev_pos (by omega) (ev_some (ev_pos (by simp only [Int.toNat_natCast, ht, List.length_nil]; omega) (ev_some (ev_pos (by simp only [Int.toNat_natCast, List.length_append, ht, List.length_nil]; omega) (ev_some (ev_some (ev_pos (by simp only [Int.toNat_natCast, List.length_append, ht, List.length_nil, List.length_drop, List.length_singleton]; omega) ?_)))))))))))
              rw [Int.toNat_natCast]
              exact cont j (by omega) e
        exact find L.length 0 (by omega) (fun a _ h => by omega)
    exact key X.length 0 L (by omega) hL
theorem pathsOf_both (l : List IN) (hsz : szOk l = true) : ∃ (ws : List ByteArray) (b : Bool), (ws.length : Int) ≤ 50000000000 ∧ Ev (fun k => spec_PathsOf.f k l) (ws, b) ∧ Ev (fun k => impl_PathsOf.f k l) (ws, b) := by
  have hgs : spec_GoodNames.f l = some (goodN l) := by unfold spec_GoodNames.f; rw [if_pos hsz]
  unfold spec_PathsOf.f impl_PathsOf.f
  cases hg : goodN l with
  | false =>
    rw [hg] at hgs
    exact ⟨[], false, by simp, ev_bindc hgs (ev_neg (by simp) (ev_ret rfl)), ev_neg (by simp) (ev_ret rfl)⟩
  | true =>
    rw [hg] at hgs
    have hG := good_iff.1 (goodN_iff.1 hg)
    have hl := lev_root hg
    have hB := bas_good hg
    have hn := hG.n1
    have hm := pathsL_len hB.few 8 0 (⟨#[]⟩ : ByteArray)
    have hm8 : manyP 8 = 26947368420 := by decide
    have hs := below_s hG 8 0 (⟨#[]⟩ : ByteArray) [(⟨#[47]⟩ : ByteArray)] hl (by omega) (by decide) (by rw [List.length_singleton]; omega)
    have hi := below_i hG 8 0 (⟨#[]⟩ : ByteArray) [(⟨#[47]⟩ : ByteArray)] hl (by omega) (by decide) (by rw [List.length_singleton]; omega)
    have he := sorted_is (o := [(⟨#[47]⟩ : ByteArray)]) (List.pairwise_singleton ..) (pathsL l 8 0 (⟨#[]⟩ : ByteArray))
    rw [he] at hs
    have hlen : ([(⟨#[47]⟩ : ByteArray)] ++ pathsL l 8 0 (⟨#[]⟩ : ByteArray)).length = 1 + (pathsL l 8 0 (⟨#[]⟩ : ByteArray)).length := by rw [List.length_append, List.length_singleton]
    refine ⟨_, true, ?_, ev_bindc hgs (ev_pos rfl (Ev.bind hs (ev_ret rfl))), ev_pos rfl (Ev.bind hi (ev_pos ?_ (ev_ret rfl)))⟩
    · rw [sortB_len]; omega
    · omega
theorem pathsOf_law (l : List LI) (hm : l.length ≤ 9223372036854775807) (hw : ∀ v ∈ l, v.f2.length ≤ 9223372036854775807 ∧ ∀ x ∈ v.f2, x.f0.size ≤ 9223372036854775807) : ∃ k, laws_FnExactPathsOf.ok k l := by
  obtain ⟨r, hr, ⟨K1, e1⟩⟩ := szNames l hm hw
  by_cases hn : r < 0
  · exact ⟨K1, .inl ⟨r, e1 _ (Nat.le_refl _), hn⟩⟩
  · obtain ⟨_, _, hs⟩ := hr.resolve_left hn
    have hk : ∀ x ∈ l.map cI, (x.f2.length : Int) ≤ 1048576 := fun x hx => by
      obtain ⟨v, hv, rfl⟩ := List.mem_map.1 hx
      have := (hs.2 v hv).1
      show (((v.f2.map cN).length : Nat) : Int) ≤ 1048576
      rw [List.length_map]; exact this
    have hlen : ((l.map cI).length : Int) ≤ 1048576 := by rw [List.length_map]; exact hs.1
    obtain ⟨ws, c, hwl, ⟨K2, e2⟩, ⟨K3, e3⟩⟩ := pathsOf_both (l.map cI) (szOk_map l hs)
    obtain ⟨K4, e4⟩ := toNames l hs
    obtain ⟨K5, e5⟩ := eqString ws (by omega)
    obtain ⟨K6, e6⟩ := eqNames l hs
    obtain ⟨m, l', hm0, ⟨K7, e7⟩⟩ := mkNames (l.map cI) hlen hk
    obtain ⟨ws', _, ⟨K8, e8⟩, ⟨K9, e9⟩⟩ := mhString ws 1 (by omega) (by omega)
    exact ⟨K1 + K2 + K3 + K4 + K5 + K6 + K7 + K8 + K9, .inr ⟨r, _, ws, c, m, l', _, ws', e1 _ (by omega), hn, e4 _ (by omega), e2 _ (by omega), e3 _ (by omega), e5 _ (by omega), e6 _ (by omega), e7 _ (by omega), by omega, e8 _ (by omega), e9 _ (by omega), by omega⟩⟩
end Go.Proofs.YthljjgolloiamaaDoor.ZNam
namespace Go.Proofs.YthljjgolloiamaaDoor
open Go.RowKit
theorem Pure.FnExactPathsOf (l : List ZNam.LI) (hw : (l.length ≤ 9223372036854775807 ∧ ∀ y0 ∈ l, (True) ∧ ((Lit.int .i64 y0.f1).wf = true) ∧ (y0.f2.length ≤ 9223372036854775807 ∧ ∀ y1 ∈ y0.f2, (y1.f0.size ≤ 9223372036854775807) ∧ ((Lit.int .i64 y1.f1).wf = true)))) :
    ∃ k, PNam.laws_FnExactPathsOf.ok k l :=
  ZNam.pathsOf_law l hw.1 (fun v hv => ⟨(hw.2 v hv).2.2.1, fun x hx => ((hw.2 v hv).2.2.2 x hx).1⟩)
end Go.Proofs.YthljjgolloiamaaDoor
/-! What comes in, laid open: a value that can be read as data is told by its kind. -/
namespace Go.Proofs.YthljjgolloiamaaDoor.O
open Go.ChangeShapes Go.WideShapes Go.Deep Go.RowKit Go.Proofs.YthljjgolloiamaaDoorW.PrintWords
set_option linter.unusedSimpArgs false
set_option linter.unusedVariables false

section
variable {H : Type} {enc : TypeId × Value → H} {P : Program} {w : World} {base : Nat} {spare : Nat → Bool} {held : Bool}

def Opens (enc : TypeId × Value → H) (P : Program) (w : World) (base : Nat) (spare : Nat → Bool) (held : Bool) {α : Type} (d : Kd α) (t : TypeId) (wf : α → Prop) : Prop :=
  ∀ fuel cs x, DataW.trod enc P w base spare held fuel t cs = some x → ∃ a, d.K w a cs ∧ wf a
theorem opens_int {t : TypeId} {k : IntKind} (ht : P.underlying t = some (.int k)) : Opens enc P w base spare held (Kd.int k) t (fun n => (Lit.int k n).wf = true) := by
  intro fuel cs x h
  obtain ⟨n, hc, _, hw⟩ := DataW.trod_int ht h
  exact ⟨n, hc, hw⟩
theorem opens_string {t : TypeId} (ht : P.underlying t = some .string) : Opens enc P w base spare held Kd.string t (fun s => s.size ≤ 9223372036854775807) := by
  intro fuel cs x h
  obtain ⟨s, hc, _, hw⟩ := DataW.trod_string ht h
  exact ⟨s, hc, by simpa only [maxLen] using hw⟩
theorem opens_bool {t : TypeId} (ht : P.underlying t = some .bool) : Opens enc P w base spare held Kd.bool t (fun _ => True) := by
  intro fuel cs x h
  obtain ⟨b, hc, _⟩ := DataW.trod_bool ht h
  exact ⟨b, hc, trivial⟩
theorem opens_slice {α : Type} {d : Kd α} {t e : TypeId} {wf : α → Prop} (e' : Nat) (ht : P.underlying t = some (.slice e)) (hC : P.cellsOf e = d.sz) (he : Opens enc P w base spare held d e wf) :
    Opens enc P w base spare held (Kd.slice e' d) t (fun l => l.length ≤ 9223372036854775807 ∧ ∀ x ∈ l, wf x) := by
  intro fuel cs x h
  rcases open_slice ht h with ⟨rfl, _⟩ | ⟨a, len, cap, m, n, D, Pl, rfl, hb, hl, hm, hmm, _, hi⟩
  · exact ⟨[], ⟨none, 0, rfl, Nat.le_refl _, rfl, by simp, fun h => absurd h (by simp)⟩, by simp, by simp⟩
  · have hle : len ≤ m := by rw [hmm]; split <;> omega
    have hmx : cap ≤ 9223372036854775807 := by simpa only [maxLen] using hm
    have key : ∀ i : Fin len, ∃ y, (∃ c : List Value, c.length = d.sz ∧ d.K w y c ∧ ∀ j u, c[j]? = some u → w.cell? (a.add (i.1 * d.sz + j)) = some u) ∧ wf y := by
      intro i
      have := i.2
      obtain ⟨cs', hcs, ht'⟩ := hi i.1 (by omega)
      obtain ⟨y, hK, hw⟩ := he _ _ _ ht'
      rw [hC] at hcs
      obtain ⟨_, hlen, hcell⟩ := World.cells?_some hcs
      refine ⟨y, ⟨cs', hlen, hK, fun j u hj => ?_⟩, hw⟩
      have h1 := hcell j (by have := (List.getElem?_eq_some_iff.1 hj).1; omega)
      rw [← Go.Deep.add_add, h1, hj]
    refine ⟨List.ofFn fun i => (key i).choose, ⟨some a, cap, by rw [List.length_ofFn], by rw [List.length_ofFn]; exact hl, by rw [List.length_ofFn], by rw [List.length_ofFn]; omega, fun _ => ⟨a, rfl, fun j p hj => ?_⟩⟩, by rw [List.length_ofFn]; omega, fun y hy => ?_⟩
    · have hjl := (List.getElem?_eq_some_iff.1 hj).1
      rw [List.length_ofFn] at hjl
      rw [List.getElem?_ofFn, dif_pos hjl] at hj
      obtain rfl := Option.some.inj hj
      exact (key ⟨j, hjl⟩).choose_spec.1
    · obtain ⟨i, rfl⟩ := List.mem_ofFn.1 hy
      exact (key i).choose_spec.2
/-- The fields of a struct from a place on. -/
def OpensS (enc : TypeId × Value → H) (P : Program) (w : World) (base : Nat) (spare : Nat → Bool) (held : Bool) {α : Type} (d : Kd α) (fs : List Field) (off : Nat) (wf : α → Prop) : Prop :=
  ∀ n (cs : List Value), cs.length = off + d.sz → (∀ f ∈ fs, ∃ y, DataW.trod enc P w base spare held n f.type ((cs.drop f.offset).take (P.cellsOf f.type)) = some y) → ∃ a, d.K w a (cs.drop off) ∧ wf a
theorem openss_one {α : Type} {d : Kd α} {f : Field} {off : Nat} {wf : α → Prop} (ho : f.offset = off) (hC : P.cellsOf f.type = d.sz) (h : Opens enc P w base spare held d f.type wf) : OpensS enc P w base spare held d [f] off wf := by
  intro n cs hl hf
  obtain ⟨y, hy⟩ := hf f (by simp)
  rw [ho, hC, List.take_of_length_le (by rw [List.length_drop]; omega)] at hy
  exact h _ _ _ hy
theorem openss_cons {α β : Type} {d : Kd α} {d' : Kd β} {f : Field} {fs : List Field} {off : Nat} {wf : α → Prop} {wf' : β → Prop} (ho : f.offset = off) (hC : P.cellsOf f.type = d.sz) (h : Opens enc P w base spare held d f.type wf)
    (h' : OpensS enc P w base spare held d' fs (off + d.sz) wf') : OpensS enc P w base spare held (Kd.pair d d') (f :: fs) off (fun x => wf x.1 ∧ wf' x.2) := by
  intro n cs hl hf
  have hs : (Kd.pair d d').sz = d.sz + d'.sz := rfl
  rw [hs] at hl
  obtain ⟨y, hy⟩ := hf f (by simp)
  rw [ho, hC] at hy
  obtain ⟨a, ha, hw⟩ := h _ _ _ hy
  obtain ⟨b, hb, hw'⟩ := h' n cs (by omega) (fun g hg => hf g (by simp [hg]))
  refine ⟨(a, b), ⟨(cs.drop off).take d.sz, cs.drop (off + d.sz), ?_, ha, hb⟩, hw, hw'⟩
  rw [← List.drop_drop, List.take_append_drop]
theorem opens_struct {α : Type} {d : Kd α} {t : TypeId} {fs : Array Field} {wf : α → Prop} (ht : P.underlying t = some (.struct fs)) (hC : P.cellsOf t = d.sz) (h : OpensS enc P w base spare held d fs.toList 0 wf) : Opens enc P w base spare held d t wf := by
  intro fuel cs x hx
  obtain ⟨xs, n, _, _, hl, hlen, hf⟩ := DataW.trod_struct ht hx
  refine h n cs (by omega) (fun f hfm => ?_)
  obtain ⟨i, hi, he⟩ := List.getElem_of_mem hfm
  have hi' : i < fs.size := by simpa using hi
  have h1 : fs[i]? = some f := by rw [Array.getElem?_eq_getElem hi']; rw [← he]; simp
  rw [hf i f h1, List.getElem?_eq_getElem (by omega)]
  exact ⟨_, rfl⟩
theorem opens_iso {α β : Type} {d : Kd α} {t : TypeId} {wf : α → Prop} (f : β → α) (g : α → β) (hfg : ∀ a, f (g a) = a) (h : Opens enc P w base spare held d t wf) : Opens enc P w base spare held (Kd.iso d f) t (fun x => wf (f x)) := by
  intro fuel cs x hx
  obtain ⟨a, ha, hw⟩ := h fuel cs x hx
  refine ⟨g a, ?_, ?_⟩
  · show d.K w (f (g a)) cs
    rw [hfg]; exact ha
  · show wf (f (g a))
    rw [hfg]; exact hw
theorem opens_mono {α : Type} {d : Kd α} {t : TypeId} {wf wf' : α → Prop} (h : Opens enc P w base spare held d t wf) (hw : ∀ a, wf a → wf' a) : Opens enc P w base spare held d t wf' := by
  intro fuel cs x hx
  obtain ⟨a, ha, h1⟩ := h fuel cs x hx
  exact ⟨a, ha, hw a h1⟩
/-- A slice that came in as an argument. -/
theorem slice_arg {α : Type} {d : Kd α} {t e' : Nat} {v : Value} {dd : DataW H} {ps : List MemPlace} {wf : List α → Prop} (h : Opens enc P w base spare held (Kd.slice e' d) t wf) (ht : ∃ a len cap, v = .slice a len cap) (hd : DataW.Trod enc P w base spare held t v dd ps) :
    ∃ (l : List α) (A : Option Addr) (c : Nat), v = .slice A l.length c ∧ l.length ≤ c ∧ d.C w A l.length l ∧ wf l := by
  obtain ⟨a, len, cap, rfl⟩ := ht
  obtain ⟨fuel, hf⟩ := hd
  obtain ⟨l, ⟨A, c, hc, hl, hr⟩, hw⟩ := h _ _ _ hf
  exact ⟨l, A, c, by simpa [Value.cells] using hc, hl, hr, hw⟩
end
end Go.Proofs.YthljjgolloiamaaDoor.O
