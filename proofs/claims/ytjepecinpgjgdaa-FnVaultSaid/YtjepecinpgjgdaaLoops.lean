import Derived.Test.YtjepecinpgjgdaaEv
/-! Loops over a row, told once: a state, what holds of it, and one step. -/
namespace Go.Proofs.Ytjepecinpgjgdaa.E
open Go.RowKit Go.Proofs.YtjepecinpgjgdaaW.PrintWords Go.Proofs.YtjepecinpgjgdaaW.PrintMore
theorem st_loop {σ ρ : Type} (F : Nat → σ → Int → Option ρ) (n : Nat) (Inv : Int → σ → Prop)
    (hstep : ∀ (s : σ) (i : Int), 0 ≤ i → i < (n : Int) → Inv i s → ∃ s', Inv (i + 1) s' ∧ ∀ r, Ev (fun k => F k s' (i + 1)) r → Ev (fun k => F k s i) r) (s : σ) (h0 : Inv 0 s) :
    ∃ s', Inv (n : Int) s' ∧ ∀ r, Ev (fun k => F k s' n) r → Ev (fun k => F k s 0) r := by
  have key : ∀ (f : Nat) (s : σ) (i : Int), 0 ≤ i → i + f = n → Inv i s → ∃ s', Inv (n : Int) s' ∧ ∀ r, Ev (fun k => F k s' n) r → Ev (fun k => F k s i) r := by
    intro f
    induction f with
    | zero =>
      intro s i h1 h2 h3
      obtain rfl : i = n := by omega
      exact ⟨s, h3, fun _ h => h⟩
    | succ f ih =>
      intro s i h1 h2 h3
      obtain ⟨s1, h4, h5⟩ := hstep s i h1 (by omega) h3
      obtain ⟨s2, h6, h7⟩ := ih s1 (i + 1) (by omega) (by omega) h4
      exact ⟨s2, h6, fun r hr => h5 r (h7 r hr)⟩
  exact key n s 0 (by omega) (by omega) h0
theorem ex_loop {σ ρ : Type} (F : Nat → σ → Int → Option ρ) (n : Nat) (Inv : Int → σ → Prop) (Post : ρ → Prop)
    (hend : ∀ s, Inv (n : Int) s → ∃ r, Post r ∧ Ev (fun k => F k s n) r)
    (hstep : ∀ (s : σ) (i : Int), 0 ≤ i → i < (n : Int) → Inv i s → (∃ r, Post r ∧ Ev (fun k => F k s i) r) ∨ ∃ s', Inv (i + 1) s' ∧ ∀ r, Ev (fun k => F k s' (i + 1)) r → Ev (fun k => F k s i) r) (s : σ) (h0 : Inv 0 s) :
    ∃ r, Post r ∧ Ev (fun k => F k s 0) r := by
  have key : ∀ (f : Nat) (s : σ) (i : Int), 0 ≤ i → i + f = n → Inv i s → ∃ r, Post r ∧ Ev (fun k => F k s i) r := by
    intro f
    induction f with
    | zero =>
      intro s i h1 h2 h3
      obtain rfl : i = n := by omega
      exact hend s h3
    | succ f ih =>
      intro s i h1 h2 h3
      rcases hstep s i h1 (by omega) h3 with h4 | ⟨s1, h4, h5⟩
      · exact h4
      · obtain ⟨r, hp, hr⟩ := ih s1 (i + 1) (by omega) (by omega) h4
        exact ⟨r, hp, h5 r hr⟩
  exact key n s 0 (by omega) (by omega) h0
/-- A loop that only counts up. -/
theorem up_loop {ρ : Type} (F : Nat → Int → Option ρ) (n : Nat) (r : ρ) (hend : Ev (fun k => F k n) r)
    (hstep : ∀ i : Int, 0 ≤ i → i < (n : Int) → Ev (fun k => F k (i + 1)) r → Ev (fun k => F k i) r) : Ev (fun k => F k 0) r := by
  obtain ⟨_, _, h⟩ := st_loop (σ := Unit) (fun k _ i => F k i) n (fun i _ => ∀ j : Int, j = i → True) (fun _ i h0 h1 _ => ⟨(), fun _ _ => trivial, fun q hq => by
    by_cases e : q = r
    · subst e; exact hstep i h0 h1 hq
    · exfalso
      have key : ∀ (f : Nat) (i : Int), 0 ≤ i → i + f = n → Ev (fun k => F k i) r := by
        intro f
        induction f with
        | zero => intro i h1 h2; obtain rfl : i = n := by omega
                  exact hend
        | succ f ih => intro i h1 h2; exact hstep i h1 (by omega) (ih (i + 1) (by omega) (by omega))
      exact e (ev_unique hq (key (n - (i + 1)).toNat (i + 1) (by omega) (by omega)))⟩) () (fun _ _ => trivial)
  exact h r hend
/-- A row made element by element. -/
theorem to_loop {α β ρ : Type} (l : List α) (g : α → β) (F : Nat → List β → Int → Option ρ) (x0 : List β) (hx : x0.length = l.length)
    (hstep : ∀ (x : List β) (i : Int) (hi : i.toNat < l.length), 0 ≤ i → i < (l.length : Int) → x.length = l.length → ∀ r, Ev (fun k => F k (x.set i.toNat (g l[i.toNat])) (i + 1)) r → Ev (fun k => F k x i) r) (r : ρ)
    (hend : Ev (fun k => F k (l.map g) l.length) r) : Ev (fun k => F k x0 0) r := by
  obtain ⟨x, ⟨h1, h2⟩, h3⟩ := st_loop F l.length (fun i x => x.length = l.length ∧ ∀ j : Nat, (j : Int) < i → x[j]? = (l.map g)[j]?) (fun x i h0 hi hI => by
    have hi2 : i.toNat < l.length := by omega
    refine ⟨x.set i.toNat (g l[i.toNat]), ⟨by simpa using hI.1, fun j hj => ?_⟩, hstep x i hi2 h0 hi hI.1⟩
    by_cases hji : j = i.toNat
    · subst hji
      rw [List.getElem?_set_self (by omega)]
      simp [List.getElem?_eq_getElem hi2]
    · rw [List.getElem?_set_ne (by omega)]
      exact hI.2 j (by omega)) x0 ⟨hx, fun j hj => by omega⟩
  refine h3 r ?_
  have : x = l.map g := by
    refine List.ext_getElem? fun j => ?_
    by_cases hj : j < l.length
    · exact h2 j (by omega)
    · rw [List.getElem?_eq_none (by omega), List.getElem?_eq_none (by simp; omega)]
  rw [this]
  exact hend
theorem getD_at {α : Type} (l : List α) (d : α) (i : Int) (h : i.toNat < l.length) : l.getD i.toNat d = l[i.toNat] := by
  rw [List.getD_eq_getElem?_getD, List.getElem?_eq_getElem h]
  rfl
end Go.Proofs.Ytjepecinpgjgdaa.E
