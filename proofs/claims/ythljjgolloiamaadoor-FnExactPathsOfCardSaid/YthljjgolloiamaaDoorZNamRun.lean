import Derived.Test.YthljjgolloiamaaDoorWSized
/-! Searches of one graph in any order: what is found and counted is one and the same. -/
namespace Go.Proofs.YthljjgolloiamaaDoor.ZNam
set_option linter.unusedVariables false
def up (S : Nat → Int) (f : Nat) : Nat → Int := fun k => if k = f then S k + 1 else S k
theorem up_self (S : Nat → Int) (f : Nat) : up S f f = S f + 1 := if_pos rfl
theorem up_ne (S : Nat → Int) {f k : Nat} (h : k ≠ f) : up S f k = S k := if_neg h
theorem up_le (S : Nat → Int) (f k : Nat) : S k ≤ up S f k := by unfold up; split <;> omega
theorem up_comm (S : Nat → Int) (f g : Nat) : up (up S f) g = up (up S g) f := by
  funext k
  unfold up
  split <;> split <;> omega
/-- Names that are open, each with how many names lead to it; each is counted, and the names below it are open then. -/
inductive Run (kids : Nat → List Nat) (dir : Nat → Bool) (ok : Nat → Nat → Prop) : List (Nat × Nat) → (Nat → Int) → (Nat → Int) → Prop
  | done (S : Nat → Int) : Run kids dir ok [] S S
  | step {W V : List (Nat × Nat)} {f d : Nat} {S R : Nat → Int} : W.Perm ((f, d) :: V) → ok f d → (dir f = true → S f ≤ 0) → Run kids dir ok (V ++ (kids f).map (fun y => (y, d + 1))) (up S f) R → Run kids dir ok W S R
variable {kids : Nat → List Nat} {dir : Nat → Bool} {ok : Nat → Nat → Prop}
theorem Run.perm {W W' : List (Nat × Nat)} {S R : Nat → Int} (h : Run kids dir ok W S R) (hp : W.Perm W') : Run kids dir ok W' S R := by
  cases h with
  | done => rw [List.nil_perm.1 hp]; exact .done _
  | step h1 h2 h3 h4 => exact .step (hp.symm.trans h1) h2 h3 h4
theorem Run.pick {W : List (Nat × Nat)} {S R : Nat → Int} (h : Run kids dir ok W S R) (hS : ∀ k, 0 ≤ S k) : ∀ {f d : Nat} {V : List (Nat × Nat)}, W.Perm ((f, d) :: V) → ok f d ∧ (dir f = true → S f ≤ 0) ∧ Run kids dir ok (V ++ (kids f).map (fun y => (y, d + 1))) (up S f) R := by
  induction h with
  | done => intro f d V hp; exact absurd (List.nil_perm.1 hp) (by simp)
  | @step W V0 g e S R hp he hg hr ih =>
    intro f d V hW
    have hq : ((g, e) :: V0).Perm ((f, d) :: V) := hp.symm.trans hW
    by_cases heq : (g, e) = (f, d)
    · obtain ⟨rfl, rfl⟩ := Prod.mk.inj heq
      exact ⟨he, hg, hr.perm (List.Perm.append_right _ (List.Perm.cons_inv hq))⟩
    · have hm : (f, d) ∈ V0 := by
        have h1 : (f, d) ∈ (g, e) :: V0 := hq.symm.subset (List.mem_cons_self ..)
        rcases List.mem_cons.1 h1 with h2 | h2
        · exact absurd h2.symm heq
        · exact h2
      have hU : V0.Perm ((f, d) :: V0.erase (f, d)) := List.perm_cons_erase hm
      generalize V0.erase (f, d) = U at hU
      have hV : V.Perm ((g, e) :: U) := by
        have h1 : ((f, d) :: V).Perm ((g, e) :: (f, d) :: U) := hq.symm.trans (hU.cons _)
        exact List.Perm.cons_inv (h1.trans (List.Perm.swap ..))
      obtain ⟨i1, i2, i3⟩ := ih (fun k => Int.le_trans (hS k) (up_le S g k)) (f := f) (d := d) (V := U ++ (kids g).map (fun y => (y, e + 1))) (List.Perm.append_right _ hU)
      refine ⟨i1, fun hf => Int.le_trans (up_le S g f) (i2 hf), ?_⟩
      refine .step (f := g) (d := e) (V := U ++ (kids f).map (fun y => (y, d + 1))) (List.Perm.append_right _ hV) he (fun hd => ?_) ?_
      · by_cases hfg : g = f
        · subst hfg
          have h1 := i2 hd
          rw [up_self] at h1
          have h2 := hS g
          omega
        · rw [up_ne _ hfg]
          exact hg hd
      · rw [up_comm S f g]
        refine i3.perm ?_
        rw [List.append_assoc, List.append_assoc]
        exact List.Perm.append_left _ List.perm_append_comm
theorem Run.one {W : List (Nat × Nat)} {S R R' : Nat → Int} (h : Run kids dir ok W S R) (hS : ∀ k, 0 ≤ S k) (h' : Run kids dir ok W S R') : R = R' := by
  induction h with
  | done =>
    cases h' with
    | done => rfl
    | step h1 => exact absurd (List.nil_perm.1 h1) (by simp)
  | step h1 h2 h3 h4 ih => exact ih (fun k => Int.le_trans (hS k) (up_le _ _ k)) (h'.pick hS h1).2.2
/-- The first name that is open is taken. -/
theorem Run.first {f d : Nat} {W : List (Nat × Nat)} {S R : Nat → Int} (hS : ∀ k, 0 ≤ S k) : Run kids dir ok ((f, d) :: W) S R ↔ ok f d ∧ (dir f = true → S f ≤ 0) ∧ Run kids dir ok (W ++ (kids f).map (fun y => (y, d + 1))) (up S f) R :=
  ⟨fun h => h.pick hS (List.Perm.refl _), fun h => .step (List.Perm.refl _) h.1 h.2.1 h.2.2⟩
/-- The depth of what is open is bounded. -/
theorem Run.deep {W : List (Nat × Nat)} {S R : Nat → Int} (h : Run kids dir ok W S R) (hS : ∀ k, 0 ≤ S k) : ∀ x ∈ W, ok x.1 x.2 := fun x hx => (h.pick hS (List.perm_cons_erase hx)).1
/-- Counts only grow. -/
theorem Run.grow {W : List (Nat × Nat)} {S R : Nat → Int} (h : Run kids dir ok W S R) (k : Nat) : S k ≤ R k := by
  induction h with
  | done => exact Int.le_refl _
  | step h1 h2 h3 h4 ih => exact Int.le_trans (up_le _ _ k) ih
/-- What a directory that is counted names is open at some time. -/
theorem Run.named {W : List (Nat × Nat)} {S R : Nat → Int} (h : Run kids dir ok W S R) (hS : ∀ k, 0 ≤ S k) {k : Nat} (h0 : S k ≤ 0) (h1 : 0 < R k) : ∀ y ∈ kids k, ∃ d, ok y d := by
  induction h with
  | done => omega
  | @step W V f d S R hp ho hd hr ih =>
    by_cases hk : k = f
    · subst hk
      intro y hy
      exact ⟨d + 1, hr.deep (fun j => Int.le_trans (hS j) (up_le S k j)) (y, d + 1) (List.mem_append_right _ (List.mem_map.2 ⟨y, hy, rfl⟩))⟩
    · exact ih (fun j => Int.le_trans (hS j) (up_le S f j)) (by rw [up_ne S hk]; exact h0) h1
end Go.Proofs.YthljjgolloiamaaDoor.ZNam
