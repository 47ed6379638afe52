import Derived.Test.YthljjgolloiamaaDoorWSized
import Derived.Lib.SlTrimSet
/-! A name: what it may hold. -/
namespace Go.Proofs.YthljjgolloiamaaDoor.ZNam
set_option linter.unusedVariables false
theorem dropWhile_nil {α : Type} {p : α → Bool} : ∀ {l : List α}, l.dropWhile p = [] ↔ l.all p = true
  | [] => by simp
  | x :: l => by
    rw [List.dropWhile_cons, List.all_cons]
    cases h : p x with
    | true => simp only [if_true, Bool.true_and]; exact dropWhile_nil
    | false => simp
theorem dropWhile_head {α : Type} {p : α → Bool} : ∀ {l m : List α} {x : α}, l.dropWhile p = x :: m → p x = false
  | [], m, x, h => by simp at h
  | y :: l, m, x, h => by
    rw [List.dropWhile_cons] at h
    cases hy : p y with
    | true => rw [hy, if_pos rfl] at h; exact dropWhile_head h
    | false => rw [hy] at h; simp only [Bool.false_eq_true, if_false, List.cons.injEq] at h; rw [← h.1]; exact hy
theorem trim_nil (l cs : List UInt8) : Go.Lib.trimS l cs = [] ↔ l.all (cs.contains ·) = true := by
  unfold Go.Lib.trimS Go.Lib.trimLeftS Go.Lib.trimRightS
  rw [dropWhile_nil, List.all_reverse]
  constructor
  · intro h
    cases hd : l.reverse.dropWhile (cs.contains ·) with
    | nil => rw [dropWhile_nil, List.all_reverse] at hd; exact hd
    | cons x m =>
      have h1 := dropWhile_head hd
      rw [hd, List.all_cons] at h
      rw [h1] at h
      cases h
  · intro h
    have : l.reverse.dropWhile (cs.contains ·) = [] := by rw [dropWhile_nil, List.all_reverse]; exact h
    rw [this]; rfl
end Go.Proofs.YthljjgolloiamaaDoor.ZNam
