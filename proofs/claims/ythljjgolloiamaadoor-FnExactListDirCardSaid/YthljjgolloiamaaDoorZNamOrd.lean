import Derived.Test.YthljjgolloiamaaDoorWSized
import Derived.Lib.Bytealg
/-! The order of texts, as the program and as the reference compare them; a binary search. -/
namespace Go.Proofs.YthljjgolloiamaaDoor.ZNam
open Go
set_option linter.unusedVariables false
theorem cmp_lt : ∀ (a b : List UInt8), decide (Lib.compareBytes a b < 0) = Op.bytesLess a b
  | [], [] => rfl
  | [], _ :: _ => rfl
  | _ :: _, [] => rfl
  | x :: a, y :: b => by
    rw [Lib.compareBytes, Op.bytesLess]
    by_cases h1 : x < y
    · rw [if_pos h1, decide_eq_true h1, Bool.true_or]; rfl
    · rw [if_neg h1, decide_eq_false h1, Bool.false_or]
      by_cases h2 : y < x
      · rw [if_pos h2]
        have : (x == y) = false := beq_eq_false_iff_ne.2 (fun e => by rw [e] at h2; exact absurd h2 (UInt8.lt_irrefl _))
        rw [this, Bool.false_and]; rfl
      · rw [if_neg h2]
        have : x = y := by
          rcases UInt8.lt_or_le x y with h | h
          · exact absurd h h1
          · rcases UInt8.lt_or_le y x with h' | h'
            · exact absurd h' h2
            · exact UInt8.le_antisymm h' h
        subst this
        rw [beq_self_eq_true, Bool.true_and]
        exact cmp_lt a b
theorem cmp_eq : ∀ (a b : List UInt8), Lib.compareBytes a b = 0 ↔ a = b
  | [], [] => by simp [Lib.compareBytes]
  | [], _ :: _ => by simp [Lib.compareBytes]
  | _ :: _, [] => by simp [Lib.compareBytes]
  | x :: a, y :: b => by
    rw [Lib.compareBytes]
    by_cases h1 : x < y
    · rw [if_pos h1]
      constructor
      · intro h; cases h
      · intro h; injection h with h _; rw [h] at h1; exact absurd h1 (UInt8.lt_irrefl _)
    · rw [if_neg h1]
      by_cases h2 : y < x
      · rw [if_pos h2]
        constructor
        · intro h; cases h
        · intro h; injection h with h _; rw [h] at h2; exact absurd h2 (UInt8.lt_irrefl _)
      · rw [if_neg h2, cmp_eq a b]
        have : x = y := by
          rcases UInt8.lt_or_le x y with h | h
          · exact absurd h h1
          · rcases UInt8.lt_or_le y x with h' | h'
            · exact absurd h' h2
            · exact UInt8.le_antisymm h' h
        subst this
        simp
/-- The place that a binary search comes to. -/
def bsL (lt : Nat → Bool) : Nat → Nat → Nat → Nat
  | 0, i, _ => i
  | f + 1, i, j => if i < j then (if lt ((i + j) / 2) = true then bsL lt f ((i + j) / 2 + 1) j else bsL lt f i ((i + j) / 2)) else i
theorem bsL_is (lt : Nat → Bool) (m : Nat) : ∀ (f i j : Nat), j ≤ i + f → i ≤ m → m ≤ j → (∀ k, k < m → lt k = true) → (∀ k, m ≤ k → k < j → lt k = false) → bsL lt f i j = m
  | 0, i, j, hf, h0, h1, ht, hF => by rw [bsL]; omega
  | f + 1, i, j, hf, h0, h1, ht, hF => by
    rw [bsL]
    by_cases hij : i < j
    · rw [if_pos hij]
      have hk : (i + j) / 2 < j := by omega
      have hk2 : i ≤ (i + j) / 2 := by omega
      by_cases hm : (i + j) / 2 < m
      · rw [if_pos (ht _ hm)]
        exact bsL_is lt m f _ j (by omega) (by omega) h1 ht hF
      · rw [if_neg (by rw [hF _ (by omega) hk]; simp)]
        exact bsL_is lt m f i _ (by omega) h0 (by omega) ht (fun k hk3 hk4 => hF k hk3 (by omega))
    · rw [if_neg hij]; omega
theorem bsL_le (lt : Nat → Bool) : ∀ (f i j : Nat), i ≤ j → i ≤ bsL lt f i j ∧ bsL lt f i j ≤ j
  | 0, i, j, h => by rw [bsL]; omega
  | f + 1, i, j, h => by
    rw [bsL]
    by_cases hij : i < j
    · rw [if_pos hij]
      split
      · have := bsL_le lt f ((i + j) / 2 + 1) j (by omega); omega
      · have := bsL_le lt f i ((i + j) / 2) (by omega); omega
    · rw [if_neg hij]; omega
/-- More fuel than needed changes nothing. -/
theorem bsL_fuel (lt : Nat → Bool) : ∀ (f g i j : Nat), j ≤ i + f → f ≤ g → bsL lt g i j = bsL lt f i j
  | 0, 0, i, j, h, _ => rfl
  | 0, g + 1, i, j, h, _ => by simp only [bsL]; rw [if_neg (by omega)]
  | f + 1, 0, i, j, h, hg => by omega
  | f + 1, g + 1, i, j, h, hg => by
    rw [bsL, bsL]
    by_cases hij : i < j
    · rw [if_pos hij, if_pos hij]
      rw [bsL_fuel lt f g _ j (by omega) (by omega), bsL_fuel lt f g i _ (by omega) (by omega)]
    · rw [if_neg hij, if_neg hij]
end Go.Proofs.YthljjgolloiamaaDoor.ZNam
