import Derived.Test.YthljjgolloiamaaDoorWMore
import Derived.DataShut
/-! Small words for pure proofs over printed functions: from some number of rounds on. -/
namespace Go.Proofs.YthljjgolloiamaaDoor.E
open Go.RowKit Go.Proofs.YthljjgolloiamaaDoorW.PrintWords Go.Proofs.YthljjgolloiamaaDoorW.PrintMore
set_option linter.unusedSimpArgs false
set_option linter.unusedVariables false

theorem w64 {x : Int} (h0 : -9223372036854775808 ≤ x) (h1 : x < 9223372036854775808) : wrap64 x = x := by
  unfold wrap64
  omega
theorem ev_pos {α : Type} {c : Prop} [Decidable c] {f g : Nat → Option α} {r : α} (h : c) (k : Ev f r) : Ev (fun n => if c then f n else g n) r := by
  simp only [if_pos h]
  exact k
theorem ev_neg {α : Type} {c : Prop} [Decidable c] {f g : Nat → Option α} {r : α} (h : ¬ c) (k : Ev g r) : Ev (fun n => if c then f n else g n) r := by
  simp only [if_neg h]
  exact k
theorem ev_ret {α : Type} {a r : α} (h : a = r) : Ev (fun _ => some a) r := h ▸ Ev.now a
theorem ev_some {α β : Type} {f : Nat → α → Option β} {a : α} {r : β} (k : Ev (fun n => f n a) r) : Ev (fun n => (some a).bind (f n)) r := k
theorem ev_const {α : Type} {g : Option α} {r : α} (h : g = some r) : Ev (fun _ => g) r := h ▸ Ev.now r
theorem ev_bindc {α β : Type} {g : Option α} {f : Nat → α → Option β} {a : α} {r : β} (h : g = some a) (k : Ev (fun n => f n a) r) : Ev (fun n => g.bind (f n)) r := by
  subst h
  exact k
theorem ev_true {α : Type} {b : Bool} {f g : Nat → Option α} {r : α} (h : b = true) (k : Ev f r) : Ev (fun n => if b = true then f n else g n) r := ev_pos h k
theorem ev_false {α : Type} {b : Bool} {f g : Nat → Option α} {r : α} (h : b = false) (k : Ev g r) : Ev (fun n => if b = true then f n else g n) r := ev_neg (by simp [h]) k
theorem ev_unique {α : Type} {g : Nat → Option α} {r q : α} (h : Ev g r) (k : Ev g q) : r = q := by
  obtain ⟨K, h⟩ := h
  obtain ⟨L, k⟩ := k
  have h1 := h (max K L) (by omega)
  rw [k (max K L) (by omega)] at h1
  exact (Option.some.inj h1).symm
theorem bt_nonneg (s : ByteArray) (i : Int) : 0 ≤ bt s i := by
  unfold bt
  split <;> omega
theorem bt_lt (s : ByteArray) (i : Int) : bt s i < 256 := by
  unfold bt
  split
  · have := (s[i.toNat]).toNat_lt
    omega
  · omega
theorem tmod_cases (x m : Int) : (0 ≤ x ∧ Int.tmod x m = x % m) ∨ (x < 0 ∧ Int.tmod x m = -((-x) % m)) := by
  by_cases h : 0 ≤ x
  · exact .inl ⟨h, Int.tmod_eq_emod_of_nonneg h⟩
  · refine .inr ⟨by omega, ?_⟩
    rw [← Int.tmod_eq_emod_of_nonneg (show 0 ≤ -x by omega), Int.neg_tmod, Int.neg_neg]
theorem tmod_pos {x : Int} (h : 0 ≤ x) (m : Int) : Int.tmod x m = x % m := Int.tmod_eq_emod_of_nonneg h
theorem tdiv_pos {x : Int} (h : 0 ≤ x) (m : Int) : Int.tdiv x m = x / m := Int.tdiv_eq_ediv_of_nonneg h
theorem ba_eq {a b : ByteArray} : a.toList = b.toList ↔ a = b := by
  rw [ByteArray.toList_eq, ByteArray.toList_eq]
  exact ⟨fun h => by cases a; cases b; simp at h; rw [h], fun h => by rw [h]⟩
theorem ba_nil {a : ByteArray} : a.toList = ([] : List UInt8) ↔ a.size = 0 := by
  rw [ByteArray.toList_eq]
  constructor
  · intro h
    have := congrArg List.length h
    simpa using this
  · intro h
    exact List.eq_nil_of_length_eq_zero (by simpa using h)
theorem bne_empty (l : List UInt8) : (!l.isEmpty) = (l != []) := by cases l <;> rfl
theorem isEmpty_bne (l : List UInt8) : l.isEmpty = !(l != []) := by cases l <;> rfl
theorem mn_eq (a b : Int) : mn a b = if b < a then b else a := rfl
theorem mx_eq (a b : Int) : mx a b = if a < b then b else a := rfl
theorem wf64 {x : Int} (h : (Lit.int .i64 x).wf = true) : -9223372036854775808 ≤ x ∧ x ≤ 9223372036854775807 := (Lit.wf_int_iff .i64 x).1 h
theorem wf8 {x : Int} (h : (Lit.int .u8 x).wf = true) : 0 ≤ x ∧ x ≤ 255 := (Lit.wf_int_iff .u8 x).1 h
theorem bytesLess_irr : ∀ (a : List UInt8), Op.bytesLess a a = false
  | [] => rfl
  | x :: a => by rw [Op.bytesLess, bytesLess_irr a, Bool.and_false, Bool.or_false]; exact decide_eq_false (UInt8.lt_irrefl x)
theorem bytesLess_tri : ∀ (a b : List UInt8), (Op.bytesLess a b || a == b) = !Op.bytesLess b a
  | [], [] => rfl
  | [], _ :: _ => rfl
  | _ :: _, [] => rfl
  | x :: a, y :: b => by
    have ih := bytesLess_tri a b
    rw [Op.bytesLess, Op.bytesLess]
    by_cases h1 : x = y
    · subst h1
      have e1 : decide (x < x) = false := decide_eq_false (UInt8.lt_irrefl x)
      have e2 : (x :: a == x :: b) = (a == b) := by simp [BEq.beq, List.beq]
      rw [e1, e2, beq_self_eq_true, Bool.false_or, Bool.true_and, Bool.false_or, Bool.true_and]
      exact ih
    · have e1 : (x == y) = false := beq_eq_false_iff_ne.2 h1
      have e2 : (y == x) = false := beq_eq_false_iff_ne.2 (fun h => h1 h.symm)
      have e3 : (x :: a == y :: b) = false := beq_eq_false_iff_ne.2 (fun h => h1 (List.cons.inj h).1)
      rw [e1, e2, e3, Bool.false_and, Bool.false_and, Bool.or_false, Bool.or_false, Bool.or_false]
      rcases UInt8.lt_or_le x y with h | h
      · rw [decide_eq_true h, decide_eq_false (fun h' => absurd (UInt8.lt_trans h h') (UInt8.lt_irrefl x))]; rfl
      · have h' : y < x := by
          rcases UInt8.lt_or_le y x with h2 | h2
          · exact h2
          · exact absurd (UInt8.le_antisymm h2 h) h1
        rw [decide_eq_true h', decide_eq_false (fun h2 => absurd (UInt8.lt_trans h2 h') (UInt8.lt_irrefl x))]; rfl
theorem leq_str (t : TypeId) (a b : ByteArray) : binOp .leq t (.string a) (.string b) = pure (.bool (!Op.bytesLess b.toList a.toList)) := by
  rw [← bytesLess_tri]; simp [binOp, Op.stringOp]
theorem geq_str (t : TypeId) (a b : ByteArray) : binOp .geq t (.string a) (.string b) = pure (.bool (!Op.bytesLess a.toList b.toList)) := by
  simp [binOp, Op.stringOp]
theorem gtr_str (t : TypeId) (a b : ByteArray) : binOp .gtr t (.string a) (.string b) = pure (.bool (Op.bytesLess b.toList a.toList)) := by
  simp [binOp, Op.stringOp, bytesLess_tri]
end Go.Proofs.YthljjgolloiamaaDoor.E
