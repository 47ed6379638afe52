import Derived.Test.YtjepecinpgjgdaaYVaucur
import Derived.Test.YtjepecinpgjgdaaEv
/-! The cursor of the draws: a byte, a number below another. -/
namespace Go.Proofs.Ytjepecinpgjgdaa.ZVau
open Go.RowKit Go.Proofs.Ytjepecinpgjgdaa.PVau Go.Proofs.YtjepecinpgjgdaaW.PrintWords Go.Proofs.YtjepecinpgjgdaaW.PrintLast Go.Proofs.YtjepecinpgjgdaaW.PrintMore Go.Proofs.Ytjepecinpgjgdaa.E
set_option linter.unusedSimpArgs false
set_option linter.unusedVariables false

theorem wrap_u64 (n : Int) : IntKind.u64.wrap n = n % 18446744073709551616 := by simp [IntKind.wrap, IntKind.bits, IntKind.signed]
theorem u64_and255 (x : Int) (h0 : 0 ≤ x) (h1 : x < 18446744073709551616) : bits .and .u64 x 255 = x % 256 :=
 bits_mask .u64 64 (by decide) (fun n a b => by rw [wrap_u64]; omega) 8 (by decide) x h0 h1
/-- The bytes that are drawn from. -/
def Bytes (l : List Int) : Prop := ∀ x ∈ l, 0 ≤ x ∧ x ≤ 255
theorem bytes_rd {l : List Int} (h : Bytes l) (i : Int) : 0 ≤ rd l i ∧ rd l i ≤ 255 := by
 unfold rd
 rw [List.getD_eq_getElem?_getD]
 by_cases hi : i.toNat < l.length
 ·rw [List.getElem?_eq_getElem hi]
  exact h _ (List.getElem_mem hi)
 ·rw [List.getElem?_eq_none (by omega)]
  simp
theorem bytes_of {l : List Int} (h : ∀ x ∈ l, (Lit.int .u8 x).wf = true) : Bytes l := fun x hx => wf8 (h x hx)
theorem next_ok {l : List Int} (hl : Bytes l) (p q : Int) (h0 : 0 ≤ p) (h1 : p ≤ 1000000000000) : ∃ b q', spec_l1Cur_next.f l p q = some (b, p + 1, q') ∧ 0 ≤ b ∧ b ≤ 255 := by
 have hr := bytes_rd hl p
 have e : ∀ y : Int, 0 ≤ wrap64 (bits .and .u64 (IntKind.u64.wrap y / 1099511627776) 255) ∧ wrap64 (bits .and .u64 (IntKind.u64.wrap y / 1099511627776) 255) ≤ 255 := by
  intro y
  rw [wrap_u64, u64_and255 _ (by omega) (by omega), w64 (by omega) (by omega)]
  omega
 unfold spec_l1Cur_next.f
 rw [w64 (x := p + 1) (by omega) (by omega), w64 (x := rd l p) (by omega) (by omega)]
 by_cases a : p < (l.length : Int)
 ·rw [if_pos a, if_pos h0]
  by_cases b : p + 1 ≤ (l.length : Int)
  ·rw [if_pos b]
   exact ⟨_, _, rfl, hr⟩
  ·rw [if_neg b]
   exact ⟨_, _, rfl, e _⟩
 ·rw [if_neg a]
  by_cases b : p + 1 ≤ (l.length : Int)
  ·rw [if_pos b]
   exact ⟨_, _, rfl, by omega⟩
  ·rw [if_neg b]
   exact ⟨_, _, rfl, e _⟩
theorem pick_ok {l : List Int} (hl : Bytes l) (p q n : Int) (h0 : 0 ≤ p) (h1 : p ≤ 100000000000) (hn : n ≤ 1000000000000) : ∃ r p' q', spec_l1Cur_pick.f l p q n = some (r, p', q') ∧ 0 ≤ r ∧ (r < n ∨ n ≤ 1 ∧ r = 0) ∧ p ≤ p' ∧ p' ≤ p + 2 := by
 unfold spec_l1Cur_pick.f
 by_cases a : n ≤ 1
 ·rw [if_pos a]
  exact ⟨0, p, q, rfl, by omega, by omega, by omega, by omega⟩
 ·rw [if_neg a]
  obtain ⟨b, q1, e1, hb⟩ := next_ok hl p q h0 (by omega)
  rw [e1]
  simp only [Option.bind_some]
  by_cases c : n > 200
  ·rw [if_pos c]
   obtain ⟨b2, q2, e2, hb2⟩ := next_ok hl (p + 1) q1 (by omega) (by omega)
   rw [e2]
   simp only [Option.bind_some]
   rw [if_neg (by omega), w64 (x := b * 256) (by omega) (by omega), w64 (x := b * 256 + b2) (by omega) (by omega), tmod_pos (by omega)]
   refine ⟨_, _, _, rfl, Int.emod_nonneg _ (by omega), .inl (Int.emod_lt_of_pos _ (by omega)), by omega, by omega⟩
  ·rw [if_neg c, if_neg (by omega), tmod_pos (by omega)]
   refine ⟨_, _, _, rfl, Int.emod_nonneg _ (by omega), .inl (Int.emod_lt_of_pos _ (by omega)), by omega, by omega⟩
end Go.Proofs.Ytjepecinpgjgdaa.ZVau
/-! The cursor of the draws: one of some texts. -/
namespace Go.Proofs.Ytjepecinpgjgdaa.ZVau
open Go.RowKit Go.Proofs.Ytjepecinpgjgdaa.PVau Go.Proofs.YtjepecinpgjgdaaW.PrintWords Go.Proofs.YtjepecinpgjgdaaW.PrintLast Go.Proofs.YtjepecinpgjgdaaW.PrintMore Go.Proofs.Ytjepecinpgjgdaa.E
set_option linter.unusedSimpArgs false
set_option linter.unusedVariables false
theorem of_ok {l : List Int} (hl : Bytes l) (p q : Int) (xs : List ByteArray) (h0 : 0 ≤ p) (h1 : p ≤ 100000000000) (hx : 1 ≤ xs.length) (hx2 : xs.length ≤ 1000000) :
  ∃ r p' q', spec_l1Cur_of.f l p q xs = some (r, p', q') ∧ r ∈ xs ∧ p ≤ p' ∧ p' ≤ p + 2 := by
 obtain ⟨i, p1, q1, e1, h2, h3, h4, h5⟩ := pick_ok hl p q xs.length h0 h1 (by omega)
 have hi : i.toNat < xs.length := by omega
 refine ⟨rdOf ByteArray.empty xs i, p1, q1, ?_, ?_, h4, h5⟩
 ·unfold spec_l1Cur_of.f
  rw [e1]
  simp only [Option.bind_some]
  rw [if_pos h2, if_pos (by omega)]
 ·unfold rdOf
  rw [List.getD_eq_getElem?_getD, List.getElem?_eq_getElem hi]
  exact List.getElem_mem hi
end Go.Proofs.Ytjepecinpgjgdaa.ZVau
/-! The cursor of the draws: one of some numbers. -/
namespace Go.Proofs.Ytjepecinpgjgdaa.ZVau
open Go.RowKit Go.Proofs.Ytjepecinpgjgdaa.PVau Go.Proofs.YtjepecinpgjgdaaW.PrintWords Go.Proofs.YtjepecinpgjgdaaW.PrintLast Go.Proofs.YtjepecinpgjgdaaW.PrintMore Go.Proofs.Ytjepecinpgjgdaa.E
set_option linter.unusedSimpArgs false
set_option linter.unusedVariables false
theorem among_ok {l : List Int} (hl : Bytes l) (p q : Int) (xs : List Int) (h0 : 0 ≤ p) (h1 : p ≤ 100000000000) (hx : 1 ≤ xs.length) (hx2 : xs.length ≤ 1000000) :
  ∃ r p' q', spec_l1Cur_among.f l p q xs = some (r, p', q') ∧ r ∈ xs ∧ p ≤ p' ∧ p' ≤ p + 2 := by
 obtain ⟨i, p1, q1, e1, h2, h3, h4, h5⟩ := pick_ok hl p q xs.length h0 h1 (by omega)
 have hi : i.toNat < xs.length := by omega
 refine ⟨rd xs i, p1, q1, ?_, ?_, h4, h5⟩
 ·unfold spec_l1Cur_among.f
  rw [e1]
  simp only [Option.bind_some]
  rw [if_pos h2, if_pos (by omega)]
 ·unfold rd
  rw [List.getD_eq_getElem?_getD, List.getElem?_eq_getElem hi]
  exact List.getElem_mem hi
end Go.Proofs.Ytjepecinpgjgdaa.ZVau
/-! The draws: words come to an end, and are short. -/
namespace Go.Proofs.Ytjepecinpgjgdaa.ZVau
open Go.RowKit Go.Proofs.Ytjepecinpgjgdaa.PVau Go.Proofs.YtjepecinpgjgdaaW.PrintWords Go.Proofs.YtjepecinpgjgdaaW.PrintLast Go.Proofs.YtjepecinpgjgdaaW.PrintMore Go.Proofs.Ytjepecinpgjgdaa.E
set_option linter.unusedSimpArgs false
set_option linter.unusedVariables false
theorem strOf_size' (xs : List Int) : (strOfNums xs).size = xs.length := by
 simp [strOfNums, ByteArray.size]
theorem zeros_ok (n : Int) (h0 : 0 ≤ n) (h1 : n ≤ 1000000) : ∃ s, spec_l1Zeros.f n = some s ∧ (s.size : Int) = n := by
 refine ⟨strOfNums (List.replicate n.toNat 0), ?_, ?_⟩
 ·unfold spec_l1Zeros.f
  rw [if_pos h0, if_pos (by omega)]
 ·rw [strOf_size', List.length_replicate]; omega
theorem one_ok {l : List Int} (hl : Bytes l) (p q n : Int) (h0 : 0 ≤ p) (h1 : p ≤ 100000000000) (hn : n ≤ 1000000000000) : ∃ r p' q', spec_l1Cur_one.f l p q n = some (r, p', q') ∧ p ≤ p' ∧ p' ≤ p + 2 := by
 obtain ⟨r, p1, q1, e1, h2, h3, h4, h5⟩ := pick_ok hl p q n h0 h1 hn
 refine ⟨r == 0, p1, q1, ?_, h4, h5⟩
 unfold spec_l1Cur_one.f
 rw [e1]
 rfl
theorem words_l {l : List Int} (hl : Bytes l) : ∀ (f : Nat) (x : ByteArray) (n p q : Int), n = f → n ≤ 100 → 0 ≤ p → p + 100 * f ≤ 1000000000 → x.size + 7 * f ≤ 100000 →
  ∃ s p' q', Ev (fun k => spec_l1Cur_words.l0 k x n l p q) (s, p', q') ∧ s.size ≤ x.size + 7 * f + 400 ∧ p ≤ p' ∧ p' ≤ p + 100 + 100 * f := by
 intro f
 induction f with
 | zero =>
  intro x n p q hn hn2 h0 h1 hx
  obtain ⟨r, p1, q1, e1, h4, h5⟩ := one_ok hl p q 20 h0 (by omega) (by omega)
  cases r with
  | true =>
   obtain ⟨z, p2, q2, e2, hz, h6, h7⟩ := among_ok hl p1 q1 [30, 300, 320, 400] (by omega) (by omega) (by simp) (by simp)
   have hz' : 0 ≤ z ∧ z ≤ 400 := by simp at hz; omega
   obtain ⟨t, et, ht⟩ := zeros_ok z hz'.1 (by omega)
   exact ⟨x ++ t, p2, q2, Ev.step (fun _ => spec_l1Cur_words.l0.eq_2 ..) (ev_neg (by omega) (ev_bindc e1 (ev_true rfl (ev_bindc e2 (ev_bindc et (ev_pos (by show x.size + t.size ≤ _; omega) (ev_ret rfl))))))), by rw [ByteArray.size_append]; omega, by omega, by omega⟩
  | false =>
   exact ⟨x, p1, q1, Ev.step (fun _ => spec_l1Cur_words.l0.eq_2 ..) (ev_neg (by omega) (ev_bindc e1 (ev_false rfl (ev_ret rfl)))), by omega, by omega, by omega⟩
 | succ f ih =>
  intro x n p q hn hn2 h0 h1 hx
  obtain ⟨t, p2, q2, e2, ht, g1, g2⟩ := of_ok hl p q ([(⟨#[116, 104, 101, 32]⟩ : ByteArray), (⟨#[98, 108, 111, 99, 107, 32]⟩ : ByteArray), (⟨#[111, 102, 32]⟩ : ByteArray), (⟨#[97, 32, 102, 105, 108, 101, 32]⟩ : ByteArray), (⟨#[97, 97, 97, 97]⟩ : ByteArray), (⟨#[120, 121, 122]⟩ : ByteArray), (⟨#[48, 49, 50, 51]⟩ : ByteArray)] : List ByteArray) (by omega) (by omega) (by simp) (by simp)
  have hts : t.size ≤ 7 := by
   simp only [List.mem_cons, List.not_mem_nil, or_false] at ht
   rcases ht with rfl | rfl | rfl | rfl | rfl | rfl | rfl <;> decide
  obtain ⟨s, p', q', e, k1, k2, k3⟩ := ih (x ++ t) (n - 1) p2 q2 (by omega) (by omega) (by omega) (by omega) (by rw [ByteArray.size_append]; omega)
  rw [ByteArray.size_append] at k1
  refine ⟨s, p', q', Ev.step (fun _ => spec_l1Cur_words.l0.eq_2 ..) (ev_pos (by omega) (ev_bindc e2 (ev_pos (by show x.size + t.size ≤ _; omega) ?_))), by omega, by omega, by omega⟩
  rw [w64 (x := n - 1) (by omega) (by omega)]
  exact e
theorem words_ok {l : List Int} (hl : Bytes l) (p q : Int) (h0 : 0 ≤ p) (h1 : p ≤ 10000000) : ∃ s p' q', Ev (fun k => spec_l1Cur_words.f k l p q) (s, p', q') ∧ s.size ≤ 600 ∧ p ≤ p' ∧ p' ≤ p + 10000 := by
 obtain ⟨r, p1, q1, e1, h2, h3, h4, h5⟩ := pick_ok hl p q 16 h0 (by omega) (by omega)
 have hz : (⟨#[]⟩ : ByteArray).size = 0 := rfl
 obtain ⟨s, p', q', e, g1, g2, g3⟩ := words_l hl r.toNat ⟨#[]⟩ r p1 q1 (by omega) (by omega) (by omega) (by omega) (by rw [hz]; omega)
 refine ⟨s, p', q', ?_, by omega, by omega, by omega⟩
 unfold spec_l1Cur_words.f
 exact ev_bindc e1 e
end Go.Proofs.Ytjepecinpgjgdaa.ZVau
