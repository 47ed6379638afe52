import Derived.Test.YtdlaegianaofjaaYFnCutsx1
import Derived.Test.YtdlaegianaofjaaYFnCutsx2
import Derived.Test.YtdlaegianaofjaaYFnCutsx3
import Derived.Test.YtdlaegianaofjaaYFnCutsx4
import Derived.Test.YtdlaegianaofjaaEv
/-! The cursor of the draws: a byte, a number below another. -/
namespace Go.Proofs.Ytdlaegianaofjaa.ZFnCuts
open Go.RowKit Go.Proofs.Ytdlaegianaofjaa.PFnCuts Go.Proofs.YtdlaegianaofjaaW.PrintWords Go.Proofs.YtdlaegianaofjaaW.PrintLast Go.Proofs.YtdlaegianaofjaaW.PrintMore Go.Proofs.Ytdlaegianaofjaa.E
set_option linter.unusedSimpArgs false
set_option linter.unusedVariables false

theorem wrap_u64 (n : Int) : IntKind.u64.wrap n = n % 18446744073709551616 := by simp [IntKind.wrap, IntKind.bits, IntKind.signed]
theorem u64_and255 (x : Int) (h0 : 0 ≤ x) (h1 : x < 18446744073709551616) : bits .and .u64 x 255 = x % 256 :=
  bits_mask .u64 64 (by decide) (fun n a b => by rw [wrap_u64]; omega) 8 (by decide) x h0 h1
/-- The bytes that are drawn from. -/
def Bytes (l : List Int) : Prop := ∀ x ∈ l, 0 ≤ x ∧ x ≤ 255
theorem bytes_rd {l : List Int} (h : Bytes l) (i : Int) : 0 ≤ rd l i ∧ rd l i ≤ 255 := by
  unfold rd
  rw [List.getD_eq_getElem?_getD]
  by_cases hi : i.toNat < l.length
  · rw [List.getElem?_eq_getElem hi]
    exact h _ (List.getElem_mem hi)
  · rw [List.getElem?_eq_none (by omega)]
    simp
theorem bytes_of {l : List Int} (h : ∀ x ∈ l, (Lit.int .u8 x).wf = true) : Bytes l := fun x hx => wf8 (h x hx)
theorem next_ok {l : List Int} (hl : Bytes l) (p q : Int) (h0 : 0 ≤ p) (h1 : p ≤ 1000000000000) : ∃ b q', spec_l1Cur_next.f l p q = some (b, p + 1, q') ∧ 0 ≤ b ∧ b ≤ 255 := by
  have hr := bytes_rd hl p
  have e : ∀ y : Int, 0 ≤ wrap64 (bits .and .u64 (IntKind.u64.wrap y / 1099511627776) 255) ∧ wrap64 (bits .and .u64 (IntKind.u64.wrap y / 1099511627776) 255) ≤ 255 := by
    intro y
    rw [wrap_u64, u64_and255 _ (by omega) (by omega), w64 (by omega) (by omega)]
    omega
  unfold spec_l1Cur_next.f
  rw [w64 (x := p + 1) (by omega) (by omega), w64 (x := rd l p) (by omega) (by omega)]
  by_cases a : p < (l.length : Int)
  · rw [if_pos a, if_pos h0]
    by_cases b : p + 1 ≤ (l.length : Int)
    · rw [if_pos b]
      exact ⟨_, _, rfl, hr⟩
    · rw [if_neg b]
      exact ⟨_, _, rfl, e _⟩
  · rw [if_neg a]
    by_cases b : p + 1 ≤ (l.length : Int)
    · rw [if_pos b]
      exact ⟨_, _, rfl, by omega⟩
    · rw [if_neg b]
      exact ⟨_, _, rfl, e _⟩
theorem pick_ok {l : List Int} (hl : Bytes l) (p q n : Int) (h0 : 0 ≤ p) (h1 : p ≤ 100000000000) (hn : n ≤ 1000000000000) : ∃ r p' q', spec_l1Cur_pick.f l p q n = some (r, p', q') ∧ 0 ≤ r ∧ (r < n ∨ n ≤ 1 ∧ r = 0) ∧ p ≤ p' ∧ p' ≤ p + 2 := by
  unfold spec_l1Cur_pick.f
  by_cases a : n ≤ 1
  · rw [if_pos a]
    exact ⟨0, p, q, rfl, by omega, by omega, by omega, by omega⟩
  · rw [if_neg a]
    obtain ⟨b, q1, e1, hb⟩ := next_ok hl p q h0 (by omega)
    rw [e1]
    simp only [Option.bind_some]
    by_cases c : n > 200
    · rw [if_pos c]
      obtain ⟨b2, q2, e2, hb2⟩ := next_ok hl (p + 1) q1 (by omega) (by omega)
      rw [e2]
      simp only [Option.bind_some]
      rw [if_neg (by omega), w64 (x := b * 256) (by omega) (by omega), w64 (x := b * 256 + b2) (by omega) (by omega), tmod_pos (by omega)]
      refine ⟨_, _, _, rfl, Int.emod_nonneg _ (by omega), .inl (Int.emod_lt_of_pos _ (by omega)), by omega, by omega⟩
    · rw [if_neg c, if_neg (by omega), tmod_pos (by omega)]
      refine ⟨_, _, _, rfl, Int.emod_nonneg _ (by omega), .inl (Int.emod_lt_of_pos _ (by omega)), by omega, by omega⟩
end Go.Proofs.Ytdlaegianaofjaa.ZFnCuts
