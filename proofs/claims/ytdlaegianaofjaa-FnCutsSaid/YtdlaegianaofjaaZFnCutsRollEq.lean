import Derived.Test.YtdlaegianaofjaaYFnCutsx1
import Derived.Test.YtdlaegianaofjaaYFnCutsx2
import Derived.Test.YtdlaegianaofjaaYFnCutsx3
import Derived.Test.YtdlaegianaofjaaYFnCutsx4
import Derived.Test.YtdlaegianaofjaaEv
/-! RollOn of the program is RollOn of the reference. -/
namespace Go.Proofs.Ytdlaegianaofjaa.ZFnCuts
open Go.RowKit Go.Proofs.Ytdlaegianaofjaa.PFnCuts Go.Proofs.YtdlaegianaofjaaW.PrintWords Go.Proofs.YtdlaegianaofjaaW.PrintLast Go.Proofs.YtdlaegianaofjaaW.PrintMore Go.Proofs.Ytdlaegianaofjaa.E
set_option linter.unusedSimpArgs false
set_option linter.unusedVariables false
theorem roll_eq (h o i : Int) (wo' : 0 ≤ o ∧ o ≤ 255) (wi' : 0 ≤ i ∧ i ≤ 255) : ∃ r, impl_RollOn.f h o i = some r ∧ spec_RollOn.f h o i = some r := by
  unfold spec_RollOn.f impl_RollOn.f spec_l1In.f impl_within.f
  by_cases h0 : h ≥ 0
  · by_cases h1 : h ≤ 4092
    · have e1 : decide (h ≤ 4092) = true := by simpa using h1
      simp only [if_pos h0, e1, Option.bind_some, if_true]
      rw [w64 (x := o) (by omega) (by omega), w64 (x := i) (by omega) (by omega)]
      rw [w64 (x := 31 * h) (by omega) (by omega), w64 (x := 31 * h + i) (by omega) (by omega), w64 (x := 2596 * o) (by omega) (by omega), w64 (x := 31 * h + i - 2596 * o) (by omega) (by omega), w64 (x := o * 1140) (by omega) (by omega), w64 (x := h - o * 1140) (by omega) (by omega)]
      have t1 := tmod_cases (h - o * 1140) 4093
      rw [w64 (x := 31 * Int.tmod (h - o * 1140) 4093) (by omega) (by omega), w64 (x := 31 * Int.tmod (h - o * 1140) 4093 + i) (by omega) (by omega)]
      have t2 := tmod_cases (31 * Int.tmod (h - o * 1140) 4093 + i) 4093
      rw [w64 (x := Int.tmod (31 * Int.tmod (h - o * 1140) 4093 + i) 4093 + 4093) (by omega) (by omega)]
      have t3 := tmod_cases (31 * h + i - 2596 * o) 4093
      have t4 := tmod_pos (x := Int.tmod (31 * Int.tmod (h - o * 1140) 4093 + i) 4093 + 4093) (by omega) 4093
      rw [w64 (x := Int.tmod (31 * h + i - 2596 * o) 4093 + 4093) (by omega) (by omega)]
      by_cases hn : Int.tmod (31 * h + i - 2596 * o) 4093 < 0
      · rw [if_pos hn]
        have e : Int.tmod (Int.tmod (31 * Int.tmod (h - o * 1140) 4093 + i) 4093 + 4093) 4093 = Int.tmod (31 * h + i - 2596 * o) 4093 + 4093 := by omega
        exact ⟨_, rfl, by rw [e]⟩
      · rw [if_neg hn]
        have e : Int.tmod (Int.tmod (31 * Int.tmod (h - o * 1140) 4093 + i) 4093 + 4093) 4093 = Int.tmod (31 * h + i - 2596 * o) 4093 := by omega
        exact ⟨_, rfl, by rw [e]⟩
    · have e1 : decide (h ≤ 4092) = false := by simpa using h1
      exact ⟨(0, false), by simp [h0, e1], by simp [h0, e1]⟩
  · exact ⟨(0, false), by simp [h0], by simp [h0]⟩
end Go.Proofs.Ytdlaegianaofjaa.ZFnCuts
