/- RollOn of the program is RollOn of the reference, for all arguments that Go's int and byte hold; no condition. -/
import Derived.Test.YtgglcpcfmhpcmaaPFnExactRollOnx1
import Derived.Test.YtgglcpcfmhpcmaaEv
namespace Go.Proofs.Ytgglcpcfmhpcmaa.Pure
open Go.RowKit Go.Proofs.Ytgglcpcfmhpcmaa.PFnExactRollOn Go.Proofs.YtgglcpcfmhpcmaaW.PrintWords Go.Proofs.YtgglcpcfmhpcmaaW.PrintLast Go.Proofs.Ytgglcpcfmhpcmaa.E
set_option linter.unusedSimpArgs false
set_option linter.unusedVariables false

theorem FnExactRollOn : laws_FnExactRollOn.Pure := by
  intro h o i wh wo wi
  have wo' := wf8 wo
  have wi' := wf8 wi
  clear wo wi wh
  unfold laws_FnExactRollOn.f spec_RollOn.f impl_RollOn.f spec_l1In.f impl_within.f
  by_cases h0 : h ≥ 0
  · by_cases h1 : h ≤ 4092
    · have e1 : decide (h ≤ 4092) = true := by simpa using h1
      simp only [if_pos h0, e1, Option.bind_some, if_true]
      rw [w64 (x := o) (by omega) (by omega), w64 (x := i) (by omega) (by omega)]
      rw [w64 (x := 31 * h) (by omega) (by omega), w64 (x := 31 * h + i) (by omega) (by omega), w64 (x := 2596 * o) (by omega) (by omega), w64 (x := 31 * h + i - 2596 * o) (by omega) (by omega), w64 (x := o * 1140) (by omega) (by omega), w64 (x := h - o * 1140) (by omega) (by omega)]
      have t1 := tmod_cases (h - o * 1140) 4093
      have ha : -4093 < Int.tmod (h - o * 1140) 4093 ∧ Int.tmod (h - o * 1140) 4093 < 4093 := by omega
      rw [w64 (x := 31 * Int.tmod (h - o * 1140) 4093) (by omega) (by omega), w64 (x := 31 * Int.tmod (h - o * 1140) 4093 + i) (by omega) (by omega)]
      have t2 := tmod_cases (31 * Int.tmod (h - o * 1140) 4093 + i) 4093
      have hb : -4093 < Int.tmod (31 * Int.tmod (h - o * 1140) 4093 + i) 4093 ∧ Int.tmod (31 * Int.tmod (h - o * 1140) 4093 + i) 4093 < 4093 := by omega
      rw [w64 (x := Int.tmod (31 * Int.tmod (h - o * 1140) 4093 + i) 4093 + 4093) (by omega) (by omega)]
      have t3 := tmod_cases (31 * h + i - 2596 * o) 4093
      have t4 := tmod_pos (x := Int.tmod (31 * Int.tmod (h - o * 1140) 4093 + i) 4093 + 4093) (by omega) 4093
      have hc : -4093 < Int.tmod (31 * h + i - 2596 * o) 4093 ∧ Int.tmod (31 * h + i - 2596 * o) 4093 < 4093 := by omega
      rw [w64 (x := Int.tmod (31 * h + i - 2596 * o) 4093 + 4093) (by omega) (by omega)]
      by_cases hn : Int.tmod (31 * h + i - 2596 * o) 4093 < 0
      · rw [if_pos hn]
        have e : Int.tmod (Int.tmod (31 * Int.tmod (h - o * 1140) 4093 + i) 4093 + 4093) 4093 = Int.tmod (31 * h + i - 2596 * o) 4093 + 4093 := by omega
        simp [e]
      · rw [if_neg hn]
        have e : Int.tmod (Int.tmod (31 * Int.tmod (h - o * 1140) 4093 + i) 4093 + 4093) 4093 = Int.tmod (31 * h + i - 2596 * o) 4093 := by omega
        simp [e]
    · have e1 : decide (h ≤ 4092) = false := by simpa using h1
      simp [if_pos h0, e1]
  · simp [if_neg h0]

end Go.Proofs.Ytgglcpcfmhpcmaa.Pure
