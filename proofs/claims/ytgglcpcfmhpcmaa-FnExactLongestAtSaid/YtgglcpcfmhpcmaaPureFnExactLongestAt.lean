/- LongestAt of the program is LongestAt of the reference, for all texts and places; no condition. -/
import Derived.Test.YtgglcpcfmhpcmaaPFnExactLongestAtx2
import Derived.Test.YtgglcpcfmhpcmaaZFnExactLongestAtLzLongest
namespace Go.Proofs.Ytgglcpcfmhpcmaa.Pure
open Go.RowKit Go.Proofs.Ytgglcpcfmhpcmaa.PFnExactLongestAt Go.Proofs.YtgglcpcfmhpcmaaW.PrintWords Go.Proofs.YtgglcpcfmhpcmaaW.PrintLast Go.Proofs.Ytgglcpcfmhpcmaa.E Go.Proofs.Ytgglcpcfmhpcmaa.ZFnExactLongestAt
set_option linter.unusedSimpArgs false
set_option linter.unusedVariables false

theorem FnExactLongestAt : laws_FnExactLongestAt.Pure := by
  intro s p _ _
  refine Ev.rounds (r := true) ?_
  unfold laws_FnExactLongestAt.f spec_LongestAt.f impl_LongestAt.f spec_l1In.f impl_within.f
  by_cases hb : (s.size : Int) > 1048576
  · exact ev_pos hb (ev_ret rfl)
  · refine ev_neg hb ?_
    by_cases h6 : (s.size : Int) > 600
    · exact Ev.bind (ev_pos h6 (ev_ret rfl)) (Ev.bind (ev_pos h6 (ev_ret rfl)) (ev_pos rfl (ev_pos rfl (ev_neg (by simp) (ev_ret rfl)))))
    · by_cases h0 : p ≥ 0
      · by_cases h1 : p ≤ (s.size : Int)
        · have e : decide (p ≤ (s.size : Int)) = true := by simpa using h1
          simp only [if_pos h0, e, Option.bind_some]
          exact Ev.bind (ev_neg h6 (ev_pos (by simp) (Ev.bind (spec_longest s p (by omega) h0 h1) (ev_ret rfl)))) (Ev.bind (ev_neg h6 (ev_pos (by simp) (Ev.bind (impl_longest s p (by omega) h0 h1) (ev_ret rfl)))) (ev_pos rfl (ev_pos rfl (ev_neg (by simp) (ev_ret rfl)))))
        · have e : decide (p ≤ (s.size : Int)) = false := by simpa using h1
          simp only [if_pos h0, e, Option.bind_some]
          exact Ev.bind (ev_neg h6 (ev_neg (by simp) (ev_ret rfl))) (Ev.bind (ev_neg h6 (ev_neg (by simp) (ev_ret rfl))) (ev_pos rfl (ev_pos rfl (ev_neg (by simp) (ev_ret rfl)))))
      · simp only [if_neg h0, Option.bind_some]
        exact Ev.bind (ev_neg h6 (ev_neg (by simp) (ev_ret rfl))) (Ev.bind (ev_neg h6 (ev_neg (by simp) (ev_ret rfl))) (ev_pos rfl (ev_pos rfl (ev_neg (by simp) (ev_ret rfl)))))

end Go.Proofs.Ytgglcpcfmhpcmaa.Pure
