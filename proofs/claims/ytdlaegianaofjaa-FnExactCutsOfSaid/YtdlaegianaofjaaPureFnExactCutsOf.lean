/- CutsOf of the program is CutsOf of the reference, and what it gives is the caller's own, for all texts; no condition. -/
import Derived.Test.YtdlaegianaofjaaZFnExactCutsOfCuts
import Derived.Test.YtdlaegianaofjaaZFnExactCutsOfExTail
namespace Go.Proofs.Ytdlaegianaofjaa.Pure
open Go.RowKit Go.Proofs.Ytdlaegianaofjaa.PFnExactCutsOf Go.Proofs.YtdlaegianaofjaaW.PrintWords Go.Proofs.YtdlaegianaofjaaW.PrintLast Go.Proofs.Ytdlaegianaofjaa.E Go.Proofs.Ytdlaegianaofjaa.ZFnExactCutsOf
set_option linter.unusedSimpArgs false
set_option linter.unusedVariables false

theorem FnExactCutsOf : laws_FnExactCutsOf.Pure := by
  intro s _
  refine Ev.rounds (r := true) ?_
  by_cases hb : (s.size : Int) > 1048576
  · unfold laws_FnExactCutsOf.f
    exact ev_pos hb (ev_ret rfl)
  · by_cases h6 : (s.size : Int) > 400
    · have hw : Ev (fun k => spec_CutsOf.f k s) ([], false) := by unfold spec_CutsOf.f; exact ev_pos h6 (ev_ret rfl)
      have hi : Ev (fun k => impl_CutsOf.f k s) ([], false) := by unfold impl_CutsOf.f; exact ev_pos h6 (ev_ret rfl)
      exact whole s [] false (by simp) hw hi hb
    · have hl := (cuts_up s).2.2
      have hw : Ev (fun k => spec_CutsOf.f k s) (cuts s, true) := by
        unfold spec_CutsOf.f
        exact ev_neg h6 (Ev.bind (spec_cuts s (by omega)) (ev_ret rfl))
      have hi : Ev (fun k => impl_CutsOf.f k s) (cuts s, true) := by
        unfold impl_CutsOf.f
        exact ev_neg h6 (Ev.bind (impl_cuts s (by omega)) (ev_ret rfl))
      exact whole s _ true (by omega) hw hi hb

end Go.Proofs.Ytdlaegianaofjaa.Pure
