/- UnpackTokens of the program is UnpackTokens of the reference, and what it gives is the caller's own, for all texts; no condition. -/
import Derived.Test.YtgglcpcfmhpcmaaZFnExactUnpackTokensLzUnpack
import Derived.Test.YtgglcpcfmhpcmaaZFnExactUnpackTokensExTail
namespace Go.Proofs.Ytgglcpcfmhpcmaa.Pure
open Go.RowKit Go.Proofs.Ytgglcpcfmhpcmaa.PFnExactUnpackTokens Go.Proofs.YtgglcpcfmhpcmaaW.PrintWords Go.Proofs.YtgglcpcfmhpcmaaW.PrintLast Go.Proofs.Ytgglcpcfmhpcmaa.E Go.Proofs.Ytgglcpcfmhpcmaa.ZFnExactUnpackTokens
set_option linter.unusedSimpArgs false
set_option linter.unusedVariables false

theorem FnExactUnpackTokens : laws_FnExactUnpackTokens.Pure := by
  intro s _
  refine Ev.rounds (r := true) ?_
  by_cases hb : (s.size : Int) > 1048576
  · unfold laws_FnExactUnpackTokens.f
    exact ev_pos hb (ev_ret rfl)
  · have hl := ans_len s
    exact whole s (ans (unp s s.size 0 [])).1 (ans (unp s s.size 0 [])).2 (by omega) (spec_unpack s (by omega)) (impl_unpack s (by omega)) hb

end Go.Proofs.Ytgglcpcfmhpcmaa.Pure
