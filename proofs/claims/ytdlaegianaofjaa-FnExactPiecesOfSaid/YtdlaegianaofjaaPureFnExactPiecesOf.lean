/- PiecesOf of the program is PiecesOf of the reference, and what it gives is the caller's own, for all texts; no condition. -/
import Derived.Test.YtdlaegianaofjaaZFnExactPiecesOfPieces
import Derived.Test.YtdlaegianaofjaaZFnExactPiecesOfExTail
namespace Go.Proofs.Ytdlaegianaofjaa.Pure
open Go.RowKit Go.Proofs.Ytdlaegianaofjaa.PFnExactPiecesOf Go.Proofs.YtdlaegianaofjaaW.PrintWords Go.Proofs.YtdlaegianaofjaaW.PrintLast Go.Proofs.Ytdlaegianaofjaa.E Go.Proofs.Ytdlaegianaofjaa.ZFnExactPiecesOf
set_option linter.unusedSimpArgs false
set_option linter.unusedVariables false

theorem FnExactPiecesOf : laws_FnExactPiecesOf.Pure := by
  intro s _
  refine Ev.rounds (r := true) ?_
  by_cases hb : (s.size : Int) > 1048576
  · unfold laws_FnExactPiecesOf.f
    exact ev_pos hb (ev_ret rfl)
  · by_cases h6 : (s.size : Int) > 400
    · have hw : Ev (fun k => spec_PiecesOf.f k s) ([], false) := by unfold spec_PiecesOf.f; exact ev_pos h6 (ev_ret rfl)
      have hi : Ev (fun k => impl_PiecesOf.f k s) ([], false) := by
        unfold impl_PiecesOf.f impl_CutsOf.f
        exact Ev.bind (ev_pos h6 (ev_ret rfl)) (ev_false rfl (ev_ret rfl))
      exact whole s [] false (by simp) hw hi hb
    · have hl := pieces_len s
      have hw : Ev (fun k => spec_PiecesOf.f k s) (pieces s, true) := by
        unfold spec_PiecesOf.f
        exact ev_neg h6 (Ev.bind (spec_pieces s (by omega)) (ev_ret rfl))
      exact whole s _ true (by omega) hw (impl_piecesOf s (by omega) h6) hb

end Go.Proofs.Ytdlaegianaofjaa.Pure
