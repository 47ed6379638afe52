import Derived.Test.YtgglcpcfmhpcmaaZFnExactExpandTokensToToken
import Derived.Test.YtgglcpcfmhpcmaaZFnExactExpandTokensLzExpand
namespace Go.Proofs.Ytgglcpcfmhpcmaa.Pure
open Go.RowKit Go.Proofs.Ytgglcpcfmhpcmaa.PFnExactExpandTokens Go.Proofs.YtgglcpcfmhpcmaaW.PrintWords Go.Proofs.YtgglcpcfmhpcmaaW.PrintLast Go.Proofs.Ytgglcpcfmhpcmaa.E Go.Proofs.Ytgglcpcfmhpcmaa.ZFnExactExpandTokens
set_option linter.unusedSimpArgs false
set_option linter.unusedVariables false

theorem spec_all (l : List S56) (hl : (l.length : Int) ≤ 100000000000) : Ev (fun k => spec_ExpandTokens.f k l) (res l l.length 0 []) := by
  unfold spec_ExpandTokens.f
  refine Ev.bind (spec_good l hl) ?_
  by_cases hg : gd l l.length 0 0 = true
  · have er : res l l.length 0 [] = (strOfNums (expM l l.length 0 []), true) := if_pos hg
    rw [er]
    exact ev_true hg (Ev.bind (spec_exp l hl hg) (ev_ret rfl))
  · have er : res l l.length 0 [] = (⟨#[]⟩, false) := if_neg hg
    rw [er]
    exact ev_neg hg (ev_ret rfl)
theorem impl_all (l : List S56) (hl : (l.length : Int) ≤ 100000000000) : Ev (fun k => impl_ExpandTokens.f k l) (res l l.length 0 []) := by
  unfold impl_ExpandTokens.f
  exact Ev.bind (impl_exp l hl) (ev_ret rfl)
theorem FnExactExpandTokens (l : List S55) (hm : l.length ≤ 9223372036854775807) (hw : ∀ x ∈ l, x.f0.size ≤ 9223372036854775807) : ∃ k, laws_FnExactExpandTokens.f k l = some true := by
  refine Ev.rounds (r := true) ?_
  unfold laws_FnExactExpandTokens.f
  obtain ⟨r, hr, hr2⟩ := sz l hm hw
  by_cases hn : r < 0
  · exact Ev.bind hr (ev_pos hn (ev_ret rfl))
  · have hl := hr2.resolve_left hn
    have hc := conv_len l
    refine Ev.bind hr (ev_neg hn (Ev.bind (toS l hl) (Ev.bind (spec_all _ (by omega)) (Ev.bind (toS l hl) (Ev.bind (impl_all _ (by omega)) (ev_pos rfl ?_))))))
    exact Ev.step (fun _ => laws_FnExactExpandTokens.j0.eq_2 ..) (ev_neg (by simp) (Ev.bind (toS l hl) (Ev.bind (eqToken _ (by omega)) (ev_true rfl (ev_ret rfl)))))
end Go.Proofs.Ytgglcpcfmhpcmaa.Pure
