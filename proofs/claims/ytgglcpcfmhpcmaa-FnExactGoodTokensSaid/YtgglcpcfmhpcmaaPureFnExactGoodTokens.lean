import Derived.Test.YtgglcpcfmhpcmaaZFnExactGoodTokensToToken
namespace Go.Proofs.Ytgglcpcfmhpcmaa.Pure
open Go.RowKit Go.Proofs.Ytgglcpcfmhpcmaa.PFnExactGoodTokens Go.Proofs.YtgglcpcfmhpcmaaW.PrintWords Go.Proofs.YtgglcpcfmhpcmaaW.PrintLast Go.Proofs.Ytgglcpcfmhpcmaa.E Go.Proofs.Ytgglcpcfmhpcmaa.ZFnExactGoodTokens
set_option linter.unusedSimpArgs false
set_option linter.unusedVariables false

theorem impl_good' (l : List S56) (hl : (l.length : Int) ≤ 100000000000) : Ev (fun k => impl_GoodTokens.f k l) (gd l l.length 0 0) := by
  unfold impl_GoodTokens.f
  refine Ev.bind (impl_exp l hl) (ev_ret ?_)
  unfold res
  cases h : gd l l.length 0 (([] : List Int).length : Int)
  · rw [if_neg (by simp)]
  · rw [if_pos rfl]
theorem FnExactGoodTokens (l : List S55) (hm : l.length ≤ 9223372036854775807) (hw : ∀ x ∈ l, x.f0.size ≤ 9223372036854775807) : ∃ k, laws_FnExactGoodTokens.f k l = some true := by
  refine Ev.rounds (r := true) ?_
  unfold laws_FnExactGoodTokens.f
  obtain ⟨r, hr, hr2⟩ := sz l hm hw
  by_cases hn : r < 0
  · exact Ev.bind hr (ev_pos hn (ev_ret rfl))
  · have hl := hr2.resolve_left hn
    have hc := conv_len l
    exact Ev.bind hr (ev_neg hn (Ev.bind (toS l hl) (Ev.bind (spec_good _ (by omega)) (Ev.bind (toS l hl) (Ev.bind (impl_good' _ (by omega)) (ev_neg (by simp) (Ev.bind (toS l hl) (Ev.bind (eqToken _ (by omega)) (ev_true rfl (ev_ret rfl))))))))))
end Go.Proofs.Ytgglcpcfmhpcmaa.Pure
