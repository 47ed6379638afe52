/- TokensOf of the program is TokensOf of the reference, and what it gives is the caller's own, for all texts; no condition. -/
import Derived.Test.YtgglcpcfmhpcmaaZFnExactTokensOfLzTokens
import Derived.Test.YtgglcpcfmhpcmaaZFnExactTokensOfExTail
namespace Go.Proofs.Ytgglcpcfmhpcmaa.Pure
open Go.RowKit Go.Proofs.Ytgglcpcfmhpcmaa.PFnExactTokensOf Go.Proofs.YtgglcpcfmhpcmaaW.PrintWords Go.Proofs.YtgglcpcfmhpcmaaW.PrintLast Go.Proofs.Ytgglcpcfmhpcmaa.E Go.Proofs.Ytgglcpcfmhpcmaa.ZFnExactTokensOf
set_option linter.unusedSimpArgs false
set_option linter.unusedVariables false

namespace HTokensOf
theorem toks_len (s : ByteArray) : ∀ (f : Nat) (out : List S56) (p : Int), ((toks s f out p).length : Int) ≤ out.length + f := by
  intro f
  induction f with
  | zero => intro out p; simp [toks]
  | succ f ih =>
    intro out p
    simp only [toks]
    split
    · split
      · have := ih (out ++ [⟨⟨#[]⟩, (longest s p).1, (longest s p).2⟩]) (p + (longest s p).2)
        simp at this ⊢; omega
      · split
        · have := ih (out.set ((out.length : Int) - 1).toNat ⟨(lst out).f0 ++ one s p, (lst out).f1, (lst out).f2⟩) (p + 1)
          simp at this ⊢; omega
        · have := ih (out ++ [⟨one s p, 0, 0⟩]) (p + 1)
          simp at this ⊢; omega
    · omega
end HTokensOf
open HTokensOf

theorem FnExactTokensOf : laws_FnExactTokensOf.Pure := by
  intro s _
  refine Ev.rounds (r := true) ?_
  by_cases hb : (s.size : Int) > 1048576
  · unfold laws_FnExactTokensOf.f
    exact ev_pos hb (ev_ret rfl)
  · by_cases h6 : (s.size : Int) > 600
    · have hw : Ev (fun k => spec_TokensOf.f k s) ([], false) := by unfold spec_TokensOf.f; exact ev_pos h6 (ev_ret rfl)
      have hi : Ev (fun k => impl_TokensOf.f k s) ([], false) := by unfold impl_TokensOf.f; exact ev_pos h6 (ev_ret rfl)
      exact whole s [] false (by simp) hw hi hb
    · have hl := toks_len s s.size [] 0
      have hw : Ev (fun k => spec_TokensOf.f k s) (toks s s.size [] 0, true) := by
        unfold spec_TokensOf.f spec_l16Tokens.f
        exact ev_neg h6 (Ev.bind (spec_toks s (by omega) s.size [] 0 (by omega) (by omega) (by omega) (by simp)) (ev_ret rfl))
      have hi : Ev (fun k => impl_TokensOf.f k s) (toks s s.size [] 0, true) := by
        unfold impl_TokensOf.f impl_tokensOf.f
        exact ev_neg h6 (Ev.bind (impl_toks s (by omega) s.size [] 0 (by omega) (by omega) (by omega) (by simp)) (ev_ret rfl))
      simp at hl
      exact whole s _ true (by omega) hw hi hb

end Go.Proofs.Ytgglcpcfmhpcmaa.Pure
