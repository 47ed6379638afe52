/- Unsqueeze of the program is Unsqueeze of the reference, for all texts; no condition. -/
import Derived.Test.YtgglcpcfmhpcmaaZFnExactUnsqueezeLzUnpack
import Derived.Test.YtgglcpcfmhpcmaaZFnExactUnsqueezeLzExpand
namespace Go.Proofs.Ytgglcpcfmhpcmaa.Pure
open Go.RowKit Go.Proofs.Ytgglcpcfmhpcmaa.PFnExactUnsqueeze Go.Proofs.YtgglcpcfmhpcmaaW.PrintWords Go.Proofs.YtgglcpcfmhpcmaaW.PrintLast Go.Proofs.Ytgglcpcfmhpcmaa.E Go.Proofs.Ytgglcpcfmhpcmaa.ZFnExactUnsqueeze
set_option linter.unusedSimpArgs false
set_option linter.unusedVariables false

theorem FnExactUnsqueeze : laws_FnExactUnsqueeze.Pure := by
  intro s _
  refine Ev.rounds (r := true) ?_
  unfold laws_FnExactUnsqueeze.f
  by_cases hb : (s.size : Int) > 1048576
  · exact ev_pos hb (ev_ret rfl)
  · have hl := ans_len s
    have hw := spec_unpack s (by omega)
    have hi := impl_unpack s (by omega)
    have hfin : ∀ q : ByteArray × Bool, Ev (fun _ : Nat => (if q.1.toList = q.1.toList then (if (q.2 != q.2) = true then (some false) else (some true)) else (some false))) true := fun q => ev_pos rfl (ev_neg (by simp) (ev_ret rfl))
    refine ev_neg hb ?_
    unfold spec_Unsqueeze.f impl_Unsqueeze.f
    by_cases hg : (ans (unp s s.size 0 [])).2 = true
    · have hgd : gd (ans (unp s s.size 0 [])).1 (ans (unp s s.size 0 [])).1.length 0 0 = true := by
        cases hu : unp s s.size 0 [] with
        | none => rw [hu] at hg; cases hg
        | some l =>
          rw [hu] at hg
          simp only [ans] at hg ⊢
          split at hg
          · rename_i h; rw [if_pos h]; exact h
          · cases hg
      have he := spec_exp _ (by omega) hgd
      have hx := impl_exp (ans (unp s s.size 0 [])).1 (by omega)
      have er : res (ans (unp s s.size 0 [])).1 (ans (unp s s.size 0 [])).1.length 0 [] = (strOfNums (expM (ans (unp s s.size 0 [])).1 (ans (unp s s.size 0 [])).1.length 0 []), true) := if_pos hgd
      rw [er] at hx
      exact Ev.bind (Ev.bind hw (ev_true hg (Ev.bind he (ev_ret rfl)))) (Ev.bind (Ev.bind hi (ev_true hg (Ev.bind hx (ev_ret rfl)))) (hfin (_, true)))
    · exact Ev.bind (Ev.bind hw (ev_neg hg (ev_ret rfl))) (Ev.bind (Ev.bind hi (ev_neg hg (ev_ret rfl))) (hfin (⟨#[]⟩, false)))

end Go.Proofs.Ytgglcpcfmhpcmaa.Pure
