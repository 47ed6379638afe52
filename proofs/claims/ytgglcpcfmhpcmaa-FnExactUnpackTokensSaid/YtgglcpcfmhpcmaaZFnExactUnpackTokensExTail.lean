import Derived.Test.YtgglcpcfmhpcmaaZFnExactUnpackTokensMhToken
/-! The law's own steps behind the two calls: marks, marks held, the second call. -/
namespace Go.Proofs.Ytgglcpcfmhpcmaa.ZFnExactUnpackTokens
open Go.RowKit Go.Proofs.Ytgglcpcfmhpcmaa.PFnExactUnpackTokens Go.Proofs.YtgglcpcfmhpcmaaW.PrintWords Go.Proofs.YtgglcpcfmhpcmaaW.PrintLast Go.Proofs.YtgglcpcfmhpcmaaW.PrintMore Go.Proofs.Ytgglcpcfmhpcmaa.E
set_option linter.unusedSimpArgs false
set_option linter.unusedVariables false

theorem tail (s : ByteArray) (w : List (S56)) (b : Bool) (hw : (w.length : Int) ≤ 1000000000) (hi : Ev (fun k => impl_UnpackTokens.f k s) (w, b)) : Ev (fun k => laws_FnExactUnpackTokens.j0 k s w b w (b != b)) true := by
  obtain ⟨l', _, hm, hh⟩ := mhToken w 1 (by omega) (by omega)
  refine Ev.step (fun _ => laws_FnExactUnpackTokens.j0.eq_2 ..) (ev_false (by simp) (Ev.bind hm (Ev.bind hh (ev_neg (by omega) (ev_pos rfl (Ev.bind hi (Ev.bind (eqToken w (by omega)) (ev_true rfl ?_))))))))
  exact Ev.step (fun _ => laws_FnExactUnpackTokens.j1.eq_2 ..) (ev_false (by simp) (Ev.bind hh (ev_neg (by omega) (ev_pos rfl (ev_ret rfl)))))
theorem whole (s : ByteArray) (w : List (S56)) (b : Bool) (hw : (w.length : Int) ≤ 1000000000) (hs : Ev (fun k => spec_UnpackTokens.f k s) (w, b)) (hi : Ev (fun k => impl_UnpackTokens.f k s) (w, b)) (hb : ¬ (s.size : Int) > 1048576) : Ev (fun k => laws_FnExactUnpackTokens.f k s) true := by
  unfold laws_FnExactUnpackTokens.f
  exact ev_neg hb (Ev.bind hs (Ev.bind hi (Ev.bind (eqToken w (by omega)) (ev_true rfl (tail s w b hw hi)))))
end Go.Proofs.Ytgglcpcfmhpcmaa.ZFnExactUnpackTokens
