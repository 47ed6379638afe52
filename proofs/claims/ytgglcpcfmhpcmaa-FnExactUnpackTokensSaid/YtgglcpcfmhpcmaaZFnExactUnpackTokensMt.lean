import Derived.Test.YtgglcpcfmhpcmaaYFnExactUnpackTokensx5
import Derived.Test.YtgglcpcfmhpcmaaEv
/-! The marks of a law: the text of a mark comes to an end. -/
namespace Go.Proofs.Ytgglcpcfmhpcmaa.ZFnExactUnpackTokens
open Go.RowKit Go.Proofs.Ytgglcpcfmhpcmaa.PFnExactUnpackTokens Go.Proofs.YtgglcpcfmhpcmaaW.PrintWords Go.Proofs.YtgglcpcfmhpcmaaW.PrintLast Go.Proofs.YtgglcpcfmhpcmaaW.PrintMore Go.Proofs.Ytgglcpcfmhpcmaa.E
set_option linter.unusedSimpArgs false
set_option linter.unusedVariables false

theorem str_size (xs : List Int) : (strOfNums xs).size = xs.length := by
  simp [strOfNums, ByteArray.size]
theorem mt_l : ∀ (f : Nat) (x : Int) (s : ByteArray), 0 ≤ x → x ≤ 1000000000000 → x < 2 ^ f → s.size + f ≤ 1000 → ∃ v, Ev (fun k => laws_markText.l0 k x s) v := by
  intro f
  induction f with
  | zero =>
    intro x s h0 hm h1 h2
    refine ⟨_, Ev.step (fun _ => laws_markText.l0.eq_2 ..) (ev_neg (by simp at h1; omega) (ev_pos (by omega) (ev_ret rfl)))⟩
  | succ f ih =>
    intro x s h0 hm h1 h2
    by_cases h : x > 0
    · have hp : (2 : Int) ^ (f + 1) = 2 * 2 ^ f := by rw [Int.pow_succ]; omega
      have hx : x / 10 < 2 ^ f := by omega
      have e : wrap64 (Int.tdiv x 10) = x / 10 := by
        rw [tdiv_pos h0]
        exact w64 (by omega) (by omega)
      obtain ⟨v, hv⟩ := ih (x / 10) (strOfNums ([(wrap64 (48 + (Int.tmod x 10))) % 256] : List Int) ++ s) (by omega) (by omega) hx (by rw [ByteArray.size_append, str_size]; simp; omega)
      refine ⟨v, Ev.step (fun _ => laws_markText.l0.eq_2 ..) (ev_pos h (ev_some (ev_pos ?_ ?_)))⟩
      · rw [str_size]; simp; omega
      · rw [e]; exact hv
    · exact ⟨_, Ev.step (fun _ => laws_markText.l0.eq_2 ..) (ev_neg h (ev_pos (by omega) (ev_ret rfl)))⟩
theorem mt (m : Int) (h0 : 0 ≤ m) (h1 : m < 1000000000000) : ∃ v, Ev (fun k => laws_markText.f k m) v := by
  obtain ⟨v, hv⟩ := mt_l 64 m ⟨#[]⟩ h0 (by omega) (by simp; omega) (by simp [ByteArray.size])
  by_cases h : m ≤ 0
  · exact ⟨_, by unfold laws_markText.f; exact ev_pos h (ev_ret rfl)⟩
  · exact ⟨v, by unfold laws_markText.f; exact ev_neg h hv⟩
end Go.Proofs.Ytgglcpcfmhpcmaa.ZFnExactUnpackTokens
