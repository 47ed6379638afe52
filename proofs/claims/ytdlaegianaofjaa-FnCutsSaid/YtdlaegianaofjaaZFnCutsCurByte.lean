import Derived.Test.YtdlaegianaofjaaZFnCutsWords
/-! The cursor of the draws: a byte. -/
namespace Go.Proofs.Ytdlaegianaofjaa.ZFnCuts
open Go.RowKit Go.Proofs.Ytdlaegianaofjaa.PFnCuts Go.Proofs.YtdlaegianaofjaaW.PrintWords Go.Proofs.YtdlaegianaofjaaW.PrintLast Go.Proofs.YtdlaegianaofjaaW.PrintMore Go.Proofs.Ytdlaegianaofjaa.E
set_option linter.unusedSimpArgs false
set_option linter.unusedVariables false
theorem byte_ok {l : List Int} (hl : Bytes l) (p q : Int) (h0 : 0 ≤ p) (h1 : p ≤ 10000000000) : ∃ r p' q', spec_l1Cur_byte.f l p q = some (r, p', q') ∧ 0 ≤ r ∧ r ≤ 255 ∧ p ≤ p' ∧ p' ≤ p + 4 := by
  obtain ⟨b, p1, q1, e1, h4, h5⟩ := one_ok hl p q 5 h0 (by omega) (by omega)
  unfold spec_l1Cur_byte.f
  rw [e1]
  simp only [Option.bind_some]
  cases b with
  | true =>
    obtain ⟨z, p2, q2, e2, hz, h6, h7⟩ := among_ok hl p1 q1 [0, 1, 2, 255, 29] (by omega) (by omega) (by simp) (by simp)
    rw [if_pos rfl, e2]
    exact ⟨z % 256, p2, q2, rfl, by omega, by omega, by omega, by omega⟩
  | false =>
    obtain ⟨z, p2, q2, e2, hz, h6, h7, h8⟩ := pick_ok hl p1 q1 256 (by omega) (by omega) (by omega)
    rw [if_neg (by simp), e2]
    exact ⟨z % 256, p2, q2, rfl, by omega, by omega, by omega, by omega⟩
end Go.Proofs.Ytdlaegianaofjaa.ZFnCuts
