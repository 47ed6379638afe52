import Derived.Test.YtdlaegianaofjaaZFnCutsCur
/-! The cursor of the draws: one of some numbers. -/
namespace Go.Proofs.Ytdlaegianaofjaa.ZFnCuts
open Go.RowKit Go.Proofs.Ytdlaegianaofjaa.PFnCuts Go.Proofs.YtdlaegianaofjaaW.PrintWords Go.Proofs.YtdlaegianaofjaaW.PrintLast Go.Proofs.YtdlaegianaofjaaW.PrintMore Go.Proofs.Ytdlaegianaofjaa.E
set_option linter.unusedSimpArgs false
set_option linter.unusedVariables false
theorem among_ok {l : List Int} (hl : Bytes l) (p q : Int) (xs : List Int) (h0 : 0 ≤ p) (h1 : p ≤ 100000000000) (hx : 1 ≤ xs.length) (hx2 : xs.length ≤ 1000000) :
    ∃ r p' q', spec_l1Cur_among.f l p q xs = some (r, p', q') ∧ r ∈ xs ∧ p ≤ p' ∧ p' ≤ p + 2 := by
  obtain ⟨i, p1, q1, e1, h2, h3, h4, h5⟩ := pick_ok hl p q xs.length h0 h1 (by omega)
  have hi : i.toNat < xs.length := by omega
  refine ⟨rd xs i, p1, q1, ?_, ?_, h4, h5⟩
  · unfold spec_l1Cur_among.f
    rw [e1]
    simp only [Option.bind_some]
    rw [if_pos h2, if_pos (by omega)]
  · unfold rd
    rw [List.getD_eq_getElem?_getD, List.getElem?_eq_getElem hi]
    exact List.getElem_mem hi
end Go.Proofs.Ytdlaegianaofjaa.ZFnCuts
