import Derived.Test.YtacfalpgmibfnaaZFnExactGoodCowLock
import Derived.Test.YtacfalpgmibfnaaZFnExactGoodCowBfs
/-! GoodCow, plain law: what the specification's two searches answer. -/
namespace Go.Proofs.Ytacfalpgmibfnaa.PFnExactGoodCow
open Go.RowKit Go.Proofs.YtacfalpgmibfnaaW.PrintWords Go.Proofs.YtacfalpgmibfnaaW.PrintLast Go.Proofs.YtacfalpgmibfnaaW.PrintMore Go.Proofs.Ytacfalpgmibfnaa.E
set_option linter.unusedSimpArgs false
set_option linter.unusedVariables false
section
variable {C : List S68} {roots : List Int}
theorem spec_out (m : Nat) (hn : C.length ≤ 80) (hr8 : (roots.length : Int) ≤ 8) :
    (∃ V c v, Inv C roots ((m : Int) + 1) V [] c v ∧ loopK (deepM C (m + 1)) roots (List.replicate C.length 0) = some (true, c) ∧ loopK (levM C (m + 1)) roots (List.replicate C.length 0) = some (true, v)) ∨
    (Bad C roots ((m : Int) + 1) ∧ ((∃ s, loopK (deepM C (m + 1)) roots (List.replicate C.length 0) = some (false, s)) ∨ ∃ s a, loopK (deepM C (m + 1)) roots (List.replicate C.length 0) = some (true, s) ∧ loopK (levM C (m + 1)) roots (List.replicate C.length 0) = some (false, a))) := by
  obtain ⟨b, s, e, _⟩ := loopK_tot (F := deepM C (m + 1)) (n := C.length) (deep_tot C m) roots (List.replicate C.length 0) (by simp)
  cases b with
  | false =>
    refine .inr ⟨fun V c v hv => ?_, .inl ⟨s, e⟩⟩
    obtain ⟨s', e'⟩ := loopK_refs hv
    rw [e] at e'
    cases e'
  | true =>
    have h0 := Inv.start (C := C) (roots := roots) (L := (m : Int) + 1) (by omega)
    obtain ⟨b, a, f1, f2, f3⟩ := lock_loop (lock (C := C) (roots := roots) (L := (m : Int) + 1) (by omega) (by omega) (by omega) m) roots _ _ [] [] s (by simpa using h0) e
    cases b with
    | false => exact .inr ⟨f3 rfl, .inr ⟨s, a, e, f1⟩⟩
    | true =>
      obtain ⟨V', hI⟩ := f2 rfl
      exact .inl ⟨V', s, a, hI, e, f1⟩
/-- Both searches agree: either both finish, with the same counts, or both say no. -/
theorem cow_join (m : Nat) (hm : (m : Int) + 1 ≤ 3) (hn : C.length ≤ 80) (hr1 : 1 ≤ (roots.length : Int)) (hr8 : (roots.length : Int) ≤ 8) :
    (∃ c v, goodC 100 C roots ((m : Int) + 1) = some (endM C c C.length 0) ∧ c.length = C.length ∧ loopK (deepM C (m + 1)) roots (List.replicate C.length 0) = some (true, c) ∧ loopK (levM C (m + 1)) roots (List.replicate C.length 0) = some (true, v)) ∨
    (goodC 100 C roots ((m : Int) + 1) = some false ∧ ((∃ s, loopK (deepM C (m + 1)) roots (List.replicate C.length 0) = some (false, s)) ∨ ∃ s a, loopK (deepM C (m + 1)) roots (List.replicate C.length 0) = some (true, s) ∧ loopK (levM C (m + 1)) roots (List.replicate C.length 0) = some (false, a))) := by
  rcases impl_out (C := C) (roots := roots) (L := (m : Int) + 1) (by omega) hm hn hr1 hr8 with ⟨V, c, v, hI, e⟩ | ⟨hB, e⟩
  · rcases spec_out (C := C) (roots := roots) m hn hr8 with ⟨V', c', v', hI', e1, e2⟩ | ⟨hB, _⟩
    · obtain rfl := hI.unique hI'
      exact .inl ⟨c, v', e, hI.lc, e1, e2⟩
    · exact absurd hI (hB V c v)
  · rcases spec_out (C := C) (roots := roots) m hn hr8 with ⟨V', c', v', hI', e1, e2⟩ | ⟨_, h⟩
    · exact absurd hI' (hB V' c' v')
    · exact .inr ⟨e, h⟩
end
end Go.Proofs.Ytacfalpgmibfnaa.PFnExactGoodCow
