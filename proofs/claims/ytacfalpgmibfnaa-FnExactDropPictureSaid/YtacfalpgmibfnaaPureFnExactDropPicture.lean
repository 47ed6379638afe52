import Derived.Test.YtacfalpgmibfnaaZCowDropPure
import Derived.Test.YtacfalpgmibfnaaZCowMh
import Derived.Test.YtacfalpgmibfnaaZCowLaw
import Derived.Test.YtacfalpgmibfnaaXCowLFnExactDropPicture
namespace Go.Proofs.Ytacfalpgmibfnaa.Pure
open Go.RowKit Go.Proofs.Ytacfalpgmibfnaa.PCow Go.Proofs.YtacfalpgmibfnaaW.PrintWords Go.Proofs.YtacfalpgmibfnaaW.PrintLast Go.Proofs.Ytacfalpgmibfnaa.E Go.Proofs.Ytacfalpgmibfnaa.ZCow
set_option linter.unusedSimpArgs false
set_option linter.unusedVariables false
theorem core_FnExactDropPicture (l0 : List LC) (l1 : List Int) (a b : Int) (hm0 : l0.length ≤ 9223372036854775807) (hw0 : ∀ x ∈ l0, x.f1.size ≤ 9223372036854775807 ∧ x.f2.length ≤ 9223372036854775807) (hm1 : l1.length ≤ 9223372036854775807) : ∃ k, laws_FnExactDropPicture.ok k l0 l1 a b := by
  obtain ⟨r, hp, hr⟩ := szCow l0 l1 a hm0 hw0 hm1
  obtain ⟨K1, e1⟩ := hr
  by_cases hn : r < 0
  · exact ⟨K1, .inl ⟨r, e1 _ (Nat.le_refl _), hn⟩⟩
  · have hs := hp.resolve_left hn
    have hs0 := hs.1.1
    have hs1 := hs.2
    have hkid : ∀ x ∈ l0.map cC, x.f2.length ≤ 1048576 := fun x hx => by
      obtain ⟨y, hy, rfl⟩ := List.mem_map.1 hx
      exact hs.1.2 y hy
    obtain ⟨C1, R1, L1, wb, hc1, hr1, hk1, ⟨K2, e2⟩, ⟨K3, e3⟩⟩ := drop_both (l0.map cC) l1 a b hkid
    obtain ⟨K4, e4⟩ := toCow l0 l1 a hs
    obtain ⟨K5, e5⟩ := eqCow C1 R1 L1 (by omega) (by omega) (fun x hx => by have := hk1 x hx; omega)
    obtain ⟨K6, e6⟩ := eqCow (l0.map cC) l1 a (by simp; omega) (by omega) (fun x hx => by have := hkid x hx; omega)
    obtain ⟨m, l', r', hm, ⟨K7, e7⟩, _⟩ := mhCow (l0.map cC) l1 a (by simp; omega) hkid (by omega)
    obtain ⟨m2, l2, r2, hm2, ⟨K8, e8⟩, ⟨K9, e9⟩⟩ := mhCow C1 R1 L1 (by omega) hk1 (by omega)
    exact ⟨K1 + K2 + K3 + K4 + K5 + K6 + K7 + K8 + K9, .inr ⟨r, _, _, _, C1, R1, L1, wb, m, l', r', m2, l2, r2, e1 _ (by omega), hn, e4 _ (by omega), e2 _ (by omega), e3 _ (by omega), e5 _ (by omega), e6 _ (by omega), e7 _ (by omega), by omega, e8 _ (by omega), e9 _ (by omega), by omega⟩⟩
theorem FnExactDropPicture (l0 : List LC) (l1 : List Int) (a b : Int) (h : (l0.length ≤ 9223372036854775807 ∧ ∀ y ∈ l0, ((Lit.int .i64 y.f0).wf = true) ∧ (y.f1.size ≤ 9223372036854775807) ∧ (y.f2.length ≤ 9223372036854775807 ∧ ∀ y_1 ∈ y.f2, (Lit.int .i64 y_1).wf = true)) ∧ (l1.length ≤ 9223372036854775807 ∧ ∀ y ∈ l1, (Lit.int .i64 y).wf = true) ∧ ((Lit.int .i64 a).wf = true)) (_hb : (Lit.int .i64 b).wf = true) : ∃ k, laws_FnExactDropPicture.ok k l0 l1 a b :=
  core_FnExactDropPicture l0 l1 a b h.1.1 (fun x hx => ⟨(h.1.2 x hx).2.1, (h.1.2 x hx).2.2.1⟩) h.2.1.1
end Go.Proofs.Ytacfalpgmibfnaa.Pure
