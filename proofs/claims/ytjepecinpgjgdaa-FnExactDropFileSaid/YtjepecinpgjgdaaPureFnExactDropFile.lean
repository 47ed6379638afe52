import Derived.Test.YtjepecinpgjgdaaXVauLFnExactDropFile
import Derived.Test.YtjepecinpgjgdaaZVauDropPure
import Derived.Test.YtjepecinpgjgdaaZVauMh
import Derived.Test.YtjepecinpgjgdaaZVauSzTo
import Derived.Test.YtjepecinpgjgdaaZVauEq
namespace Go.Proofs.Ytjepecinpgjgdaa.Pure
open Go.RowKit Go.Proofs.Ytjepecinpgjgdaa.PVau Go.Proofs.YtjepecinpgjgdaaW.PrintWords Go.Proofs.YtjepecinpgjgdaaW.PrintLast Go.Proofs.Ytjepecinpgjgdaa.E Go.Proofs.Ytjepecinpgjgdaa.ZVau
set_option linter.unusedSimpArgs false
set_option linter.unusedVariables false
theorem core_FnExactDropFile (l0 : List LK) (l1 : List LF) (a : Int) (hm0 : l0.length ≤ 9223372036854775807) (hw0 : ∀ x ∈ l0, x.f0.size ≤ 9223372036854775807) (hm1 : l1.length ≤ 9223372036854775807) (hw1 : ∀ x ∈ l1, x.f0.length ≤ 9223372036854775807) : ∃ k, laws_FnExactDropFile.ok k l0 l1 a := by
 obtain ⟨r, hp, hr⟩ := szVault l0 l1 hm0 hw0 hm1 hw1
 obtain ⟨K1, e1⟩ := hr
 by_cases hn : r < 0
 ·exact ⟨K1, .inl ⟨r, e1 _ (Nat.le_refl _), hn⟩⟩
 ·obtain ⟨_, _, hs⟩ := hp.resolve_left hn
  have e00 := map_cK l0
  have e01 := map_cF l1
  have hs0 := hs.1.1
  have hs1 := hs.2.1
  have e02 := mem_cF hs.2.2
  have e03 : ∀ x ∈ l1.map cF, x.f0.length ≤ 1048576 := fun x hx => by have := e02 x hx; omega
  obtain ⟨C1, R1, wb, ⟨hc1, hr1, hk1⟩, ⟨K2, e2⟩, ⟨K3, e3⟩⟩ := drop_both (l0.map cK) (l1.map cF) a (by omega) (by omega) e03
  obtain ⟨K4, e4⟩ := toVault l0 l1 hs
  obtain ⟨K5, e5⟩ := eqVault C1 R1 (by omega) (by omega) (fun x hx => by have := hk1 x hx; omega)
  obtain ⟨K6, e6⟩ := eqVault (l0.map cK) (l1.map cF) (by omega) (by omega) (fun x hx => by have := e02 x hx; omega)
  obtain ⟨m, l', r', hm, ⟨K7, e7⟩, _⟩ := mhVault (l0.map cK) (l1.map cF) (by omega) (by omega) e03
  obtain ⟨m2, l2, r2, hm2, ⟨K8, e8⟩, ⟨K9, e9⟩⟩ := mhVault C1 R1 (by omega) (by omega) hk1
  exact ⟨K1 + K2 + K3 + K4 + K5 + K6 + K7 + K8 + K9, .inr ⟨r, _, _, C1, R1, wb, m, l', r', m2, l2, r2, e1 _ (by omega), hn, e4 _ (by omega), e2 _ (by omega), e3 _ (by omega), e5 _ (by omega), e6 _ (by omega), e7 _ (by omega), by omega, e8 _ (by omega), e9 _ (by omega), by omega⟩⟩
theorem FnExactDropFile (l0 : List LK) (l1 : List LF) (a : Int) (h : (l0.length ≤ 9223372036854775807 ∧ ∀ y ∈ l0, (y.f0.size ≤ 9223372036854775807) ∧ ((Lit.int .i64 y.f1).wf = true)) ∧ (l1.length ≤ 9223372036854775807 ∧ ∀ y ∈ l1, (y.f0.length ≤ 9223372036854775807 ∧ ∀ y_1 ∈ y.f0, (Lit.int .i64 y_1).wf = true))) (_hb : (Lit.int .i64 a).wf = true) : ∃ k, laws_FnExactDropFile.ok k l0 l1 a :=
 core_FnExactDropFile l0 l1 a h.1.1 (fun x hx => (h.1.2 x hx).1) h.2.1 (fun x hx => (h.2.2 x hx).1)
end Go.Proofs.Ytjepecinpgjgdaa.Pure
