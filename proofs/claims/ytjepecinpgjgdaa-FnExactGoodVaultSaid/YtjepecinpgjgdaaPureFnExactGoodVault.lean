import Derived.Test.YtjepecinpgjgdaaZFnExactGoodVaultGoodVaultSpec
import Derived.Test.YtjepecinpgjgdaaYFnExactGoodVaultx6
namespace Go.Proofs.Ytjepecinpgjgdaa.Pure
open Go.RowKit Go.Proofs.Ytjepecinpgjgdaa.PFnExactGoodVault Go.Proofs.YtjepecinpgjgdaaW.PrintWords Go.Proofs.YtjepecinpgjgdaaW.PrintLast Go.Proofs.Ytjepecinpgjgdaa.E Go.Proofs.Ytjepecinpgjgdaa.ZFnExactGoodVault
set_option linter.unusedSimpArgs false
set_option linter.unusedVariables false
theorem core (l0 : List LK) (l1 : List LF) (hm0 : l0.length ≤ 9223372036854775807) (hw0 : ∀ x ∈ l0, x.f0.size ≤ 9223372036854775807) (hm1 : l1.length ≤ 9223372036854775807) (hw1 : ∀ x ∈ l1, x.f0.length ≤ 9223372036854775807) : ∃ k, laws_FnExactGoodVault.f k l0 l1 = some true := by
  refine Ev.rounds (r := true) ?_
  unfold laws_FnExactGoodVault.f
  obtain ⟨r, hp, hr⟩ := szVault l0 l1 hm0 hw0 hm1 hw1
  by_cases hn : r < 0
  · exact Ev.bind hr (ev_pos hn (ev_ret rfl))
  · obtain ⟨_, _, hs⟩ := hp.resolve_left hn
    have e0 := map_cK l0
    have e1 := map_cF l1
    have hs0 := hs.1.1
    have hs1 := hs.2.1
    have e2 := mem_cF hs.2.2
    refine Ev.bind hr (ev_neg hn (Ev.bind (toVault l0 l1 hs) (Ev.bind (spec_good (l0.map cK) (l1.map cF) (by omega) (by omega) e2) (Ev.bind (toVault l0 l1 hs) (ev_bindc rfl (ev_neg (by simp) (Ev.bind (toVault l0 l1 hs) (Ev.bind (eqVault (l0.map cK) (l1.map cF) (by omega) (by omega) (fun x hx => by have := e2 x hx; omega)) (ev_true rfl (ev_ret rfl)))))))))) 
theorem FnExactGoodVault (l0 : List LK) (l1 : List LF) (h : (l0.length ≤ 9223372036854775807 ∧ ∀ y ∈ l0, (y.f0.size ≤ 9223372036854775807) ∧ ((Lit.int .i64 y.f1).wf = true)) ∧ (l1.length ≤ 9223372036854775807 ∧ ∀ y ∈ l1, (y.f0.length ≤ 9223372036854775807 ∧ ∀ y_1 ∈ y.f0, (Lit.int .i64 y_1).wf = true))) : ∃ k, laws_FnExactGoodVault.f k l0 l1 = some true :=
  core l0 l1 h.1.1 (fun x hx => (h.1.2 x hx).1) h.2.1 (fun x hx => (h.2.2 x hx).1)
end Go.Proofs.Ytjepecinpgjgdaa.Pure
