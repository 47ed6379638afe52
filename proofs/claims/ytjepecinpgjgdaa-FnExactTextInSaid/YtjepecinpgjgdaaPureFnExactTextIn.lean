import Derived.Test.YtjepecinpgjgdaaZFnExactTextInVaultText
import Derived.Test.YtjepecinpgjgdaaYFnExactTextInx6
namespace Go.Proofs.Ytjepecinpgjgdaa.Pure
open Go.RowKit Go.Proofs.Ytjepecinpgjgdaa.PFnExactTextIn Go.Proofs.YtjepecinpgjgdaaW.PrintWords Go.Proofs.YtjepecinpgjgdaaW.PrintLast Go.Proofs.Ytjepecinpgjgdaa.E Go.Proofs.Ytjepecinpgjgdaa.ZFnExactTextIn
set_option linter.unusedSimpArgs false
set_option linter.unusedVariables false
theorem both (ps : List IK) (fs : List IF) (a : Int) (hl : (ps.length : Int) ≤ 1048576) (hf : (fs.length : Int) ≤ 1048576) (hw : ∀ x ∈ fs, (x.f0.length : Int) ≤ 1048576) :
    ∃ r, Ev (fun k => spec_TextIn.f k ps fs a) r ∧ Ev (fun k => impl_TextIn.f k ps fs a) r := by
  unfold spec_TextIn.f impl_TextIn.f
  rw [w64 (x := (fs.length : Int) - 1) (by omega) (by omega)]
  by_cases hg : good ps fs = true
  · have hF := good_fine hg
    by_cases ha : 0 ≤ a ∧ a ≤ (fs.length : Int) - 1
    · have h2 : a < (fs.length : Int) := by omega
      have h3 : a.toNat < fs.length := by omega
      have e := hF.parts _ (List.getElem_mem h3)
      have er : rd_T87 fs a = fs[a.toNat] := getD_at fs _ a h3
      rw [← er] at e
      refine ⟨_, Ev.bind (spec_good ps fs hl hf hw) (ev_true hg (ev_bindc (l1In_eq _ _ _) (ev_true (decide_eq_true ha) (ev_pos ha.1 (ev_pos h2 (Ev.bind (spec_text ps fs _ hF.size e.1 e.2) (ev_ret rfl))))))), ?_⟩
      exact ev_bindc (show impl_GoodVault.f ps fs = some (good ps fs) from rfl) (ev_true hg (ev_bindc (within_eq _ _ _) (ev_true (decide_eq_true ha) (Ev.bind (impl_text ps fs a ha.1 h2 hF.size hF.parts) (ev_ret rfl)))))
    · refine ⟨_, Ev.bind (spec_good ps fs hl hf hw) (ev_true hg (ev_bindc (l1In_eq _ _ _) (ev_false (decide_eq_false ha) (ev_ret rfl)))), ?_⟩
      exact ev_bindc (show impl_GoodVault.f ps fs = some (good ps fs) from rfl) (ev_true hg (ev_bindc (within_eq _ _ _) (ev_false (decide_eq_false ha) (ev_ret rfl))))
  · refine ⟨_, Ev.bind (spec_good ps fs hl hf hw) (ev_false (by simpa using hg) (ev_ret rfl)), ?_⟩
    exact ev_bindc (show impl_GoodVault.f ps fs = some (good ps fs) from rfl) (ev_false (by simpa using hg) (ev_ret rfl))
theorem core (l0 : List LK) (l1 : List LF) (a : Int) (hm0 : l0.length ≤ 9223372036854775807) (hw0 : ∀ x ∈ l0, x.f0.size ≤ 9223372036854775807) (hm1 : l1.length ≤ 9223372036854775807) (hw1 : ∀ x ∈ l1, x.f0.length ≤ 9223372036854775807) : ∃ k, laws_FnExactTextIn.f k l0 l1 a = some true := by
  refine Ev.rounds (r := true) ?_
  unfold laws_FnExactTextIn.f
  obtain ⟨r, hp, hr⟩ := szVault l0 l1 hm0 hw0 hm1 hw1
  by_cases hn : r < 0
  · exact Ev.bind hr (ev_pos hn (ev_ret rfl))
  · obtain ⟨_, _, hs⟩ := hp.resolve_left hn
    have e0 := map_cK l0
    have e1 := map_cF l1
    have hs0 := hs.1.1
    have hs1 := hs.2.1
    have e2 := mem_cF hs.2.2
    obtain ⟨⟨t, b⟩, hS, hI⟩ := both (l0.map cK) (l1.map cF) a (by omega) (by omega) e2
    refine Ev.bind hr (ev_neg hn (Ev.bind (toVault l0 l1 hs) (Ev.bind hS (Ev.bind (toVault l0 l1 hs) (Ev.bind hI (ev_pos rfl (Ev.step (fun _ => laws_FnExactTextIn.j0.eq_2 ..) (ev_false (by simp) (Ev.bind (toVault l0 l1 hs) (Ev.bind (eqVault (l0.map cK) (l1.map cF) (by omega) (by omega) (fun x hx => by have := e2 x hx; omega)) (ev_true rfl (ev_ret rfl))))))))))) )
theorem FnExactTextIn (l0 : List LK) (l1 : List LF) (a : Int) (h : (l0.length ≤ 9223372036854775807 ∧ ∀ y ∈ l0, (y.f0.size ≤ 9223372036854775807) ∧ ((Lit.int .i64 y.f1).wf = true)) ∧ (l1.length ≤ 9223372036854775807 ∧ ∀ y ∈ l1, (y.f0.length ≤ 9223372036854775807 ∧ ∀ y_1 ∈ y.f0, (Lit.int .i64 y_1).wf = true))) (ha : (Lit.int .i64 a).wf = true) : ∃ k, laws_FnExactTextIn.f k l0 l1 a = some true :=
  core l0 l1 a h.1.1 (fun x hx => (h.1.2 x hx).1) h.2.1 (fun x hx => (h.2.2 x hx).1)
end Go.Proofs.Ytjepecinpgjgdaa.Pure
