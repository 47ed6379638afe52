import Derived.Test.YtjepecinpgjgdaaZFnExactBytesKeptVaultText
import Derived.Test.YtjepecinpgjgdaaYFnExactBytesKeptx7
namespace Go.Proofs.Ytjepecinpgjgdaa.Pure
open Go.RowKit Go.Proofs.Ytjepecinpgjgdaa.PFnExactBytesKept Go.Proofs.YtjepecinpgjgdaaW.PrintWords Go.Proofs.YtjepecinpgjgdaaW.PrintLast Go.Proofs.Ytjepecinpgjgdaa.E Go.Proofs.Ytjepecinpgjgdaa.ZFnExactBytesKept
set_option linter.unusedSimpArgs false
set_option linter.unusedVariables false
def sumP (ps : List IK) : Nat → Int → Int → Int
  | 0, _, x => x
  | f + 1, i, x => sumP ps f (i + 1) (wrap64 (x + ((rd_T89 ps i).f0.size : Int)))
def sumF (ps : List IK) (fs : List IF) : Nat → Int → Int → Int
  | 0, _, x => x
  | f + 1, i, x => sumF ps fs f (i + 1) (wrap64 (x + ((⟨(textOf ps (rd_T87 fs i).f0).toArray⟩ : ByteArray).size : Int)))
theorem spec_l1 (ps : List IK) (fs : List IF) (hF : Fine ps fs) (a : Int) : ∀ (f : Nat) (i x : Int), 0 ≤ i → i + f = fs.length → Ev (fun k => spec_BytesKept.l1 k a x fs (fs.length : Int) i ps fs) (a, sumF ps fs f i x, true) := by
  have hnf := hF.nf
  intro f
  induction f with
  | zero =>
    intro i x h0 h1
    exact Ev.step (fun _ => spec_BytesKept.l1.eq_2 ..) (ev_neg (by omega) (ev_ret rfl))
  | succ f ih =>
    intro i x h0 h1
    have h3 : i.toNat < fs.length := by omega
    have e := hF.parts _ (List.getElem_mem h3)
    have er : rd_T87 fs i = fs[i.toNat] := getD_at fs _ i h3
    rw [← er] at e
    refine Ev.step (fun _ => spec_BytesKept.l1.eq_2 ..) (ev_pos (by omega) (ev_pos h0 (ev_pos (by omega) (Ev.bind (spec_text ps fs _ hF.size e.1 e.2) ?_))))
    rw [w64 (x := i + 1) (by omega) (by omega)]
    exact ih (i + 1) _ (by omega) (by omega)
theorem spec_l0 (ps : List IK) (fs : List IF) (hF : Fine ps fs) : ∀ (f : Nat) (i x : Int), 0 ≤ i → i + f = ps.length → Ev (fun k => spec_BytesKept.l0 k x ps (ps.length : Int) i ps fs) (sumP ps f i x, sumF ps fs fs.length 0 0, true) := by
  have hnp := hF.np
  intro f
  induction f with
  | zero =>
    intro i x h0 h1
    exact Ev.step (fun _ => spec_BytesKept.l0.eq_2 ..) (ev_neg (by omega) (spec_l1 ps fs hF x fs.length 0 0 (by omega) (by omega)))
  | succ f ih =>
    intro i x h0 h1
    refine Ev.step (fun _ => spec_BytesKept.l0.eq_2 ..) (ev_pos (by omega) (ev_pos h0 (ev_pos (by omega) ?_)))
    rw [w64 (x := i + 1) (by omega) (by omega)]
    exact ih (i + 1) _ (by omega) (by omega)
theorem impl_l1 (ps : List IK) (fs : List IF) (hF : Fine ps fs) (a : Int) : ∀ (f : Nat) (i x : Int), 0 ≤ i → i + f = fs.length → Ev (fun k => impl_BytesKept.l1 k a x (fs.length : Int) i ps fs) (a, sumF ps fs f i x, true) := by
  have hnf := hF.nf
  intro f
  induction f with
  | zero =>
    intro i x h0 h1
    exact Ev.step (fun _ => impl_BytesKept.l1.eq_2 ..) (ev_neg (by omega) (ev_ret rfl))
  | succ f ih =>
    intro i x h0 h1
    refine Ev.step (fun _ => impl_BytesKept.l1.eq_2 ..) (ev_pos (by omega) (Ev.bind (impl_text ps fs i h0 (by omega) hF.size hF.parts) ?_))
    rw [w64 (x := i + 1) (by omega) (by omega)]
    exact ih (i + 1) _ (by omega) (by omega)
theorem impl_l0 (ps : List IK) (fs : List IF) (hF : Fine ps fs) : ∀ (f : Nat) (i x : Int), 0 ≤ i → i + f = ps.length → Ev (fun k => impl_BytesKept.l0 k x 0 ps (ps.length : Int) i ps fs) (sumP ps f i x, sumF ps fs fs.length 0 0, true) := by
  have hnp := hF.np
  intro f
  induction f with
  | zero =>
    intro i x h0 h1
    exact Ev.step (fun _ => impl_BytesKept.l0.eq_2 ..) (ev_neg (by omega) (impl_l1 ps fs hF x fs.length 0 0 (by omega) (by omega)))
  | succ f ih =>
    intro i x h0 h1
    refine Ev.step (fun _ => impl_BytesKept.l0.eq_2 ..) (ev_pos (by omega) (ev_pos h0 (ev_pos (by omega) ?_)))
    rw [w64 (x := i + 1) (by omega) (by omega)]
    exact ih (i + 1) _ (by omega) (by omega)
theorem both (ps : List IK) (fs : List IF) (hl : (ps.length : Int) ≤ 1048576) (hf : (fs.length : Int) ≤ 1048576) (hw : ∀ x ∈ fs, (x.f0.length : Int) ≤ 1048576) :
    ∃ r, Ev (fun k => spec_BytesKept.f k ps fs) r ∧ Ev (fun k => impl_BytesKept.f k ps fs) r := by
  unfold spec_BytesKept.f impl_BytesKept.f
  by_cases hg : good ps fs = true
  · have hF := good_fine hg
    exact ⟨_, Ev.bind (spec_good ps fs hl hf hw) (ev_true hg (spec_l0 ps fs hF ps.length 0 0 (by omega) (by omega))), ev_bindc (show impl_GoodVault.f ps fs = some (good ps fs) from rfl) (ev_true hg (impl_l0 ps fs hF ps.length 0 0 (by omega) (by omega)))⟩
  · refine ⟨_, Ev.bind (spec_good ps fs hl hf hw) (ev_false (by simpa using hg) (ev_ret rfl)), ?_⟩
    exact ev_bindc (show impl_GoodVault.f ps fs = some (good ps fs) from rfl) (ev_false (by simpa using hg) (ev_ret rfl))
theorem core (l0 : List LK) (l1 : List LF) (hm0 : l0.length ≤ 9223372036854775807) (hw0 : ∀ x ∈ l0, x.f0.size ≤ 9223372036854775807) (hm1 : l1.length ≤ 9223372036854775807) (hw1 : ∀ x ∈ l1, x.f0.length ≤ 9223372036854775807) : ∃ k, laws_FnExactBytesKept.f k l0 l1 = some true := by
  refine Ev.rounds (r := true) ?_
  unfold laws_FnExactBytesKept.f
  obtain ⟨r, hp, hr⟩ := szVault l0 l1 hm0 hw0 hm1 hw1
  by_cases hn : r < 0
  · exact Ev.bind hr (ev_pos hn (ev_ret rfl))
  · obtain ⟨_, _, hs⟩ := hp.resolve_left hn
    have e0 := map_cK l0
    have e1 := map_cF l1
    have hs0 := hs.1.1
    have hs1 := hs.2.1
    have e2 := mem_cF hs.2.2
    obtain ⟨⟨t, q, b⟩, hS, hI⟩ := both (l0.map cK) (l1.map cF) (by omega) (by omega) e2
    refine Ev.bind hr (ev_neg hn (Ev.bind (toVault l0 l1 hs) (Ev.bind hS (Ev.bind (toVault l0 l1 hs) (Ev.bind hI (ev_pos rfl (ev_pos rfl (Ev.step (fun _ => laws_FnExactBytesKept.j0.eq_2 ..) (ev_false (by simp) (Ev.bind (toVault l0 l1 hs) (Ev.bind (eqVault (l0.map cK) (l1.map cF) (by omega) (by omega) (fun x hx => by have := e2 x hx; omega)) (ev_true rfl (ev_ret rfl))))))))))) ) )
theorem FnExactBytesKept (l0 : List LK) (l1 : List LF) (h : (l0.length ≤ 9223372036854775807 ∧ ∀ y ∈ l0, (y.f0.size ≤ 9223372036854775807) ∧ ((Lit.int .i64 y.f1).wf = true)) ∧ (l1.length ≤ 9223372036854775807 ∧ ∀ y ∈ l1, (y.f0.length ≤ 9223372036854775807 ∧ ∀ y_1 ∈ y.f0, (Lit.int .i64 y_1).wf = true))) : ∃ k, laws_FnExactBytesKept.f k l0 l1 = some true :=
  core l0 l1 h.1.1 (fun x hx => (h.1.2 x hx).1) h.2.1 (fun x hx => (h.2.2 x hx).1)
end Go.Proofs.Ytjepecinpgjgdaa.Pure
