/- The law FnExactPackTokens answers true at every row of tokens, and leaves it as it was; no condition. -/
import Derived.Test.YtgglcpcfmhpcmaaRows
import Derived.Test.YtgglcpcfmhpcmaaZFnExactPackTokensPackLaw
import Derived.Test.YtgglcpcfmhpcmaaOpens
import Derived.WalkKit
import Derived.ProofKit
import Derived.OpenShut
import Derived.ShutString
import Derived.ChangeOld
import Derived.Below
import Derived.SizedLaws
namespace Go.Proofs.Ytgglcpcfmhpcmaa.fnExactPackTokens
open Go.ChangeShapes Go.WideShapes Go.ChangeAt Go.RowKit
open Go.ChangeMaps (open_string shut_string)
open Go.Proofs.Ytgglcpcfmhpcmaa.PFnExactPackTokens Go.Proofs.YtgglcpcfmhpcmaaW.PrintWords Go.Proofs.Ytgglcpcfmhpcmaa.O
set_option linter.unusedVariables false
theorem own : ownKnob Try.prog.godebug = none := by kernel_rfl
theorem laidOut : laidOutB Try.prog = true := by kernel_rfl
theorem opens_tok {H : Type} {enc : TypeId × Value → H} {w : World} {base : Nat} {spare : Nat → Bool} {held : Bool} :
    Opens enc Try.prog w base spare held k55 55 (fun x => x.f0.size ≤ 9223372036854775807 ∧ (Lit.int .i64 x.f1).wf = true ∧ (Lit.int .i64 x.f2).wf = true) := by
  have h : Opens enc Try.prog w base spare held (Kd.pair Kd.string (Kd.pair (Kd.int .i64) (Kd.int .i64))) 55 (fun x => x.1.size ≤ 9223372036854775807 ∧ (Lit.int .i64 x.2.1).wf = true ∧ (Lit.int .i64 x.2.2).wf = true) :=
    opens_struct Try.underlying55 (by kernel_rfl) (openss_cons rfl (by kernel_rfl) (opens_string Try.underlying9) (openss_cons rfl (by kernel_rfl) (opens_int Try.underlying3) (openss_one rfl (by kernel_rfl) (opens_int Try.underlying3))))
  exact opens_iso (fun x : S55 => (x.f0, x.f1, x.f2)) (fun a => ⟨a.1, a.2.1, a.2.2⟩) (fun _ => rfl) h
set_option maxRecDepth 100000 in
theorem lifted (os : Os) (started : os.Started) (H : Type) (enc : TypeId × Value → H) :
    ReturnsInHanded {} Try.checked os 13 .any (Rows.fnExactPackTokensSpec.pre6 enc Try.prog Try.f13 Rows.fnExactPackTokensRow.domain false) (Rows.fnExactPackTokensSpec.post enc Try.prog Try.f13 false true false false) := by
  refine returnsInHanded_of_change_sized (C := Try.checked) own started (by kernel_rfl) Try.func13
    (ChangeSpec.witness6 (enc := enc) (C := Try.checked) false ⟨#[], #[.slice none 0 0], []⟩ 8 (by kernel_rfl) (by kernel_rfl) (by kernel_rfl) (by kernel_rfl)) ?_
  intro W base args ds gs before hval0 hW hcnd hsz0 _
  have hval : ∀ (j : Nat) t v, Try.f13.params[j]? = some t → args[j]? = some v → Value.okWide Try.prog W .any base t v := hval0
  have hW' := hW
  obtain ⟨p, q, hA0, hV, rfl, hfz, hnd⟩ := hW
  have hA : DataW.TrodAll enc Try.prog W 0 (fun _ => true) true Try.f13.params.toList args.toList ds p := hA0
  rw [Try.params13] at hA hval
  obtain ⟨v0, vs0, d0, ds0, p0, q0, hargs, rfl, rfl, h0, r0⟩ := trodAll_cons hA
  obtain ⟨rfl, rfl, rfl⟩ := trodAll_nil r0
  obtain rfl : args = #[v0] := by cases args; simp_all
  obtain ⟨rfl, rfl⟩ := trodVars_none hV
  have lt0 : ∀ x ∈ p0, x.block < W.heap.size := by obtain ⟨m, hm⟩ := h0; exact DataW.trod_lt m _ _ _ hm
  obtain ⟨l, A, c, rfl, hlc, hC, hl, hw⟩ := slice_arg (opens_slice 55 Try.underlying30 (by kernel_rfl) opens_tok) (okWide_slice Try.underlying30 (hval 0 30 v0 rfl rfl)) h0
  clear hA0 hval0 hsz0
  refine (laws_FnExactPackTokens.calls' A c l W hC hlc hl (fun x hx => (hw x hx).1)).mono fun e W' ⟨he, bel⟩ => ?_
  subst he
  exact ⟨_, rfl, _, _, _, [], _, [], hW', trodAll_mk1 (shut_bool Try.underlying4 _), (trodAll_cons_mk (Below.trod laidOut (by kernel_rfl) (of_decide_eq_true (by kernel_rfl)) h0 bel lt0) trodAll_mk0), rfl, bel.frame _, fun h => by cases h⟩
theorem over : Rows.fnExactPackTokensRow.holds Try.pinned (OpenSpec.ofChange Rows.fnExactPackTokensSpec) :=
  OpenClaim.holds_of_wide 13 Try.f13 rfl rfl rfl rfl rfl rfl rfl ⟨rfl, rfl, rfl, rfl, rfl⟩ rfl rfl rfl rfl rfl (by kernel_rfl) Try.func13 (by kernel_rfl)
    (of_decide_eq_true (by kernel_rfl)) (by unfold Func.isWrapper; first | (rw [if_pos (by decide +kernel)]; kernel_rfl) | (rw [if_neg (by decide +kernel)]; exact ⟨rfl, rfl⟩))
    (fun os started H enc _ => lifted os started H enc)
theorem proved : Rows.FnExactPackTokensSaid := over
#print axioms proved
end Go.Proofs.Ytgglcpcfmhpcmaa.fnExactPackTokens
namespace Go.Proofs.Ytgglcpcfmhpcmaa
/-- The row, under a short name, for the claim. -/
theorem fnExactPackTokens_holds : Rows.FnExactPackTokensSaid := fnExactPackTokens.proved
end Go.Proofs.Ytgglcpcfmhpcmaa
