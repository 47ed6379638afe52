/- The law FnExactDropFile answers true at all its arguments, and leaves them as they were; no condition. -/
import Derived.Test.YtjepecinpgjgdaaRows
import Derived.Test.YtjepecinpgjgdaaXVauLFnExactDropFile
import Derived.Test.YtjepecinpgjgdaaPureFnExactDropFile
import Derived.Test.YtjepecinpgjgdaaOpens
import Derived.WalkKit
import Derived.ProofKit
import Derived.OpenShut
import Derived.ShutString
import Derived.ChangeOld
import Derived.Below
import Derived.SizedLaws
namespace Go.Proofs.Ytjepecinpgjgdaa.fnExactDropFile
open Go.ChangeShapes Go.WideShapes Go.ChangeAt Go.RowKit
open Go.ChangeMaps (open_string shut_string)
open Go.Proofs.Ytjepecinpgjgdaa.PVau Go.Proofs.YtjepecinpgjgdaaW.PrintWords Go.Proofs.Ytjepecinpgjgdaa.O
set_option linter.unusedVariables false
set_option linter.unusedSimpArgs false
theorem own : ownKnob Try.prog.godebug = none := by kernel_rfl
theorem laidOut : laidOutB Try.prog = true := by kernel_rfl
set_option maxRecDepth 100000 in
theorem opens_T108 {H : Type} {enc : TypeId × Value → H} {w : World} {base : Nat} {spare : Nat → Bool} {held : Bool} :
    Opens enc Try.prog w base spare held k108 108 (fun x => (x.f0.size ≤ 9223372036854775807) ∧ ((Lit.int .i64 x.f1).wf = true)) := by
  have h : Opens enc Try.prog w base spare held (Kd.pair Kd.string (Kd.int .i64)) 108 (fun x => (x.1.size ≤ 9223372036854775807) ∧ ((Lit.int .i64 x.2).wf = true)) :=
    opens_struct Try.underlying108 (by kernel_rfl) (openss_cons rfl (by kernel_rfl) (opens_string Try.underlying9) (openss_one rfl (by kernel_rfl) (opens_int Try.underlying3)))
  exact opens_iso (fun x : S108 => (x.f0, x.f1)) (fun a => ⟨a.1, a.2⟩) (fun _ => rfl) h
set_option maxRecDepth 100000 in
theorem opens_T110 {H : Type} {enc : TypeId × Value → H} {w : World} {base : Nat} {spare : Nat → Bool} {held : Bool} :
    Opens enc Try.prog w base spare held k110 110 (fun x => (x.f0.length ≤ 9223372036854775807 ∧ ∀ y0 ∈ x.f0, (Lit.int .i64 y0).wf = true)) := by
  have h : Opens enc Try.prog w base spare held (Kd.slice 3 (Kd.int .i64)) 110 (fun x => (x.length ≤ 9223372036854775807 ∧ ∀ y0 ∈ x, (Lit.int .i64 y0).wf = true)) :=
    opens_struct Try.underlying110 (by kernel_rfl) (openss_one rfl (by kernel_rfl) (opens_slice 3 Try.underlying22 (by kernel_rfl) (opens_int Try.underlying3)))
  exact opens_iso (fun x : S110 => x.f0) (fun a => ⟨a⟩) (fun _ => rfl) h
set_option maxRecDepth 100000 in
theorem lifted (os : Os) (started : os.Started) (H : Type) (enc : TypeId × Value → H) :
    ReturnsInHanded {} Try.checked os 10 .any (Rows.fnExactDropFileSpec.pre6 enc Try.prog Try.f10 Rows.fnExactDropFileRow.domain false) (Rows.fnExactDropFileSpec.post enc Try.prog Try.f10 false true false false) := by
  refine returnsInHanded_of_change_sized (C := Try.checked) own started (by kernel_rfl) Try.func10
    (ChangeSpec.witness6 (enc := enc) (C := Try.checked) false ⟨#[], #[.agg #[.slice none 0 0, .slice none 0 0], .int .i64 0], []⟩ 8 (by kernel_rfl) (by kernel_rfl) (by kernel_rfl) (by kernel_rfl)) ?_
  intro W base args ds gs before hval0 hW hcnd hsz0 _
  have hsz : (DataW.weightsEach Try.prog (Try.f10.params.toList ++ Rows.fnExactDropFileSpec.plain.varTypes Try.prog) (ds ++ gs)).all (· ≤ reachBytes) = true := hsz0
  have hval : ∀ (j : Nat) t v, Try.f10.params[j]? = some t → args[j]? = some v → Value.okWide Try.prog W .any base t v := hval0
  have hW' := hW
  obtain ⟨p, q, hA0, hV, rfl, hfz, hnd⟩ := hW
  have hA : DataW.TrodAll enc Try.prog W 0 (fun _ => true) true Try.f10.params.toList args.toList ds p := hA0
  rw [Try.params10] at hA hval hsz
  obtain ⟨v0, vs0, d0, ds0, p0, q0, hargs, rfl, rfl, h0, r0⟩ := trodAll_cons hA
  obtain ⟨v1, vs1, d1, ds1, p1, q1, rfl, rfl, rfl, h1, r1⟩ := trodAll_cons r0
  obtain ⟨rfl, rfl, rfl⟩ := trodAll_nil r1
  obtain rfl : args = #[v0, v1] := by cases args; simp_all
  obtain ⟨rfl, rfl⟩ := trodVars_none hV
  have lt0 : ∀ x ∈ p0, x.block < W.heap.size := by obtain ⟨m, hm⟩ := h0; exact DataW.trod_lt m _ _ _ hm
  have H0 := h0
  obtain ⟨cs0, rfl, hcs0⟩ := okWide_struct Try.underlying45 (hval 0 45 v0 rfl rfl)
  obtain ⟨fu0, hf0⟩ := h0
  have hO0 : Opens enc Try.prog W 0 (fun _ => true) true (Kd.pair (Kd.slice 108 k108) (Kd.slice 110 k110)) 45 (fun x => (x.1.length ≤ 9223372036854775807 ∧ ∀ y0 ∈ x.1, (y0.f0.size ≤ 9223372036854775807) ∧ ((Lit.int .i64 y0.f1).wf = true)) ∧ (x.2.length ≤ 9223372036854775807 ∧ ∀ y0 ∈ x.2, (y0.f0.length ≤ 9223372036854775807 ∧ ∀ y1 ∈ y0.f0, (Lit.int .i64 y1).wf = true))) := opens_struct Try.underlying45 (by kernel_rfl) (openss_cons rfl (by kernel_rfl) (opens_slice 108 Try.underlying42 (by kernel_rfl) opens_T108) (openss_one rfl (by kernel_rfl) (opens_slice 110 Try.underlying43 (by kernel_rfl) opens_T110)))
  obtain ⟨x0, hK0, hw0⟩ := hO0 _ _ _ hf0
  obtain ⟨l0_0, l0_1⟩ := x0
  obtain ⟨_, _, hcs0_0, ⟨A0_0, c0_0, rfl, hc0_0, hC0_0⟩, ⟨A0_1, c0_1, rfl, hc0_1, hC0_1⟩⟩ := hK0
  obtain rfl : cs0 = #[.slice A0_0 l0_0.length c0_0, .slice A0_1 l0_1.length c0_1] := by
    cases cs0 with | mk L => simp only [Value.cells] at hcs0_0;  simpa using hcs0_0
  obtain ⟨a1, rfl, rfl, rfl, w1⟩ := open_int Try.underlying3 (hval 1 3 v1 rfl rfl) h1
  clear hA0 hval0 hsz0 hsz
  obtain ⟨k, hk⟩ := Pure.FnExactDropFile l0_0 l0_1 a1 hw0 w1
  refine (laws_FnExactDropFile.calls k A0_0 c0_0 l0_0 A0_1 c0_1 l0_1 a1 true W hC0_0 hc0_0 hC0_1 hc0_1 hk).mono fun e W' ⟨he, bel⟩ => ?_
  subst he
  exact ⟨_, rfl, _, _, _, [], _, [], hW', trodAll_mk1 (shut_bool Try.underlying4 _), (trodAll_cons_mk (Below.trod laidOut (by kernel_rfl) (of_decide_eq_true (by kernel_rfl)) H0 bel lt0) (trodAll_cons_mk (shut_int Try.underlying3 w1) trodAll_mk0)), rfl, bel.frame _, fun h => by cases h⟩
theorem over : Rows.fnExactDropFileRow.holds Try.pinned (OpenSpec.ofChange Rows.fnExactDropFileSpec) :=
  OpenClaim.holds_of_wide 10 Try.f10 rfl rfl rfl rfl rfl rfl rfl ⟨rfl, rfl, rfl, rfl, rfl⟩ rfl rfl rfl rfl rfl (by kernel_rfl) Try.func10 (by kernel_rfl)
    (of_decide_eq_true (by kernel_rfl)) (by unfold Func.isWrapper; first | (rw [if_pos (by decide +kernel)]; kernel_rfl) | (rw [if_neg (by decide +kernel)]; exact ⟨rfl, rfl⟩))
    (fun os started H enc _ => lifted os started H enc)
theorem proved : Rows.FnExactDropFileSaid := over
#print axioms proved
end Go.Proofs.Ytjepecinpgjgdaa.fnExactDropFile
namespace Go.Proofs.Ytjepecinpgjgdaa
/-- The row, under a short name, for the claim. -/
theorem fnExactDropFile_holds : Rows.FnExactDropFileSaid := fnExactDropFile.proved
end Go.Proofs.Ytjepecinpgjgdaa
