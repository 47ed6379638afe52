/- The law FnExactPathsOf answers true at all its arguments, and leaves them as they were; no condition. -/
import Derived.Test.YthljjgolloiamaaDoorRows
import Derived.Test.YthljjgolloiamaaDoorCards
import Derived.Test.YthljjgolloiamaaDoorTie
import Derived.Test.YthljjgolloiamaaDoorXNamLFnExactPathsOf
import Derived.Test.YthljjgolloiamaaDoorPurePaths
import Derived.WalkKit
import Derived.ProofKit
import Derived.OpenShut
import Derived.ShutString
import Derived.ChangeOld
import Derived.Below
import Derived.SizedLaws
import Derived.LaidMore
import Derived.Lay
import Derived.SevenTiedAt
import Derived.Stop.Joined
namespace Go.Proofs.YthljjgolloiamaaDoor.fnExactPathsOf
open Go.ChangeShapes Go.WideShapes Go.ChangeAt Go.RowKit
open Go.ChangeMaps (open_string shut_string)
open Go.Proofs.YthljjgolloiamaaDoor.PNam Go.Proofs.YthljjgolloiamaaDoorW.PrintWords Go.Proofs.YthljjgolloiamaaDoor.O
set_option linter.unusedVariables false
set_option linter.unusedSimpArgs false
theorem own : ownKnob Tryd.prog.godebug = none := by kernel_rfl
theorem laidOut : laidOutB Tryd.prog = true := by kernel_rfl
set_option maxRecDepth 100000 in
theorem opens_T51 {H : Type} {enc : TypeId × Value → H} {w : World} {base : Nat} {spare : Nat → Bool} {held : Bool} :
    Opens enc Tryd.prog w base spare held k51 51 (fun x => (x.f0.size ≤ 9223372036854775807) ∧ ((Lit.int .i64 x.f1).wf = true)) := by
  have h : Opens enc Tryd.prog w base spare held (Kd.pair Kd.string (Kd.int .i64)) 51 (fun x => (x.1.size ≤ 9223372036854775807) ∧ ((Lit.int .i64 x.2).wf = true)) :=
    opens_struct Tryd.underlying51 (by kernel_rfl) (openss_cons rfl (by kernel_rfl) (opens_string Tryd.underlying9) (openss_one rfl (by kernel_rfl) (opens_int Tryd.underlying3)))
  exact opens_iso (fun x : S51 => (x.f0, x.f1)) (fun a => ⟨a.1, a.2⟩) (fun _ => rfl) h
set_option maxRecDepth 100000 in
theorem opens_T114 {H : Type} {enc : TypeId × Value → H} {w : World} {base : Nat} {spare : Nat → Bool} {held : Bool} :
    Opens enc Tryd.prog w base spare held k114 114 (fun x => (True) ∧ ((Lit.int .i64 x.f1).wf = true) ∧ (x.f2.length ≤ 9223372036854775807 ∧ ∀ y0 ∈ x.f2, (y0.f0.size ≤ 9223372036854775807) ∧ ((Lit.int .i64 y0.f1).wf = true))) := by
  have h : Opens enc Tryd.prog w base spare held (Kd.pair Kd.bool (Kd.pair (Kd.int .i64) (Kd.slice 51 k51))) 114 (fun x => (True) ∧ ((Lit.int .i64 x.2.1).wf = true) ∧ (x.2.2.length ≤ 9223372036854775807 ∧ ∀ y0 ∈ x.2.2, (y0.f0.size ≤ 9223372036854775807) ∧ ((Lit.int .i64 y0.f1).wf = true))) :=
    opens_struct Tryd.underlying114 (by kernel_rfl) (openss_cons rfl (by kernel_rfl) (opens_bool Tryd.underlying4) (openss_cons rfl (by kernel_rfl) (opens_int Tryd.underlying3) (openss_one rfl (by kernel_rfl) (opens_slice 51 Tryd.underlying65 (by kernel_rfl) opens_T51))))
  exact opens_iso (fun x : S114 => (x.f0, x.f1, x.f2)) (fun a => ⟨a.1, a.2.1, a.2.2⟩) (fun _ => rfl) h
set_option maxRecDepth 100000 in
theorem lifted (os : Os) (started : os.Started) (H : Type) (enc : TypeId × Value → H) :
    ReturnsInHanded {} Tryd.checked os 5 .any (fun w args => (Rows.fnExactPathsOfSpec.pre enc Tryd.prog Tryd.f5 Rows.fnExactPathsOfRow.domain false w args ∧ laidMetH Tryd.prog Rows.fnExactPathsOfRow.laid w) ∧ sizedMet enc Tryd.prog Tryd.f5 (OpenSpec.ofChange Rows.fnExactPathsOfSpec) false w args)
      (Rows.fnExactPathsOfSpec.post enc Tryd.prog Tryd.f5 false true false false) := by
  refine returnsInHanded_of_change_and (C := Tryd.checked) (X := fun w _ => laidMetH Tryd.prog Rows.fnExactPathsOfRow.laid w) (fun _ _ _ hh h => h.of_heap hh) own started (by kernel_rfl) Tryd.func5
    (ChangeSpec.witness_shaped (enc := enc) (C := Tryd.checked) (os := os) (X := fun w _ => laidMetH Tryd.prog Rows.fnExactPathsOfRow.laid w) false (World.laidAll Tryd.prog os Rows.fnExactPathsOfRow.laid) #[.agg #[.slice none 0 0]] 8 (World.laidAll_os _ _ _)
      (World.shaped_of_ZipB (by kernel_rfl) (by kernel_rfl)) (by kernel_rfl) (by kernel_rfl) (by kernel_rfl)
      (by rw [MakeChecks.laidMetH_plain _ _ _ (by kernel_rfl)]; exact laidMet_laidAll _ (by kernel_rfl) (by kernel_rfl))) ?_
  intro W base args ds gs before hval0 hW hcnd hsz0 _ _
  have hsz : (DataW.weightsEach Tryd.prog (Tryd.f5.params.toList ++ Rows.fnExactPathsOfSpec.plain.varTypes Tryd.prog) (ds ++ gs)).all (· ≤ reachBytes) = true := hsz0
  have hval : ∀ (j : Nat) t v, Tryd.f5.params[j]? = some t → args[j]? = some v → Value.okWide Tryd.prog W .any base t v := hval0
  have hW' := hW
  obtain ⟨p, q, hA0, hV, rfl, hfz, hnd⟩ := hW
  have hA : DataW.TrodAll enc Tryd.prog W 0 (fun _ => true) true Tryd.f5.params.toList args.toList ds p := hA0
  rw [Tryd.params5] at hA hval hsz
  obtain ⟨v0, vs0, d0, ds0, p0, q0, hargs, rfl, rfl, h0, r0⟩ := trodAll_cons hA
  obtain ⟨rfl, rfl, rfl⟩ := trodAll_nil r0
  obtain rfl : args = #[v0] := by cases args; simp_all
  obtain ⟨rfl, rfl⟩ := trodVars_none hV
  have lt0 : ∀ x ∈ p0, x.block < W.heap.size := by obtain ⟨m, hm⟩ := h0; exact DataW.trod_lt m _ _ _ hm
  have H0 := h0
  obtain ⟨cs0, rfl, hcs0⟩ := okWide_struct Tryd.underlying24 (hval 0 24 v0 rfl rfl)
  obtain ⟨fu0, hf0⟩ := h0
  have hO0 : Opens enc Tryd.prog W 0 (fun _ => true) true (Kd.slice 114 k114) 24 (fun x => (x.length ≤ 9223372036854775807 ∧ ∀ y0 ∈ x, (True) ∧ ((Lit.int .i64 y0.f1).wf = true) ∧ (y0.f2.length ≤ 9223372036854775807 ∧ ∀ y1 ∈ y0.f2, (y1.f0.size ≤ 9223372036854775807) ∧ ((Lit.int .i64 y1.f1).wf = true)))) := opens_struct Tryd.underlying24 (by kernel_rfl) (openss_one rfl (by kernel_rfl) (opens_slice 114 Tryd.underlying22 (by kernel_rfl) opens_T114))
  obtain ⟨l0_0, hK0, hw0⟩ := hO0 _ _ _ hf0
  obtain ⟨A0_0, c0_0, hcs0_0, hc0_0, hC0_0⟩ := hK0
  obtain rfl : cs0 = #[.slice A0_0 l0_0.length c0_0] := by
    cases cs0 with | mk L => simp only [Value.cells] at hcs0_0;  simpa using hcs0_0
  clear hA0 hval0 hsz0 hsz
  obtain ⟨k, hk⟩ := Pure.FnExactPathsOf l0_0 hw0
  refine (laws_FnExactPathsOf.calls k A0_0 c0_0 l0_0 true W hC0_0 hc0_0 hk).mono fun e W' ⟨he, bel⟩ => ?_
  subst he
  exact ⟨_, rfl, _, _, _, [], _, [], hW', trodAll_mk1 (shut_bool Tryd.underlying4 _), (trodAll_cons_mk (Below.trod laidOut (by kernel_rfl) (of_decide_eq_true (by kernel_rfl)) H0 bel lt0) trodAll_mk0), rfl, bel.frame _, fun h => by cases h⟩
theorem over : Rows.fnExactPathsOfRow.holds Tryd.pinned (OpenSpec.ofChange Rows.fnExactPathsOfSpec) :=
  OpenClaim.holds_of_wide 5 Tryd.f5 rfl rfl rfl rfl rfl rfl rfl ⟨rfl, rfl, rfl, rfl, rfl⟩ rfl rfl rfl rfl rfl (by kernel_rfl) Tryd.func5 (by kernel_rfl)
    (of_decide_eq_true (by kernel_rfl)) (by unfold Func.isWrapper; first | (rw [if_pos (by decide +kernel)]; kernel_rfl) | (rw [if_neg (by decide +kernel)]; exact ⟨rfl, rfl⟩))
    (fun os started H enc _ => lifted os started H enc)
theorem proved : Rows.FnExactPathsOfCardSaid :=
  Claim7.holds_tied_plain_at .later [] [.data, .pinned] true (true, "2cbe46320bb768e69401324704ddc41a1b98e711c13594270ea3e188f995c73b") false over (fun _ h => by cases h) (by kernel_rfl) (fun _ h => by cases h) fnExactPathsOf_row_tie rfl ⟨rfl, rfl⟩ (by kernel_rfl) rfl
    (fun f fn hf hfn => by
      obtain rfl : f = 5 := Option.some.inj ((show Tryd.prog.funcNamed "loop.example/g00261/laws.FnExactPathsOf" = some 5 by kernel_rfl).symm.trans hf) |>.symm
      obtain rfl : fn = Tryd.f5 := (Option.some.inj (Tryd.func5.symm.trans hfn)).symm
      exact ⟨by kernel_rfl, fun j t ht => by
        rw [Tryd.params5] at ht
        have hm : t ∈ [24] := by simpa using Array.mem_of_getElem? ht
        have hall : ([24].all fun u => !Tryd.prog.wantsStandIn u) = true := by kernel_rfl
        exact (show Tryd.prog.wantsStandIn t = false by simpa using List.all_eq_true.1 hall t hm)⟩)
    (by kernel_rfl)
#print axioms proved
end Go.Proofs.YthljjgolloiamaaDoor.fnExactPathsOf
namespace Go.Proofs.YthljjgolloiamaaDoor
/-- The tied card, under a short name, for the claim. -/
theorem fnExactPathsOf_holds : Rows.FnExactPathsOfCardSaid := fnExactPathsOf.proved
end Go.Proofs.YthljjgolloiamaaDoor
