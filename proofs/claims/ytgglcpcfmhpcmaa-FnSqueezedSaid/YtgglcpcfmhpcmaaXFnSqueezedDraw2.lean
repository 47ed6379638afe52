import Derived.Test.YtgglcpcfmhpcmaaYFnSqueezedx5
import Derived.Test.YtgglcpcfmhpcmaaYFnSqueezedx9
import Derived.Test.YtgglcpcfmhpcmaaXFnSqueezedDraw
/-! DrawUnpackTokens: a text of repeats is drawn, made short, and spoilt at times. -/
namespace Go.Proofs.Ytgglcpcfmhpcmaa.PFnSqueezed
open Go.RowKit Go.Proofs.YtgglcpcfmhpcmaaW.PrintWords Go.Proofs.YtgglcpcfmhpcmaaW.PrintLast Go.Proofs.YtgglcpcfmhpcmaaW.PrintMore Go.Proofs.Ytgglcpcfmhpcmaa.E
set_option linter.unusedVariables false
set_option linter.unusedSimpArgs false
def spec_DrawUnpackTokens.f (k : Nat) (l0 : List Int) : Option ByteArray := (spec_l1Cur_repeats.f k l0 0 0).bind fun b => (spec_Squeeze.f k b.1).bind fun c => (spec_l1Cur_one.f l0 b.2.1 b.2.2 3).bind fun d => if d.1 = true then ((spec_l1Cur_spoilt.f k l0 d.2.1 d.2.2 c.1 (⟨#[0, 64, 255]⟩ : ByteArray)).bind fun e => some e.1) else some c.1
theorem spec_DrawUnpackTokens.mono : ∀ a0 k, LeO (spec_DrawUnpackTokens.f k a0) (spec_DrawUnpackTokens.f (k + 1) a0) := by
  intro a0 k
  unfold spec_DrawUnpackTokens.f
  refine LeO.bind (spec_l1Cur_repeats.mono _ _ _ _) (fun _ => LeO.bind (spec_Squeeze.mono _ _) (fun _ => LeO.bind (LeO.refl _) (fun d => ?_)))
  by_cases h : d.1 = true
  · rw [if_pos h, if_pos h]
    exact LeO.bind (spec_l1Cur_spoilt.mono _ _ _ _ _ _) (fun _ => LeO.refl _)
  · rw [if_neg h, if_neg h]
    exact LeO.refl _
set_option maxHeartbeats 4000000 in
set_option maxRecDepth 100000 in
theorem spec_DrawUnpackTokens.calls (k : Nat) (A0 : Option Addr) (c0 : Nat) (l0 : List Int) (r : ByteArray) (w : World) (hr0 : Kd.C (Kd.int .u8) w A0 l0.length l0) (hc0 : l0.length ≤ c0) (h : spec_DrawUnpackTokens.f k l0 = some r) :
    Calls Try.prog 42 #[.slice A0 l0.length c0] w fun e w' => e = .returned (.string r) ∧ Below w.heap.size w w' := by
  obtain ⟨⟨t, p, q⟩, h1, h⟩ := Option.bind_eq_some_iff.mp h
  obtain ⟨⟨u, b⟩, h2, h⟩ := Option.bind_eq_some_iff.mp h
  obtain ⟨⟨d, p2, q2⟩, h3, h⟩ := Option.bind_eq_some_iff.mp h
  have H1 := Aside0.mk h1
  have H2 := Aside0.mk h2
  have H3 := Aside0.mk h3
  clear h1 h2 h3
  have HI0 := Aside0.mk (IsS63.alloc_self (c0 := c0) hr0)
  have HB0 := Aside0.mk ((Below.refl w.heap.size w).alloc (Nat.le_refl _) (.cells #[.slice A0 l0.length c0, .int .i64 0, .int .u64 0] 63))
  clear hr0
  cases d with
  | true =>
    rw [if_pos rfl] at h
    obtain ⟨⟨s, p3, q3⟩, h4, h⟩ := Option.bind_eq_some_iff.mp h
    obtain rfl := Option.some.inj h
    have H4 := Aside0.mk h4
    clear h h4
    go_enter Try.func42, Try.ntmps42
    go_wp2_with (go_at_call 55; refine (spec_l1Cur_repeats.calls k w.heap.size l0 0 0 t p q w _ HI0.out HB0.out H1.out).mono ?_; rintro e w1 ⟨rfl, hI, hB, hK⟩)
    have HI1 := Aside0.mk hI
    have HB1 := Aside0.mk hB
    clear hI hB hK
    go_wp2_with (go_at_call 31; refine (spec_Squeeze.calls k t u b _ H2.out).mono ?_; rintro e w2 ⟨rfl, hb⟩)
    have HI2 := Aside0.mk (HI1.out.below hb)
    have HB2 := Aside0.mk (HB1.out.trans (hb.mono HB1.out.size))
    clear hb
    go_wp2_with (go_at_call 65; refine (spec_l1Cur_one.calls w.heap.size l0 p q 3 true p2 q2 w _ HI2.out HB2.out H3.out).mono ?_; rintro e w3 ⟨rfl, hI, hB, hK⟩)
    have HI3 := Aside0.mk hI
    have HB3 := Aside0.mk hB
    clear hI hB hK
    go_wp2_with (go_at_call 66; refine (spec_l1Cur_spoilt.calls k w.heap.size l0 p2 q2 u (⟨#[0, 64, 255]⟩ : ByteArray) s p3 q3 w _ HI3.out HB3.out H4.out).mono ?_; rintro e w4 ⟨rfl, hI, hB, hK⟩)
    go_ret
    exact ⟨rfl, hB⟩
  | false =>
    rw [if_neg (by simp)] at h
    obtain rfl := Option.some.inj h
    clear h
    go_enter Try.func42, Try.ntmps42
    go_wp2_with (go_at_call 55; refine (spec_l1Cur_repeats.calls k w.heap.size l0 0 0 t p q w _ HI0.out HB0.out H1.out).mono ?_; rintro e w1 ⟨rfl, hI, hB, hK⟩)
    have HI1 := Aside0.mk hI
    have HB1 := Aside0.mk hB
    clear hI hB hK
    go_wp2_with (go_at_call 31; refine (spec_Squeeze.calls k t u b _ H2.out).mono ?_; rintro e w2 ⟨rfl, hb⟩)
    have HI2 := Aside0.mk (HI1.out.below hb)
    have HB2 := Aside0.mk (HB1.out.trans (hb.mono HB1.out.size))
    clear hb
    go_wp2_with (go_at_call 65; refine (spec_l1Cur_one.calls w.heap.size l0 p q 3 false p2 q2 w _ HI2.out HB2.out H3.out).mono ?_; rintro e w3 ⟨rfl, hI, hB, hK⟩)
    go_ret
    exact ⟨rfl, hB⟩
end Go.Proofs.Ytgglcpcfmhpcmaa.PFnSqueezed
