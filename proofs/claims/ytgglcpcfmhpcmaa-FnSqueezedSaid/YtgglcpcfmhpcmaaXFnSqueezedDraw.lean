import Derived.Test.YtgglcpcfmhpcmaaYFnSqueezedx8
import Derived.Test.YtgglcpcfmhpcmaaDrawKit
/-! DrawTokensOf: a cursor is made, a text of repeats is drawn. -/
namespace Go.Proofs.Ytgglcpcfmhpcmaa.PFnSqueezed
open Go.RowKit Go.Proofs.YtgglcpcfmhpcmaaW.PrintWords Go.Proofs.YtgglcpcfmhpcmaaW.PrintLast Go.Proofs.YtgglcpcfmhpcmaaW.PrintMore Go.Proofs.Ytgglcpcfmhpcmaa.E
set_option linter.unusedVariables false
set_option linter.unusedSimpArgs false
def spec_DrawTokensOf.f (k : Nat) (l0 : List Int) : Option ByteArray := (spec_l1Cur_repeats.f k l0 0 0).bind fun b => some b.1
theorem spec_DrawTokensOf.mono : ∀ a0 k, LeO (spec_DrawTokensOf.f k a0) (spec_DrawTokensOf.f (k + 1) a0) := by
  intro a0 k
  unfold spec_DrawTokensOf.f
  exact LeO.bind (spec_l1Cur_repeats.mono _ _ _ _) (fun _ => LeO.refl _)
theorem IsS63.alloc_self {w : World} {A0 : Option Addr} {c0 : Nat} {l0 : List Int} (h : Kd.C (Kd.int .u8) w A0 l0.length l0) : IsS63 w (w.alloc (.cells #[.slice A0 l0.length c0, .int .i64 0, .int .u64 0] 63)) w.heap.size l0 0 0 :=
  ⟨A0, c0, heap_alloc_new w _, Nat.le_refl _, h⟩
set_option maxHeartbeats 4000000 in
set_option maxRecDepth 100000 in
theorem spec_DrawTokensOf.calls (k : Nat) (A0 : Option Addr) (c0 : Nat) (l0 : List Int) (r : ByteArray) (w : World) (hr0 : Kd.C (Kd.int .u8) w A0 l0.length l0) (hc0 : l0.length ≤ c0) (h : spec_DrawTokensOf.f k l0 = some r) :
    Calls Try.prog 64 #[.slice A0 l0.length c0] w fun e w' => e = .returned (.string r) ∧ Below w.heap.size w w' := by
  obtain ⟨⟨t, p, q⟩, h1, h⟩ := Option.bind_eq_some_iff.mp h
  obtain rfl := Option.some.inj h
  have H1 := Aside0.mk h1
  clear h h1
  have HI0 := Aside0.mk (IsS63.alloc_self (c0 := c0) hr0)
  have HB0 := Aside0.mk ((Below.refl w.heap.size w).alloc (Nat.le_refl _) (.cells #[.slice A0 l0.length c0, .int .i64 0, .int .u64 0] 63))
  clear hr0
  go_enter Try.func64, Try.ntmps64
  go_wp2_with (go_at_call 55; refine (spec_l1Cur_repeats.calls k w.heap.size l0 0 0 t p q w _ HI0.out HB0.out H1.out).mono ?_; rintro e w1 ⟨rfl, hI, hB, hK⟩)
  go_ret
  exact ⟨rfl, hB⟩
end Go.Proofs.Ytgglcpcfmhpcmaa.PFnSqueezed
