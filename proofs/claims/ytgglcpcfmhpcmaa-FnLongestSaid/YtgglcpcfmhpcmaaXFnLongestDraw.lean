import Derived.Test.YtgglcpcfmhpcmaaYFnLongestx1
import Derived.Test.YtgglcpcfmhpcmaaYFnLongestx2
import Derived.Test.YtgglcpcfmhpcmaaDrawKit
/-! DrawLongestAt: a cursor is made, a text of repeats is drawn, and a place. -/
namespace Go.Proofs.Ytgglcpcfmhpcmaa.PFnLongest
open Go.RowKit Go.Proofs.YtgglcpcfmhpcmaaW.PrintWords Go.Proofs.YtgglcpcfmhpcmaaW.PrintLast Go.Proofs.YtgglcpcfmhpcmaaW.PrintMore Go.Proofs.Ytgglcpcfmhpcmaa.E
set_option linter.unusedVariables false
set_option linter.unusedSimpArgs false
def spec_DrawLongestAt.f (k : Nat) (l0 : List Int) : Option (ByteArray × Int) := (spec_l1Cur_repeats.f k l0 0 0).bind fun b => (spec_l1Cur_pick.f l0 b.2.1 b.2.2 (wrap64 ((b.1.size : Int) + 3))).bind fun c => some (b.1, wrap64 (c.1 - 1))
theorem spec_DrawLongestAt.mono : ∀ a0 k, LeO (spec_DrawLongestAt.f k a0) (spec_DrawLongestAt.f (k + 1) a0) := by
  intro a0 k
  unfold spec_DrawLongestAt.f
  exact LeO.bind (spec_l1Cur_repeats.mono _ _ _ _) (fun _ => LeO.refl _)
theorem IsS63.alloc_self {w : World} {A0 : Option Addr} {c0 : Nat} {l0 : List Int} (h : Kd.C (Kd.int .u8) w A0 l0.length l0) : IsS63 w (w.alloc (.cells #[.slice A0 l0.length c0, .int .i64 0, .int .u64 0] 63)) w.heap.size l0 0 0 :=
  ⟨A0, c0, heap_alloc_new w _, Nat.le_refl _, h⟩
set_option maxHeartbeats 4000000 in
set_option maxRecDepth 100000 in
theorem spec_DrawLongestAt.calls (k : Nat) (A0 : Option Addr) (c0 : Nat) (l0 : List Int) (r1 : ByteArray) (r2 : Int) (w : World) (hr0 : Kd.C (Kd.int .u8) w A0 l0.length l0) (hc0 : l0.length ≤ c0) (h : spec_DrawLongestAt.f k l0 = some (r1, r2)) :
    Calls Try.prog 26 #[.slice A0 l0.length c0] w fun e w' => e = .returned (.tuple #[.string r1, .int .i64 r2]) ∧ Below w.heap.size w w' := by
  obtain ⟨⟨t, p, q⟩, h1, h⟩ := Option.bind_eq_some_iff.mp h
  obtain ⟨⟨n, p2, q2⟩, h2, h⟩ := Option.bind_eq_some_iff.mp h
  obtain ⟨rfl, rfl⟩ := Prod.mk.inj (Option.some.inj h)
  have H1 := Aside0.mk h1
  have H2 := Aside0.mk h2
  clear h h1 h2
  have HI0 := Aside0.mk (IsS63.alloc_self (c0 := c0) hr0)
  have HB0 := Aside0.mk ((Below.refl w.heap.size w).alloc (Nat.le_refl _) (.cells #[.slice A0 l0.length c0, .int .i64 0, .int .u64 0] 63))
  clear hr0
  go_enter Try.func26, Try.ntmps26
  go_wp2_with (first | (go_at_call 55; refine (spec_l1Cur_repeats.calls k w.heap.size l0 0 0 t p q w _ HI0.out HB0.out H1.out).mono ?_; rintro e w1 ⟨rfl, hI, hB, hK⟩) | (go_at_call 56; refine (spec_l1Cur_pick.calls w.heap.size l0 p q _ n p2 q2 w _ hI hB H2.out).mono ?_; rintro e w2 ⟨rfl, hI2, hB2, hK2⟩))
  go_ret2
  exact ⟨rfl, hB2⟩
end Go.Proofs.Ytgglcpcfmhpcmaa.PFnLongest
