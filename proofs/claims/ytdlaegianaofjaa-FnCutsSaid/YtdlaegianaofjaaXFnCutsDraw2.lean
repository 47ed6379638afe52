import Derived.Test.YtdlaegianaofjaaYFnCutsx2
import Derived.Test.YtdlaegianaofjaaYFnCutsx3
import Derived.Test.YtdlaegianaofjaaXFnCutsDraw
/-! DrawRollOn: a cursor is made, a number and two bytes are drawn. -/
namespace Go.Proofs.Ytdlaegianaofjaa.PFnCuts
open Go.RowKit Go.Proofs.YtdlaegianaofjaaW.PrintWords Go.Proofs.YtdlaegianaofjaaW.PrintLast Go.Proofs.YtdlaegianaofjaaW.PrintMore Go.Proofs.Ytdlaegianaofjaa.E
set_option linter.unusedVariables false
set_option linter.unusedSimpArgs false
def spec_DrawRollOn.f (l0 : List Int) : Option (Int × Int × Int) := (spec_l1Cur_among.f l0 0 0 [-1, 0, 100, 4092, 4093]).bind fun b => (spec_l1Cur_byte.f l0 b.2.1 b.2.2).bind fun c => (spec_l1Cur_byte.f l0 c.2.1 c.2.2).bind fun d => some (b.1, c.1, d.1)
set_option maxHeartbeats 4000000 in
set_option maxRecDepth 100000 in
theorem spec_DrawRollOn.calls (A0 : Option Addr) (c0 : Nat) (l0 : List Int) (r1 : Int) (r2 : Int) (r3 : Int) (w : World) (hr0 : Kd.C (Kd.int .u8) w A0 l0.length l0) (hc0 : l0.length ≤ c0) (h : spec_DrawRollOn.f l0 = some (r1, r2, r3)) :
    Calls Try.prog 31 #[.slice A0 l0.length c0] w fun e w' => e = .returned (.tuple #[.int .i64 r1, .int .u8 r2, .int .u8 r3]) ∧ Below w.heap.size w w' := by
  obtain ⟨⟨n, p, q⟩, h1, h⟩ := Option.bind_eq_some_iff.mp h
  obtain ⟨⟨a, p2, q2⟩, h2, h⟩ := Option.bind_eq_some_iff.mp h
  obtain ⟨⟨b, p3, q3⟩, h3, h⟩ := Option.bind_eq_some_iff.mp h
  have h := Option.some.inj h
  simp only [Prod.mk.injEq] at h
  obtain ⟨rfl, rfl, rfl⟩ := h
  have H1 := Aside0.mk h1
  have H2 := Aside0.mk h2
  have H3 := Aside0.mk h3
  have HR := Aside0.mk hr0
  clear h h1 h2 h3 hr0
  have HC := Aside0.mk (show Kd.C (Kd.int .i64) ((w.alloc (.cells #[.slice A0 l0.length c0, .int .i64 0, .int .u64 0] 75)).alloc (.cells #[.int .i64 (-1), .int .i64 0, .int .i64 100, .int .i64 4092, .int .i64 4093] 3)) (some ⟨w.heap.size + 1, 0, none⟩) 5 [-1, 0, 100, 4092, 4093] from by
    have h := Dk.C_lit (enc := Value.int .i64) (h1 := fun _ => rfl) (w.alloc (.cells #[.slice A0 l0.length c0, .int .i64 0, .int .u64 0] 75)) 3 [-1, 0, 100, 4092, 4093] (by simp)
    have e : (w.alloc (.cells #[.slice A0 l0.length c0, .int .i64 0, .int .u64 0] 75)).heap.size = w.heap.size + 1 := by simp
    rw [e] at h
    exact h)
  have HI0 := Aside0.mk (IsS75.alloc (IsS75.alloc_self (c0 := c0) HR.out) (.cells #[.int .i64 (-1), .int .i64 0, .int .i64 100, .int .i64 4092, .int .i64 4093] 3))
  have HB0 := Aside0.mk (show Below w.heap.size w _ from (((Below.refl w.heap.size w).alloc (Nat.le_refl _) (.cells #[.slice A0 l0.length c0, .int .i64 0, .int .u64 0] 75)).alloc (by simp) (.cells #[.int .i64 (-1), .int .i64 0, .int .i64 100, .int .i64 4092, .int .i64 4093] 3)))
  go_enter Try.func31, Try.ntmps31
  go_wp2_with (go_at_call 55; refine (spec_l1Cur_among.calls w.heap.size l0 0 0 _ _ [-1, 0, 100, 4092, 4093] n p q w _ HI0.out HB0.out HC.out (Nat.le_refl _) (fun ad he _ => by obtain rfl := Option.some.inj he; simp) H1.out).mono ?_; rintro e w1 ⟨rfl, hI, hB, hK⟩)
  have HI1 := Aside0.mk hI
  have HB1 := Aside0.mk hB
  clear hI hB hK
  go_wp2_with (go_at_call 64; refine (spec_l1Cur_byte.calls w.heap.size l0 p q a p2 q2 w _ HI1.out HB1.out H2.out).mono ?_; rintro e w2 ⟨rfl, hI, hB, hK⟩)
  have HI2 := Aside0.mk hI
  have HB2 := Aside0.mk hB
  clear hI hB hK
  go_wp2_with (go_at_call 64; refine (spec_l1Cur_byte.calls w.heap.size l0 p2 q2 b p3 q3 w _ HI2.out HB2.out H3.out).mono ?_; rintro e w3 ⟨rfl, hI, hB, hK⟩)
  go_wp2
  go_ret3
  exact ⟨rfl, hB⟩
end Go.Proofs.Ytdlaegianaofjaa.PFnCuts
