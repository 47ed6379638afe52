import Derived.Test.YtdlaegianaofjaaYFnRolledx1
import Derived.Test.YtdlaegianaofjaaYFnRolledx2
import Derived.Test.YtdlaegianaofjaaDrawKit
/-! DrawRollHash: a cursor is made, a number is drawn, a text of that length. -/
namespace Go.Proofs.Ytdlaegianaofjaa.PFnRolled
open Go.RowKit Go.Proofs.YtdlaegianaofjaaW.PrintWords Go.Proofs.YtdlaegianaofjaaW.PrintLast Go.Proofs.YtdlaegianaofjaaW.PrintMore Go.Proofs.Ytdlaegianaofjaa.E
set_option linter.unusedVariables false
set_option linter.unusedSimpArgs false
def spec_DrawRollHash.f (k : Nat) (l0 : List Int) : Option ByteArray := (spec_l1Cur_among.f l0 0 0 [4, 4, 4, 3, 5]).bind fun b => (spec_l1Cur_text.f k l0 b.2.1 b.2.2 b.1).bind fun c => some c.1
theorem spec_DrawRollHash.mono : ∀ a0 k, LeO (spec_DrawRollHash.f k a0) (spec_DrawRollHash.f (k + 1) a0) := by
  intro a0 k
  unfold spec_DrawRollHash.f
  exact LeO.bind (LeO.refl _) (fun _ => LeO.bind (spec_l1Cur_text.mono _ _ _ _ _) (fun _ => LeO.refl _))
theorem IsS75.alloc_self {w : World} {A0 : Option Addr} {c0 : Nat} {l0 : List Int} (h : Kd.C (Kd.int .u8) w A0 l0.length l0) : IsS75 w (w.alloc (.cells #[.slice A0 l0.length c0, .int .i64 0, .int .u64 0] 75)) w.heap.size l0 0 0 :=
  ⟨A0, c0, heap_alloc_new w _, Nat.le_refl _, h⟩
set_option maxHeartbeats 4000000 in
set_option maxRecDepth 100000 in
theorem spec_DrawRollHash.calls (k : Nat) (A0 : Option Addr) (c0 : Nat) (l0 : List Int) (r : ByteArray) (w : World) (hr0 : Kd.C (Kd.int .u8) w A0 l0.length l0) (hc0 : l0.length ≤ c0) (h : spec_DrawRollHash.f k l0 = some r) :
    Calls Try.prog 14 #[.slice A0 l0.length c0] w fun e w' => e = .returned (.string r) ∧ Below w.heap.size w w' := by
  obtain ⟨⟨n, p, q⟩, h1, h⟩ := Option.bind_eq_some_iff.mp h
  obtain ⟨⟨t, p2, q2⟩, h2, h⟩ := Option.bind_eq_some_iff.mp h
  obtain rfl := Option.some.inj h
  have H1 := Aside0.mk h1
  have H2 := Aside0.mk h2
  have HR := Aside0.mk hr0
  clear h h1 h2 hr0
  have HC := Aside0.mk (show Kd.C (Kd.int .i64) ((w.alloc (.cells #[.slice A0 l0.length c0, .int .i64 0, .int .u64 0] 75)).alloc (.cells #[.int .i64 4, .int .i64 4, .int .i64 4, .int .i64 3, .int .i64 5] 3)) (some ⟨w.heap.size + 1, 0, none⟩) 5 [4, 4, 4, 3, 5] from by
    have h := Dk.C_lit (enc := Value.int .i64) (h1 := fun _ => rfl) (w.alloc (.cells #[.slice A0 l0.length c0, .int .i64 0, .int .u64 0] 75)) 3 [4, 4, 4, 3, 5] (by simp)
    have e : (w.alloc (.cells #[.slice A0 l0.length c0, .int .i64 0, .int .u64 0] 75)).heap.size = w.heap.size + 1 := by simp
    rw [e] at h
    exact h)
  have HI0 := Aside0.mk (IsS75.alloc (IsS75.alloc_self (c0 := c0) HR.out) (.cells #[.int .i64 4, .int .i64 4, .int .i64 4, .int .i64 3, .int .i64 5] 3))
  have HB0 := Aside0.mk (show Below w.heap.size w _ from (((Below.refl w.heap.size w).alloc (Nat.le_refl _) (.cells #[.slice A0 l0.length c0, .int .i64 0, .int .u64 0] 75)).alloc (by simp) (.cells #[.int .i64 4, .int .i64 4, .int .i64 4, .int .i64 3, .int .i64 5] 3)))
  go_enter Try.func14, Try.ntmps14
  go_wp2_with (first | (go_at_call 55; refine (spec_l1Cur_among.calls w.heap.size l0 0 0 _ _ [4, 4, 4, 3, 5] n p q w _ HI0.out HB0.out HC.out (Nat.le_refl _) (fun ad he _ => by obtain rfl := Option.some.inj he; simp) H1.out).mono ?_; rintro e w1 ⟨rfl, hI, hB, hK⟩) | (go_at_call 54; refine (spec_l1Cur_text.calls k w.heap.size l0 p q n t p2 q2 w _ hI hB H2.out).mono ?_; rintro e w2 ⟨rfl, hI2, hB2, hK2⟩))
  go_ret
  exact ⟨rfl, hB2⟩
end Go.Proofs.Ytdlaegianaofjaa.PFnRolled
