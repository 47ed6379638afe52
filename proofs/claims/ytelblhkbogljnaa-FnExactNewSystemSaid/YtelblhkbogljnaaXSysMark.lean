import Derived.Test.YtelblhkbogljnaaXSysNil
import Derived.Test.YtelblhkbogljnaaYSysmark
/-! markSystem: a system without files is overwritten; walked by hand. -/
namespace Go.Proofs.Ytelblhkbogljnaa.PSys
open Go.RowKit Go.Proofs.YtelblhkbogljnaaW.PrintWords Go.Proofs.YtelblhkbogljnaaW.PrintLast Go.Proofs.YtelblhkbogljnaaW.PrintMore Go.Proofs.Ytelblhkbogljnaa.E
set_option linter.unusedSimpArgs false
set_option linter.unusedVariables false
def laws_markSystem.f (k : Nat) (a0 a1 : Int) (l2 l3 : List S35) (l4 : List S88) (m : Int) : Option (Int × List S35 × List S35) := if l4.length = 0 then laws_markFree.f k a1 l2 l3 m else none
theorem laws_markSystem.mono : ∀ a0 a1 a2 a3 a4 a5 k, LeO (laws_markSystem.f k a0 a1 a2 a3 a4 a5) (laws_markSystem.f (k + 1) a0 a1 a2 a3 a4 a5) := by
 intro a0 a1 a2 a3 a4 a5 k
 unfold laws_markSystem.f
 split
 ·exact laws_markFree.mono _ _ _ _ _
 ·exact LeO.refl _
set_option maxHeartbeats 4000000 in
set_option maxRecDepth 100000 in
theorem laws_markSystem.calls (k : Nat) (a0 a1 : Int) (P2 : Nat → Prop) (u2 : Value) (l2 : List S35) (P3 : Nat → Prop) (u3 : Value) (l3 : List S35) (A4 : Option Addr) (c4 : Nat) (l4 : List S88) (m : Int) (r1 : Int) (r2 r3 : List S35) (w0 w : World) (hB : Below w0.heap.size w0 w) (ho2 : Kd.R k35 35 w w0.heap.size P2 u2 l2) (hp23 : ∀ k_, P2 k_ → ¬ P3 k_) (ho3 : Kd.R k35 35 w w0.heap.size P3 u3 l3) (hp32 : ∀ k_, P3 k_ → ¬ P2 k_) (hr4 : ∀ W, Kept w W (fun k_ => P2 k_ ∨ P3 k_) → Kd.C k88 W A4 l4.length l4) (hc4 : l4.length ≤ c4) (h : laws_markSystem.f k a0 a1 l2 l3 l4 m = some (r1, r2, r3)) :
  Calls Try.prog 10 #[.agg #[.int .i64 a0, .int .i64 a1, u2, u3, .slice A4 l4.length c4], .int .i64 m] w fun e w' => e = .returned (.int .i64 r1) ∧ Kd.R k35 35 w' w0.heap.size (fun k_ => (P2 k_ ∨ P3 k_) ∨ w.heap.size ≤ k_) u2 r2 ∧ Kd.R k35 35 w' w0.heap.size (fun k_ => (P2 k_ ∨ P3 k_) ∨ w.heap.size ≤ k_) u3 r3 ∧ Below w0.heap.size w0 w' ∧ Kept w w' (fun k_ => P2 k_ ∨ P3 k_) := by
 unfold laws_markSystem.f at h
 split at h
 ·rename_i hl
  rw [hl]
  have hu := Try.underlying27
  have hu2 := Try.underlying24
  obtain ⟨A2, c2, rfl⟩ := Kd.R_slice ho2
  obtain ⟨A3, c3, rfl⟩ := Kd.R_slice ho3
  obtain ⟨W1, hW1⟩ : ∃ W, w.alloc (.cells #[.int .i64 a0, .int .i64 a1, .slice A2 l2.length c2, .slice A3 l3.length c3, .slice A4 0 c4] 27) = W := ⟨_, rfl⟩
  have hb1 : Below w.heap.size w W1 := by rw [← hW1]; exact below_alloc (Below.refl _ _) _
  have X1 : W1.heap[w.heap.size]? = some (.cells #[.int .i64 a0, .int .i64 a1, .slice A2 l2.length c2, .slice A3 l3.length c3, .slice A4 0 c4] 27 (0, 0)) := by rw [← hW1]; exact heap_alloc_new w _
  have hb0 := below_then hB hB.size hb1
  have TT := Aside0.mk (laws_markFree.calls k a1 (fun k_ => some k_ = (Value.slice A2 l2.length c2).ownBlock) _ l2 (fun k_ => some k_ = (Value.slice A3 l3.length c3).ownBlock) _ l3 m r1 r2 r3 w0 W1 hb0 (Kd.R_tight rfl (Kd.R_below ho2 hb1)) (fun k_ h_ h2_ => hp23 k_ (ho2.1 k_ h_.symm) (ho3.1 k_ h2_.symm)) (Kd.R_tight rfl (Kd.R_below ho3 hb1)) (fun k_ h_ h2_ => hp32 k_ (ho3.1 k_ h_.symm) (ho2.1 k_ h2_.symm)) h)
  have d1 : W1.cell? ⟨w.heap.size, 1, none⟩ = some (.int .i64 a1) := (blk_cell X1 1).trans rfl
  have d2 : W1.cell? ⟨w.heap.size, 2, none⟩ = some (.slice A2 l2.length c2) := (blk_cell X1 2).trans rfl
  have d3 : W1.cell? ⟨w.heap.size, 3, none⟩ = some (.slice A3 l3.length c3) := (blk_cell X1 3).trans rfl
  have X := Aside0.mk X1
  have HB1 := Aside0.mk hb1
  have H2 := Aside0.mk ho2
  have H3 := Aside0.mk ho3
  clear h hl hr4 hc4 hb1 X1 hB ho2 ho3 hp23 hp32
  go_enter Try.func10, Try.ntmps10
  go_wp2_with (go_at_call 40; refine TT.out.mono ?_)
  rintro e w2 ⟨rfl, hy0, hy1, hb, hk⟩
  have hX : w2.heap[w.heap.size]? = _ := blk_kept X.out hk (fun h_ => h_.elim (fun e_ => by have := Kd.R_lt H2.out _ e_.symm; omega) (fun e_ => by have := Kd.R_lt H3.out _ e_.symm; omega))
  have e4 : w2.cell? ⟨w.heap.size, 4, none⟩ = some (.slice A4 0 c4) := (blk_cell hX 4).trans rfl
  have hS : ∀ j, (some j = (Value.slice A2 l2.length c2).ownBlock ∨ some j = (Value.slice A3 l3.length c3).ownBlock) → (P2 j ∨ P3 j) := fun j h_ => h_.elim (fun e_ => .inl (H2.out.1 j e_.symm)) (fun e_ => .inr (H3.out.1 j e_.symm))
  have KW := Aside0.mk ((Kept.of_below HB1.out (fun k_ => P2 k_ ∨ P3 k_)).then_ hk (fun j hj => .inl (hS j hj)))
  have Y0 := Aside0.mk (Kd.R_mono hy0 (ok' := fun k_ => (P2 k_ ∨ P3 k_) ∨ w.heap.size ≤ k_) (fun k_ h_ => h_.elim (fun h2_ => .inl (hS k_ h2_)) (fun h2_ => .inr (Nat.le_trans HB1.out.size h2_))))
  have Y1 := Aside0.mk (Kd.R_mono hy1 (ok' := fun k_ => (P2 k_ ∨ P3 k_) ∨ w.heap.size ≤ k_) (fun k_ h_ => h_.elim (fun h2_ => .inl (hS k_ h2_)) (fun h2_ => .inr (Nat.le_trans HB1.out.size h2_))))
  have HB := Aside0.mk hb
  clear hy0 hy1 hb hk hS hX TT d1 d2 d3 hW1
  go_wp2_with (go_at_call 41; refine (markHeldS_nil A4 c4 r1 w2).mono ?_; rintro e w3 ⟨rfl, rfl⟩)
  go_ret
  exact ⟨rfl, Y0.out, Y1.out, HB.out, KW.out⟩
 ·cases h
end Go.Proofs.Ytelblhkbogljnaa.PSys
