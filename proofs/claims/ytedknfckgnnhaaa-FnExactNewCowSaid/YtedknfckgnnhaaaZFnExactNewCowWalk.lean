import Derived.Test.YtedknfckgnnhaaaYFnExactNewCowx1
import Derived.Test.YtedknfckgnnhaaaYFnExactNewCowx2
import Derived.Test.YtedknfckgnnhaaaYFnExactNewCowx3
import Derived.Test.YtedknfckgnnhaaaEv
/-! NewCow: the law, walked. -/
namespace Go.Proofs.Ytedknfckgnnhaaa.PFnExactNewCow
open Go.RowKit Go.Proofs.YtedknfckgnnhaaaW.PrintWords Go.Proofs.YtedknfckgnnhaaaW.PrintLast Go.Proofs.YtedknfckgnnhaaaW.PrintMore Go.Proofs.Ytedknfckgnnhaaa.E
set_option linter.unusedSimpArgs false
set_option linter.unusedVariables false
set_option maxHeartbeats 4000000 in
set_option maxRecDepth 100000 in
theorem markCells0 (A : Option Addr) (c : Nat) (k : Int) (w : World) : Calls Try.prog 48 #[.slice A 0 c, .int .i64 k] w fun e w' => e = .returned (.int .i64 k) ∧ Below w.heap.size w w' := by
  go_enter Try.func48, Try.ntmps48
  go_wp2
  go_loopw [1, 5] (fun v1 v5 w' => v1 = .int .i64 k ∧ v5 = .int .i64 0 ∧ Below w.heap.size w w') (fun _ _ _ => 0)
  case atStart => exact ⟨rfl, rfl, Below.refl _ _⟩
  case round =>
    obtain ⟨rfl, rfl, HB⟩ := hrel
    go_wp2
    go_ret
    exact ⟨rfl, HB⟩
set_option maxHeartbeats 4000000 in
set_option maxRecDepth 100000 in
theorem markCow0 (k : Nat) (P : Nat → Prop) (A : Option Addr) (c : Nat) (u : Value) (R R' : List Int) (lev a m : Int) (w0 w : World) (hB : Below w0.heap.size w0 w) (ho : Kd.R (Kd.int .i64) 3 w w0.heap.size P u R) (h : laws_markIntS.f k R a = some (m, R')) :
    Calls Try.prog 17 #[.agg #[.slice A 0 c, u, .int .i64 lev], .int .i64 a] w fun e w' => e = .returned (.int .i64 m) ∧ Kd.R (Kd.int .i64) 3 w' w0.heap.size (fun _ => True) u R' ∧ Below w0.heap.size w0 w' ∧ Kept w w' P := by
  have hu25 := Try.underlying25
  have HO := Aside0.mk ho
  have HB := Aside0.mk hB
  have H := Aside0.mk h
  clear ho hB h
  go_enter Try.func17, Try.ntmps17
  go_wp2_with (go_at_call 48; refine (markCells0 A c a _).mono ?_)
  rintro e w1 ⟨rfl, hb1⟩
  have hx := Aside0.mk (show w1.heap[w.heap.size]? = some (.cells #[.slice A 0 c, u, .int .i64 lev] 25 (0, 0)) from (hb1.block w.heap.size (by simp)).trans (heap_alloc_new w _))
  have hB1 := Aside0.mk (show Below w.heap.size w w1 from ((Below.refl _ _).alloc (Nat.le_refl _) _).trans (hb1.mono (by simp)))
  have HO1 := Aside0.mk (Kd.R_below HO.out hB1.out)
  have HB1 := Aside0.mk (HB.out.trans (hB1.out.mono HB.out.size))
  clear hb1
  have d0 : w1.cell? ⟨w.heap.size, 0, none⟩ = some (.slice A 0 c) := (blk_cell hx.out _).trans rfl
  have d1 : w1.cell? ⟨w.heap.size, 1, none⟩ = some u := (blk_cell hx.out _).trans rfl
  have d2 : w1.cell? ⟨w.heap.size, 2, none⟩ = some (.int .i64 lev) := (blk_cell hx.out _).trans rfl
  go_wp2_with (go_at_call 49; refine (laws_markIntS.calls k P u R a m R' w0 _ HB1.out HO1.out H.out).mono ?_)
  rintro e w2 ⟨rfl, hR, hB2, hK⟩
  go_wp2
  go_ret
  exact ⟨rfl, Kd.R_mono hR (fun _ _ => trivial), hB2, (Kept.of_below hB1.out P).then_ hK (fun _ h => .inl h)⟩
theorem held0 (E0 E1 : Option Addr) (f0 f1 n : Nat) (R' : List Int) (lev m : Int) (w : World) (hf0 : 0 ≤ f0) (hn : n = R'.length) (hf1 : n ≤ f1) (hc : (Kd.int .i64).C w E1 n R') (hc0 : k68.C w E0 0 []) (h : laws_heldCow.f 5 [] R' lev 1 = some m) :
    Calls Try.prog 18 #[.agg #[.slice E0 0 f0, .slice E1 n f1, .int .i64 lev], .int .i64 1] w fun e w' => e = .returned (.int .i64 m) ∧ Below w.heap.size w w' := by
  subst hn
  exact laws_heldCow.calls 5 E0 f0 [] E1 f1 R' lev 1 m w hc0 hf0 hc hf1 h
/-- What both answer at a number of levels. -/
theorem both (a : Int) : ∃ R lev ok R' m, spec_NewCow.f a = some ([], R, lev, ok) ∧ impl_NewCow.f a = some ([], R, lev, ok) ∧ laws_markIntS.f 5 R 1 = some (m, R') ∧ laws_heldCow.f 5 [] R' lev 1 = some m ∧ laws_eqCow.f 5 [] R lev [] R lev = some true ∧ R.length ≤ 1 ∧ 0 ≤ m := by
  unfold spec_NewCow.f impl_NewCow.f spec_l1In.f impl_within.f
  by_cases h0 : a ≥ 1
  · by_cases h3 : a ≤ 3
    · have e : decide (a ≤ 3) = true := by simpa using h3
      refine ⟨[-1], a, true, [1], 2, by simp [h0, e], by simp [h0, e], by simp [laws_markIntS.f, laws_markIntS.l0, wrap64], ?_, ?_, by simp, by omega⟩
      · simp [laws_heldCow.f, laws_heldCellS.f, laws_heldCellS.l0, laws_heldIntS.f, laws_heldIntS.l0, rd, wrap64]
      · simp [laws_eqCow.f, laws_eqCellS.f, laws_eqCellS.l0, laws_eqIntS.f, laws_eqIntS.l0, rd, wrap64]
    · have e : decide (a ≤ 3) = false := by simpa using h3
      exact ⟨[], 0, false, [], 1, by simp [h0, e], by simp [h0, e], rfl, rfl, rfl, by simp, by omega⟩
  · exact ⟨[], 0, false, [], 1, by simp [h0], by simp [h0], rfl, rfl, rfl, by simp, by omega⟩
set_option maxHeartbeats 4000000 in
set_option maxRecDepth 100000 in
theorem law_calls (a : Int) (w : World) : Calls Try.prog 3 #[.int .i64 a] w fun e w' => e = .returned (.bool true) ∧ Below w.heap.size w w' := by
  have hu25 := Try.underlying25
  obtain ⟨R, lev, ok, R', m, h1, h2, h3, h4, h5, h6, h7⟩ := both a
  have H1 := Aside0.mk h1
  have H2 := Aside0.mk h2
  have H3 := Aside0.mk h3
  have H4 := Aside0.mk h4
  have H5 := Aside0.mk h5
  have hm : decide (m < 0) = false := by simpa using h7
  clear h1 h2 h3 h4 h5 h6 h7
  go_enter Try.func3, Try.ntmps3
  go_wp2_with (go_at_call 14; refine (spec_NewCow.calls a _ _ _ _ _ H1.out).mono ?_)
  rintro e w1 ⟨v0, v1, rfl, hs1, hr1, hb1⟩
  obtain ⟨A0, c0, rfl, hc0, hC0⟩ := Kd.S_reads hs1
  obtain ⟨A1, c1, rfl, hc1, hC1⟩ := Kd.R_reads hr1
  have B1 := Aside0.mk hb1
  have C0 := Aside0.mk hC0
  have C1 := Aside0.mk hC1
  clear hs1 hr1 hb1 hC0 hC1
  go_wp2_with (go_at_call 15; refine (impl_NewCow.calls a _ _ _ _ _ H2.out).mono ?_)
  rintro e w2 ⟨g0, g1, rfl, hs2, hr2, hb2⟩
  obtain ⟨E0, f0, rfl, hf0, hE0⟩ := Kd.S_reads hs2
  obtain ⟨E1, f1, rfl, hf1, hE1⟩ := Kd.R_reads hr2
  have wl := Aside0.mk (below_alloc (Below.refl w1.heap.size w1) (.cells #[.slice A0 0 c0, .slice A1 R.length c1, .int .i64 lev] 25))
  have X := Aside0.mk (heap_alloc_new w1 (.cells #[.slice A0 0 c0, .slice A1 R.length c1, .int .i64 lev] 25))
  obtain ⟨W1, hW1⟩ : ∃ W, w1.alloc (.cells #[.slice A0 0 c0, .slice A1 R.length c1, .int .i64 lev] 25) = W := ⟨_, rfl⟩
  rw [hW1] at wl X hs2 hr2 hb2
  clear hW1
  have BW2 := Aside0.mk hb2
  have RR := Aside0.mk (Kd.R_tight rfl hr2)
  have hlt := Aside0.mk (Kd.R_lt hr2)
  have D0 := Aside0.mk hE0
  have D1 := Aside0.mk hE1
  clear hs2 hr2 hb2 hE0 hE1
  have al := Aside0.mk (below_alloc (Below.refl w2.heap.size w2) (.cells #[.slice E0 0 f0, .slice E1 R.length f1, .int .i64 lev] 25))
  have BV2 := Aside0.mk (BW2.out.trans (al.out.mono BW2.out.size))
  have X2 := Aside0.mk (blk_below X.out BV2.out)
  have BU2 := Aside0.mk (wl.out.trans (BV2.out.mono wl.out.size))
  have d0 : (w2.alloc (.cells #[.slice E0 0 f0, .slice E1 R.length f1, .int .i64 lev] 25)).cell? ⟨w1.heap.size, 0, none⟩ = some (.slice A0 0 c0) := (blk_cell X2.out _).trans rfl
  have d1 : (w2.alloc (.cells #[.slice E0 0 f0, .slice E1 R.length f1, .int .i64 lev] 25)).cell? ⟨w1.heap.size, 1, none⟩ = some (.slice A1 R.length c1) := (blk_cell X2.out _).trans rfl
  have d2 : (w2.alloc (.cells #[.slice E0 0 f0, .slice E1 R.length f1, .int .i64 lev] 25)).cell? ⟨w1.heap.size, 2, none⟩ = some (.int .i64 lev) := (blk_cell X2.out _).trans rfl
  go_wp2_with (go_at_call 16; refine (laws_eqCow.calls 5 _ _ [] _ _ R lev _ _ [] _ _ R lev true _ (Kd.C_below D0.out al.out) hf0 (Kd.C_below D1.out al.out) hf1 (Kd.C_below C0.out BU2.out) hc0 (Kd.C_below C1.out BU2.out) hc1 H5.out).mono ?_)
  rintro e w3 ⟨rfl, hb3⟩
  have BW3 := Aside0.mk (BV2.out.trans (hb3.mono BV2.out.size))
  have Bv3 := Aside0.mk (al.out.trans (hb3.mono al.out.size))
  have Y3 := Aside0.mk (blk_below (heap_alloc_new w2 (.cells #[.slice E0 0 f0, .slice E1 R.length f1, .int .i64 lev] 25)) hb3)
  have RR3 := Aside0.mk (Kd.R_below RR.out Bv3.out)
  have D03 := Aside0.mk (Kd.C_below D0.out Bv3.out)
  clear hb3 d0 d1 d2
  have d0 : w3.cell? ⟨w2.heap.size, 0, none⟩ = some (.slice E0 0 f0) := (blk_cell Y3.out _).trans rfl
  have d1 : w3.cell? ⟨w2.heap.size, 1, none⟩ = some (.slice E1 R.length f1) := (blk_cell Y3.out _).trans rfl
  have d2 : w3.cell? ⟨w2.heap.size, 2, none⟩ = some (.int .i64 lev) := (blk_cell Y3.out _).trans rfl
  go_wp2_with (go_at_call 17; refine (markCow0 5 _ E0 f0 (.slice E1 R.length f1) R R' lev 1 m W1 _ BW3.out RR3.out H3.out).mono ?_)
  rintro e w4 ⟨rfl, hr4, hb4, hk4⟩
  have BW4 := Aside0.mk hb4
  have BU4 := Aside0.mk (wl.out.trans (hb4.mono wl.out.size))
  have RR4 := Aside0.mk hr4
  have Y4 := Aside0.mk (blk_kept Y3.out hk4 (fun h => by have := hlt.out _ h.symm; omega))
  have X4 := Aside0.mk (blk_below X.out hb4)
  obtain ⟨hn, _, hcR⟩ := Kd.R_reads' hr4
  have D14 := Aside0.mk hcR
  clear hr4 hb4 hk4 hcR d0 d1 d2
  have d0 : w4.cell? ⟨w2.heap.size, 0, none⟩ = some (.slice E0 0 f0) := (blk_cell Y4.out _).trans rfl
  have d1 : w4.cell? ⟨w2.heap.size, 1, none⟩ = some (.slice E1 R.length f1) := (blk_cell Y4.out _).trans rfl
  have d2 : w4.cell? ⟨w2.heap.size, 2, none⟩ = some (.int .i64 lev) := (blk_cell Y4.out _).trans rfl
  have E0n : ∀ W : World, k68.C W E0 0 [] := fun W => ⟨rfl, by simp, fun h => absurd h (Nat.lt_irrefl 0)⟩
  have G1 := Aside0.mk (held0 E0 E1 f0 f1 R.length R' lev m w4 (by omega) hn hf1 (by rw [hn]; exact D14.out) (E0n _) H4.out)
  clear hn
  go_wp2_with (go_at_call 18; refine G1.out.mono ?_)
  rintro e w5 ⟨rfl, hb5⟩
  have BW5 := Aside0.mk (BW4.out.trans (hb5.mono BW4.out.size))
  have X5 := Aside0.mk (blk_below X4.out hb5)
  have Y5 := Aside0.mk (blk_below Y4.out hb5)
  have RR5 := Aside0.mk (Kd.R_below RR4.out hb5)
  clear hb5 d0 d1 d2 G1
  go_wp2_with (go_at_call 15; refine (impl_NewCow.calls a _ _ _ _ _ H2.out).mono ?_)
  rintro e w6 ⟨g0, g1, rfl, hs6, hr6, hb6⟩
  obtain ⟨F0, e0, rfl, he0, hF0⟩ := Kd.S_reads hs6
  obtain ⟨F1, e1, rfl, he1, hF1⟩ := Kd.R_reads hr6
  have BW6 := Aside0.mk (BW5.out.trans (hb6.mono BW5.out.size))
  have al6 := Aside0.mk (below_alloc (Below.refl w6.heap.size w6) (.cells #[.slice F0 0 e0, .slice F1 R.length e1, .int .i64 lev] 25))
  have BW7 := Aside0.mk (BW6.out.trans (al6.out.mono BW6.out.size))
  have BU7 := Aside0.mk (wl.out.trans (BW7.out.mono wl.out.size))
  have X7 := Aside0.mk (blk_below (blk_below X5.out hb6) al6.out)
  have Y7 := Aside0.mk (blk_below (blk_below Y5.out hb6) al6.out)
  have RR7 := Aside0.mk (Kd.R_below (Kd.R_below RR5.out hb6) al6.out)
  have P0 := Aside0.mk (Kd.C_below hF0 al6.out)
  have P1 := Aside0.mk (Kd.C_below hF1 al6.out)
  clear hs6 hr6 hb6 hF0 hF1
  have d0 : (w6.alloc (.cells #[.slice F0 0 e0, .slice F1 R.length e1, .int .i64 lev] 25)).cell? ⟨w1.heap.size, 0, none⟩ = some (.slice A0 0 c0) := (blk_cell X7.out _).trans rfl
  have d1 : (w6.alloc (.cells #[.slice F0 0 e0, .slice F1 R.length e1, .int .i64 lev] 25)).cell? ⟨w1.heap.size, 1, none⟩ = some (.slice A1 R.length c1) := (blk_cell X7.out _).trans rfl
  have d2 : (w6.alloc (.cells #[.slice F0 0 e0, .slice F1 R.length e1, .int .i64 lev] 25)).cell? ⟨w1.heap.size, 2, none⟩ = some (.int .i64 lev) := (blk_cell X7.out _).trans rfl
  go_wp2_with (go_at_call 16; refine (laws_eqCow.calls 5 _ _ [] _ _ R lev _ _ [] _ _ R lev true _ P0.out he0 P1.out he1 (Kd.C_below C0.out BU7.out) hc0 (Kd.C_below C1.out BU7.out) hc1 H5.out).mono ?_)
  rintro e w8 ⟨rfl, hb8⟩
  have BW8 := Aside0.mk (BW7.out.trans (hb8.mono BW7.out.size))
  have Y8 := Aside0.mk (blk_below Y7.out hb8)
  have RR8 := Aside0.mk (Kd.R_below RR7.out hb8)
  obtain ⟨hn, _, hcR⟩ := Kd.R_reads' RR8.out
  have G2 := Aside0.mk (held0 E0 E1 f0 f1 R.length R' lev m w8 (by omega) hn hf1 (by rw [hn]; exact hcR) (E0n _) H4.out)
  clear hb8 hn hcR d0 d1 d2
  have d0 : w8.cell? ⟨w2.heap.size, 0, none⟩ = some (.slice E0 0 f0) := (blk_cell Y8.out _).trans rfl
  have d1 : w8.cell? ⟨w2.heap.size, 1, none⟩ = some (.slice E1 R.length f1) := (blk_cell Y8.out _).trans rfl
  have d2 : w8.cell? ⟨w2.heap.size, 2, none⟩ = some (.int .i64 lev) := (blk_cell Y8.out _).trans rfl
  go_wp2_with (go_at_call 18; refine G2.out.mono ?_)
  rintro e w9 ⟨rfl, hb9⟩
  go_wp2
  go_ret
  have BW9 := BW8.out.trans (hb9.mono BW8.out.size)
  have BU9 := wl.out.trans (BW9.mono wl.out.size)
  exact ⟨rfl, B1.out.trans (BU9.mono B1.out.size)⟩
end Go.Proofs.Ytedknfckgnnhaaa.PFnExactNewCow
