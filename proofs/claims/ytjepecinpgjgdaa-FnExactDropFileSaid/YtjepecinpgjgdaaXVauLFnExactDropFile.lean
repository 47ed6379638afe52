-- told by a program of mine (wip/lawwalk.py)
import Derived.Test.YtjepecinpgjgdaaXVauLawKit
import Derived.Test.YtjepecinpgjgdaaYVaulawsA
import Derived.Test.YtjepecinpgjgdaaYVaulawsE
import Derived.Test.YtjepecinpgjgdaaXVauDropS
/-! FnExactDropFile: the law, walked. -/
namespace Go.Proofs.Ytjepecinpgjgdaa.PVau
open Go.RowKit Go.Proofs.YtjepecinpgjgdaaW.PrintWords Go.Proofs.YtjepecinpgjgdaaW.PrintLast Go.Proofs.YtjepecinpgjgdaaW.PrintMore Go.Proofs.Ytjepecinpgjgdaa.E
set_option linter.unusedSimpArgs false
set_option linter.unusedVariables false
def laws_FnExactDropFile.ok (k : Nat) (l0_0 : List S108) (l0_1 : List S110) (a1 : Int) : Prop :=
  (∃ s, laws_szVault.f k l0_0 l0_1 1048576 = some s ∧ s < 0) ∨
  ∃ s C R C1 R1 wb k1 C2 R2 m C3 R3, laws_szVault.f k l0_0 l0_1 1048576 = some s ∧ ¬ s < 0 ∧ laws_toVault.f k l0_0 l0_1 = some (C, R) ∧ spec_DropFile.f k C R a1 = some (C1, R1, wb) ∧ impl_DropFile.f k C R a1 = some (C1, R1, wb) ∧ laws_eqVault.f k C1 R1 C1 R1 = some true ∧
    laws_eqVault.f k C R C R = some true ∧ laws_markVault.f k C R 1 = some (k1, C2, R2) ∧ ¬ k1 < 0 ∧ laws_markVault.f k C1 R1 1 = some (m, C3, R3) ∧ laws_heldVault.f k C3 R3 1 = some m ∧ ¬ m < 0
set_option maxHeartbeats 16000000 in
set_option maxRecDepth 100000 in
theorem laws_FnExactDropFile.calls (k : Nat) (A0_0 : Option Addr) (c0_0 : Nat) (l0_0 : List (S108)) (A0_1 : Option Addr) (c0_1 : Nat) (l0_1 : List (S110)) (a1 : Int) (_r : Bool) (w : World) (hr0_0 : Kd.C k108 w A0_0 l0_0.length l0_0) (hc0_0 : l0_0.length ≤ c0_0) (hr0_1 : Kd.C k110 w A0_1 l0_1.length l0_1) (hc0_1 : l0_1.length ≤ c0_1) (h : laws_FnExactDropFile.ok k l0_0 l0_1 a1) :
    Calls Try.prog 10 #[.agg #[.slice A0_0 l0_0.length c0_0, .slice A0_1 l0_1.length c0_1], .int .i64 a1] w fun e w' => e = .returned (.bool true) ∧ Below w.heap.size w w' := by
  have hu33 := Try.underlying45
  have hu25 := Try.underlying51
  have HR0 := Aside0.mk hr0_0
  have HR1 := Aside0.mk hr0_1
  have HC0 := Aside0.mk hc0_0
  have HC1 := Aside0.mk hc0_1
  clear hr0_0 hr0_1 hc0_0 hc0_1
  rcases h with ⟨s, h1, h2⟩ | ⟨s, C, R, C1, R1, wb, k1, C2, R2, m, C3, R3, h1, h2, h3, h4, h5, h6, h7, h8, h9, h10, h11, h12⟩
  · have H1 := Aside0.mk h1
    have c1 : decide (s < 0) = true := decide_eq_true h2
    have c2 : (s < 0) = True := eq_true h2
    clear h1 h2
    have B := Aside0.mk (Below.refl w.heap.size w)
    obtain ⟨V1, hV1⟩ : ∃ W, w.alloc (.cells #[.slice A0_0 l0_0.length c0_0, .slice A0_1 l0_1.length c0_1] 45 (0, 0)) = W := ⟨_, rfl⟩
    have hb : Below w.heap.size w V1 := by rw [← hV1]; exact below_alloc (Below.refl _ _) _
    have LE1 := Aside0.mk (show V1.heap.size = w.heap.size + 1 by rw [← hV1]; simp)
    replace B := Aside0.mk (below_step B.out hb)
    have X0 := Aside0.mk (show V1.heap[w.heap.size]? = some (.cells #[.slice A0_0 l0_0.length c0_0, .slice A0_1 l0_1.length c0_1] 45 (0, 0)) by rw [← hV1]; exact heap_alloc_new w _)
    clear hb
    go_enter Try.func10, Try.ntmps10
    have dX0_0 : V1.cell? ⟨w.heap.size, 0, none⟩ = some (.slice A0_0 l0_0.length c0_0) := (blk_cell X0.out 0).trans rfl
    have dX0_1 : V1.cell? ⟨w.heap.size, 1, none⟩ = some (.slice A0_1 l0_1.length c0_1) := (blk_cell X0.out 1).trans rfl
    have TT := Aside0.mk (laws_szVault.calls k A0_0 c0_0 l0_0 A0_1 c0_1 l0_1 1048576 s V1 (Kd.C_below HR0.out B.out) HC0.out (Kd.C_below HR1.out B.out) HC1.out H1.out)
    go_wp2_with (go_at_call 33; refine TT.out.mono ?_)
    (first | rintro e w2 rfl hb | rintro e w2 ⟨rfl, hb⟩)
    clear TT
    clear dX0_0 dX0_1
    clear hV1
    replace B := Aside0.mk (below_step B.out hb)
    replace X0 := Aside0.mk (blk_below X0.out hb)
    go_wp2
    go_ret
    exact ⟨rfl, B.out⟩
  · have c1 : decide (s < 0) = false := decide_eq_false h2
    have c2 : (s < 0) = False := eq_false h2
    have c3 : decide (k1 < 0) = false := decide_eq_false h9
    have c4 : (k1 < 0) = False := eq_false h9
    have c5 : decide (m < 0) = false := decide_eq_false h12
    have c6 : (m < 0) = False := eq_false h12
    have H1 := Aside0.mk h1
    have H3 := Aside0.mk h3
    have H4 := Aside0.mk h4
    have H5 := Aside0.mk h5
    have H6 := Aside0.mk h6
    have H7 := Aside0.mk h7
    have H8 := Aside0.mk h8
    have H10 := Aside0.mk h10
    have H11 := Aside0.mk h11
    clear h1 h2 h3 h4 h5 h6 h7 h8 h9 h10 h11 h12
    have B := Aside0.mk (Below.refl w.heap.size w)
    obtain ⟨V1, hV1⟩ : ∃ W, w.alloc (.cells #[.slice A0_0 l0_0.length c0_0, .slice A0_1 l0_1.length c0_1] 45 (0, 0)) = W := ⟨_, rfl⟩
    have hb : Below w.heap.size w V1 := by rw [← hV1]; exact below_alloc (Below.refl _ _) _
    have LE1 := Aside0.mk (show V1.heap.size = w.heap.size + 1 by rw [← hV1]; simp)
    replace B := Aside0.mk (below_step B.out hb)
    have X0 := Aside0.mk (show V1.heap[w.heap.size]? = some (.cells #[.slice A0_0 l0_0.length c0_0, .slice A0_1 l0_1.length c0_1] 45 (0, 0)) by rw [← hV1]; exact heap_alloc_new w _)
    clear hb
    go_enter Try.func10, Try.ntmps10
    have dX0_0 : V1.cell? ⟨w.heap.size, 0, none⟩ = some (.slice A0_0 l0_0.length c0_0) := (blk_cell X0.out 0).trans rfl
    have dX0_1 : V1.cell? ⟨w.heap.size, 1, none⟩ = some (.slice A0_1 l0_1.length c0_1) := (blk_cell X0.out 1).trans rfl
    have TT := Aside0.mk (laws_szVault.calls k A0_0 c0_0 l0_0 A0_1 c0_1 l0_1 1048576 s V1 (Kd.C_below HR0.out B.out) HC0.out (Kd.C_below HR1.out B.out) HC1.out H1.out)
    go_wp2_with (go_at_call 33; refine TT.out.mono ?_)
    (first | rintro e w2 rfl hb | rintro e w2 ⟨rfl, hb⟩)
    clear TT
    clear dX0_0 dX0_1
    clear hV1
    have LS1 := Aside0.mk (show V1.heap.size ≤ w2.heap.size from hb.size)
    replace B := Aside0.mk (below_step B.out hb)
    replace X0 := Aside0.mk (blk_below X0.out hb)
    clear hb
    have dX0_0 : w2.cell? ⟨w.heap.size, 0, none⟩ = some (.slice A0_0 l0_0.length c0_0) := (blk_cell X0.out 0).trans rfl
    have dX0_1 : w2.cell? ⟨w.heap.size, 1, none⟩ = some (.slice A0_1 l0_1.length c0_1) := (blk_cell X0.out 1).trans rfl
    have TT := Aside0.mk (laws_toVault.calls k A0_0 c0_0 l0_0 A0_1 c0_1 l0_1 C R w2 (Kd.C_below HR0.out B.out) HC0.out (Kd.C_below HR1.out B.out) HC1.out H3.out)
    go_wp2_with (go_at_call 35; refine TT.out.mono ?_)
    (first | rintro e w3 t0 t1 rfl hr hs hb | rintro e w3 ⟨t0, t1, rfl, hr, hs, hb⟩)
    clear TT
    clear dX0_0 dX0_1
    have LS2 := Aside0.mk (show w2.heap.size ≤ w3.heap.size from hb.size)
    replace B := Aside0.mk (below_step B.out hb)
    replace X0 := Aside0.mk (blk_below X0.out hb)
    obtain ⟨tA0, tc0, rfl⟩ := Kd.R_slice hr
    obtain ⟨tA1, tc1, rfl⟩ := Kd.S_slice hs
    have tS := Aside0.mk (Kd.S_apart' (S_iv hs) (Kd.R_typed hr) (by decide))
    have tR := Aside0.mk (R_iv hr)
    clear hs hr hb
    have TT := Aside0.mk (spec_DropFile.calls k _ _ C _ _ R a1 C1 R1 wb w3 (Kd.R_reads' tR.out).2.2 (Kd.R_reads' tR.out).2.1 (Kd.S_reads' tS.out).2.2 (Kd.S_reads' tS.out).2.1 H4.out)
    go_wp2_with (go_at_call 42; refine TT.out.mono ?_)
    (first | rintro e w4 u0 u1 rfl hr hs hb | rintro e w4 ⟨u0, u1, rfl, hr, hs, hb⟩)
    clear TT
    have LS3 := Aside0.mk (show w3.heap.size ≤ w4.heap.size from hb.size)
    replace B := Aside0.mk (below_step B.out hb)
    replace X0 := Aside0.mk (blk_below X0.out hb)
    replace tS := Aside0.mk (Kd.S_below tS.out hb)
    replace tR := Aside0.mk (Kd.R_below tR.out hb)
    obtain ⟨uA0, uc0, rfl⟩ := Kd.R_slice hr
    obtain ⟨uA1, uc1, rfl⟩ := Kd.S_slice hs
    have uS := Aside0.mk (Kd.S_apart' (S_iv hs) (Kd.R_typed hr) (by decide))
    have uR := Aside0.mk (R_iv hr)
    clear hb hr hs
    clear tS
    clear tR
    obtain ⟨V2, hV2⟩ : ∃ W, w4.alloc (.cells #[.slice uA0 C1.length uc0, .slice uA1 R1.length uc1] 51 (0, 0)) = W := ⟨_, rfl⟩
    have hb : Below w4.heap.size w4 V2 := by rw [← hV2]; exact below_alloc (Below.refl _ _) _
    have LE2 := Aside0.mk (show V2.heap.size = w4.heap.size + 1 by rw [← hV2]; simp)
    replace B := Aside0.mk (below_step B.out hb)
    replace X0 := Aside0.mk (blk_below X0.out hb)
    replace uS := Aside0.mk (Kd.S_below uS.out hb)
    replace uR := Aside0.mk (Kd.R_below uR.out hb)
    have XW := Aside0.mk (show V2.heap[w4.heap.size]? = some (.cells #[.slice uA0 C1.length uc0, .slice uA1 R1.length uc1] 51 (0, 0)) by rw [← hV2]; exact heap_alloc_new w4 _)
    clear hb
    have dX0_0 : V2.cell? ⟨w.heap.size, 0, none⟩ = some (.slice A0_0 l0_0.length c0_0) := (blk_cell X0.out 0).trans rfl
    have dX0_1 : V2.cell? ⟨w.heap.size, 1, none⟩ = some (.slice A0_1 l0_1.length c0_1) := (blk_cell X0.out 1).trans rfl
    have TT := Aside0.mk (laws_toVault.calls k A0_0 c0_0 l0_0 A0_1 c0_1 l0_1 C R V2 (Kd.C_below HR0.out B.out) HC0.out (Kd.C_below HR1.out B.out) HC1.out H3.out)
    go_wp2_with (go_at_call 35; refine TT.out.mono ?_)
    (first | rintro e w5 x0 x1 rfl hr hs hb | rintro e w5 ⟨x0, x1, rfl, hr, hs, hb⟩)
    clear TT
    clear dX0_0 dX0_1
    have LS4 := Aside0.mk (show V2.heap.size ≤ w5.heap.size from hb.size)
    replace B := Aside0.mk (below_step B.out hb)
    replace X0 := Aside0.mk (blk_below X0.out hb)
    replace uS := Aside0.mk (Kd.S_below uS.out hb)
    replace uR := Aside0.mk (Kd.R_below uR.out hb)
    replace XW := Aside0.mk (blk_below XW.out hb)
    obtain ⟨xA0, xc0, rfl⟩ := Kd.R_slice hr
    obtain ⟨xA1, xc1, rfl⟩ := Kd.S_slice hs
    clear hV2
    have xS := Aside0.mk (Kd.S_apart' (S_iv hs) (Kd.R_typed hr) (by decide))
    have xR := Aside0.mk (R_iv hr)
    clear hs hr hb
    obtain ⟨V3, hV3⟩ : ∃ W, w5.alloc (.cells #[.slice xA0 C.length xc0, .slice xA1 R.length xc1] 51 (0, 0)) = W := ⟨_, rfl⟩
    have hb : Below w5.heap.size w5 V3 := by rw [← hV3]; exact below_alloc (Below.refl _ _) _
    have LE3 := Aside0.mk (show V3.heap.size = w5.heap.size + 1 by rw [← hV3]; simp)
    replace B := Aside0.mk (below_step B.out hb)
    replace X0 := Aside0.mk (blk_below X0.out hb)
    replace uS := Aside0.mk (Kd.S_below uS.out hb)
    replace uR := Aside0.mk (Kd.R_below uR.out hb)
    replace XW := Aside0.mk (blk_below XW.out hb)
    replace xS := Aside0.mk (Kd.S_below xS.out hb)
    replace xR := Aside0.mk (Kd.R_below xR.out hb)
    have X1 := Aside0.mk (show V3.heap[w5.heap.size]? = some (.cells #[.slice xA0 C.length xc0, .slice xA1 R.length xc1] 51 (0, 0)) by rw [← hV3]; exact heap_alloc_new w5 _)
    clear hb
    have dX0_0 : V3.cell? ⟨w.heap.size, 0, none⟩ = some (.slice A0_0 l0_0.length c0_0) := (blk_cell X0.out 0).trans rfl
    have dX0_1 : V3.cell? ⟨w.heap.size, 1, none⟩ = some (.slice A0_1 l0_1.length c0_1) := (blk_cell X0.out 1).trans rfl
    have dXW_0 : V3.cell? ⟨w4.heap.size, 0, none⟩ = some (.slice uA0 C1.length uc0) := (blk_cell XW.out 0).trans rfl
    have dXW_1 : V3.cell? ⟨w4.heap.size, 1, none⟩ = some (.slice uA1 R1.length uc1) := (blk_cell XW.out 1).trans rfl
    have dX1_0 : V3.cell? ⟨w5.heap.size, 0, none⟩ = some (.slice xA0 C.length xc0) := (blk_cell X1.out 0).trans rfl
    have dX1_1 : V3.cell? ⟨w5.heap.size, 1, none⟩ = some (.slice xA1 R.length xc1) := (blk_cell X1.out 1).trans rfl
    have TT := Aside0.mk (impl_DropFile.calls k _ _ C _ _ R a1 C1 R1 wb V3 (Kd.R_reads' xR.out).2.2 (Kd.R_reads' xR.out).2.1 (Kd.S_reads' xS.out).2.2 (Kd.S_reads' xS.out).2.1 H5.out)
    go_wp2_with (go_at_call 43; refine TT.out.mono ?_)
    (first | rintro e w6 g0 g1 rfl hr hs hb | rintro e w6 ⟨g0, g1, rfl, hr, hs, hb⟩)
    clear TT
    clear dX0_0 dX0_1 dXW_0 dXW_1 dX1_0 dX1_1
    have LS5 := Aside0.mk (show V3.heap.size ≤ w6.heap.size from hb.size)
    replace B := Aside0.mk (below_step B.out hb)
    replace X0 := Aside0.mk (blk_below X0.out hb)
    replace uS := Aside0.mk (Kd.S_below uS.out hb)
    replace uR := Aside0.mk (Kd.R_below uR.out hb)
    replace XW := Aside0.mk (blk_below XW.out hb)
    replace xS := Aside0.mk (Kd.S_below xS.out hb)
    replace xR := Aside0.mk (Kd.R_below xR.out hb)
    replace X1 := Aside0.mk (blk_below X1.out hb)
    obtain ⟨gA0, gc0, rfl⟩ := Kd.R_slice hr
    obtain ⟨gA1, gc1, rfl⟩ := Kd.S_slice hs
    have gS := Aside0.mk (Kd.S_apart' (S_iv hs) (Kd.R_typed hr) (by decide))
    have gR := Aside0.mk (R_iv hr)
    clear hb hr hs
    clear hV3
    obtain ⟨V4, hV4⟩ : ∃ W, w6.alloc (.cells #[.slice gA0 C1.length gc0, .slice gA1 R1.length gc1] 51 (0, 0)) = W := ⟨_, rfl⟩
    have hb : Below w6.heap.size w6 V4 := by rw [← hV4]; exact below_alloc (Below.refl _ _) _
    have LE4 := Aside0.mk (show V4.heap.size = w6.heap.size + 1 by rw [← hV4]; simp)
    replace B := Aside0.mk (below_step B.out hb)
    replace X0 := Aside0.mk (blk_below X0.out hb)
    replace uS := Aside0.mk (Kd.S_below uS.out hb)
    replace uR := Aside0.mk (Kd.R_below uR.out hb)
    replace XW := Aside0.mk (blk_below XW.out hb)
    replace xS := Aside0.mk (Kd.S_below xS.out hb)
    replace xR := Aside0.mk (Kd.R_below xR.out hb)
    replace X1 := Aside0.mk (blk_below X1.out hb)
    replace gS := Aside0.mk (Kd.S_below gS.out hb)
    replace gR := Aside0.mk (Kd.R_below gR.out hb)
    have XG := Aside0.mk (show V4.heap[w6.heap.size]? = some (.cells #[.slice gA0 C1.length gc0, .slice gA1 R1.length gc1] 51 (0, 0)) by rw [← hV4]; exact heap_alloc_new w6 _)
    clear hb
    have dXW_0 : V4.cell? ⟨w4.heap.size, 0, none⟩ = some (.slice uA0 C1.length uc0) := (blk_cell XW.out 0).trans rfl
    have dXW_1 : V4.cell? ⟨w4.heap.size, 1, none⟩ = some (.slice uA1 R1.length uc1) := (blk_cell XW.out 1).trans rfl
    have dXG_0 : V4.cell? ⟨w6.heap.size, 0, none⟩ = some (.slice gA0 C1.length gc0) := (blk_cell XG.out 0).trans rfl
    have dXG_1 : V4.cell? ⟨w6.heap.size, 1, none⟩ = some (.slice gA1 R1.length gc1) := (blk_cell XG.out 1).trans rfl
    have TT := Aside0.mk (laws_eqVault.calls k _ _ C1 _ _ R1 _ _ C1 _ _ R1 true V4 (Kd.R_reads' gR.out).2.2 (Kd.R_reads' gR.out).2.1 (Kd.S_reads' gS.out).2.2 (Kd.S_reads' gS.out).2.1 (Kd.R_reads' uR.out).2.2 (Kd.R_reads' uR.out).2.1 (Kd.S_reads' uS.out).2.2 (Kd.S_reads' uS.out).2.1 H6.out)
    go_wp2_with (go_at_call 37; refine TT.out.mono ?_)
    (first | rintro e w7 rfl hb | rintro e w7 ⟨rfl, hb⟩)
    clear TT
    clear dXW_0 dXW_1 dXG_0 dXG_1
    clear hV4
    have LS6 := Aside0.mk (show V4.heap.size ≤ w7.heap.size from hb.size)
    replace B := Aside0.mk (below_step B.out hb)
    replace X0 := Aside0.mk (blk_below X0.out hb)
    replace uS := Aside0.mk (Kd.S_below uS.out hb)
    replace uR := Aside0.mk (Kd.R_below uR.out hb)
    replace XW := Aside0.mk (blk_below XW.out hb)
    replace xS := Aside0.mk (Kd.S_below xS.out hb)
    replace xR := Aside0.mk (Kd.R_below xR.out hb)
    replace X1 := Aside0.mk (blk_below X1.out hb)
    replace gS := Aside0.mk (Kd.S_below gS.out hb)
    replace gR := Aside0.mk (Kd.R_below gR.out hb)
    replace XG := Aside0.mk (blk_below XG.out hb)
    clear hb
    have dX0_0 : w7.cell? ⟨w.heap.size, 0, none⟩ = some (.slice A0_0 l0_0.length c0_0) := (blk_cell X0.out 0).trans rfl
    have dX0_1 : w7.cell? ⟨w.heap.size, 1, none⟩ = some (.slice A0_1 l0_1.length c0_1) := (blk_cell X0.out 1).trans rfl
    have dXW_0 : w7.cell? ⟨w4.heap.size, 0, none⟩ = some (.slice uA0 C1.length uc0) := (blk_cell XW.out 0).trans rfl
    have dXW_1 : w7.cell? ⟨w4.heap.size, 1, none⟩ = some (.slice uA1 R1.length uc1) := (blk_cell XW.out 1).trans rfl
    have dX1_0 : w7.cell? ⟨w5.heap.size, 0, none⟩ = some (.slice xA0 C.length xc0) := (blk_cell X1.out 0).trans rfl
    have dX1_1 : w7.cell? ⟨w5.heap.size, 1, none⟩ = some (.slice xA1 R.length xc1) := (blk_cell X1.out 1).trans rfl
    have dXG_0 : w7.cell? ⟨w6.heap.size, 0, none⟩ = some (.slice gA0 C1.length gc0) := (blk_cell XG.out 0).trans rfl
    have dXG_1 : w7.cell? ⟨w6.heap.size, 1, none⟩ = some (.slice gA1 R1.length gc1) := (blk_cell XG.out 1).trans rfl
    go_wp2
    clear dX0_0 dX0_1 dXW_0 dXW_1 dX1_0 dX1_1 dXG_0 dXG_1
    replace B := Aside0.mk (below_drew1 B.out)
    replace X0 := Aside0.mk (blk_drew X0.out)
    replace uS := Aside0.mk (Kd.S_drew uS.out)
    replace uR := Aside0.mk (Kd.R_drew uR.out)
    replace XW := Aside0.mk (blk_drew XW.out)
    replace xS := Aside0.mk (Kd.S_drew xS.out)
    replace xR := Aside0.mk (Kd.R_drew xR.out)
    replace X1 := Aside0.mk (blk_drew X1.out)
    replace gS := Aside0.mk (Kd.S_drew gS.out)
    replace gR := Aside0.mk (Kd.R_drew gR.out)
    replace XG := Aside0.mk (blk_drew XG.out)
    refine start_ (n := 5) (S := fun w' => w'.cell? ⟨w5.heap.size, 0, none⟩ = some (.slice xA0 C.length xc0) ∧ w'.cell? ⟨w5.heap.size, 1, none⟩ = some (.slice xA1 R.length xc1) ∧ w'.cell? ⟨w.heap.size, 0, none⟩ = some (.slice A0_0 l0_0.length c0_0) ∧ w'.cell? ⟨w.heap.size, 1, none⟩ = some (.slice A0_1 l0_1.length c0_1)) (ds := []) #[false, false, false, false, false] (by kernel_rfl) rfl rfl ⟨(blk_cell X1.out 0).trans rfl, (blk_cell X1.out 1).trans rfl, (blk_cell X0.out 0).trans rfl, (blk_cell X0.out 1).trans rfl⟩ (fun hHeld => ?_)
    have LD := Aside0.mk (show w7.drew.heap.size = w7.heap.size from rfl)
    generalize w7.drew = w8 at B X0 uS uR XW xS xR X1 gS gR XG LD hHeld ⊢
    refine take_ (i := 0) (N := some 45) (v := ?_) (a' := ?_) #[true, false, false, false, false] rfl rfl (by kernel_rfl) (fun _ _ _ h => h) (Or.inl ⟨by rfl, ?_⟩) hHeld ?_ ?_
    rotate_left
    · rintro w' ⟨s0, s1, s2, s3⟩
      go_simp
      with_reducible rfl
    rotate_left
    · simp only [Act.put, List.setIfInBounds_toArray, List.set_cons_zero, List.set_cons_succ, i64_w, i32_w]
      rfl
    refine take_ (i := 1) (N := some 46) (v := ?_) (a' := ?_) #[true, true, false, false, false] rfl rfl (by kernel_rfl) (fun _ _ _ h => h) (Or.inl ⟨by rfl, ?_⟩) hHeld ?_ ?_
    rotate_left
    · rintro w' ⟨s0, s1, s2, s3⟩
      go_simp
      with_reducible rfl
    rotate_left
    · simp only [Act.put, List.setIfInBounds_toArray, List.set_cons_zero, List.set_cons_succ, i64_w, i32_w]
      rfl
    refine one_ (i := 2) (N := some 47) #[true, true, true, false, false] rfl rfl (by kernel_rfl) (by decide) (fun K hK => ?_)
    refine goes_ Try.func35 (by kernel_rfl) rfl #[.agg #[.slice A0_0 l0_0.length c0_0, .slice A0_1 l0_1.length c0_1]] (by rfl) rfl rfl (by (try simp only [List.map_toArray, List.map_cons, List.map_nil]); first | done | rfl | (simp only [List.length_drop, List.length_take]; rfl)) ?_
    with_reducible refine (laws_toVault.calls k A0_0 c0_0 l0_0 A0_1 c0_1 l0_1 C R w8 (Kd.C_below HR0.out B.out) HC0.out (Kd.C_below HR1.out B.out) HC1.out H3.out).mono ?_
    rintro e w9 ⟨y0, y1, rfl, hr, hs, hb⟩
    refine ⟨_, rfl, ?_⟩
    have LS7 := Aside0.mk (show w8.heap.size ≤ w9.heap.size from hb.size)
    replace B := Aside0.mk (below_step B.out hb)
    replace X0 := Aside0.mk (blk_below X0.out hb)
    replace uS := Aside0.mk (Kd.S_below uS.out hb)
    replace uR := Aside0.mk (Kd.R_below uR.out hb)
    replace XW := Aside0.mk (blk_below XW.out hb)
    replace xS := Aside0.mk (Kd.S_below xS.out hb)
    replace xR := Aside0.mk (Kd.R_below xR.out hb)
    replace X1 := Aside0.mk (blk_below X1.out hb)
    replace gS := Aside0.mk (Kd.S_below gS.out hb)
    replace gR := Aside0.mk (Kd.R_below gR.out hb)
    replace XG := Aside0.mk (blk_below XG.out hb)
    obtain ⟨yA0, yc0, rfl⟩ := Kd.R_slice hr
    obtain ⟨yA1, yc1, rfl⟩ := Kd.S_slice hs
    have yS := Aside0.mk (Kd.S_apart' (S_iv hs) (Kd.R_typed hr) (by decide))
    have yR := Aside0.mk (R_iv hr)
    clear hs hr hb
    refine hK.out _ _ ⟨(blk_cell X1.out 0).trans rfl, (blk_cell X1.out 1).trans rfl, (blk_cell X0.out 0).trans rfl, (blk_cell X0.out 1).trans rfl⟩ (fun hHeld => ?_)
    clear hK K
    refine norm_ (a' := ?_) ?_ ?_
    rotate_left
    · show Act.put _ (some 47) _ = _
      simp only [Act.put, List.setIfInBounds_toArray, List.set_cons_zero, List.set_cons_succ, i64_w, i32_w]
      rfl
    refine one_ (i := 3) (N := some 48) #[true, true, true, true, false] rfl rfl (by kernel_rfl) (by decide) (fun K hK => ?_)
    refine goes_ Try.func37 (by kernel_rfl) rfl #[.agg #[.slice xA0 C.length xc0, .slice xA1 R.length xc1], .agg #[.slice yA0 C.length yc0, .slice yA1 R.length yc1]] (by rfl) rfl rfl (by (try simp only [List.map_toArray, List.map_cons, List.map_nil]); first | done | rfl | (simp only [List.length_drop, List.length_take]; rfl)) ?_
    with_reducible refine (laws_eqVault.calls k _ _ C _ _ R _ _ C _ _ R true w9 (Kd.R_reads' xR.out).2.2 (Kd.R_reads' xR.out).2.1 (Kd.S_reads' xS.out).2.2 (Kd.S_reads' xS.out).2.1 (Kd.R_reads' yR.out).2.2 (Kd.R_reads' yR.out).2.1 (Kd.S_reads' yS.out).2.2 (Kd.S_reads' yS.out).2.1 H7.out).mono ?_
    rintro e w10 ⟨rfl, hb⟩
    refine ⟨_, rfl, ?_⟩
    clear yS
    clear yR
    have LS8 := Aside0.mk (show w9.heap.size ≤ w10.heap.size from hb.size)
    replace B := Aside0.mk (below_step B.out hb)
    replace X0 := Aside0.mk (blk_below X0.out hb)
    replace uS := Aside0.mk (Kd.S_below uS.out hb)
    replace uR := Aside0.mk (Kd.R_below uR.out hb)
    replace XW := Aside0.mk (blk_below XW.out hb)
    replace xS := Aside0.mk (Kd.S_below xS.out hb)
    replace xR := Aside0.mk (Kd.R_below xR.out hb)
    replace X1 := Aside0.mk (blk_below X1.out hb)
    replace gS := Aside0.mk (Kd.S_below gS.out hb)
    replace gR := Aside0.mk (Kd.R_below gR.out hb)
    replace XG := Aside0.mk (blk_below XG.out hb)
    clear hb
    refine hK.out _ _ ⟨(blk_cell X1.out 0).trans rfl, (blk_cell X1.out 1).trans rfl, (blk_cell X0.out 0).trans rfl, (blk_cell X0.out 1).trans rfl⟩ (fun hHeld => ?_)
    clear hK K
    refine norm_ (a' := ?_) ?_ ?_
    rotate_left
    · show Act.put _ (some 48) _ = _
      simp only [Act.put, List.setIfInBounds_toArray, List.set_cons_zero, List.set_cons_succ, i64_w, i32_w]
      rfl
    refine pure_ (i := 4) (N := some 49) (v := ?_) (a' := ?_) #[true, true, true, true, true] rfl rfl (by kernel_rfl) (fun _ _ _ h => h) (Or.inl ⟨by rfl, ?_⟩) ?_ ?_
    rotate_left
    · intro w'
      go_simp
      with_reducible rfl
    rotate_left
    · simp only [Act.put, List.setIfInBounds_toArray, List.set_cons_zero, List.set_cons_succ, i64_w, i32_w]
      rfl
    refine done_ (by kernel_rfl) ?_
    clear hHeld
    have lo0_ := True.intro
    have hp1 := Aside0.mk (show ∀ k_, some k_ = (Value.slice xA0 C.length xc0).ownBlock → V2.heap.size ≤ k_ ∧ k_ < w5.heap.size from fun k_ h_ => xR.out.1 k_ h_.symm)
    have dX1_0 : w10.cell? ⟨w5.heap.size, 0, none⟩ = some (.slice xA0 C.length xc0) := (blk_cell X1.out 0).trans rfl
    have dX1_1 : w10.cell? ⟨w5.heap.size, 1, none⟩ = some (.slice xA1 R.length xc1) := (blk_cell X1.out 1).trans rfl
    have TT := Aside0.mk (laws_markVault.calls k (fun k_ => some k_ = (Value.slice xA0 C.length xc0).ownBlock) (fun k_ => (V2.heap.size ≤ k_ ∧ k_ < w5.heap.size) ∧ some k_ ≠ (Value.slice xA0 C.length xc0).ownBlock) _ _ C R 1 k1 C2 R2 w w10 B.out (Kd.R_lower (Kd.R_mono (Kd.R_tight rfl xR.out) (fun k_ h_ => h_)) (by have := LE1.out; have := LS1.out; have := LS2.out; have := LS3.out; have := LE2.out; have := LS4.out; have := LE3.out; have := LS5.out; have := LE4.out; have := LS6.out; have := LD.out; have := LS7.out; have := LS8.out; omega)) (Kd.S_lower (Kd.S_mono xS.out (fun k_ h_ => ⟨⟨h_.1.2.1, h_.1.2.2⟩, h_.2⟩)) (by have := LE1.out; have := LS1.out; have := LS2.out; have := LS3.out; have := LE2.out; have := LS4.out; have := LE3.out; have := LS5.out; have := LE4.out; have := LS6.out; have := LD.out; have := LS7.out; have := LS8.out; omega)) (fun k_ h_ h2_ => h2_.2 h_) H8.out)
    go_wp2_with (go_at_call 44; refine TT.out.mono ?_)
    (first | rintro e w11 rfl ho0 ho1 hB2 hk | rintro e w11 ⟨rfl, ho0, ho1, hB2, hk⟩)
    clear TT
    clear dX1_0 dX1_1
    have LKw11 := Aside0.mk (show w10.heap.size ≤ w11.heap.size from hk.1)
    replace B := Aside0.mk hB2
    have hk : Kept w10 w11 (fun k_ => V2.heap.size ≤ k_ ∧ k_ < w5.heap.size) := hk.mono (fun k_ h_ => h_.elim (fun h_ => hp1.out k_ h_) (fun h_ => h_.1))
    replace X0 := Aside0.mk (blk_kept X0.out hk (fun h_ => by have := h_.1; have := h_.2; have := LE1.out; have := LS1.out; have := LS2.out; have := LS3.out; have := LE2.out; have := LS4.out; have := LE3.out; have := LS5.out; have := LE4.out; have := LS6.out; have := LD.out; have := LS7.out; have := LS8.out; have := LKw11.out; omega))
    replace uS := Aside0.mk (Kd.S_kept uS.out hk (fun k_ hk_ h_ => by have := h_.1; have := h_.2; have := LE1.out; have := LS1.out; have := LS2.out; have := LS3.out; have := LE2.out; have := LS4.out; have := LE3.out; have := LS5.out; have := LE4.out; have := LS6.out; have := LD.out; have := LS7.out; have := LS8.out; have := LKw11.out; omega))
    replace uR := Aside0.mk (Kd.R_kept uR.out hk (fun k_ hk_ h_ => by have := h_.1; have := h_.2; have := LE1.out; have := LS1.out; have := LS2.out; have := LS3.out; have := LE2.out; have := LS4.out; have := LE3.out; have := LS5.out; have := LE4.out; have := LS6.out; have := LD.out; have := LS7.out; have := LS8.out; have := LKw11.out; omega))
    replace XW := Aside0.mk (blk_kept XW.out hk (fun h_ => by have := h_.1; have := h_.2; have := LE1.out; have := LS1.out; have := LS2.out; have := LS3.out; have := LE2.out; have := LS4.out; have := LE3.out; have := LS5.out; have := LE4.out; have := LS6.out; have := LD.out; have := LS7.out; have := LS8.out; have := LKw11.out; omega))
    replace X1 := Aside0.mk (blk_kept X1.out hk (fun h_ => by have := h_.1; have := h_.2; have := LE1.out; have := LS1.out; have := LS2.out; have := LS3.out; have := LE2.out; have := LS4.out; have := LE3.out; have := LS5.out; have := LE4.out; have := LS6.out; have := LD.out; have := LS7.out; have := LS8.out; have := LKw11.out; omega))
    replace gS := Aside0.mk (Kd.S_kept gS.out hk (fun k_ hk_ h_ => by have := h_.1; have := h_.2; have := LE1.out; have := LS1.out; have := LS2.out; have := LS3.out; have := LE2.out; have := LS4.out; have := LE3.out; have := LS5.out; have := LE4.out; have := LS6.out; have := LD.out; have := LS7.out; have := LS8.out; have := LKw11.out; omega))
    replace gR := Aside0.mk (Kd.R_kept gR.out hk (fun k_ hk_ h_ => by have := h_.1; have := h_.2; have := LE1.out; have := LS1.out; have := LS2.out; have := LS3.out; have := LE2.out; have := LS4.out; have := LE3.out; have := LS5.out; have := LE4.out; have := LS6.out; have := LD.out; have := LS7.out; have := LS8.out; have := LKw11.out; omega))
    replace XG := Aside0.mk (blk_kept XG.out hk (fun h_ => by have := h_.1; have := h_.2; have := LE1.out; have := LS1.out; have := LS2.out; have := LS3.out; have := LE2.out; have := LS4.out; have := LE3.out; have := LS5.out; have := LE4.out; have := LS6.out; have := LD.out; have := LS7.out; have := LS8.out; have := LKw11.out; omega))
    clear hB2 hk hp1
    clear ho0 ho1 lo0_
    clear xS
    clear xR
    have dXW_0 : w11.cell? ⟨w4.heap.size, 0, none⟩ = some (.slice uA0 C1.length uc0) := (blk_cell XW.out 0).trans rfl
    have dXW_1 : w11.cell? ⟨w4.heap.size, 1, none⟩ = some (.slice uA1 R1.length uc1) := (blk_cell XW.out 1).trans rfl
    have dXG_0 : w11.cell? ⟨w6.heap.size, 0, none⟩ = some (.slice gA0 C1.length gc0) := (blk_cell XG.out 0).trans rfl
    have dXG_1 : w11.cell? ⟨w6.heap.size, 1, none⟩ = some (.slice gA1 R1.length gc1) := (blk_cell XG.out 1).trans rfl
    have TT := Aside0.mk (laws_eqVault.calls k _ _ C1 _ _ R1 _ _ C1 _ _ R1 true w11 (Kd.R_reads' gR.out).2.2 (Kd.R_reads' gR.out).2.1 (Kd.S_reads' gS.out).2.2 (Kd.S_reads' gS.out).2.1 (Kd.R_reads' uR.out).2.2 (Kd.R_reads' uR.out).2.1 (Kd.S_reads' uS.out).2.2 (Kd.S_reads' uS.out).2.1 H6.out)
    go_wp2_with (go_at_call 37; refine TT.out.mono ?_)
    (first | rintro e w12 rfl hb | rintro e w12 ⟨rfl, hb⟩)
    clear TT
    clear dXW_0 dXW_1 dXG_0 dXG_1
    have LS9 := Aside0.mk (show w11.heap.size ≤ w12.heap.size from hb.size)
    replace B := Aside0.mk (below_step B.out hb)
    replace X0 := Aside0.mk (blk_below X0.out hb)
    replace uS := Aside0.mk (Kd.S_below uS.out hb)
    replace uR := Aside0.mk (Kd.R_below uR.out hb)
    replace XW := Aside0.mk (blk_below XW.out hb)
    replace X1 := Aside0.mk (blk_below X1.out hb)
    replace gS := Aside0.mk (Kd.S_below gS.out hb)
    replace gR := Aside0.mk (Kd.R_below gR.out hb)
    replace XG := Aside0.mk (blk_below XG.out hb)
    clear hb
    have hp1 := Aside0.mk (show ∀ k_, some k_ = (Value.slice gA0 C1.length gc0).ownBlock → V3.heap.size ≤ k_ ∧ k_ < w6.heap.size from fun k_ h_ => gR.out.1 k_ h_.symm)
    have dXG_0 : w12.cell? ⟨w6.heap.size, 0, none⟩ = some (.slice gA0 C1.length gc0) := (blk_cell XG.out 0).trans rfl
    have dXG_1 : w12.cell? ⟨w6.heap.size, 1, none⟩ = some (.slice gA1 R1.length gc1) := (blk_cell XG.out 1).trans rfl
    have TT := Aside0.mk (laws_markVault.calls k (fun k_ => some k_ = (Value.slice gA0 C1.length gc0).ownBlock) (fun k_ => (V3.heap.size ≤ k_ ∧ k_ < w6.heap.size) ∧ some k_ ≠ (Value.slice gA0 C1.length gc0).ownBlock) _ _ C1 R1 1 m C3 R3 w w12 B.out (Kd.R_lower (Kd.R_mono (Kd.R_tight rfl gR.out) (fun k_ h_ => h_)) (by have := LE1.out; have := LS1.out; have := LS2.out; have := LS3.out; have := LE2.out; have := LS4.out; have := LE3.out; have := LS5.out; have := LE4.out; have := LS6.out; have := LD.out; have := LS7.out; have := LS8.out; have := LKw11.out; have := LS9.out; omega)) (Kd.S_lower (Kd.S_mono gS.out (fun k_ h_ => ⟨⟨h_.1.2.1, h_.1.2.2⟩, h_.2⟩)) (by have := LE1.out; have := LS1.out; have := LS2.out; have := LS3.out; have := LE2.out; have := LS4.out; have := LE3.out; have := LS5.out; have := LE4.out; have := LS6.out; have := LD.out; have := LS7.out; have := LS8.out; have := LKw11.out; have := LS9.out; omega)) (fun k_ h_ h2_ => h2_.2 h_) H10.out)
    go_wp2_with (go_at_call 44; refine TT.out.mono ?_)
    (first | rintro e w13 rfl ho0 ho1 hB2 hk | rintro e w13 ⟨rfl, ho0, ho1, hB2, hk⟩)
    clear TT
    clear dXG_0 dXG_1
    have LKw13 := Aside0.mk (show w12.heap.size ≤ w13.heap.size from hk.1)
    replace B := Aside0.mk hB2
    have hk : Kept w12 w13 (fun k_ => V3.heap.size ≤ k_ ∧ k_ < w6.heap.size) := hk.mono (fun k_ h_ => h_.elim (fun h_ => hp1.out k_ h_) (fun h_ => h_.1))
    replace X0 := Aside0.mk (blk_kept X0.out hk (fun h_ => by have := h_.1; have := h_.2; have := LE1.out; have := LS1.out; have := LS2.out; have := LS3.out; have := LE2.out; have := LS4.out; have := LE3.out; have := LS5.out; have := LE4.out; have := LS6.out; have := LD.out; have := LS7.out; have := LS8.out; have := LKw11.out; have := LS9.out; have := LKw13.out; omega))
    replace uS := Aside0.mk (Kd.S_kept uS.out hk (fun k_ hk_ h_ => by have := h_.1; have := h_.2; have := LE1.out; have := LS1.out; have := LS2.out; have := LS3.out; have := LE2.out; have := LS4.out; have := LE3.out; have := LS5.out; have := LE4.out; have := LS6.out; have := LD.out; have := LS7.out; have := LS8.out; have := LKw11.out; have := LS9.out; have := LKw13.out; omega))
    replace uR := Aside0.mk (Kd.R_kept uR.out hk (fun k_ hk_ h_ => by have := h_.1; have := h_.2; have := LE1.out; have := LS1.out; have := LS2.out; have := LS3.out; have := LE2.out; have := LS4.out; have := LE3.out; have := LS5.out; have := LE4.out; have := LS6.out; have := LD.out; have := LS7.out; have := LS8.out; have := LKw11.out; have := LS9.out; have := LKw13.out; omega))
    replace XW := Aside0.mk (blk_kept XW.out hk (fun h_ => by have := h_.1; have := h_.2; have := LE1.out; have := LS1.out; have := LS2.out; have := LS3.out; have := LE2.out; have := LS4.out; have := LE3.out; have := LS5.out; have := LE4.out; have := LS6.out; have := LD.out; have := LS7.out; have := LS8.out; have := LKw11.out; have := LS9.out; have := LKw13.out; omega))
    replace X1 := Aside0.mk (blk_kept X1.out hk (fun h_ => by have := h_.1; have := h_.2; have := LE1.out; have := LS1.out; have := LS2.out; have := LS3.out; have := LE2.out; have := LS4.out; have := LE3.out; have := LS5.out; have := LE4.out; have := LS6.out; have := LD.out; have := LS7.out; have := LS8.out; have := LKw11.out; have := LS9.out; have := LKw13.out; omega))
    replace XG := Aside0.mk (blk_kept XG.out hk (fun h_ => by have := h_.1; have := h_.2; have := LE1.out; have := LS1.out; have := LS2.out; have := LS3.out; have := LE2.out; have := LS4.out; have := LE3.out; have := LS5.out; have := LE4.out; have := LS6.out; have := LD.out; have := LS7.out; have := LS8.out; have := LKw11.out; have := LS9.out; have := LKw13.out; omega))
    clear hB2 hk hp1
    replace gR := Aside0.mk ho0
    replace gS := Aside0.mk ho1
    clear ho0 ho1
    have dXG_0 : w13.cell? ⟨w6.heap.size, 0, none⟩ = some (.slice gA0 C1.length gc0) := (blk_cell XG.out 0).trans rfl
    have dXG_1 : w13.cell? ⟨w6.heap.size, 1, none⟩ = some (.slice gA1 R1.length gc1) := (blk_cell XG.out 1).trans rfl
    have TT := Aside0.mk (held_vault (Kd.R_reads' gR.out) (Kd.S_reads' gS.out) H11.out)
    go_wp2_with (go_at_call 45; refine TT.out.mono ?_)
    (first | rintro e w14 rfl hb | rintro e w14 ⟨rfl, hb⟩)
    clear TT
    clear dXG_0 dXG_1
    have LS10 := Aside0.mk (show w13.heap.size ≤ w14.heap.size from hb.size)
    replace B := Aside0.mk (below_step B.out hb)
    replace X0 := Aside0.mk (blk_below X0.out hb)
    replace uS := Aside0.mk (Kd.S_below uS.out hb)
    replace uR := Aside0.mk (Kd.R_below uR.out hb)
    replace XW := Aside0.mk (blk_below XW.out hb)
    replace X1 := Aside0.mk (blk_below X1.out hb)
    replace gS := Aside0.mk (Kd.S_below gS.out hb)
    replace gR := Aside0.mk (Kd.R_below gR.out hb)
    replace XG := Aside0.mk (blk_below XG.out hb)
    clear hb
    have hmm : (m == m) = true := beq_self_eq_true m
    have hmn : (m != m) = false := by simp
    have dX0_0 : w14.cell? ⟨w.heap.size, 0, none⟩ = some (.slice A0_0 l0_0.length c0_0) := (blk_cell X0.out 0).trans rfl
    have dX0_1 : w14.cell? ⟨w.heap.size, 1, none⟩ = some (.slice A0_1 l0_1.length c0_1) := (blk_cell X0.out 1).trans rfl
    have TT := Aside0.mk (laws_toVault.calls k A0_0 c0_0 l0_0 A0_1 c0_1 l0_1 C R w14 (Kd.C_below HR0.out B.out) HC0.out (Kd.C_below HR1.out B.out) HC1.out H3.out)
    go_wp2_with (go_at_call 35; refine TT.out.mono ?_)
    (first | rintro e w15 z0 z1 rfl hr hs hb | rintro e w15 ⟨z0, z1, rfl, hr, hs, hb⟩)
    clear TT
    clear dX0_0 dX0_1
    have LS11 := Aside0.mk (show w14.heap.size ≤ w15.heap.size from hb.size)
    replace B := Aside0.mk (below_step B.out hb)
    replace X0 := Aside0.mk (blk_below X0.out hb)
    replace uS := Aside0.mk (Kd.S_below uS.out hb)
    replace uR := Aside0.mk (Kd.R_below uR.out hb)
    replace XW := Aside0.mk (blk_below XW.out hb)
    replace X1 := Aside0.mk (blk_below X1.out hb)
    replace gS := Aside0.mk (Kd.S_below gS.out hb)
    replace gR := Aside0.mk (Kd.R_below gR.out hb)
    replace XG := Aside0.mk (blk_below XG.out hb)
    obtain ⟨zA0, zc0, rfl⟩ := Kd.R_slice hr
    obtain ⟨zA1, zc1, rfl⟩ := Kd.S_slice hs
    have zS := Aside0.mk (Kd.S_apart' (S_iv hs) (Kd.R_typed hr) (by decide))
    have zR := Aside0.mk (R_iv hr)
    clear hs hr hb
    have TT := Aside0.mk (impl_DropFile.calls k _ _ C _ _ R a1 C1 R1 wb w15 (Kd.R_reads' zR.out).2.2 (Kd.R_reads' zR.out).2.1 (Kd.S_reads' zS.out).2.2 (Kd.S_reads' zS.out).2.1 H5.out)
    go_wp2_with (go_at_call 43; refine TT.out.mono ?_)
    (first | rintro e w16 h0 h1 rfl hr hs hb | rintro e w16 ⟨h0, h1, rfl, hr, hs, hb⟩)
    clear TT
    have LS12 := Aside0.mk (show w15.heap.size ≤ w16.heap.size from hb.size)
    replace B := Aside0.mk (below_step B.out hb)
    replace X0 := Aside0.mk (blk_below X0.out hb)
    replace uS := Aside0.mk (Kd.S_below uS.out hb)
    replace uR := Aside0.mk (Kd.R_below uR.out hb)
    replace XW := Aside0.mk (blk_below XW.out hb)
    replace X1 := Aside0.mk (blk_below X1.out hb)
    replace gS := Aside0.mk (Kd.S_below gS.out hb)
    replace gR := Aside0.mk (Kd.R_below gR.out hb)
    replace XG := Aside0.mk (blk_below XG.out hb)
    replace zS := Aside0.mk (Kd.S_below zS.out hb)
    replace zR := Aside0.mk (Kd.R_below zR.out hb)
    obtain ⟨hA0, hc0, rfl⟩ := Kd.R_slice hr
    obtain ⟨hA1, hc1, rfl⟩ := Kd.S_slice hs
    have hS := Aside0.mk (Kd.S_apart' (S_iv hs) (Kd.R_typed hr) (by decide))
    have hR := Aside0.mk (R_iv hr)
    clear hb hr hs
    clear zS
    clear zR
    obtain ⟨V5, hV5⟩ : ∃ W, w16.alloc (.cells #[.slice hA0 C1.length hc0, .slice hA1 R1.length hc1] 51 (0, 0)) = W := ⟨_, rfl⟩
    have hb : Below w16.heap.size w16 V5 := by rw [← hV5]; exact below_alloc (Below.refl _ _) _
    have LE5 := Aside0.mk (show V5.heap.size = w16.heap.size + 1 by rw [← hV5]; simp)
    replace B := Aside0.mk (below_step B.out hb)
    replace X0 := Aside0.mk (blk_below X0.out hb)
    replace uS := Aside0.mk (Kd.S_below uS.out hb)
    replace uR := Aside0.mk (Kd.R_below uR.out hb)
    replace XW := Aside0.mk (blk_below XW.out hb)
    replace X1 := Aside0.mk (blk_below X1.out hb)
    replace gS := Aside0.mk (Kd.S_below gS.out hb)
    replace gR := Aside0.mk (Kd.R_below gR.out hb)
    replace XG := Aside0.mk (blk_below XG.out hb)
    replace hS := Aside0.mk (Kd.S_below hS.out hb)
    replace hR := Aside0.mk (Kd.R_below hR.out hb)
    have XH := Aside0.mk (show V5.heap[w16.heap.size]? = some (.cells #[.slice hA0 C1.length hc0, .slice hA1 R1.length hc1] 51 (0, 0)) by rw [← hV5]; exact heap_alloc_new w16 _)
    clear hb
    have dXW_0 : V5.cell? ⟨w4.heap.size, 0, none⟩ = some (.slice uA0 C1.length uc0) := (blk_cell XW.out 0).trans rfl
    have dXW_1 : V5.cell? ⟨w4.heap.size, 1, none⟩ = some (.slice uA1 R1.length uc1) := (blk_cell XW.out 1).trans rfl
    have dXH_0 : V5.cell? ⟨w16.heap.size, 0, none⟩ = some (.slice hA0 C1.length hc0) := (blk_cell XH.out 0).trans rfl
    have dXH_1 : V5.cell? ⟨w16.heap.size, 1, none⟩ = some (.slice hA1 R1.length hc1) := (blk_cell XH.out 1).trans rfl
    have TT := Aside0.mk (laws_eqVault.calls k _ _ C1 _ _ R1 _ _ C1 _ _ R1 true V5 (Kd.R_reads' hR.out).2.2 (Kd.R_reads' hR.out).2.1 (Kd.S_reads' hS.out).2.2 (Kd.S_reads' hS.out).2.1 (Kd.R_reads' uR.out).2.2 (Kd.R_reads' uR.out).2.1 (Kd.S_reads' uS.out).2.2 (Kd.S_reads' uS.out).2.1 H6.out)
    go_wp2_with (go_at_call 37; refine TT.out.mono ?_)
    (first | rintro e w17 rfl hb | rintro e w17 ⟨rfl, hb⟩)
    clear TT
    clear dXW_0 dXW_1 dXH_0 dXH_1
    clear hV5
    have LS13 := Aside0.mk (show V5.heap.size ≤ w17.heap.size from hb.size)
    replace B := Aside0.mk (below_step B.out hb)
    replace X0 := Aside0.mk (blk_below X0.out hb)
    replace uS := Aside0.mk (Kd.S_below uS.out hb)
    replace uR := Aside0.mk (Kd.R_below uR.out hb)
    replace XW := Aside0.mk (blk_below XW.out hb)
    replace X1 := Aside0.mk (blk_below X1.out hb)
    replace gS := Aside0.mk (Kd.S_below gS.out hb)
    replace gR := Aside0.mk (Kd.R_below gR.out hb)
    replace XG := Aside0.mk (blk_below XG.out hb)
    replace hS := Aside0.mk (Kd.S_below hS.out hb)
    replace hR := Aside0.mk (Kd.R_below hR.out hb)
    replace XH := Aside0.mk (blk_below XH.out hb)
    clear hb
    have dXG_0 : w17.cell? ⟨w6.heap.size, 0, none⟩ = some (.slice gA0 C1.length gc0) := (blk_cell XG.out 0).trans rfl
    have dXG_1 : w17.cell? ⟨w6.heap.size, 1, none⟩ = some (.slice gA1 R1.length gc1) := (blk_cell XG.out 1).trans rfl
    have TT := Aside0.mk (held_vault (Kd.R_reads' gR.out) (Kd.S_reads' gS.out) H11.out)
    go_wp2_with (go_at_call 45; refine TT.out.mono ?_)
    (first | rintro e w18 rfl hb | rintro e w18 ⟨rfl, hb⟩)
    clear TT
    clear dXG_0 dXG_1
    have LS14 := Aside0.mk (show w17.heap.size ≤ w18.heap.size from hb.size)
    replace B := Aside0.mk (below_step B.out hb)
    replace X0 := Aside0.mk (blk_below X0.out hb)
    replace uS := Aside0.mk (Kd.S_below uS.out hb)
    replace uR := Aside0.mk (Kd.R_below uR.out hb)
    replace XW := Aside0.mk (blk_below XW.out hb)
    replace X1 := Aside0.mk (blk_below X1.out hb)
    replace gS := Aside0.mk (Kd.S_below gS.out hb)
    replace gR := Aside0.mk (Kd.R_below gR.out hb)
    replace XG := Aside0.mk (blk_below XG.out hb)
    replace hS := Aside0.mk (Kd.S_below hS.out hb)
    replace hR := Aside0.mk (Kd.R_below hR.out hb)
    replace XH := Aside0.mk (blk_below XH.out hb)
    clear hb
    go_wp2
    go_ret
    exact ⟨rfl, B.out⟩
end Go.Proofs.Ytjepecinpgjgdaa.PVau
