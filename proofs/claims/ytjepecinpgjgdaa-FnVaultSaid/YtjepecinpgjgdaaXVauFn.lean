import Derived.Test.YtjepecinpgjgdaaXVauDraw
import Derived.Test.YtjepecinpgjgdaaZVauFn
/-! laws.FnVault answers true. -/
namespace Go.Proofs.Ytjepecinpgjgdaa.PVau
open Go.RowKit Go.Proofs.YtjepecinpgjgdaaW.PrintWords Go.Proofs.YtjepecinpgjgdaaW.PrintLast Go.Proofs.YtjepecinpgjgdaaW.PrintMore Go.Proofs.Ytjepecinpgjgdaa.E Go.Proofs.Ytjepecinpgjgdaa.ZVau
set_option linter.unusedSimpArgs false
set_option linter.unusedVariables false
/-- A vault that a box of the call holds. -/
structure VL (w W : World) (g : Nat) (A0 : Option Addr) (c0 : Nat) (ps : List KL) (A1 : Option Addr) (c1 : Nat) (fs : List FL) : Prop where
 z : W.heap[g]? = some (.cells #[.slice A0 ps.length c0, .slice A1 fs.length c1] 51 (0, 0))
 r0 : Kd.C k89 W A0 ps.length ps
 h0 : ps.length ≤ c0
 r1 : Kd.C k87 W A1 fs.length fs
 h1 : fs.length ≤ c1
theorem VL.below {w W W1 : World} {g : Nat} {A0 : Option Addr} {c0 : Nat} {ps : List KL} {A1 : Option Addr} {c1 : Nat} {fs : List FL} (h : VL w W g A0 c0 ps A1 c1 fs) (hb : Below W.heap.size W W1) : VL w W1 g A0 c0 ps A1 c1 fs :=
 ⟨blk_below h.z hb, Kd.C_below h.r0 hb, h.h0, Kd.C_below h.r1 hb, h.h1⟩
theorem VL.new {w W W1 : World} {B : Nat} {A0 : Option Addr} {c0 : Nat} {ps : List KL} {A1 : Option Addr} {c1 : Nat} {fs : List FL} (hk : KS W B (fun _ => True) (.slice A0 ps.length c0) ps) (hf : FS W B (fun _ => True) (.slice A1 fs.length c1) fs) (e : W.alloc (.cells #[.slice A0 ps.length c0, .slice A1 fs.length c1] 51 (0, 0)) = W1) :
  VL w W1 W.heap.size A0 c0 ps A1 c1 fs ∧ Below W.heap.size W W1 := by
 subst e
 have hb : Below W.heap.size W (W.alloc (.cells #[.slice A0 ps.length c0, .slice A1 fs.length c1] 51 (0, 0))) := below_alloc (Below.refl _ _) _
 exact ⟨⟨heap_alloc_new W _, Kd.C_below (Kd.R_reads' hk).2.2 hb, (Kd.R_reads' hk).2.1, Kd.C_below (Kd.S_reads' hf).2.2 hb, (Kd.S_reads' hf).2.1⟩, hb⟩
set_option maxHeartbeats 16000000 in
set_option maxRecDepth 100000 in
theorem fnVault_calls (A0 : Option Addr) (c0 : Nat) (l0 : List Int) (A1 : Option Addr) (c1 : Nat) (l1 : List Int) (w : World) (hl0 : Bytes l0) (hr0 : Kd.C (Kd.int .u8) w A0 l0.length l0) (hc0 : l0.length ≤ c0) (hl1 : Bytes l1) (hr1 : Kd.C (Kd.int .u8) w A1 l1.length l1) (hc1 : l1.length ≤ c1) (hz0 : l0.length ≤ 140737488351232) (hz1 : l1.length ≤ 140737488351232) :
  Calls Try.prog 13 #[.slice A0 l0.length c0, .slice A1 l1.length c1] w fun e w' => e = .returned (.bool true) ∧ Below w.heap.size w w' := by
 have huV := Try.underlying51
 have HB1 := Aside0.mk hl1
 have HB0 := Aside0.mk hl0
 have R0 := Aside0.mk hr0
 have R1 := Aside0.mk hr1
 have HC0 := Aside0.mk hc0
 have HC1 := Aside0.mk hc1
 have wq : wrap64 ((l0.length : Int) + (l1.length : Int)) = (l0.length : Int) + (l1.length : Int) := w64 (by omega) (by omega)
 have B := Aside0.mk (Below.refl w.heap.size w)
 clear hl0 hl1 hr0 hr1 hc0 hc1 hz0 hz1
 by_cases hbig : (l0.length : Int) + (l1.length : Int) > 1048576
 ·have c1_ : (1048576 < (l0.length : Int) + (l1.length : Int)) = True := eq_true (by omega)
  clear hbig
  go_enter Try.func13, Try.ntmps13
  go_wp2
  go_ret
  exact ⟨rfl, B.out⟩
 ·have c1_ : (1048576 < (l0.length : Int) + (l1.length : Int)) = False := eq_false (by omega)
  clear hbig
  have TT := Aside0.mk (spec_DrawPutText.calls A0 c0 l0 w HB0.out R0.out HC0.out)
  go_enter Try.func13, Try.ntmps13
  go_wp2_with (go_at_call 52; refine TT.out.mono ?_)
  rintro e w1 u0 u1 ps fs s rfl hk hf hs1 hs2 hs3 hs4 hb
  have HSZ := Aside0.mk (And.intro hs1 (And.intro hs2 (And.intro hs3 hs4)))
  clear hs1 hs2 hs3 hs4 TT wq c1_
  replace B := Aside0.mk (below_step B.out hb)
  clear hb
  obtain ⟨Av, cv, rfl⟩ := Kd.R_slice hk
  obtain ⟨Ev, dv, rfl⟩ := Kd.S_slice hf
  obtain ⟨V1, hV1⟩ : ∃ W, w1.alloc (.cells #[.slice Av ps.length cv, .slice Ev fs.length dv] 51 (0, 0)) = W := ⟨_, rfl⟩
  obtain ⟨hv, hb⟩ := VL.new (w := w) hk hf hV1
  have X := Aside0.mk hv
  clear hv hk hf
  replace B := Aside0.mk (below_step B.out hb)
  clear hb
  obtain ⟨C, R, ob, hP⟩ : ∃ C R ob, putF ps fs s = (C, R, ob) := ⟨_, _, _, rfl⟩
  have HP := Aside0.mk hP
  obtain ⟨K1, e1⟩ := impl_put ps fs s (by have := HSZ.out.2.2.2; omega)
  obtain ⟨K2, e2⟩ := spec_put ps fs s (by have := HSZ.out.1; omega) (by have := HSZ.out.2.1; omega) (fun x hx => by have := HSZ.out.2.2.1 x hx; omega)
  have E1 := Aside0.mk (show impl_PutText.f K1 ps fs s = some (C, R, ob) from (e1 _ (Nat.le_refl _)).trans (congrArg some hP))
  have E2 := Aside0.mk (show spec_PutText.f K2 ps fs s = some (C, R, ob) from (e2 _ (Nat.le_refl _)).trans (congrArg some hP))
  clear hP e1 e2
  have dX_0 : V1.cell? ⟨w1.heap.size, 0, none⟩ = some (.slice Av ps.length cv) := (blk_cell X.out.z 0).trans rfl
  have dX_1 : V1.cell? ⟨w1.heap.size, 1, none⟩ = some (.slice Ev fs.length dv) := (blk_cell X.out.z 1).trans rfl
  have TT := Aside0.mk (impl_PutText.calls K1 Av cv ps Ev dv fs s C R ob V1 X.out.r0 X.out.h0 X.out.r1 X.out.h1 E1.out)
  go_wp2_with (go_at_call 51; refine TT.out.mono ?_)
  (first | rintro e w2 u0 u1 rfl hk hf hb | rintro e w2 ⟨u0, u1, rfl, hk, hf, hb⟩)
  clear TT
  clear dX_0 dX_1
  replace X := Aside0.mk (X.out.below hb)
  replace B := Aside0.mk (below_step B.out hb)
  clear hb
  obtain ⟨Pa2, ca2, rfl⟩ := Kd.R_slice hk
  obtain ⟨Pf2, cf2, rfl⟩ := Kd.S_slice hf
  obtain ⟨V2, hV2⟩ : ∃ W, w2.alloc (.cells #[.slice Pa2 C.length ca2, .slice Pf2 R.length cf2] 51 (0, 0)) = W := ⟨_, rfl⟩
  obtain ⟨hv, hb⟩ := VL.new (w := w) hk hf hV2
  have Y := Aside0.mk hv
  clear hv hk hf
  replace X := Aside0.mk (X.out.below hb)
  replace B := Aside0.mk (below_step B.out hb)
  clear hb
  clear hV1 E1
  have dX_0 : V2.cell? ⟨w1.heap.size, 0, none⟩ = some (.slice Av ps.length cv) := (blk_cell X.out.z 0).trans rfl
  have dX_1 : V2.cell? ⟨w1.heap.size, 1, none⟩ = some (.slice Ev fs.length dv) := (blk_cell X.out.z 1).trans rfl
  have TT := Aside0.mk (spec_PutText.calls K2 Av cv ps Ev dv fs s C R ob V2 X.out.r0 X.out.h0 X.out.r1 X.out.h1 E2.out)
  go_wp2_with (go_at_call 50; refine TT.out.mono ?_)
  (first | rintro e w3 u0 u1 rfl hk hf hb | rintro e w3 ⟨u0, u1, rfl, hk, hf, hb⟩)
  clear TT
  clear dX_0 dX_1
  replace X := Aside0.mk (X.out.below hb)
  replace Y := Aside0.mk (Y.out.below hb)
  replace B := Aside0.mk (below_step B.out hb)
  clear hb
  obtain ⟨Pa3, ca3, rfl⟩ := Kd.R_slice hk
  obtain ⟨Pf3, cf3, rfl⟩ := Kd.S_slice hf
  obtain ⟨V3, hV3⟩ : ∃ W, w3.alloc (.cells #[.slice Pa3 C.length ca3, .slice Pf3 R.length cf3] 51 (0, 0)) = W := ⟨_, rfl⟩
  obtain ⟨hv, hb⟩ := VL.new (w := w) hk hf hV3
  have N := Aside0.mk hv
  clear hv hk hf
  replace X := Aside0.mk (X.out.below hb)
  replace Y := Aside0.mk (Y.out.below hb)
  replace B := Aside0.mk (below_step B.out hb)
  clear hb
  clear hV2 E2
  obtain ⟨gb, hG⟩ : ∃ gb, good ps fs = gb := ⟨_, rfl⟩
  obtain ⟨K3, e3⟩ := spec_good ps fs (by have := HSZ.out.1; omega) (by have := HSZ.out.2.1; omega) (fun x hx => by have := HSZ.out.2.2.1 x hx; omega)
  have G1 := Aside0.mk (show impl_GoodVault.f ps fs = some gb from congrArg some hG)
  have G2 := Aside0.mk (show spec_GoodVault.f K3 ps fs = some gb from (e3 _ (Nat.le_refl _)).trans (congrArg some hG))
  clear hG e3
  go_wp2
  clear hV3
  generalize hgx : w1.heap.size = gx at X ⊢
  refine start_ (n := 10) (S := fun w' => w'.cell? ⟨gx, 0, none⟩ = some (.slice Av ps.length cv) ∧ w'.cell? ⟨gx, 1, none⟩ = some (.slice Ev fs.length dv)) (ds := []) (fl 10 0) (by kernel_rfl) rfl (by kernel_rfl) ⟨(blk_cell X.out.z 0).trans rfl, (blk_cell X.out.z 1).trans rfl⟩ (fun hHeld => ?_)
  have hb := below_drew1 (Below.refl V3.heap.size V3)
  replace X := Aside0.mk (X.out.below hb)
  replace Y := Aside0.mk (Y.out.below hb)
  replace N := Aside0.mk (N.out.below hb)
  replace B := Aside0.mk (below_step B.out hb)
  clear hb
  generalize V3.drew = w5 at X Y N B hHeld ⊢
  refine pure_ (i := 0) (N := some 64) (v := ?_) (a' := ?_) (fl 10 1) rfl rfl (by kernel_rfl) (fun _ _ _ h => h) (Or.inl ⟨by rfl, ?_⟩) ?_ ?_
  rotate_left
  ·intro w'
   go_simp
   with_reducible rfl
  rotate_left
  ·simp only [Act.put, List.setIfInBounds_toArray, List.set_cons_zero, List.set_cons_succ, i64_w, i32_w]
   rfl
  refine pure_ (i := 1) (N := some 65) (v := ?_) (a' := ?_) (fl 10 3) rfl rfl (by kernel_rfl) (fun _ _ _ h => h) (Or.inl ⟨by rfl, ?_⟩) ?_ ?_
  rotate_left
  ·intro w'
   go_simp
   with_reducible rfl
  rotate_left
  ·simp only [Act.put, List.setIfInBounds_toArray, List.set_cons_zero, List.set_cons_succ, i64_w, i32_w]
   rfl
  refine pure_ (i := 2) (N := some 66) (v := .bool false) (a' := ?_) (fl 10 7) rfl rfl (by kernel_rfl) (fun _ _ _ h => h) (Or.inl ⟨by rfl, ?run2⟩) ?eq2 ?next2
  case run2 =>
   intro w'
   go_simp
   all_goals (first | (cases ob <;> rfl) | (simp; done))
  case eq2 =>
   simp only [Act.put, List.setIfInBounds_toArray, List.set_cons_zero, List.set_cons_succ, i64_w, i32_w]
   rfl
  refine pure_ (i := 3) (N := some 67) (v := ?_) (a' := ?_) (fl 10 15) rfl rfl (by kernel_rfl) (fun _ _ _ h => h) (Or.inl ⟨by rfl, ?_⟩) ?_ ?_
  rotate_left
  ·intro w'
   go_simp
   with_reducible rfl
  rotate_left
  ·simp only [Act.put, List.setIfInBounds_toArray, List.set_cons_zero, List.set_cons_succ, i64_w, i32_w]
   rfl
  refine take_ (i := 4) (N := some 68) (v := ?_) (a' := ?_) (fl 10 31) rfl rfl (by kernel_rfl) (fun _ _ _ h => h) (Or.inl ⟨by rfl, ?_⟩) hHeld ?_ ?_
  rotate_left
  ·rintro w' ⟨s0, s1⟩
   go_simp
   with_reducible rfl
  rotate_left
  ·simp only [Act.put, List.setIfInBounds_toArray, List.set_cons_zero, List.set_cons_succ, i64_w, i32_w]
   rfl
  refine take_ (i := 6) (N := some 70) (v := ?_) (a' := ?_) (fl 10 95) rfl rfl (by kernel_rfl) (fun _ _ _ h => h) (Or.inl ⟨by rfl, ?_⟩) hHeld ?_ ?_
  rotate_left
  ·rintro w' ⟨s0, s1⟩
   go_simp
   with_reducible rfl
  rotate_left
  ·simp only [Act.put, List.setIfInBounds_toArray, List.set_cons_zero, List.set_cons_succ, i64_w, i32_w]
   rfl
  refine one_ (i := 5) (N := some 69) (fl 10 127) rfl rfl (by kernel_rfl) (by decide) (fun K hK => ?_)
  refine goes_ Try.func36 (by kernel_rfl) rfl #[.agg #[.slice Av ps.length cv, .slice Ev fs.length dv]] (by rfl) rfl rfl (by (try simp only [List.map_toArray, List.map_cons, List.map_nil]); first | done | rfl | (simp only [List.length_drop, List.length_take]; rfl)) ?_
  refine (impl_GoodVault.calls Av cv ps Ev dv fs gb w5 X.out.r0 X.out.h0 X.out.r1 X.out.h1 G1.out).mono ?_
  rintro e w6 ⟨rfl, hb⟩
  refine ⟨_, rfl, ?_⟩
  replace X := Aside0.mk (X.out.below hb)
  replace Y := Aside0.mk (Y.out.below hb)
  replace N := Aside0.mk (N.out.below hb)
  replace B := Aside0.mk (below_step B.out hb)
  clear hb
  refine hK.out _ _ ⟨(blk_cell X.out.z 0).trans rfl, (blk_cell X.out.z 1).trans rfl⟩ (fun hHeld => ?_)
  clear hK K
  refine norm_ (a' := ?_) ?_ ?_
  rotate_left
  ·show Act.put _ (some 69) _ = _
   simp only [Act.put, List.setIfInBounds_toArray, List.set_cons_zero, List.set_cons_succ, i64_w, i32_w]
   rfl
  refine one_ (i := 7) (N := some 71) (fl 10 255) rfl rfl (by kernel_rfl) (by decide) (fun K hK => ?_)
  refine goes_ Try.func34 (by kernel_rfl) rfl #[.agg #[.slice Av ps.length cv, .slice Ev fs.length dv]] (by rfl) rfl rfl (by (try simp only [List.map_toArray, List.map_cons, List.map_nil]); first | done | rfl | (simp only [List.length_drop, List.length_take]; rfl)) ?_
  refine (spec_GoodVault.calls K3 Av cv ps Ev dv fs gb w6 X.out.r0 X.out.h0 X.out.r1 X.out.h1 G2.out).mono ?_
  rintro e w8 ⟨rfl, hb⟩
  refine ⟨_, rfl, ?_⟩
  replace X := Aside0.mk (X.out.below hb)
  replace Y := Aside0.mk (Y.out.below hb)
  replace N := Aside0.mk (N.out.below hb)
  replace B := Aside0.mk (below_step B.out hb)
  clear hb
  refine hK.out _ _ ⟨(blk_cell X.out.z 0).trans rfl, (blk_cell X.out.z 1).trans rfl⟩ (fun hHeld => ?_)
  clear hK K
  refine norm_ (a' := ?_) ?_ ?_
  rotate_left
  ·show Act.put _ (some 71) _ = _
   simp only [Act.put, List.setIfInBounds_toArray, List.set_cons_zero, List.set_cons_succ, i64_w, i32_w]
   rfl
  clear G2
  refine pure_ (i := 8) (N := some 72) (v := .bool false) (a' := ?_) (fl 10 511) rfl rfl (by kernel_rfl) (fun _ _ _ h => h) (Or.inl ⟨by rfl, ?run8⟩) ?eq8 ?next8
  case run8 =>
   intro w'
   go_simp
   all_goals (first | (cases gb <;> rfl) | (simp; done))
  case eq8 =>
   simp only [Act.put, List.setIfInBounds_toArray, List.set_cons_zero, List.set_cons_succ, i64_w, i32_w]
   rfl
  refine pure_ (i := 9) (N := some 73) (v := ?_) (a' := ?_) (fl 10 1023) rfl rfl (by kernel_rfl) (fun _ _ _ h => h) (Or.inl ⟨by rfl, ?_⟩) ?_ ?_
  rotate_left
  ·intro w'
   go_simp
   with_reducible rfl
  rotate_left
  ·simp only [Act.put, List.setIfInBounds_toArray, List.set_cons_zero, List.set_cons_succ, i64_w, i32_w]
   rfl
  refine done_ (by kernel_rfl) ?_
  clear hHeld
  go_upto_if 74 with (fail)
  (try simp only [Act.put, List.setIfInBounds_toArray, List.set_cons_zero, List.set_cons_succ])
  go_cut [] (fun wx => Aside0 (Below w.heap.size w wx))
  case first =>
   cases ob with
   | false =>
    go_wp2
    go_meet
    case rel => exact B
   | true =>
    have DN := Aside0.mk (put_done HP.out)
    have KB := Aside0.mk (kept_bd DN.out.g)
    have AB := Aside0.mk (all_bd DN.out.g)
    have SB := Aside0.mk (put_small HP.out)
    clear N G1
    obtain ⟨K4, e4⟩ := impl_tx DN.out.g2 (fs.length : Int) (by omega) (by have := DN.out.len; omega)
    have E4 := Aside0.mk (show impl_TextIn.f K4 C R (fs.length : Int) = some (s, true) from (e4 _ (Nat.le_refl _)).trans (by rw [DN.out.t]))
    obtain ⟨kv, hkv⟩ : ∃ k, keptB ps = k := ⟨_, rfl⟩
    obtain ⟨kx, hkx⟩ : ∃ k, keptB C = k := ⟨_, rfl⟩
    obtain ⟨av, hav⟩ : ∃ k, allB ps fs = k := ⟨_, rfl⟩
    obtain ⟨K5, e5⟩ := impl_kept DN.out.g
    have E5 := Aside0.mk (show impl_BytesKept.f K5 ps fs = some (kv, av, true) from (e5 _ (Nat.le_refl _)).trans (by rw [hkv, hav]))
    obtain ⟨K6, e6⟩ := impl_kept DN.out.g2
    have E6 := Aside0.mk (show impl_BytesKept.f K6 C R = some (kx, av + (s.size : Int), true) from (e6 _ (Nat.le_refl _)).trans (by rw [hkx, DN.out.all_, hav]))
    obtain ⟨C3, R3, b4, h3⟩ : ∃ C3 R3 b4, putF C R s = (C3, R3, b4) := ⟨_, _, _, rfl⟩
    obtain ⟨K7, e7⟩ := impl_put C R s (by have := SB.out; omega)
    have E7 := Aside0.mk (show impl_PutText.f K7 C R s = some (C3, R3, b4) from (e7 _ (Nat.le_refl _)).trans (congrArg some h3))
    have g3 : good C3 R3 = true := by have := putF_good C R s; rw [h3] at this; exact this
    obtain ⟨ky, hky⟩ : ∃ k, keptB C3 = k := ⟨_, rfl⟩
    obtain ⟨ay, hay⟩ : ∃ k, allB C3 R3 = k := ⟨_, rfl⟩
    obtain ⟨K8, e8⟩ := impl_kept g3
    have E8 := Aside0.mk (show impl_BytesKept.f K8 C3 R3 = some (ky, ay, true) from (e8 _ (Nat.le_refl _)).trans (by rw [hky, hay]))
    have HY := Aside0.mk (show b4 = true → ky = kx from fun hb => by
     subst hb
     rw [← hky, ← hkx]
     exact (DN.out.again _ _ h3).2)
    have E9 := Aside0.mk (show impl_DropFile.f 0 C R (fs.length : Int) = some (ps, fs, true) from congrArg some DN.out.back)
    have KX := Aside0.mk (show kx ≤ kv + (s.size : Int) by rw [← hkx, ← hkv]; exact DN.out.more)
    have KV := Aside0.mk (show 0 ≤ kv ∧ kv ≤ 2400 ∧ 0 ≤ av ∧ av ≤ 96000 by rw [← hkv, ← hav]; exact ⟨KB.out.1, KB.out.2, AB.out.1, AB.out.2⟩)
    have wl : wrap64 ((R.length : Int) - 1) = (fs.length : Int) := by
     have h1 := DN.out.len
     have h2 := (good_fine DN.out.g).nf
     rw [h1]
     exact (w64 (by omega) (by omega)).trans (by omega)
    clear e4 e5 e6 e7 e8 hkv hkx hav hky hay h3 g3 KB AB HP
    have dY_0 : w8.cell? ⟨w2.heap.size, 0, none⟩ = some (.slice Pa2 C.length ca2) := (blk_cell Y.out.z 0).trans rfl
    have dY_1 : w8.cell? ⟨w2.heap.size, 1, none⟩ = some (.slice Pf2 R.length cf2) := (blk_cell Y.out.z 1).trans rfl
    have TT := Aside0.mk (impl_TextIn.calls K4 Pa2 ca2 C Pf2 cf2 R (fs.length : Int) s true w8 Y.out.r0 Y.out.h0 Y.out.r1 Y.out.h1 E4.out)
    go_wp2_with (go_at_call 39; refine TT.out.mono ?_)
    (first | rintro e w201 rfl hb | rintro e w201 ⟨rfl, hb⟩)
    clear TT
    clear dY_0 dY_1
    replace X := Aside0.mk (X.out.below hb)
    replace Y := Aside0.mk (Y.out.below hb)
    replace B := Aside0.mk (below_step B.out hb)
    clear hb
    clear E4
    have dX_0 : w201.cell? ⟨gx, 0, none⟩ = some (.slice Av ps.length cv) := (blk_cell X.out.z 0).trans rfl
    have dX_1 : w201.cell? ⟨gx, 1, none⟩ = some (.slice Ev fs.length dv) := (blk_cell X.out.z 1).trans rfl
    have TT := Aside0.mk (impl_BytesKept.calls K5 Av cv ps Ev dv fs kv av true w201 X.out.r0 X.out.h0 X.out.r1 X.out.h1 E5.out)
    go_wp2_with (go_at_call 41; refine TT.out.mono ?_)
    (first | rintro e w202 rfl hb | rintro e w202 ⟨rfl, hb⟩)
    clear TT
    clear dX_0 dX_1
    replace X := Aside0.mk (X.out.below hb)
    replace Y := Aside0.mk (Y.out.below hb)
    replace B := Aside0.mk (below_step B.out hb)
    clear hb
    have dY_0 : w202.cell? ⟨w2.heap.size, 0, none⟩ = some (.slice Pa2 C.length ca2) := (blk_cell Y.out.z 0).trans rfl
    have dY_1 : w202.cell? ⟨w2.heap.size, 1, none⟩ = some (.slice Pf2 R.length cf2) := (blk_cell Y.out.z 1).trans rfl
    have TT := Aside0.mk (impl_BytesKept.calls K6 Pa2 ca2 C Pf2 cf2 R kx (av + (s.size : Int)) true w202 Y.out.r0 Y.out.h0 Y.out.r1 Y.out.h1 E6.out)
    go_wp2_with (go_at_call 41; refine TT.out.mono ?_)
    (first | rintro e w203 rfl hb | rintro e w203 ⟨rfl, hb⟩)
    clear TT
    clear dY_0 dY_1
    replace X := Aside0.mk (X.out.below hb)
    replace Y := Aside0.mk (Y.out.below hb)
    replace B := Aside0.mk (below_step B.out hb)
    clear hb
    clear E6
    have dY_0 : w203.cell? ⟨w2.heap.size, 0, none⟩ = some (.slice Pa2 C.length ca2) := (blk_cell Y.out.z 0).trans rfl
    have dY_1 : w203.cell? ⟨w2.heap.size, 1, none⟩ = some (.slice Pf2 R.length cf2) := (blk_cell Y.out.z 1).trans rfl
    have TT := Aside0.mk (impl_PutText.calls K7 Pa2 ca2 C Pf2 cf2 R s C3 R3 b4 w203 Y.out.r0 Y.out.h0 Y.out.r1 Y.out.h1 E7.out)
    go_wp2_with (go_at_call 51; refine TT.out.mono ?_)
    (first | rintro e w204 u0 u1 rfl hk hf hb | rintro e w204 ⟨u0, u1, rfl, hk, hf, hb⟩)
    clear TT
    clear dY_0 dY_1
    replace X := Aside0.mk (X.out.below hb)
    replace Y := Aside0.mk (Y.out.below hb)
    replace B := Aside0.mk (below_step B.out hb)
    clear hb
    obtain ⟨Pa204, ca204, rfl⟩ := Kd.R_slice hk
    obtain ⟨Pf204, cf204, rfl⟩ := Kd.S_slice hf
    obtain ⟨V204, hV204⟩ : ∃ W, w204.alloc (.cells #[.slice Pa204 C3.length ca204, .slice Pf204 R3.length cf204] 51 (0, 0)) = W := ⟨_, rfl⟩
    obtain ⟨hv, hb⟩ := VL.new (w := w) hk hf hV204
    have O := Aside0.mk hv
    clear hv hk hf
    replace X := Aside0.mk (X.out.below hb)
    replace Y := Aside0.mk (Y.out.below hb)
    replace B := Aside0.mk (below_step B.out hb)
    clear hb
    clear E7
    have dO_0 : V204.cell? ⟨w204.heap.size, 0, none⟩ = some (.slice Pa204 C3.length ca204) := (blk_cell O.out.z 0).trans rfl
    have dO_1 : V204.cell? ⟨w204.heap.size, 1, none⟩ = some (.slice Pf204 R3.length cf204) := (blk_cell O.out.z 1).trans rfl
    have TT := Aside0.mk (impl_BytesKept.calls K8 Pa204 ca204 C3 Pf204 cf204 R3 ky ay true V204 O.out.r0 O.out.h0 O.out.r1 O.out.h1 E8.out)
    go_wp2_with (go_at_call 41; refine TT.out.mono ?_)
    (first | rintro e w205 rfl hb | rintro e w205 ⟨rfl, hb⟩)
    clear TT
    clear dO_0 dO_1
    replace X := Aside0.mk (X.out.below hb)
    replace Y := Aside0.mk (Y.out.below hb)
    replace O := Aside0.mk (O.out.below hb)
    replace B := Aside0.mk (below_step B.out hb)
    clear hb
    clear E8 O hV204
    have dY_0 : w205.cell? ⟨w2.heap.size, 0, none⟩ = some (.slice Pa2 C.length ca2) := (blk_cell Y.out.z 0).trans rfl
    have dY_1 : w205.cell? ⟨w2.heap.size, 1, none⟩ = some (.slice Pf2 R.length cf2) := (blk_cell Y.out.z 1).trans rfl
    have TT := Aside0.mk (impl_DropFile.calls 0 Pa2 ca2 C Pf2 cf2 R (fs.length : Int) ps fs true w205 Y.out.r0 Y.out.h0 Y.out.r1 Y.out.h1 E9.out)
    go_wp2_with (go_at_call 43; refine TT.out.mono ?_)
    (first | rintro e w206 u0 u1 rfl hk hf hb | rintro e w206 ⟨u0, u1, rfl, hk, hf, hb⟩)
    clear TT
    clear dY_0 dY_1
    replace X := Aside0.mk (X.out.below hb)
    replace Y := Aside0.mk (Y.out.below hb)
    replace B := Aside0.mk (below_step B.out hb)
    clear hb
    obtain ⟨Pa206, ca206, rfl⟩ := Kd.R_slice hk
    obtain ⟨Pf206, cf206, rfl⟩ := Kd.S_slice hf
    obtain ⟨V206, hV206⟩ : ∃ W, w206.alloc (.cells #[.slice Pa206 ps.length ca206, .slice Pf206 fs.length cf206] 51 (0, 0)) = W := ⟨_, rfl⟩
    obtain ⟨hv, hb⟩ := VL.new (w := w) hk hf hV206
    have Q := Aside0.mk hv
    clear hv hk hf
    replace X := Aside0.mk (X.out.below hb)
    replace Y := Aside0.mk (Y.out.below hb)
    replace B := Aside0.mk (below_step B.out hb)
    clear hb
    clear E9 wl
    have dQ_0 : V206.cell? ⟨w206.heap.size, 0, none⟩ = some (.slice Pa206 ps.length ca206) := (blk_cell Q.out.z 0).trans rfl
    have dQ_1 : V206.cell? ⟨w206.heap.size, 1, none⟩ = some (.slice Pf206 fs.length cf206) := (blk_cell Q.out.z 1).trans rfl
    have TT := Aside0.mk (impl_BytesKept.calls K5 Pa206 ca206 ps Pf206 cf206 fs kv av true V206 Q.out.r0 Q.out.h0 Q.out.r1 Q.out.h1 E5.out)
    go_wp2_with (go_at_call 41; refine TT.out.mono ?_)
    (first | rintro e w207 rfl hb | rintro e w207 ⟨rfl, hb⟩)
    clear TT
    clear dQ_0 dQ_1
    replace X := Aside0.mk (X.out.below hb)
    replace Y := Aside0.mk (Y.out.below hb)
    replace Q := Aside0.mk (Q.out.below hb)
    replace B := Aside0.mk (below_step B.out hb)
    clear hb
    clear E5 Q hV206
    go_upto_region 17 with (fail)
    (try simp only [Act.put, List.setIfInBounds_toArray, List.set_cons_zero, List.set_cons_succ])
    have G2 := Aside0.mk (show impl_GoodVault.f C R = some true from congrArg some DN.out.g2)
    go_cut [181] (fun v wx => v = .bool false ∧ Aside0 (Below w207.heap.size w207 wx))
    case first =>
     have n1 : wrap64 (av + (s.size : Int)) = av + (s.size : Int) := w64 (by have := KV.out; omega) (by have := KV.out; have := SB.out; omega)
     have n2 : wrap64 (kv + (s.size : Int)) = kv + (s.size : Int) := w64 (by have := KV.out; omega) (by have := KV.out; have := SB.out; omega)
     have n3 : (kv + (s.size : Int) < kx) = False := eq_false (by have := KX.out; omega)
     have TT := Aside0.mk (impl_GoodVault.calls Pa2 ca2 C Pf2 cf2 R true w207 Y.out.r0 Y.out.h0 Y.out.r1 Y.out.h1 G2.out)
     have dY_0 : w207.cell? ⟨w2.heap.size, 0, none⟩ = some (.slice Pa2 C.length ca2) := (blk_cell Y.out.z 0).trans rfl
     have dY_1 : w207.cell? ⟨w2.heap.size, 1, none⟩ = some (.slice Pf2 R.length cf2) := (blk_cell Y.out.z 1).trans rfl
     cases b4 with
     | false =>
      go_wp2_with (go_at_call 36; refine TT.out.mono ?_)
      (first | rintro e wz rfl hb | rintro e wz ⟨rfl, hb⟩)
      clear dY_0 dY_1 TT n1 n2 n3
      go_wp2
      go_meet
      case rel => exact ⟨rfl, ⟨hb⟩⟩
     | true =>
      obtain rfl := HY.out rfl
      go_wp2_with (go_at_call 36; refine TT.out.mono ?_)
      (first | rintro e wz rfl hb | rintro e wz ⟨rfl, hb⟩)
      clear dY_0 dY_1 TT n1 n2 n3
      go_wp2
      go_meet
      case rel => exact ⟨rfl, ⟨hb⟩⟩
    case rest =>
     obtain ⟨rfl, hcut⟩ := hcut
     have hb := hcut.out
     clear hcut HY KX KV SB G2 HSZ
     replace X := Aside0.mk (X.out.below hb)
     replace Y := Aside0.mk (Y.out.below hb)
     replace B := Aside0.mk (below_step B.out hb)
     clear hb
     have dX_0 : wc.cell? ⟨gx, 0, none⟩ = some (.slice Av ps.length cv) := (blk_cell X.out.z 0).trans rfl
     have dX_1 : wc.cell? ⟨gx, 1, none⟩ = some (.slice Ev fs.length dv) := (blk_cell X.out.z 1).trans rfl
     go_wp2
     clear dX_0 dX_1
     go_loopw [185] (fun v wr => ∃ n : Nat, n ≤ fs.length ∧ v = .int .i64 n ∧ Aside0 (Below wc.heap.size wc wr)) (fun v _ => fs.length - (intOf v).toNat)
     case atStart => exact ⟨0, by omega, rfl, ⟨Below.refl _ _⟩⟩
     case round =>
      obtain ⟨n, hn, rfl, HB⟩ := hrel
      by_cases hn0 : n < fs.length
      ·have hnn : ((n : Int) < (fs.length : Int)) = True := eq_true (by omega)
       have NF := Aside0.mk (good_fine DN.out.g).nf
       have NL := Aside0.mk DN.out.len
       have HN := Aside0.mk hn0
       obtain ⟨Ka, ea⟩ := impl_tx DN.out.g (n : Int) (by omega) (by omega)
       obtain ⟨Kb, eb⟩ := impl_tx DN.out.g2 (n : Int) (by omega) (by have := NL.out; omega)
       obtain ⟨tn, htn⟩ : ∃ t, txB ps fs (n : Int) = t := ⟨_, rfl⟩
       have EA := Aside0.mk (show impl_TextIn.f Ka ps fs (n : Int) = some (tn, true) from (ea _ (Nat.le_refl _)).trans (by rw [htn]))
       have EB := Aside0.mk (show impl_TextIn.f Kb C R (n : Int) = some (tn, true) from (eb _ (Nat.le_refl _)).trans (by rw [DN.out.old n hn0, htn]))
       have hb := HB.out
       clear hn hn0 ea eb htn
       replace X := Aside0.mk (X.out.below hb)
       replace Y := Aside0.mk (Y.out.below hb)
       replace B := Aside0.mk (below_step B.out hb)
       clear hb
       have dX_0 : wr.cell? ⟨gx, 0, none⟩ = some (.slice Av ps.length cv) := (blk_cell X.out.z 0).trans rfl
       have dX_1 : wr.cell? ⟨gx, 1, none⟩ = some (.slice Ev fs.length dv) := (blk_cell X.out.z 1).trans rfl
       have TT := Aside0.mk (impl_TextIn.calls Ka Av cv ps Ev dv fs (n : Int) tn true wr X.out.r0 X.out.h0 X.out.r1 X.out.h1 EA.out)
       go_wp2_with (go_at_call 39; refine TT.out.mono ?_)
       (first | rintro e w208 rfl hb | rintro e w208 ⟨rfl, hb⟩)
       clear TT
       clear dX_0 dX_1
       replace X := Aside0.mk (X.out.below hb)
       replace Y := Aside0.mk (Y.out.below hb)
       replace B := Aside0.mk (below_step B.out hb)
       replace HB := Aside0.mk (below_step HB.out hb)
       clear hb
       have dY_0 : w208.cell? ⟨w2.heap.size, 0, none⟩ = some (.slice Pa2 C.length ca2) := (blk_cell Y.out.z 0).trans rfl
       have dY_1 : w208.cell? ⟨w2.heap.size, 1, none⟩ = some (.slice Pf2 R.length cf2) := (blk_cell Y.out.z 1).trans rfl
       have TT := Aside0.mk (impl_TextIn.calls Kb Pa2 ca2 C Pf2 cf2 R (n : Int) tn true w208 Y.out.r0 Y.out.h0 Y.out.r1 Y.out.h1 EB.out)
       go_wp2_with (go_at_call 39; refine TT.out.mono ?_)
       (first | rintro e w209 rfl hb | rintro e w209 ⟨rfl, hb⟩)
       clear TT
       clear dY_0 dY_1
       replace X := Aside0.mk (X.out.below hb)
       replace Y := Aside0.mk (Y.out.below hb)
       replace B := Aside0.mk (below_step B.out hb)
       replace HB := Aside0.mk (below_step HB.out hb)
       clear hb
       have hn20 : n ≤ 20 := by have := HN.out; have := NF.out; omega
       go_wp2
       go_roundw
       case rel => exact ⟨n + 1, by have := HN.out; omega, by go_num, HB⟩
       case measure => first | (simp [intOf]; done) | (simp [intOf]; have := HN.out; omega)
      ·have hnn : ((n : Int) < (fs.length : Int)) = False := eq_false (by omega)
       have hb := HB.out
       clear hn hn0 HB
       replace B := Aside0.mk (below_step B.out hb)
       clear hb
       go_wp2
       go_meet
       case rel => exact B
  case rest =>
   clear B X Y N HP G1 HSZ
   have B := hcut
   clear hcut
   have RR1 := Aside0.mk (Kd.C_below R1.out B.out)
   have TT := Aside0.mk (spec_DrawTextIn.calls A1 c1 l1 wc HB1.out RR1.out HC1.out)
   clear RR1
   go_wp2_with (go_at_call 53; refine TT.out.mono ?_)
   rintro e t1 u0 u1 k rfl ps hk fs hf hs1 hs2 hs3 hb
   have HSZ := Aside0.mk (And.intro hs1 (And.intro hs2 hs3))
   clear hs1 hs2 hs3 TT
   replace B := Aside0.mk (below_step B.out hb)
   clear hb
   obtain ⟨TA, tc, rfl⟩ := Kd.R_slice hk
   obtain ⟨TE, td, rfl⟩ := Kd.S_slice hf
   obtain ⟨T1, hT1⟩ : ∃ W, t1.alloc (.cells #[.slice TA ps.length tc, .slice TE fs.length td] 51 (0, 0)) = W := ⟨_, rfl⟩
   obtain ⟨hv, hb⟩ := VL.new (w := w) hk hf hT1
   have U := Aside0.mk hv
   clear hv hk hf
   replace B := Aside0.mk (below_step B.out hb)
   clear hb
   obtain ⟨⟨tx, tb⟩, ⟨K1, hS⟩, ⟨K2, hI⟩⟩ := text_both ps fs k (by have := HSZ.out; omega) (by have := HSZ.out; omega) (fun x hx => by have := HSZ.out.2.2 x hx; omega)
   have EI := Aside0.mk (hI K2 (Nat.le_refl _))
   have ES := Aside0.mk (hS K1 (Nat.le_refl _))
   clear hS hI
   have dU_0 : T1.cell? ⟨t1.heap.size, 0, none⟩ = some (.slice TA ps.length tc) := (blk_cell U.out.z 0).trans rfl
   have dU_1 : T1.cell? ⟨t1.heap.size, 1, none⟩ = some (.slice TE fs.length td) := (blk_cell U.out.z 1).trans rfl
   have TT := Aside0.mk (impl_TextIn.calls K2 TA tc ps TE td fs k tx tb T1 U.out.r0 U.out.h0 U.out.r1 U.out.h1 EI.out)
   go_wp2_with (go_at_call 39; refine TT.out.mono ?_)
   (first | rintro e w101 rfl hb | rintro e w101 ⟨rfl, hb⟩)
   clear TT
   clear dU_0 dU_1
   replace U := Aside0.mk (U.out.below hb)
   replace B := Aside0.mk (below_step B.out hb)
   clear hb
   clear hT1
   have dU_0 : w101.cell? ⟨t1.heap.size, 0, none⟩ = some (.slice TA ps.length tc) := (blk_cell U.out.z 0).trans rfl
   have dU_1 : w101.cell? ⟨t1.heap.size, 1, none⟩ = some (.slice TE fs.length td) := (blk_cell U.out.z 1).trans rfl
   have TT := Aside0.mk (spec_TextIn.calls K1 TA tc ps TE td fs k tx tb w101 U.out.r0 U.out.h0 U.out.r1 U.out.h1 ES.out)
   go_wp2_with (go_at_call 38; refine TT.out.mono ?_)
   (first | rintro e w102 rfl hb | rintro e w102 ⟨rfl, hb⟩)
   clear TT
   clear dU_0 dU_1
   replace U := Aside0.mk (U.out.below hb)
   replace B := Aside0.mk (below_step B.out hb)
   clear hb
   have q1 : (tb == tb) = true := beq_self_eq_true tb
   clear EI ES U HSZ
   go_wp2
   go_ret
   exact ⟨rfl, B.out⟩
end Go.Proofs.Ytjepecinpgjgdaa.PVau
