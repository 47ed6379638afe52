import Derived.Test.YtacfalpgmibfnaaFSha4
namespace Go.Proofs.Ytacfalpgmibfnaa.PCow
open Go.RowKit Go.Proofs.YtacfalpgmibfnaaW.PrintWords Go.Proofs.YtacfalpgmibfnaaW.PrintLast Go.Proofs.YtacfalpgmibfnaaW.PrintMore Go.Proofs.Ytacfalpgmibfnaa.E
set_option linter.unusedSimpArgs false
set_option linter.unusedVariables false
theorem sz2 (m : Nat) : spec_l14Size.f (m + 10) 2 = some 4 := by
 unfold spec_l14Size.f
 rw [spec_l14Size.l0.eq_2, if_pos (by omega), show wrap64 (2 - 1) = 1 by decide +kernel, show wrap64 (1 * 4) = 4 by decide +kernel, spec_l14Size.l0.eq_2, if_neg (by omega)]
theorem sz3 (m : Nat) : spec_l14Size.f (m + 10) 3 = some 16 := by
 unfold spec_l14Size.f
 rw [spec_l14Size.l0.eq_2, if_pos (by omega), show wrap64 (3 - 1) = 2 by decide +kernel, show wrap64 (1 * 4) = 4 by decide +kernel, spec_l14Size.l0.eq_2, if_pos (by omega), show wrap64 (2 - 1) = 1 by decide +kernel, show wrap64 (4 * 4) = 16 by decide +kernel, spec_l14Size.l0.eq_2, if_neg (by omega)]
theorem digs2 (m : Nat) (dg : Nat → Int) (a : Int) (h0 : 0 ≤ a) (h1 : a < 4) (h : dg 2 = a) : DigS (m + 10) dg 2 a :=
 ⟨4, 1, sz2 m, by decide +kernel, by omega, by rw [tdiv_pos (by omega), Int.ediv_one, w64 (by omega) (by omega)]; exact h.symm, trivial⟩
theorem digs (k : Nat) (L a : Int) (hk : 10 ≤ k) (h1 : 1 ≤ L) (h3 : L ≤ 3) (h0 : 0 ≤ a) (hp : a < plc L) : DigS k (dgI a) L.toNat a := by
 obtain ⟨m, rfl⟩ : ∃ m, k = m + 10 := ⟨k - 10, by omega⟩
 obtain rfl | rfl | rfl : L = 1 ∨ L = 2 ∨ L = 3 := by omega
 ·exact trivial
 ·have hp' : a < 4 := by simpa [plc] using hp
  refine digs2 m _ a h0 hp' ?_
  unfold dgI
  rw [show ((2 : Nat) : Int) = 2 by rfl, digit_2 a h0 (by omega)]
  show a % 4 = a
  omega
 ·have hp' : a < 16 := by simpa [plc] using hp
  have e2 : dgI a 2 = a % 4 := by
   unfold dgI
   rw [show ((2 : Nat) : Int) = 2 by rfl, digit_2 a h0 (by omega)]
   rfl
  have e3 : dgI a 3 = a / 4 := by
   unfold dgI
   rw [show ((3 : Nat) : Int) = 3 by rfl, digit_3 a h0 (by omega)]
   rfl
  refine ⟨16, 4, sz3 m, by decide +kernel, by omega, ?_, ?_⟩
  ·rw [tdiv_pos (by omega), w64 (by omega) (by omega)]
   exact e3.symm
  ·have et : Int.tmod a 4 = a % 4 := Int.tmod_eq_emod_of_nonneg h0
   rw [et]
   exact digs2 m _ (a % 4) (by omega) (by omega) e2
def putSd (K : Nat) (C : List CL) (R : List Int) (L root at_ : Int) (leaf : ByteArray) (o : List CL × List Int × Int) : Option (List CL × List Int × Int × Bool) :=
 if root < (o.2.1.length : Int) then ((putM (dgI at_) leaf L.toNat o.1 (rd R root)).bind fun q => (spec_GoodCow.f K q.1 (o.2.1.set root.toNat q.2) o.2.2).bind fun g => if g = true then some (q.1, o.2.1.set root.toNat q.2, o.2.2, true) else some ([], [], 0, false)) else none
def putSp (K : Nat) (C : List CL) (R : List Int) (L root at_ : Int) (leaf : ByteArray) : Option (List CL × List Int × Int × Bool) :=
 if 0 ≤ root ∧ root < (R.length : Int) then ((spec_l14Leaf.f K C R L (rd R root) at_).bind fun lf => if lf = leaf then ((spec_l14Own.f K C R L).bind fun o => some (o.1, o.2.1, o.2.2, true)) else (if 10 ≤ K ∧ 1 ≤ L ∧ L ≤ 3 ∧ 0 ≤ at_ ∧ at_ < plc L then ((spec_l14Own.f K C R L).bind fun o => putSd K C R L root at_ leaf o) else none)) else none
def spec_PutLeaf.f (K : Nat) (C : List CL) (R : List Int) (L root at_ : Int) (leaf : ByteArray) : Option (List CL × List Int × Int × Bool) :=
 (spec_GoodCow.f K C R L).bind fun b => if b = true then ((spec_l1In.f root 0 (wrap64 ((R.length : Int) - 1))).bind fun t => if t = true then ((spec_l14Places.f K C R L).bind fun p => (spec_l1In.f at_ 0 (wrap64 (p - 1))).bind fun t2 => if t2 = true then (if (leaf.size : Int) > 8 then some ([], [], 0, false) else putSp K C R L root at_ leaf) else some ([], [], 0, false)) else some ([], [], 0, false)) else some ([], [], 0, false)
set_option maxHeartbeats 16000000 in
set_option maxRecDepth 100000 in
theorem spec_PutLeaf.calls (k_ : Nat) (A0 : Option Addr) (c0 : Nat) (C : List CL) (A1 : Option Addr) (c1 : Nat) (R : List Int) (L root at_ : Int) (leaf : ByteArray) (r1 : List CL) (r2 : List Int) (r3 : Int) (r4 : Bool) (w : World) (hr0 : Kd.C k68 w A0 C.length C) (hc0 : C.length ≤ c0) (hr1 : Kd.C (Kd.int .i64) w A1 R.length R) (hc1 : R.length ≤ c1) (h : spec_PutLeaf.f k_ C R L root at_ leaf = some (r1, r2, r3, r4)) :
  Calls Try.prog 38 #[.agg #[.slice A0 C.length c0, .slice A1 R.length c1, .int .i64 L], .int .i64 root, .int .i64 at_, .string leaf] w fun e w' => ∃ v0_ v1_ : Value, e = .returned (.tuple #[.agg #[v0_, v1_, .int .i64 r3], .bool r4]) ∧ Kd.S k68 68 w' w.heap.size (fun k_ => some k_ ≠ (v1_ : Value).ownBlock) v0_ r1 ∧ Kd.R (Kd.int .i64) 3 w' w.heap.size (fun _ => True) v1_ r2 ∧ Below w.heap.size w w' := by
 have hu25 := Try.underlying25
 have hu68 := Try.underlying68
 have hu22 := Try.underlying22
 have HR0 := Aside0.mk hr0
 have HR1 := Aside0.mk hr1
 have HC0 := Aside0.mk hc0
 have HC1 := Aside0.mk hc1
 have hl : R.length ≤ 9223372036854775807 := hr1.2.1
 have hlc : C.length ≤ 9223372036854775807 := hr0.2.1
 clear hr0 hr1 hc0 hc1
 obtain ⟨b, hb, h⟩ := Option.bind_eq_some_iff.1 h
 have HBB := Aside0.mk hb
 clear hb
 obtain ⟨W1, hW1⟩ : ∃ W, w.alloc (.cells #[.slice A0 C.length c0, .slice A1 R.length c1, .int .i64 L] 25) = W := ⟨_, rfl⟩
 obtain ⟨W2, hW2⟩ : ∃ W, W1.alloc (.cells #[.slice none 0 0, .slice none 0 0, .int .i64 0] 25) = W := ⟨_, rfl⟩
 have hb1 : Below w.heap.size w W1 := by rw [← hW1]; exact below_alloc (Below.refl _ _) _
 have hb2 : Below W1.heap.size W1 W2 := by rw [← hW2]; exact below_alloc (Below.refl _ _) _
 have X1 : W1.heap[w.heap.size]? = some (.cells #[.slice A0 C.length c0, .slice A1 R.length c1, .int .i64 L] 25 (0, 0)) := by rw [← hW1]; exact heap_alloc_new w _
 have Z1 : W2.heap[W1.heap.size]? = some (.cells #[.slice none 0 0, .slice none 0 0, .int .i64 0] 25 (0, 0)) := by rw [← hW2]; exact heap_alloc_new W1 _
 have B2 := Aside0.mk (below_step hb1 hb2)
 have X2 := Aside0.mk (blk_below X1 hb2)
 have Z2 := Aside0.mk Z1
 have ZG := Aside0.mk (show w.heap.size ≤ W1.heap.size from hb1.size)
 have ZN := Aside0.mk (show w.heap.size ≠ W1.heap.size by have := blk_lt X1; omega)
 clear hb1 hb2 X1 Z1
 have d0 : W2.cell? ⟨w.heap.size, 0, none⟩ = some (.slice A0 C.length c0) := (blk_cell X2.out 0).trans rfl
 have d1 : W2.cell? ⟨w.heap.size, 1, none⟩ = some (.slice A1 R.length c1) := (blk_cell X2.out 1).trans rfl
 have d2 : W2.cell? ⟨w.heap.size, 2, none⟩ = some (.int .i64 L) := (blk_cell X2.out 2).trans rfl
 have TT := Aside0.mk (spec_GoodCow.calls k_ A0 c0 C A1 c1 R L b W2 (Kd.C_below HR0.out B2.out) HC0.out (Kd.C_below HR1.out B2.out) HC1.out HBB.out)
 have HH := Aside0.mk h
 clear h
 go_enter Try.func38, Try.ntmps38
 go_wp2_with (go_at_call 20; refine TT.out.mono ?_)
 (first | rintro e w3 rfl hb | rintro e w3 ⟨rfl, hb⟩)
 clear TT hW1 d0 d1 d2
 generalize hgz : W1.heap.size = gz at *
 clear hgz hW2
 have B3 := Aside0.mk (below_step B2.out hb)
 have X3 := Aside0.mk (blk_below X2.out hb)
 have Z3 := Aside0.mk (blk_below Z2.out hb)
 clear B2 X2 Z2 hb
 have d0 : w3.cell? ⟨w.heap.size, 0, none⟩ = some (.slice A0 C.length c0) := (blk_cell X3.out 0).trans rfl
 have d1 : w3.cell? ⟨w.heap.size, 1, none⟩ = some (.slice A1 R.length c1) := (blk_cell X3.out 1).trans rfl
 have d2 : w3.cell? ⟨w.heap.size, 2, none⟩ = some (.int .i64 L) := (blk_cell X3.out 2).trans rfl
 have z0 : w3.cell? ⟨gz, 0, none⟩ = some (.slice none 0 0) := (blk_cell Z3.out 0).trans rfl
 have z1 : w3.cell? ⟨gz, 1, none⟩ = some (.slice none 0 0) := (blk_cell Z3.out 1).trans rfl
 have z2 : w3.cell? ⟨gz, 2, none⟩ = some (.int .i64 0) := (blk_cell Z3.out 2).trans rfl
 have y0 := blk_frozen Z3.out 0
 have y1 := blk_frozen Z3.out 1
 have y2 := blk_frozen Z3.out 2
 cases b with
 | false =>
  have h : some (([] : List CL), ([] : List Int), (0 : Int), false) = some (r1, r2, r3, r4) := HH.out
  simp only [Option.some.injEq, Prod.mk.injEq] at h
  obtain ⟨rfl, rfl, rfl, rfl⟩ := h
  go_wp2
  refine bodyPost_ret (results_ct rfl _ _ gz 25 #[.slice none 0 0, .slice none 0 0, .int .i64 0] (0, 0) _ rfl (put3 Z3.out _ _ _) Try.underlying25 rfl (by kernel_rfl)) rfl ?_
  exact ⟨_, _, rfl, Kd.S_nil _ _ _ _ _, Kd.R_nil _ _ _ _ _, below_set (below_set (below_set B3.out ZG.out) ZG.out) ZG.out⟩
 | true =>
  have h : ((spec_l1In.f root 0 (wrap64 ((R.length : Int) - 1))).bind fun t => if t = true then ((spec_l14Places.f k_ C R L).bind fun p => (spec_l1In.f at_ 0 (wrap64 (p - 1))).bind fun t2 => if t2 = true then (if (leaf.size : Int) > 8 then some (([] : List CL), ([] : List Int), (0 : Int), false) else putSp k_ C R L root at_ leaf) else some (([] : List CL), ([] : List Int), (0 : Int), false)) else some (([] : List CL), ([] : List Int), (0 : Int), false)) = some (r1, r2, r3, r4) := HH.out
  obtain ⟨t, ht, h⟩ := Option.bind_eq_some_iff.1 h
  rw [w64 (x := (R.length : Int) - 1) (by omega) (by omega)] at ht
  have TT := Aside0.mk (spec_l1In.calls root 0 ((R.length : Int) - 1) t w3 ht)
  replace HH := Aside0.mk h
  clear h ht
  go_wp2_with (go_at_call 44; refine TT.out.mono ?_)
  (first | rintro e w4 rfl hd | rintro e w4 ⟨rfl, hd⟩)
  have hb := hd.below
  have B4 := Aside0.mk (below_step B3.out hb)
  have X4 := Aside0.mk (blk_below X3.out hb)
  have Z4 := Aside0.mk (blk_below Z3.out hb)
  clear TT hd hb d0 d1 d2 z0 z1 z2 y0 y1 y2 B3 X3 Z3
  have d0 : w4.cell? ⟨w.heap.size, 0, none⟩ = some (.slice A0 C.length c0) := (blk_cell X4.out 0).trans rfl
  have d1 : w4.cell? ⟨w.heap.size, 1, none⟩ = some (.slice A1 R.length c1) := (blk_cell X4.out 1).trans rfl
  have d2 : w4.cell? ⟨w.heap.size, 2, none⟩ = some (.int .i64 L) := (blk_cell X4.out 2).trans rfl
  have z0 : w4.cell? ⟨gz, 0, none⟩ = some (.slice none 0 0) := (blk_cell Z4.out 0).trans rfl
  have z1 : w4.cell? ⟨gz, 1, none⟩ = some (.slice none 0 0) := (blk_cell Z4.out 1).trans rfl
  have z2 : w4.cell? ⟨gz, 2, none⟩ = some (.int .i64 0) := (blk_cell Z4.out 2).trans rfl
  have y0 := blk_frozen Z4.out 0
  have y1 := blk_frozen Z4.out 1
  have y2 := blk_frozen Z4.out 2
  cases t with
  | false =>
   have h : some (([] : List CL), ([] : List Int), (0 : Int), false) = some (r1, r2, r3, r4) := HH.out
   simp only [Option.some.injEq, Prod.mk.injEq] at h
   obtain ⟨rfl, rfl, rfl, rfl⟩ := h
   go_wp2
   refine bodyPost_ret (results_ct rfl _ _ gz 25 #[.slice none 0 0, .slice none 0 0, .int .i64 0] (0, 0) _ rfl (put3 Z4.out _ _ _) Try.underlying25 rfl (by kernel_rfl)) rfl ?_
   exact ⟨_, _, rfl, Kd.S_nil _ _ _ _ _, Kd.R_nil _ _ _ _ _, below_set (below_set (below_set B4.out ZG.out) ZG.out) ZG.out⟩
  | true =>
   have h : ((spec_l14Places.f k_ C R L).bind fun p => (spec_l1In.f at_ 0 (wrap64 (p - 1))).bind fun t2 => if t2 = true then (if (leaf.size : Int) > 8 then some (([] : List CL), ([] : List Int), (0 : Int), false) else putSp k_ C R L root at_ leaf) else some (([] : List CL), ([] : List Int), (0 : Int), false)) = some (r1, r2, r3, r4) := HH.out
   obtain ⟨p, hp, h⟩ := Option.bind_eq_some_iff.1 h
   obtain ⟨t2, ht, h⟩ := Option.bind_eq_some_iff.1 h
   have TT := Aside0.mk (spec_l14Places.calls k_ A0 c0 C A1 c1 R L p w4 (Kd.C_below HR0.out B4.out) HC0.out (Kd.C_below HR1.out B4.out) HC1.out hp)
   replace HH := Aside0.mk h
   have HT := Aside0.mk ht
   clear h hp ht
   go_wp2_with (go_at_call 61; refine TT.out.mono ?_)
   (first | rintro e w5 rfl hb | rintro e w5 ⟨rfl, hb⟩)
   have B5 := Aside0.mk (below_step B4.out hb)
   have X5 := Aside0.mk (blk_below X4.out hb)
   have Z5 := Aside0.mk (blk_below Z4.out hb)
   clear TT hb d0 d1 d2 z0 z1 z2 y0 y1 y2 B4 X4 Z4
   have TT := Aside0.mk (spec_l1In.calls at_ 0 (wrap64 (p - 1)) t2 w5 HT.out)
   go_wp2_with (go_at_call 44; refine TT.out.mono ?_)
   (first | rintro e w6 rfl hd | rintro e w6 ⟨rfl, hd⟩)
   have hb := hd.below
   have B6 := Aside0.mk (below_step B5.out hb)
   have X6 := Aside0.mk (blk_below X5.out hb)
   have Z6 := Aside0.mk (blk_below Z5.out hb)
   clear TT hb hd HT B5 X5 Z5
   have d0 : w6.cell? ⟨w.heap.size, 0, none⟩ = some (.slice A0 C.length c0) := (blk_cell X6.out 0).trans rfl
   have d1 : w6.cell? ⟨w.heap.size, 1, none⟩ = some (.slice A1 R.length c1) := (blk_cell X6.out 1).trans rfl
   have d2 : w6.cell? ⟨w.heap.size, 2, none⟩ = some (.int .i64 L) := (blk_cell X6.out 2).trans rfl
   have z0 : w6.cell? ⟨gz, 0, none⟩ = some (.slice none 0 0) := (blk_cell Z6.out 0).trans rfl
   have z1 : w6.cell? ⟨gz, 1, none⟩ = some (.slice none 0 0) := (blk_cell Z6.out 1).trans rfl
   have z2 : w6.cell? ⟨gz, 2, none⟩ = some (.int .i64 0) := (blk_cell Z6.out 2).trans rfl
   have y0 := blk_frozen Z6.out 0
   have y1 := blk_frozen Z6.out 1
   have y2 := blk_frozen Z6.out 2
   cases t2 with
   | false =>
    have h : some (([] : List CL), ([] : List Int), (0 : Int), false) = some (r1, r2, r3, r4) := HH.out
    simp only [Option.some.injEq, Prod.mk.injEq] at h
    obtain ⟨rfl, rfl, rfl, rfl⟩ := h
    go_wp2
    refine bodyPost_ret (results_ct rfl _ _ gz 25 #[.slice none 0 0, .slice none 0 0, .int .i64 0] (0, 0) _ rfl (put3 Z6.out _ _ _) Try.underlying25 rfl (by kernel_rfl)) rfl ?_
    exact ⟨_, _, rfl, Kd.S_nil _ _ _ _ _, Kd.R_nil _ _ _ _ _, below_set (below_set (below_set B6.out ZG.out) ZG.out) ZG.out⟩
   | true =>
    have h : (if (leaf.size : Int) > 8 then some (([] : List CL), ([] : List Int), (0 : Int), false) else putSp k_ C R L root at_ leaf) = some (r1, r2, r3, r4) := HH.out
    by_cases h8 : (leaf.size : Int) > 8
    ·rw [if_pos h8] at h
     have q1 : ((leaf.size : Int) > 8) = True := eq_true h8
     have q2 : (8 < (leaf.size : Int)) = True := eq_true h8
     have q3 : (8 < leaf.size) = True := eq_true (by omega)
     clear h8 HH
     simp only [Option.some.injEq, Prod.mk.injEq] at h
     obtain ⟨rfl, rfl, rfl, rfl⟩ := h
     go_wp2
     refine bodyPost_ret (results_ct rfl _ _ gz 25 #[.slice none 0 0, .slice none 0 0, .int .i64 0] (0, 0) _ rfl (put3 Z6.out _ _ _) Try.underlying25 rfl (by kernel_rfl)) rfl ?_
     exact ⟨_, _, rfl, Kd.S_nil _ _ _ _ _, Kd.R_nil _ _ _ _ _, below_set (below_set (below_set B6.out ZG.out) ZG.out) ZG.out⟩
    ·rw [if_neg h8] at h
     have q1 : ((leaf.size : Int) > 8) = False := eq_false h8
     have q2 : (8 < (leaf.size : Int)) = False := eq_false h8
     have q3 : (8 < leaf.size) = False := eq_false (by omega)
     clear h8 HH
     unfold putSp at h
     split at h
     ·rename_i hrt
      obtain ⟨lf, hlf, h⟩ := Option.bind_eq_some_iff.1 h
      have HLF := Aside0.mk hlf
      have HH := Aside0.mk h
      obtain ⟨ri, hri⟩ : ∃ ri : Nat, root = (ri : Int) := ⟨root.toNat, by omega⟩
      subst hri
      have HRT := Aside0.mk (show ri < R.length by omega)
      obtain ⟨k, hk⟩ : ∃ k, rd R (ri : Int) = k := ⟨_, rfl⟩
      rw [hk] at HLF
      obtain ⟨ad, e5, hx⟩ := Kd.at_int (Kd.C_below HR1.out B6.out) (ri : Int) (by omega) (by omega)
      subst e5
      have HIX := Aside0.mk (show ∀ W, Below w.heap.size w W → W.cell? (ad.add ri) = some (.int .i64 k) from fun W hW => by
       obtain ⟨ad', e', hx'⟩ := Kd.at_int (Kd.C_below HR1.out hW) (ri : Int) (by omega) (by have := HRT.out; omega)
       cases e'
       rw [hk, Int.toNat_natCast] at hx'
       exact hx')
      have HKK := Aside0.mk hk
      have p1 : (0 ≤ (ri : Int)) = True := eq_true (by omega)
      have p2 : ((ri : Int) < (R.length : Int)) = True := eq_true (by omega)
      clear hlf h hrt hk hx
      go_wp2
      clear d0 d1 d2 z0 z1 z2 y0 y1 y2
      refine start_ (n := 10) (S := fun w' => w'.cell? ⟨w.heap.size, 0, none⟩ = some (.slice A0 C.length c0) ∧ w'.cell? ⟨w.heap.size, 1, none⟩ = some (.slice (some ad) R.length c1) ∧ w'.cell? ⟨w.heap.size, 2, none⟩ = some (.int .i64 L) ∧ w'.cell? (ad.add ri) = some (.int .i64 k)) (ds := []) #[false, false, false, false, false, false, false, false, false, false] (by kernel_rfl) rfl rfl ⟨(blk_cell X6.out 0).trans rfl, (blk_cell X6.out 1).trans rfl, (blk_cell X6.out 2).trans rfl, HIX.out w6 B6.out⟩ (fun hHeld => ?_)
      replace B6 := Aside0.mk (below_drew1 B6.out)
      replace X6 := Aside0.mk (blk_drew X6.out)
      replace Z6 := Aside0.mk (blk_drew Z6.out)
      generalize w6.drew = w7 at B6 X6 Z6 hHeld ⊢
      refine take_ (i := 0) (N := some 38) (v := ?_) (a' := ?_) #[true, false, false, false, false, false, false, false, false, false] rfl rfl (by kernel_rfl) (fun _ _ _ h => h) (Or.inl ⟨by rfl, ?_⟩) hHeld ?_ ?_
      rotate_left
      ·rintro w' ⟨s0, s1, s2, s3⟩
       go_simp
       with_reducible rfl
      rotate_left
      ·simp only [Act.put, List.setIfInBounds_toArray, List.set_cons_zero, List.set_cons_succ, i64_w, i32_w]
       rfl
      refine take_ (i := 1) (N := some 39) (v := ?_) (a' := ?_) #[true, true, false, false, false, false, false, false, false, false] rfl rfl (by kernel_rfl) (fun _ _ _ h => h) (Or.inl ⟨by rfl, ?_⟩) hHeld ?_ ?_
      rotate_left
      ·rintro w' ⟨s0, s1, s2, s3⟩
       go_simp
       with_reducible rfl
      rotate_left
      ·simp only [Act.put, List.setIfInBounds_toArray, List.set_cons_zero, List.set_cons_succ, i64_w, i32_w]
       rfl
      refine take_ (i := 2) (N := some 40) (v := ?_) (a' := ?_) #[true, true, true, false, false, false, false, false, false, false] rfl rfl (by kernel_rfl) (fun _ _ _ h => h) (Or.inl ⟨by rfl, ?_⟩) hHeld ?_ ?_
      rotate_left
      ·rintro w' ⟨s0, s1, s2, s3⟩
       go_simp
       with_reducible rfl
      rotate_left
      ·simp only [Act.put, List.setIfInBounds_toArray, List.set_cons_zero, List.set_cons_succ, i64_w, i32_w]
       rfl
      refine take_ (i := 3) (N := some 41) (v := ?_) (a' := ?_) #[true, true, true, true, false, false, false, false, false, false] rfl rfl (by kernel_rfl) (fun _ _ _ h => h) (Or.inl ⟨by rfl, ?_⟩) hHeld ?_ ?_
      rotate_left
      ·rintro w' ⟨s0, s1, s2, s3⟩
       go_simp
       with_reducible rfl
      rotate_left
      ·simp only [Act.put, List.setIfInBounds_toArray, List.set_cons_zero, List.set_cons_succ, i64_w, i32_w]
       rfl
      refine take_ (i := 4) (N := some 42) (v := ?_) (a' := ?_) #[true, true, true, true, true, false, false, false, false, false] rfl rfl (by kernel_rfl) (fun _ _ _ h => h) (Or.inl ⟨by rfl, ?_⟩) hHeld ?_ ?_
      rotate_left
      ·rintro w' ⟨s0, s1, s2, s3⟩
       go_simp
       with_reducible rfl
      rotate_left
      ·simp only [Act.put, List.setIfInBounds_toArray, List.set_cons_zero, List.set_cons_succ, i64_w, i32_w]
       rfl
      refine take_ (i := 5) (N := some 43) (v := ?_) (a' := ?_) #[true, true, true, true, true, true, false, false, false, false] rfl rfl (by kernel_rfl) (fun _ _ _ h => h) (Or.inl ⟨by rfl, ?_⟩) hHeld ?_ ?_
      rotate_left
      ·rintro w' ⟨s0, s1, s2, s3⟩
       go_simp
       with_reducible rfl
      rotate_left
      ·simp only [Act.put, List.setIfInBounds_toArray, List.set_cons_zero, List.set_cons_succ, i64_w, i32_w]
       rfl
      refine take_ (i := 6) (N := some 44) (v := ?_) (a' := ?_) #[true, true, true, true, true, true, true, false, false, false] rfl rfl (by kernel_rfl) (fun _ _ _ h => h) (Or.inl ⟨by rfl, ?_⟩) hHeld ?_ ?_
      rotate_left
      ·rintro w' ⟨s0, s1, s2, s3⟩
       go_simp
       with_reducible rfl
      rotate_left
      ·simp only [Act.put, List.setIfInBounds_toArray, List.set_cons_zero, List.set_cons_succ, i64_w, i32_w]
       rfl
      refine take_ (i := 8) (N := some 46) (v := ?_) (a' := ?_) #[true, true, true, true, true, true, true, false, true, false] rfl rfl (by kernel_rfl) (fun _ _ _ h => h) (Or.inl ⟨by rfl, ?_⟩) hHeld ?_ ?_
      rotate_left
      ·rintro w' ⟨s0, s1, s2, s3⟩
       go_simp
       with_reducible rfl
      rotate_left
      ·simp only [Act.put, List.setIfInBounds_toArray, List.set_cons_zero, List.set_cons_succ, i64_w, i32_w]
       rfl
      refine one_ (i := 7) (N := some 45) #[true, true, true, true, true, true, true, true, true, false] rfl rfl (by kernel_rfl) (by decide) (fun K hK => ?_)
      refine goes_ Try.func62 (by kernel_rfl) rfl #[.agg #[.slice A0 C.length c0, .slice (some ad) R.length c1, .int .i64 L], .int .i64 k, .int .i64 at_] (by rfl) rfl rfl (by (try simp only [List.map_toArray, List.map_cons, List.map_nil]); first | done | rfl | (simp only [List.length_drop, List.length_take]; rfl)) ?_
      refine (spec_l14Leaf.calls k_ A0 c0 C (some ad) c1 R L k at_ lf w7 (Kd.C_below HR0.out B6.out) HC0.out (Kd.C_below HR1.out B6.out) HC1.out HLF.out).mono ?_
      (first | rintro e w8 rfl hb | rintro e w8 ⟨rfl, hb⟩)
      refine ⟨_, rfl, ?_⟩
      have B8 := Aside0.mk (below_step B6.out hb)
      have X8 := Aside0.mk (blk_below X6.out hb)
      have Z8 := Aside0.mk (blk_below Z6.out hb)
      clear hb B6 X6 Z6
      refine hK.out _ _ ⟨(blk_cell X8.out 0).trans rfl, (blk_cell X8.out 1).trans rfl, (blk_cell X8.out 2).trans rfl, HIX.out w8 B8.out⟩ (fun hHeld => ?_)
      clear hK K
      refine norm_ (a' := ?_) ?_ ?_
      rotate_left
      ·show Act.put _ (some 45) _ = _
       simp only [Act.put, List.setIfInBounds_toArray, List.set_cons_zero, List.set_cons_succ, i64_w, i32_w]
       rfl
      have h := HH.out
      by_cases hle : lf = leaf
      ·rw [if_pos hle] at h
       obtain ⟨⟨C1, R1, L1⟩, ho, h⟩ := Option.bind_eq_some_iff.1 h
       simp only [Option.some.injEq, Prod.mk.injEq] at h
       obtain ⟨rfl, rfl, rfl, rfl⟩ := h
       subst hle
       have n1 : (lf.toList == lf.toList) = true := by simp
       have TT := Aside0.mk (spec_l14Own.calls k_ A0 c0 C (some ad) c1 R L C1 R1 L1 w8 (Kd.C_below HR0.out B8.out) HC0.out (Kd.C_below HR1.out B8.out) HC1.out ho)
       clear ho HH
       refine pure_ (i := 9) (N := some 47) (v := ?_) (a' := ?_) #[true, true, true, true, true, true, true, true, true, true] rfl rfl (by kernel_rfl) (fun _ _ _ h => h) (Or.inl ⟨by rfl, ?_⟩) ?_ ?_
       rotate_left
       ·intro w'
        go_simp
        with_reducible rfl
       rotate_left
       ·simp only [Act.put, List.setIfInBounds_toArray, List.set_cons_zero, List.set_cons_succ, i64_w, i32_w, n1]
        rfl
       refine done_ (by kernel_rfl) ?_
       clear hHeld
       have d0 : w8.cell? ⟨w.heap.size, 0, none⟩ = some (.slice A0 C.length c0) := (blk_cell X8.out 0).trans rfl
       have d1 : w8.cell? ⟨w.heap.size, 1, none⟩ = some (.slice (some ad) R.length c1) := (blk_cell X8.out 1).trans rfl
       have d2 : w8.cell? ⟨w.heap.size, 2, none⟩ = some (.int .i64 L) := (blk_cell X8.out 2).trans rfl
       have z0 : w8.cell? ⟨gz, 0, none⟩ = some (.slice none 0 0) := (blk_cell Z8.out 0).trans rfl
       have z1 : w8.cell? ⟨gz, 1, none⟩ = some (.slice none 0 0) := (blk_cell Z8.out 1).trans rfl
       have z2 : w8.cell? ⟨gz, 2, none⟩ = some (.int .i64 0) := (blk_cell Z8.out 2).trans rfl
       have y0 := blk_frozen Z8.out 0
       have y1 := blk_frozen Z8.out 1
       have y2 := blk_frozen Z8.out 2
       go_wp2_with (go_at_call 69; refine TT.out.mono ?_; (first | rintro e w9 v0 v1 rfl hs hr hb | rintro e w9 ⟨v0, v1, rfl, hs, hr, hb⟩); (obtain ⟨A5, c5, rfl⟩ := Kd.S_slice hs); (obtain ⟨A6, c6, rfl⟩ := Kd.R_slice hr); (have B9 := Aside0.mk (below_step B8.out hb)); (have Z9 := Aside0.mk (blk_below Z8.out hb)); (have S9 := Aside0.mk (Kd.S_lower hs B8.out.size)); (have R9 := Aside0.mk (Kd.R_lower hr B8.out.size)); clear hs hr hb z0 z1 z2 y0 y1 y2; (have z0 : w9.cell? ⟨gz, 0, none⟩ = some (.slice none 0 0) := (blk_cell Z9.out 0).trans rfl); (have z1 : w9.cell? ⟨gz, 1, none⟩ = some (.slice none 0 0) := (blk_cell Z9.out 1).trans rfl); (have z2 : w9.cell? ⟨gz, 2, none⟩ = some (.int .i64 0) := (blk_cell Z9.out 2).trans rfl); (have y0 := blk_frozen Z9.out 0); (have y1 := blk_frozen Z9.out 1); (have y2 := blk_frozen Z9.out 2))
       refine bodyPost_ret (results_ct rfl _ _ gz 25 #[.slice A5 C1.length c5, .slice A6 R1.length c6, .int .i64 L1] (0, 0) _ rfl (put3 Z9.out _ _ _) Try.underlying25 rfl (by kernel_rfl)) rfl ?_
       obtain ⟨r1_, r2_, r3_⟩ := ret_cow (x := .slice A5 C1.length c5) (y := .slice A6 R1.length c6) (z := .int .i64 L1) Z9.out ZG.out S9.out (fun k_ h_ => h_) R9.out B9.out
       exact ⟨_, _, rfl, r1_, r2_, r3_⟩
      ·rw [if_neg hle] at h
       have n0 : lf.toList ≠ leaf.toList := fun e_ => hle (ba_eq.1 e_)
       have n1 : (lf.toList == leaf.toList) = false := beq_eq_false_iff_ne.2 n0
       have n2 : (lf.toList = leaf.toList) = False := eq_false n0
       refine pure_ (i := 9) (N := some 47) (v := ?_) (a' := ?_) #[true, true, true, true, true, true, true, true, true, true] rfl rfl (by kernel_rfl) (fun _ _ _ h => h) (Or.inl ⟨by rfl, ?_⟩) ?_ ?_
       rotate_left
       ·intro w'
        go_simp
        with_reducible rfl
       rotate_left
       ·simp only [Act.put, List.setIfInBounds_toArray, List.set_cons_zero, List.set_cons_succ, i64_w, i32_w, n1]
        rfl
       refine done_ (by kernel_rfl) ?_
       clear hHeld
       clear hle n0
       split at h
       ·rename_i hcd
        have DIG := Aside0.mk (digs k_ L at_ hcd.1 hcd.2.1 hcd.2.2.1 hcd.2.2.2.1 hcd.2.2.2.2)
        have LL := Aside0.mk (show L = ((L.toNat : Nat) : Int) ∧ L.toNat ≤ 1000 by omega)
        obtain ⟨⟨C1, R1, L1⟩, ho, h⟩ := Option.bind_eq_some_iff.1 h
        have HO := Aside0.mk ho
        unfold putSd at h
        simp only at h
        split at h
        ·rename_i hr1
         rw [HKK.out] at h
         obtain ⟨⟨C2, zq⟩, hq, h⟩ := Option.bind_eq_some_iff.1 h
         obtain ⟨g, hg, h⟩ := Option.bind_eq_some_iff.1 h
         simp only [Int.toNat_natCast] at hg h
         have HQ := Aside0.mk hq
         have HG := Aside0.mk hg
         replace HH := Aside0.mk h
         have HR1L := Aside0.mk (show ri < R1.length by omega)
         clear hcd ho hr1 hq hg h
         go_wp2
         refine start_ (n := 18) (S := fun w' => w'.cell? ⟨w.heap.size, 0, none⟩ = some (.slice A0 C.length c0) ∧ w'.cell? ⟨w.heap.size, 1, none⟩ = some (.slice (some ad) R.length c1) ∧ w'.cell? ⟨w.heap.size, 2, none⟩ = some (.int .i64 L) ∧ w'.cell? (ad.add ri) = some (.int .i64 k)) (ds := [16]) #[false, false, false, false, false, false, false, false, false, false, false, false, false, false, false, false, false, false] (by kernel_rfl) rfl rfl ⟨(blk_cell X8.out 0).trans rfl, (blk_cell X8.out 1).trans rfl, (blk_cell X8.out 2).trans rfl, HIX.out w8 B8.out⟩ (fun hHeld => ?_)
         replace B8 := Aside0.mk (below_drew1 B8.out)
         replace X8 := Aside0.mk (blk_drew X8.out)
         replace Z8 := Aside0.mk (blk_drew Z8.out)
         generalize w8.drew = wa at B8 X8 Z8 hHeld ⊢
         clear n1 n2
         refine take_ (i := 0) (N := some 51) (v := ?_) (a' := ?_) #[true, false, false, false, false, false, false, false, false, false, false, false, false, false, false, false, false, false] rfl rfl (by kernel_rfl) (fun _ _ _ h => h) (Or.inl ⟨by rfl, ?_⟩) hHeld ?_ ?_
         rotate_left
         ·rintro w' ⟨s0, s1, s2, s3⟩
          go_simp
          with_reducible rfl
         rotate_left
         ·simp only [Act.put, List.setIfInBounds_toArray, List.set_cons_zero, List.set_cons_succ, i64_w, i32_w]
          rfl
         refine take_ (i := 2) (N := some 53) (v := ?_) (a' := ?_) #[true, false, true, false, false, false, false, false, false, false, false, false, false, false, false, false, false, false] rfl rfl (by kernel_rfl) (fun _ _ _ h => h) (Or.inl ⟨by rfl, ?_⟩) hHeld ?_ ?_
         rotate_left
         ·rintro w' ⟨s0, s1, s2, s3⟩
          go_simp
          with_reducible rfl
         rotate_left
         ·simp only [Act.put, List.setIfInBounds_toArray, List.set_cons_zero, List.set_cons_succ, i64_w, i32_w]
          rfl
         refine take_ (i := 3) (N := some 54) (v := ?_) (a' := ?_) #[true, false, true, true, false, false, false, false, false, false, false, false, false, false, false, false, false, false] rfl rfl (by kernel_rfl) (fun _ _ _ h => h) (Or.inl ⟨by rfl, ?_⟩) hHeld ?_ ?_
         rotate_left
         ·rintro w' ⟨s0, s1, s2, s3⟩
          go_simp
          with_reducible rfl
         rotate_left
         ·simp only [Act.put, List.setIfInBounds_toArray, List.set_cons_zero, List.set_cons_succ, i64_w, i32_w]
          rfl
         refine take_ (i := 4) (N := some 55) (v := ?_) (a' := ?_) #[true, false, true, true, true, false, false, false, false, false, false, false, false, false, false, false, false, false] rfl rfl (by kernel_rfl) (fun _ _ _ h => h) (Or.inl ⟨by rfl, ?_⟩) hHeld ?_ ?_
         rotate_left
         ·rintro w' ⟨s0, s1, s2, s3⟩
          go_simp
          with_reducible rfl
         rotate_left
         ·simp only [Act.put, List.setIfInBounds_toArray, List.set_cons_zero, List.set_cons_succ, i64_w, i32_w]
          rfl
         refine take_ (i := 5) (N := some 56) (v := ?_) (a' := ?_) #[true, false, true, true, true, true, false, false, false, false, false, false, false, false, false, false, false, false] rfl rfl (by kernel_rfl) (fun _ _ _ h => h) (Or.inl ⟨by rfl, ?_⟩) hHeld ?_ ?_
         rotate_left
         ·rintro w' ⟨s0, s1, s2, s3⟩
          go_simp
          with_reducible rfl
         rotate_left
         ·simp only [Act.put, List.setIfInBounds_toArray, List.set_cons_zero, List.set_cons_succ, i64_w, i32_w]
          rfl
         refine take_ (i := 6) (N := some 57) (v := ?_) (a' := ?_) #[true, false, true, true, true, true, true, false, false, false, false, false, false, false, false, false, false, false] rfl rfl (by kernel_rfl) (fun _ _ _ h => h) (Or.inl ⟨by rfl, ?_⟩) hHeld ?_ ?_
         rotate_left
         ·rintro w' ⟨s0, s1, s2, s3⟩
          go_simp
          with_reducible rfl
         rotate_left
         ·simp only [Act.put, List.setIfInBounds_toArray, List.set_cons_zero, List.set_cons_succ, i64_w, i32_w]
          rfl
         refine take_ (i := 7) (N := some 58) (v := ?_) (a' := ?_) #[true, false, true, true, true, true, true, true, false, false, false, false, false, false, false, false, false, false] rfl rfl (by kernel_rfl) (fun _ _ _ h => h) (Or.inl ⟨by rfl, ?_⟩) hHeld ?_ ?_
         rotate_left
         ·rintro w' ⟨s0, s1, s2, s3⟩
          go_simp
          with_reducible rfl
         rotate_left
         ·simp only [Act.put, List.setIfInBounds_toArray, List.set_cons_zero, List.set_cons_succ, i64_w, i32_w]
          rfl
         refine take_ (i := 8) (N := some 59) (v := ?_) (a' := ?_) #[true, false, true, true, true, true, true, true, true, false, false, false, false, false, false, false, false, false] rfl rfl (by kernel_rfl) (fun _ _ _ h => h) (Or.inl ⟨by rfl, ?_⟩) hHeld ?_ ?_
         rotate_left
         ·rintro w' ⟨s0, s1, s2, s3⟩
          go_simp
          with_reducible rfl
         rotate_left
         ·simp only [Act.put, List.setIfInBounds_toArray, List.set_cons_zero, List.set_cons_succ, i64_w, i32_w]
          rfl
         refine take_ (i := 9) (N := some 60) (v := ?_) (a' := ?_) #[true, false, true, true, true, true, true, true, true, true, false, false, false, false, false, false, false, false] rfl rfl (by kernel_rfl) (fun _ _ _ h => h) (Or.inl ⟨by rfl, ?_⟩) hHeld ?_ ?_
         rotate_left
         ·rintro w' ⟨s0, s1, s2, s3⟩
          go_simp
          with_reducible rfl
         rotate_left
         ·simp only [Act.put, List.setIfInBounds_toArray, List.set_cons_zero, List.set_cons_succ, i64_w, i32_w]
          rfl
         refine take_ (i := 10) (N := some 61) (v := ?_) (a' := ?_) #[true, false, true, true, true, true, true, true, true, true, true, false, false, false, false, false, false, false] rfl rfl (by kernel_rfl) (fun _ _ _ h => h) (Or.inl ⟨by rfl, ?_⟩) hHeld ?_ ?_
         rotate_left
         ·rintro w' ⟨s0, s1, s2, s3⟩
          go_simp
          with_reducible rfl
         rotate_left
         ·simp only [Act.put, List.setIfInBounds_toArray, List.set_cons_zero, List.set_cons_succ, i64_w, i32_w]
          rfl
         refine join_ (σ := Nat × (Option Addr × Nat) × (Option Addr × Nat) × (Option Addr × Nat)) 2 #[true, true, true, true, true, true, true, true, true, true, true, true, true, true, true, true, false, false] (fun s_ => [(52, .agg #[.slice s_.2.1.1 C1.length s_.2.1.2, .slice s_.2.2.1.1 R1.length s_.2.2.1.2, .int .i64 L1]), (62, .tuple #[.agg #[.slice s_.2.2.2.1 C2.length s_.2.2.2.2, .slice s_.2.2.1.1 R1.length s_.2.2.1.2, .int .i64 L1], .int .i64 zq]), (50, .tuple #[.agg #[.slice s_.2.2.2.1 C2.length s_.2.2.2.2, .slice s_.2.2.1.1 R1.length s_.2.2.1.2, .int .i64 L1], .int .i64 zq]), (63, .agg #[.slice s_.2.2.2.1 C2.length s_.2.2.2.2, .slice s_.2.2.1.1 R1.length s_.2.2.1.2, .int .i64 L1]), (64, .int .i64 zq), (10, .pointer (some ⟨s_.1, 0, none⟩))]) (fun s_ w' => w'.heap[s_.1]? = some (.cells #[.slice none 0 0, .slice none 0 0, .int .i64 0] 25 (0, 0)) ∧ w'.heap[gz]? = some (.cells #[.slice none 0 0, .slice none 0 0, .int .i64 0] 25 (0, 0)) ∧ CS w' w.heap.size (fun j => some j ≠ (Value.slice s_.2.2.1.1 R1.length s_.2.2.1.2).ownBlock ∧ j ≠ s_.1) (.slice s_.2.2.2.1 C2.length s_.2.2.2.2) C2 ∧ IR w' w.heap.size (fun j => j ≠ s_.1) (.slice s_.2.2.1.1 R1.length s_.2.2.1.2) R1 ∧ Below w.heap.size w w' ∧ gz < s_.1) ?_ ?_
         rotate_left
         ·intro hCont
          refine two_ (i := 1) (j := 15) (Ni := some 52) (Nj := some 10) #[true, true, true, true, true, true, true, true, true, true, true, false, false, false, false, false, false, false] #[true, false, true, true, true, true, true, true, true, true, true, false, false, false, false, true, false, false] rfl rfl rfl rfl (by kernel_rfl) (by decide) (by decide) (fun K hK => ?_) (fun K hK => ?_)
          ·skip
           refine goes_ Try.func69 (by kernel_rfl) rfl #[.agg #[.slice A0 C.length c0, .slice (some ad) R.length c1, .int .i64 L]] (by rfl) rfl rfl (by (try simp only [List.map_toArray, List.map_cons, List.map_nil]); first | done | rfl) ?_
           refine (spec_l14Own.calls k_ A0 c0 C (some ad) c1 R L C1 R1 L1 wa (Kd.C_below HR0.out B8.out) HC0.out (Kd.C_below HR1.out B8.out) HC1.out HO.out).mono ?_
           (first | rintro e wb v0 v1 rfl hs hr hb | rintro e wb ⟨v0, v1, rfl, hs, hr, hb⟩)
           refine ⟨_, rfl, ?_⟩
           obtain ⟨A5, c5, rfl⟩ := Kd.S_slice hs
           obtain ⟨A6, c6, rfl⟩ := Kd.R_slice hr
           have BB := Aside0.mk (below_step B8.out hb)
           have XB := Aside0.mk (blk_below X8.out hb)
           have ZB := Aside0.mk (blk_below Z8.out hb)
           have SB := Aside0.mk (Kd.S_lower (Kd.S_mono (Kd.S_bound hs) (fun j h_ => (⟨h_.1, h_.2.1⟩ : some j ≠ (Value.slice A6 R1.length c6).ownBlock ∧ wa.heap.size ≤ j))) B8.out.size)
           have RB := Aside0.mk (Kd.R_lower (Kd.R_mono (Kd.R_bound hr) (fun j h_ => h_.2.1)) B8.out.size : IR wb w.heap.size (fun j => wa.heap.size ≤ j) (.slice A6 R1.length c6) R1)
           have LX := Aside0.mk (show w.heap.size < wa.heap.size from blk_lt X8.out)
           have LZ := Aside0.mk (show gz < wa.heap.size from blk_lt Z8.out)
           have WSZ := Aside0.mk (show wa.heap.size ≤ wb.heap.size from hb.size)
           clear hs hr hb
           refine hK.out _ _ ⟨(blk_cell XB.out 0).trans rfl, (blk_cell XB.out 1).trans rfl, (blk_cell XB.out 2).trans rfl, HIX.out wb BB.out⟩ (fun hHeld => ?_)
           clear hK K
           refine norm_ (a' := ?_) ?_ ?_
           rotate_left
           ·show Act.put _ (some 52) _ = _
            simp only [Act.put, List.setIfInBounds_toArray, List.set_cons_zero, List.set_cons_succ, i64_w, i32_w]
            rfl
           refine two_ (i := 11) (j := 15) (Ni := some 62) (Nj := some 10) #[true, true, true, true, true, true, true, true, true, true, true, true, false, false, false, false, false, false] #[true, true, true, true, true, true, true, true, true, true, true, false, false, false, false, true, false, false] rfl rfl rfl rfl (by kernel_rfl) (by decide) (by decide) (fun K hK => ?_) (fun K hK => ?_)
           ·skip
            refine goes_ Try.func74 (by kernel_rfl) rfl #[.agg #[.slice A5 C1.length c5, .slice A6 R1.length c6, .int .i64 L1], .int .i64 k, .int .i64 L, .int .i64 at_, .string leaf] (by rfl) rfl rfl (by (try simp only [List.map_toArray, List.map_cons, List.map_nil]); first | done | rfl) ?_
            refine (sput_calls L1 R1.length c6 A6 leaf k_ (dgI at_) L.toNat A5 c5 C1 k L at_ (fun j => (some j ≠ (Value.slice A6 R1.length c6).ownBlock ∧ wa.heap.size ≤ j) ∧ True) (C2, zq) w wb LL.out.1 LL.out.2 DIG.out BB.out (Kd.S_mono SB.out (fun j hj => ⟨hj, trivial⟩)) (fun j hj => ⟨⟨fun e_ => by have := Kd.R_lt RB.out j e_.symm; omega, by have := WSZ.out; omega⟩, trivial⟩) HQ.out).mono ?_
            (first | rintro e wc v9 rfl hs hb hk | rintro e wc ⟨v9, rfl, hs, hb, hk⟩)
            refine ⟨_, rfl, ?_⟩
            obtain ⟨A9, c9, rfl⟩ := Kd.S_slice hs
            have BC := Aside0.mk hb
            have XC := Aside0.mk (blk_kept XB.out hk (fun h_ => by have := h_.1.2; have := LX.out; omega))
            have ZC := Aside0.mk (blk_kept ZB.out hk (fun h_ => by have := h_.1.2; have := LZ.out; omega))
            have SC := Aside0.mk (show CS wc w.heap.size (fun j => (some j ≠ (Value.slice A6 R1.length c6).ownBlock ∧ wa.heap.size ≤ j) ∧ True) (.slice A9 C2.length c9) C2 from hs)
            have hR_ := RB.out.1
            have RC := Aside0.mk (Kd.R_mono (Kd.R_kept (Kd.R_of_own (Kd.own_of_R RB.out) (fun j hj => hj.symm) : IR wb w.heap.size (fun j => some j = (Value.slice A6 R1.length c6).ownBlock) (.slice A6 R1.length c6) R1) hk (fun j hj h_ => h_.1.1 hj)) (fun j hj => hR_ j hj.symm) : IR wc w.heap.size (fun j => wa.heap.size ≤ j) (.slice A6 R1.length c6) R1)
            clear hs hb hk hR_
            refine hK.out _ _ ⟨(blk_cell XC.out 0).trans rfl, (blk_cell XC.out 1).trans rfl, (blk_cell XC.out 2).trans rfl, HIX.out wc BC.out⟩ (fun hHeld => ?_)
            clear hK K
            refine norm_ (a' := ?_) ?_ ?_
            rotate_left
            ·show Act.put _ (some 62) _ = _
             simp only [Act.put, List.setIfInBounds_toArray, List.set_cons_zero, List.set_cons_succ, i64_w, i32_w]
             rfl
            refine pure_ (i := 12) (N := some 50) (v := ?_) (a' := ?_) #[true, true, true, true, true, true, true, true, true, true, true, true, true, false, false, false, false, false] rfl rfl (by kernel_rfl) (fun _ _ _ h => h) (Or.inl ⟨by rfl, ?_⟩) ?_ ?_
            rotate_left
            ·intro w'
             go_simp
             with_reducible rfl
            rotate_left
            ·simp only [Act.put, List.setIfInBounds_toArray, List.set_cons_zero, List.set_cons_succ, i64_w, i32_w]
             rfl
            refine pure_ (i := 13) (N := some 63) (v := ?_) (a' := ?_) #[true, true, true, true, true, true, true, true, true, true, true, true, true, true, false, false, false, false] rfl rfl (by kernel_rfl) (fun _ _ _ h => h) (Or.inl ⟨by rfl, ?_⟩) ?_ ?_
            rotate_left
            ·intro w'
             go_simp
             with_reducible rfl
            rotate_left
            ·simp only [Act.put, List.setIfInBounds_toArray, List.set_cons_zero, List.set_cons_succ, i64_w, i32_w]
             rfl
            refine pure_ (i := 14) (N := some 64) (v := ?_) (a' := ?_) #[true, true, true, true, true, true, true, true, true, true, true, true, true, true, true, false, false, false] rfl rfl (by kernel_rfl) (fun _ _ _ h => h) (Or.inl ⟨by rfl, ?_⟩) ?_ ?_
            rotate_left
            ·intro w'
             go_simp
             with_reducible rfl
            rotate_left
            ·simp only [Act.put, List.setIfInBounds_toArray, List.set_cons_zero, List.set_cons_succ, i64_w, i32_w]
             rfl
            refine one_ (i := 15) (N := some 10) #[true, true, true, true, true, true, true, true, true, true, true, true, true, true, true, true, false, false] rfl rfl (by kernel_rfl) (by decide) (fun K hK => ?_)
            refine event_step (by rfl) (v := .pointer (some ⟨wc.heap.size, 0, none⟩)) (w1 := wc.alloc (.cells #[.slice none 0 0, .slice none 0 0, .int .i64 0] 25)) (by first | (go_simp; done) | (go_simp; rfl)) ?_
            have hba := below_alloc (Below.refl wc.heap.size wc) (.cells #[.slice none 0 0, .slice none 0 0, .int .i64 0] 25)
            have DD := Aside0.mk (heap_alloc_new wc (.cells #[.slice none 0 0, .slice none 0 0, .int .i64 0] 25))
            have BD := Aside0.mk (below_step BC.out hba)
            have XD := Aside0.mk (blk_below XC.out hba)
            have ZD := Aside0.mk (blk_below ZC.out hba)
            have SD := Aside0.mk (Kd.S_below (Kd.S_mono (Kd.S_bound SC.out) (fun j h_ => (⟨h_.1.1, Nat.ne_of_lt h_.2.2.1⟩ : (some j ≠ (Value.slice A6 R1.length c6).ownBlock ∧ wa.heap.size ≤ j) ∧ j ≠ wc.heap.size))) hba)
            have RD := Aside0.mk (Kd.R_below RC.out hba)
            refine hK.out _ _ ⟨(blk_cell XD.out 0).trans rfl, (blk_cell XD.out 1).trans rfl, (blk_cell XD.out 2).trans rfl, HIX.out _ BD.out⟩ (fun hHeld => ?_)
            clear hK K
            refine norm_ (a' := ?_) ?_ ?_
            rotate_left
            ·show Act.put _ (some 10) _ = _
             simp only [Act.put, List.setIfInBounds_toArray, List.set_cons_zero, List.set_cons_succ, i64_w, i32_w]
             rfl
            exact hCont (wc.heap.size, (A5, c5), (A6, c6), (A9, c9)) _ ⟨DD.out, ZD.out, Kd.S_mono SD.out (fun j hj => ⟨hj.1.1, hj.2⟩), Kd.R_below (Kd.R_mono (Kd.R_bound RC.out) (fun j hj => Nat.ne_of_lt hj.2.2.1)) hba, BD.out, blk_lt ZC.out⟩
           ·skip
            refine event_step (by rfl) (v := .pointer (some ⟨wb.heap.size, 0, none⟩)) (w1 := wb.alloc (.cells #[.slice none 0 0, .slice none 0 0, .int .i64 0] 25)) (by first | (go_simp; done) | (go_simp; rfl)) ?_
            have hba := below_alloc (Below.refl wb.heap.size wb) (.cells #[.slice none 0 0, .slice none 0 0, .int .i64 0] 25)
            have DC := Aside0.mk (heap_alloc_new wb (.cells #[.slice none 0 0, .slice none 0 0, .int .i64 0] 25))
            have BC := Aside0.mk (below_step BB.out hba)
            have XC := Aside0.mk (blk_below XB.out hba)
            have ZC := Aside0.mk (blk_below ZB.out hba)
            have SC := Aside0.mk (Kd.S_below (Kd.S_mono (Kd.S_bound SB.out) (fun j h_ => (⟨h_.1, Nat.ne_of_lt h_.2.2.1⟩ : (some j ≠ (Value.slice A6 R1.length c6).ownBlock ∧ wa.heap.size ≤ j) ∧ j ≠ wb.heap.size))) hba)
            have RC := Aside0.mk (Kd.R_below RB.out hba)
            refine hK.out _ _ ⟨(blk_cell XC.out 0).trans rfl, (blk_cell XC.out 1).trans rfl, (blk_cell XC.out 2).trans rfl, HIX.out _ BC.out⟩ (fun hHeld => ?_)
            clear hK K
            refine norm_ (a' := ?_) ?_ ?_
            rotate_left
            ·show Act.put _ (some 10) _ = _
             simp only [Act.put, List.setIfInBounds_toArray, List.set_cons_zero, List.set_cons_succ, i64_w, i32_w]
             rfl
            have RNE := Aside0.mk (show ∀ j, some j = (Value.slice A6 R1.length c6).ownBlock → j ≠ wb.heap.size from fun j hj => Nat.ne_of_lt (Kd.R_lt RB.out j hj.symm))
            obtain ⟨wc, hwc⟩ : ∃ W, wb.alloc (.cells #[.slice none 0 0, .slice none 0 0, .int .i64 0] 25) = W := ⟨_, rfl⟩
            rw [hwc] at DC BC XC ZC SC RC hHeld hba ⊢
            have WSC := Aside0.mk (show wa.heap.size ≤ wc.heap.size from Nat.le_trans WSZ.out hba.size)
            replace WSZ := WSC
            refine one_ (i := 11) (N := some 62) #[true, true, true, true, true, true, true, true, true, true, true, true, false, false, false, true, false, false] rfl rfl (by kernel_rfl) (by decide) (fun K hK => ?_)
            refine goes_ Try.func74 (by kernel_rfl) rfl #[.agg #[.slice A5 C1.length c5, .slice A6 R1.length c6, .int .i64 L1], .int .i64 k, .int .i64 L, .int .i64 at_, .string leaf] (by rfl) rfl rfl (by (try simp only [List.map_toArray, List.map_cons, List.map_nil]); first | done | rfl) ?_
            refine (sput_calls L1 R1.length c6 A6 leaf k_ (dgI at_) L.toNat A5 c5 C1 k L at_ (fun j => (some j ≠ (Value.slice A6 R1.length c6).ownBlock ∧ wa.heap.size ≤ j) ∧ j ≠ wb.heap.size) (C2, zq) w wc LL.out.1 LL.out.2 DIG.out BC.out (SC.out) (fun j hj => ⟨⟨fun e_ => by have := Kd.R_lt RC.out j e_.symm; omega, by have := WSZ.out; omega⟩, by have := blk_lt DC.out; omega⟩) HQ.out).mono ?_
            (first | rintro e wd v9 rfl hs hb hk | rintro e wd ⟨v9, rfl, hs, hb, hk⟩)
            refine ⟨_, rfl, ?_⟩
            obtain ⟨A9, c9, rfl⟩ := Kd.S_slice hs
            have BD := Aside0.mk hb
            have XD := Aside0.mk (blk_kept XC.out hk (fun h_ => by have := h_.1.2; have := LX.out; omega))
            have ZD := Aside0.mk (blk_kept ZC.out hk (fun h_ => by have := h_.1.2; have := LZ.out; omega))
            have SD := Aside0.mk (show CS wd w.heap.size (fun j => (some j ≠ (Value.slice A6 R1.length c6).ownBlock ∧ wa.heap.size ≤ j) ∧ j ≠ wb.heap.size) (.slice A9 C2.length c9) C2 from hs)
            have hR_ := RC.out.1
            have RD := Aside0.mk (Kd.R_mono (Kd.R_kept (Kd.R_of_own (Kd.own_of_R RC.out) (fun j hj => hj.symm) : IR wc w.heap.size (fun j => some j = (Value.slice A6 R1.length c6).ownBlock) (.slice A6 R1.length c6) R1) hk (fun j hj h_ => h_.1.1 hj)) (fun j hj => hR_ j hj.symm) : IR wd w.heap.size (fun j => wa.heap.size ≤ j) (.slice A6 R1.length c6) R1)
            have DD := Aside0.mk (blk_kept DC.out hk (fun h_ => h_.2 rfl))
            clear hs hb hk hR_
            refine hK.out _ _ ⟨(blk_cell XD.out 0).trans rfl, (blk_cell XD.out 1).trans rfl, (blk_cell XD.out 2).trans rfl, HIX.out wd BD.out⟩ (fun hHeld => ?_)
            clear hK K
            refine norm_ (a' := ?_) ?_ ?_
            rotate_left
            ·show Act.put _ (some 62) _ = _
             simp only [Act.put, List.setIfInBounds_toArray, List.set_cons_zero, List.set_cons_succ, i64_w, i32_w]
             rfl
            refine pure_ (i := 12) (N := some 50) (v := ?_) (a' := ?_) #[true, true, true, true, true, true, true, true, true, true, true, true, true, false, false, true, false, false] rfl rfl (by kernel_rfl) (fun _ _ _ h => h) (Or.inl ⟨by rfl, ?_⟩) ?_ ?_
            rotate_left
            ·intro w'
             go_simp
             with_reducible rfl
            rotate_left
            ·simp only [Act.put, List.setIfInBounds_toArray, List.set_cons_zero, List.set_cons_succ, i64_w, i32_w]
             rfl
            refine pure_ (i := 13) (N := some 63) (v := ?_) (a' := ?_) #[true, true, true, true, true, true, true, true, true, true, true, true, true, true, false, true, false, false] rfl rfl (by kernel_rfl) (fun _ _ _ h => h) (Or.inl ⟨by rfl, ?_⟩) ?_ ?_
            rotate_left
            ·intro w'
             go_simp
             with_reducible rfl
            rotate_left
            ·simp only [Act.put, List.setIfInBounds_toArray, List.set_cons_zero, List.set_cons_succ, i64_w, i32_w]
             rfl
            refine pure_ (i := 14) (N := some 64) (v := ?_) (a' := ?_) #[true, true, true, true, true, true, true, true, true, true, true, true, true, true, true, true, false, false] rfl rfl (by kernel_rfl) (fun _ _ _ h => h) (Or.inl ⟨by rfl, ?_⟩) ?_ ?_
            rotate_left
            ·intro w'
             go_simp
             with_reducible rfl
            rotate_left
            ·simp only [Act.put, List.setIfInBounds_toArray, List.set_cons_zero, List.set_cons_succ, i64_w, i32_w]
             rfl
            exact hCont (wb.heap.size, (A5, c5), (A6, c6), (A9, c9)) _ ⟨DD.out, ZD.out, Kd.S_mono SD.out (fun j hj => ⟨hj.1.1, hj.2⟩), Kd.R_mono (Kd.R_of_own (Kd.own_of_R RD.out) (fun j hj => hj.symm)) (fun j hj => RNE.out j hj), BD.out, blk_lt ZB.out⟩
          ·skip
           refine event_step (by rfl) (v := .pointer (some ⟨wa.heap.size, 0, none⟩)) (w1 := wa.alloc (.cells #[.slice none 0 0, .slice none 0 0, .int .i64 0] 25)) (by first | (go_simp; done) | (go_simp; rfl)) ?_
           have hba := below_alloc (Below.refl wa.heap.size wa) (.cells #[.slice none 0 0, .slice none 0 0, .int .i64 0] 25)
           have DB := Aside0.mk (heap_alloc_new wa (.cells #[.slice none 0 0, .slice none 0 0, .int .i64 0] 25))
           have BB := Aside0.mk (below_step B8.out hba)
           have XB := Aside0.mk (blk_below X8.out hba)
           have ZB := Aside0.mk (blk_below Z8.out hba)
           refine hK.out _ _ ⟨(blk_cell XB.out 0).trans rfl, (blk_cell XB.out 1).trans rfl, (blk_cell XB.out 2).trans rfl, HIX.out _ BB.out⟩ (fun hHeld => ?_)
           clear hK K
           refine norm_ (a' := ?_) ?_ ?_
           rotate_left
           ·show Act.put _ (some 10) _ = _
            simp only [Act.put, List.setIfInBounds_toArray, List.set_cons_zero, List.set_cons_succ, i64_w, i32_w]
            rfl
           obtain ⟨wb, hwb⟩ : ∃ W, wa.alloc (.cells #[.slice none 0 0, .slice none 0 0, .int .i64 0] 25) = W := ⟨_, rfl⟩
           rw [hwb] at DB BB XB ZB hHeld hba ⊢
           refine one_ (i := 1) (N := some 52) #[true, true, true, true, true, true, true, true, true, true, true, false, false, false, false, true, false, false] rfl rfl (by kernel_rfl) (by decide) (fun K hK => ?_)
           refine goes_ Try.func69 (by kernel_rfl) rfl #[.agg #[.slice A0 C.length c0, .slice (some ad) R.length c1, .int .i64 L]] (by rfl) rfl rfl (by (try simp only [List.map_toArray, List.map_cons, List.map_nil]); first | done | rfl) ?_
           refine (spec_l14Own.calls k_ A0 c0 C (some ad) c1 R L C1 R1 L1 wb (Kd.C_below HR0.out BB.out) HC0.out (Kd.C_below HR1.out BB.out) HC1.out HO.out).mono ?_
           (first | rintro e wc v0 v1 rfl hs hr hb | rintro e wc ⟨v0, v1, rfl, hs, hr, hb⟩)
           refine ⟨_, rfl, ?_⟩
           obtain ⟨A5, c5, rfl⟩ := Kd.S_slice hs
           obtain ⟨A6, c6, rfl⟩ := Kd.R_slice hr
           have BC := Aside0.mk (below_step BB.out hb)
           have XC := Aside0.mk (blk_below XB.out hb)
           have ZC := Aside0.mk (blk_below ZB.out hb)
           have SC := Aside0.mk (Kd.S_lower (Kd.S_mono (Kd.S_bound hs) (fun j h_ => (⟨h_.1, h_.2.1⟩ : some j ≠ (Value.slice A6 R1.length c6).ownBlock ∧ wb.heap.size ≤ j))) BB.out.size)
           have RC := Aside0.mk (Kd.R_lower (Kd.R_mono (Kd.R_bound hr) (fun j h_ => h_.2.1)) BB.out.size : IR wc w.heap.size (fun j => wb.heap.size ≤ j) (.slice A6 R1.length c6) R1)
           have LX := Aside0.mk (show w.heap.size < wb.heap.size from blk_lt XB.out)
           have LZ := Aside0.mk (show gz < wb.heap.size from blk_lt ZB.out)
           have WSZ := Aside0.mk (show wb.heap.size ≤ wc.heap.size from hb.size)
           have LD := Aside0.mk (show wa.heap.size < wb.heap.size from blk_lt DB.out)
           have DC := Aside0.mk (blk_below DB.out hb)
           clear hs hr hb
           refine hK.out _ _ ⟨(blk_cell XC.out 0).trans rfl, (blk_cell XC.out 1).trans rfl, (blk_cell XC.out 2).trans rfl, HIX.out wc BC.out⟩ (fun hHeld => ?_)
           clear hK K
           refine norm_ (a' := ?_) ?_ ?_
           rotate_left
           ·show Act.put _ (some 52) _ = _
            simp only [Act.put, List.setIfInBounds_toArray, List.set_cons_zero, List.set_cons_succ, i64_w, i32_w]
            rfl
           refine one_ (i := 11) (N := some 62) #[true, true, true, true, true, true, true, true, true, true, true, true, false, false, false, true, false, false] rfl rfl (by kernel_rfl) (by decide) (fun K hK => ?_)
           refine goes_ Try.func74 (by kernel_rfl) rfl #[.agg #[.slice A5 C1.length c5, .slice A6 R1.length c6, .int .i64 L1], .int .i64 k, .int .i64 L, .int .i64 at_, .string leaf] (by rfl) rfl rfl (by (try simp only [List.map_toArray, List.map_cons, List.map_nil]); first | done | rfl) ?_
           refine (sput_calls L1 R1.length c6 A6 leaf k_ (dgI at_) L.toNat A5 c5 C1 k L at_ (fun j => (some j ≠ (Value.slice A6 R1.length c6).ownBlock ∧ wb.heap.size ≤ j) ∧ True) (C2, zq) w wc LL.out.1 LL.out.2 DIG.out BC.out (Kd.S_mono SC.out (fun j hj => ⟨hj, trivial⟩)) (fun j hj => ⟨⟨fun e_ => by have := Kd.R_lt RC.out j e_.symm; omega, by have := WSZ.out; omega⟩, trivial⟩) HQ.out).mono ?_
           (first | rintro e wd v9 rfl hs hb hk | rintro e wd ⟨v9, rfl, hs, hb, hk⟩)
           refine ⟨_, rfl, ?_⟩
           obtain ⟨A9, c9, rfl⟩ := Kd.S_slice hs
           have BD := Aside0.mk hb
           have XD := Aside0.mk (blk_kept XC.out hk (fun h_ => by have := h_.1.2; have := LX.out; omega))
           have ZD := Aside0.mk (blk_kept ZC.out hk (fun h_ => by have := h_.1.2; have := LZ.out; omega))
           have SD := Aside0.mk (show CS wd w.heap.size (fun j => (some j ≠ (Value.slice A6 R1.length c6).ownBlock ∧ wb.heap.size ≤ j) ∧ True) (.slice A9 C2.length c9) C2 from hs)
           have hR_ := RC.out.1
           have RD := Aside0.mk (Kd.R_mono (Kd.R_kept (Kd.R_of_own (Kd.own_of_R RC.out) (fun j hj => hj.symm) : IR wc w.heap.size (fun j => some j = (Value.slice A6 R1.length c6).ownBlock) (.slice A6 R1.length c6) R1) hk (fun j hj h_ => h_.1.1 hj)) (fun j hj => hR_ j hj.symm) : IR wd w.heap.size (fun j => wb.heap.size ≤ j) (.slice A6 R1.length c6) R1)
           have DD := Aside0.mk (blk_kept DC.out hk (fun h_ => by have := h_.1.2; have := LD.out; omega))
           clear hs hb hk hR_
           refine hK.out _ _ ⟨(blk_cell XD.out 0).trans rfl, (blk_cell XD.out 1).trans rfl, (blk_cell XD.out 2).trans rfl, HIX.out wd BD.out⟩ (fun hHeld => ?_)
           clear hK K
           refine norm_ (a' := ?_) ?_ ?_
           rotate_left
           ·show Act.put _ (some 62) _ = _
            simp only [Act.put, List.setIfInBounds_toArray, List.set_cons_zero, List.set_cons_succ, i64_w, i32_w]
            rfl
           refine pure_ (i := 12) (N := some 50) (v := ?_) (a' := ?_) #[true, true, true, true, true, true, true, true, true, true, true, true, true, false, false, true, false, false] rfl rfl (by kernel_rfl) (fun _ _ _ h => h) (Or.inl ⟨by rfl, ?_⟩) ?_ ?_
           rotate_left
           ·intro w'
            go_simp
            with_reducible rfl
           rotate_left
           ·simp only [Act.put, List.setIfInBounds_toArray, List.set_cons_zero, List.set_cons_succ, i64_w, i32_w]
            rfl
           refine pure_ (i := 13) (N := some 63) (v := ?_) (a' := ?_) #[true, true, true, true, true, true, true, true, true, true, true, true, true, true, false, true, false, false] rfl rfl (by kernel_rfl) (fun _ _ _ h => h) (Or.inl ⟨by rfl, ?_⟩) ?_ ?_
           rotate_left
           ·intro w'
            go_simp
            with_reducible rfl
           rotate_left
           ·simp only [Act.put, List.setIfInBounds_toArray, List.set_cons_zero, List.set_cons_succ, i64_w, i32_w]
            rfl
           refine pure_ (i := 14) (N := some 64) (v := ?_) (a' := ?_) #[true, true, true, true, true, true, true, true, true, true, true, true, true, true, true, true, false, false] rfl rfl (by kernel_rfl) (fun _ _ _ h => h) (Or.inl ⟨by rfl, ?_⟩) ?_ ?_
           rotate_left
           ·intro w'
            go_simp
            with_reducible rfl
           rotate_left
           ·simp only [Act.put, List.setIfInBounds_toArray, List.set_cons_zero, List.set_cons_succ, i64_w, i32_w]
            rfl
           exact hCont (wa.heap.size, (A5, c5), (A6, c6), (A9, c9)) _ ⟨DD.out, ZD.out, Kd.S_mono SD.out (fun j hj => ⟨hj.1.1, by have := hj.1.2; have := LD.out; omega⟩), Kd.R_mono RD.out (fun j hj => by have := LD.out; omega), BD.out, blk_lt Z8.out⟩
         rintro ⟨db, ⟨A5, c5⟩, ⟨A6, c6⟩, ⟨A9, c9⟩⟩ we ⟨hD, hZ, hS, hR, hB, hgd⟩
         dsimp only at hD hS hR hgd
         dsimp only [putAll]
         clear hHeld X8 Z8 B8
         refine norm_ (a' := ?_) ?_ ?_
         rotate_left
         ·simp only [Act.put, List.setIfInBounds_toArray, List.set_cons_zero, List.set_cons_succ, i64_w, i32_w]
          rfl
         have r0 : we.cell? ⟨db, 0, none⟩ = some (.slice none 0 0) := (blk_cell hD 0).trans rfl
         have r1 : we.cell? ⟨db, 1, none⟩ = some (.slice none 0 0) := (blk_cell hD 1).trans rfl
         have r2 : we.cell? ⟨db, 2, none⟩ = some (.int .i64 0) := (blk_cell hD 2).trans rfl
         have u0 := blk_frozen hD 0
         have u1 := blk_frozen hD 1
         have u2 := blk_frozen hD 2
         refine last_ (i := 16) (N := none) #[true, true, true, true, true, true, true, true, true, true, true, true, true, true, true, true, true, false] rfl rfl (by kernel_rfl) (by decide) (fun K hK => ?_)
         refine skip_ (w1 := ((we.setCell ⟨db, 0, none⟩ (.slice A9 C2.length c9)).setCell ⟨db, 1, none⟩ (.slice A6 R1.length c6)).setCell ⟨db, 2, none⟩ (.int .i64 L1)) (by rfl) rfl ?_ ?_
         ·first | (go_simp; done) | (go_simp; rfl)
         refine hK.out _ _ ?_
         clear hK K r0 r1 r2 u0 u1 u2
         have KK := keep3 (a := .slice A9 C2.length c9) (b := .slice A6 R1.length c6) (c := .int .i64 L1) (Kept.refl we (fun j => j = db)) (.inl rfl)
         have hwd : w.heap.size ≤ db := Nat.le_trans ZG.out (Nat.le_of_lt hgd)
         have DF := Aside0.mk (put3 hD (.slice A9 C2.length c9) (.slice A6 R1.length c6) (.int .i64 L1))
         have ZF := Aside0.mk (blk_kept hZ KK (Nat.ne_of_lt hgd))
         have SF := Aside0.mk (Kd.S_kept hS KK (fun j hj => hj.2))
         have RF := Aside0.mk (Kd.R_kept hR KK (fun j hj => hj))
         have BF := Aside0.mk (below3 (a := .slice A9 C2.length c9) (b := .slice A6 R1.length c6) (c := .int .i64 L1) hB hwd)
         have HWD := Aside0.mk hwd
         have HGD := Aside0.mk hgd
         clear KK hD hZ hS hR hB hwd hgd
         generalize ((we.setCell ⟨db, 0, none⟩ (.slice A9 C2.length c9)).setCell ⟨db, 1, none⟩ (.slice A6 R1.length c6)).setCell ⟨db, 2, none⟩ (.int .i64 L1) = wf at DF ZF SF RF BF ⊢
         refine pure_ (i := 17) (N := some 11) (v := ?_) (a' := ?_) #[true, true, true, true, true, true, true, true, true, true, true, true, true, true, true, true, true, true] rfl rfl (by kernel_rfl) (fun _ _ _ h => h) (Or.inl ⟨by rfl, ?_⟩) ?_ ?_
         rotate_left
         ·intro w'
          go_simp
          with_reducible rfl
         rotate_left
         ·simp only [Act.put, List.setIfInBounds_toArray, List.set_cons_zero, List.set_cons_succ, i64_w, i32_w]
          rfl
         refine done_ (by kernel_rfl) ?_
         obtain ⟨gr, cap6, hv6, _, _, _⟩ := Kd.R_form RF.out (by have := HR1L.out; omega)
         injection hv6 with hA6 hn6 hc6
         subst hA6 hc6
         clear hn6
         obtain ⟨o_, ho_⟩ : ∃ o_, rd R1 (ri : Int) = o_ := ⟨_, rfl⟩
         obtain ⟨ad9, e9, hy9⟩ := Kd.at_int (Kd.R_reads' RF.out).2.2 (ri : Int) (by omega) (by have := HR1L.out; omega)
         injection e9 with e9
         subst e9
         rw [show (⟨gr, 0, none⟩ : Addr).add ((ri : Int).toNat) = ⟨gr, ri, none⟩ by by_cases h : ri = 0 <;> simp [Addr.add, h], ho_] at hy9
         obtain ⟨g_, c_, e_, _, _, cells9, hcl9⟩ := Kd.R_form RF.out (by have := HR1L.out; omega)
         obtain rfl : gr = g_ := by injection e_ with e_ _ _; injection e_ with e_; injection e_
         have f9 := blk_frozen hcl9 ri
         have p3 : ((ri : Int) < (R1.length : Int)) = True := eq_true (by have := HR1L.out; omega)
         have d1 : wf.cell? ⟨db, 1, none⟩ = some (.slice (some ⟨gr, 0, none⟩) R1.length c6) := (blk_cell DF.out 1).trans rfl
         obtain ⟨wA, hwA⟩ : ∃ W, wf.setCell ⟨gr, ri, none⟩ (.int .i64 zq) = W := ⟨_, rfl⟩
         have hgr2 := RF.out.1 gr rfl
         have RA := Aside0.mk (show IR wA w.heap.size (fun j => j ≠ db) (.slice (some ⟨gr, 0, none⟩) R1.length c6) (R1.set ri zq) by rw [← hwA]; exact Kd.R_putn RF.out ri zq)
         have KKA : Kept wf wA (fun j => j = gr) := by rw [← hwA]; exact (Kept.refl wf (fun j => j = gr)).setCell (p := ⟨gr, ri, none⟩) (.inl rfl) _
         have BA := Aside0.mk (show Below w.heap.size w wA by rw [← hwA]; exact below_set BF.out (Kd.R_base RF.out gr rfl))
         have DA := Aside0.mk (blk_kept DF.out KKA (fun e_ => hgr2 e_.symm))
         have ZA := Aside0.mk (blk_kept ZF.out KKA (fun e_ => by
          have h1_ := hcl9
          rw [← e_, ZF.out] at h1_
          injection h1_ with h1_
          injection h1_ with _ h2_
          exact absurd h2_ (by decide)))
         have SA := Aside0.mk (Kd.S_kept SF.out KKA (fun j hj e_ => hj.1 (by rw [e_]; rfl)))
         have HZX := Aside0.mk (show gz ≠ db from Nat.ne_of_lt HGD.out)
         clear hcl9 e_ hgr2 KKA SF RF BF ZF ho_
         have g0 : wA.cell? ⟨db, 0, none⟩ = some (.slice A9 C2.length c9) := (blk_cell DA.out 0).trans rfl
         have g1 : wA.cell? ⟨db, 1, none⟩ = some (.slice (some ⟨gr, 0, none⟩) R1.length c6) := (blk_cell DA.out 1).trans rfl
         have g2 : wA.cell? ⟨db, 2, none⟩ = some (.int .i64 L1) := (blk_cell DA.out 2).trans rfl
         have z0 : wA.cell? ⟨gz, 0, none⟩ = some (.slice none 0 0) := (blk_cell ZA.out 0).trans rfl
         have z1 : wA.cell? ⟨gz, 1, none⟩ = some (.slice none 0 0) := (blk_cell ZA.out 1).trans rfl
         have z2 : wA.cell? ⟨gz, 2, none⟩ = some (.int .i64 0) := (blk_cell ZA.out 2).trans rfl
         have y0 := blk_frozen ZA.out 0
         have y1 := blk_frozen ZA.out 1
         have y2 := blk_frozen ZA.out 2
         have TT := Aside0.mk (spec_GoodCow.calls k_ _ c9 C2 _ c6 (R1.set ri zq) L1 g wA (Kd.S_reads' SA.out).2.2 (Kd.S_reads' SA.out).2.1 (Kd.R_reads' RA.out).2.2 (by have h_ := (Kd.R_reads' RA.out).2.1; simpa using h_) HG.out)
         clear HG
         rw [List.length_set] at TT
         go_wp2_with (go_at_call 20; with_reducible refine TT.out.mono ?_)
         (first | rintro e w20 rfl hb | rintro e w20 ⟨rfl, hb⟩)
         clear g0 g1 g2 z0 z1 z2 y0 y1 y2 TT
         have B20 := Aside0.mk (below_step BA.out hb)
         have Z20 := Aside0.mk (blk_below ZA.out hb)
         have D20 := Aside0.mk (blk_below DA.out hb)
         have S20 := Aside0.mk (Kd.S_below SA.out hb)
         have R20 := Aside0.mk (Kd.R_below RA.out hb)
         clear hb BA ZA DA SA RA
         have g0 : w20.cell? ⟨db, 0, none⟩ = some (.slice A9 C2.length c9) := (blk_cell D20.out 0).trans rfl
         have g1 : w20.cell? ⟨db, 1, none⟩ = some (.slice (some ⟨gr, 0, none⟩) R1.length c6) := (blk_cell D20.out 1).trans rfl
         have g2 : w20.cell? ⟨db, 2, none⟩ = some (.int .i64 L1) := (blk_cell D20.out 2).trans rfl
         have z0 : w20.cell? ⟨gz, 0, none⟩ = some (.slice none 0 0) := (blk_cell Z20.out 0).trans rfl
         have z1 : w20.cell? ⟨gz, 1, none⟩ = some (.slice none 0 0) := (blk_cell Z20.out 1).trans rfl
         have z2 : w20.cell? ⟨gz, 2, none⟩ = some (.int .i64 0) := (blk_cell Z20.out 2).trans rfl
         have y0 := blk_frozen Z20.out 0
         have y1 := blk_frozen Z20.out 1
         have y2 := blk_frozen Z20.out 2
         cases g with
         | false =>
          have h : some (([] : List CL), ([] : List Int), (0 : Int), false) = some (r1, r2, r3, r4) := HH.out
          simp only [Option.some.injEq, Prod.mk.injEq] at h
          obtain ⟨rfl, rfl, rfl, rfl⟩ := h
          go_wp2
          refine bodyPost_ret (results_ct rfl _ _ gz 25 #[.slice none 0 0, .slice none 0 0, .int .i64 0] (0, 0) _ rfl (put3 Z20.out _ _ _) Try.underlying25 rfl (by kernel_rfl)) rfl ?_
          exact ⟨_, _, rfl, Kd.S_nil _ _ _ _ _, Kd.R_nil _ _ _ _ _, below_set (below_set (below_set B20.out ZG.out) ZG.out) ZG.out⟩
         | true =>
          have h : some (C2, (R1.set ri zq), L1, true) = some (r1, r2, r3, r4) := HH.out
          simp only [Option.some.injEq, Prod.mk.injEq] at h
          obtain ⟨rfl, rfl, rfl, rfl⟩ := h
          go_wp2
          refine bodyPost_ret (results_ct rfl _ _ gz 25 #[.slice A9 C2.length c9, .slice (some ⟨gr, 0, none⟩) R1.length c6, .int .i64 L1] (0, 0) _ rfl (put3 Z20.out _ _ _) Try.underlying25 rfl (by kernel_rfl)) rfl ?_
          obtain ⟨r1_, r2_, r3_⟩ := ret_cow (x := .slice A9 C2.length c9) (y := .slice (some ⟨gr, 0, none⟩) R1.length c6) (z := .int .i64 L1) Z20.out ZG.out S20.out (fun k_ h_ => h_.1) R20.out B20.out
          exact ⟨_, _, rfl, r1_, r2_, r3_⟩
        ·cases h
       ·cases h
     ·cases h
end Go.Proofs.Ytacfalpgmibfnaa.PCow
namespace Go.Proofs.Ytacfalpgmibfnaa.PCow
open Go.RowKit Go.Proofs.YtacfalpgmibfnaaW.PrintWords Go.Proofs.YtacfalpgmibfnaaW.PrintLast Go.Proofs.YtacfalpgmibfnaaW.PrintMore Go.Proofs.Ytacfalpgmibfnaa.E
set_option linter.unusedSimpArgs false
set_option linter.unusedVariables false
def rdn (C : List CL) (j : Nat) : CL := rd_T68 C (j : Int)
theorem rdn_at {C : List CL} {j : Nat} (h : j < C.length) : rdn C j = C[j] := rd_cl_nat h
theorem rdn_int (C : List CL) {k : Int} (h : 0 ≤ k) : rd_T68 C k = rdn C k.toNat := by
  unfold rdn
  rw [show ((k.toNat : Nat) : Int) = k by omega]
theorem rdn_set {C : List CL} {k : Nat} (h : k < C.length) (x : CL) (j : Nat) : rdn (C.set k x) j = if j = k then x else rdn C j := by
  unfold rdn
  simp only [rd_cl, Int.toNat_natCast, List.getD_eq_getElem?_getD, List.getElem?_set]
  by_cases e : k = j
  · subst e
    rw [if_pos rfl, if_pos h, if_pos rfl]
    rfl
  · rw [if_neg e, if_neg (Ne.symm e)]
theorem rdn_push (C : List CL) (x : CL) (j : Nat) (h : j < C.length) : rdn (C ++ [x]) j = rdn C j := by
  rw [rdn_at (by simp; omega), rdn_at h, List.getElem_append_left h]
theorem rdn_last (C : List CL) (x : CL) : rdn (C ++ [x]) C.length = x := by
  rw [rdn_at (by simp)]
  simp
def Ref (C : List CL) (v : Nat → Nat) (n : Int) (m : Nat) : Prop := n < 0 ∨ (0 ≤ n ∧ n < (C.length : Int) ∧ v n.toNat = m ∧ m ≠ 0)
structure Typed (C : List CL) (v : Nat → Nat) (N : Int) : Prop where
  cnt : ∀ j, j < C.length → v j ≠ 0 → 1 ≤ (rdn C j).f0 ∧ (rdn C j).f0 ≤ N
  one : ∀ j, j < C.length → v j = 1 → (rdn C j).f2 = []
  two : ∀ j, j < C.length → 2 ≤ v j → (rdn C j).f2.length = 4 ∧ (rdn C j).f1.size = 0 ∧ ∀ n ∈ (rdn C j).f2, Ref C v n (v j - 1)
  out : ∀ j, C.length ≤ j → v j = 0
theorem inc_some (v : Nat → Nat) : ∀ (ks : List Int) (C : List CL) (N : Int), (∀ j, j < C.length → v j ≠ 0 → 1 ≤ (rdn C j).f0 ∧ (rdn C j).f0 ≤ N) → N + ks.length ≤ 100000 → (∀ n ∈ ks, n < 0 ∨ (n < (C.length : Int) ∧ v n.toNat ≠ 0)) →
    ∃ D, incL ks C = some D ∧ D.length = C.length ∧ (∀ j, (rdn D j).f1 = (rdn C j).f1 ∧ (rdn D j).f2 = (rdn C j).f2) ∧ (∀ j, j < C.length → v j ≠ 0 → 1 ≤ (rdn D j).f0 ∧ (rdn D j).f0 ≤ N + ks.length) := by
  intro ks
  induction ks with
  | nil => intro C N hc hN hk; exact ⟨C, rfl, rfl, fun j => ⟨rfl, rfl⟩, fun j h1 h2 => by have := hc j h1 h2; simp; omega⟩
  | cons n r ih =>
    intro C N hc hN hk
    simp only [List.length_cons] at hN ⊢
    by_cases h0 : 0 ≤ n
    · rcases hk n (by simp) with e | ⟨h1, h2⟩
      · omega
      · have hl : n.toNat < C.length := by omega
        have hcn := hc n.toNat hl h2
        have ew : wrap64 ((rdn C n.toNat).f0 + 1) = (rdn C n.toNat).f0 + 1 := w64 (by omega) (by omega)
        have hset := rdn_set hl (⟨(rdn C n.toNat).f0 + 1, (rdn C n.toNat).f1, (rdn C n.toNat).f2⟩ : CL)
        obtain ⟨D, e1, e2, e3, e4⟩ := ih (C.set n.toNat ⟨(rdn C n.toNat).f0 + 1, (rdn C n.toNat).f1, (rdn C n.toNat).f2⟩) (N + 1) (fun j hj hv => by
          rw [List.length_set] at hj
          rw [hset]
          split
          · exact ⟨by show 1 ≤ (rdn C n.toNat).f0 + 1; omega, by show (rdn C n.toNat).f0 + 1 ≤ N + 1; omega⟩
          · have := hc j hj hv; omega) (by omega) (fun m hm => by rw [List.length_set]; exact hk m (by simp [hm]))
        refine ⟨D, ?_, by rw [e2, List.length_set], fun j => ?_, fun j hj hv => by have := e4 j (by rw [List.length_set]; exact hj) hv; omega⟩
        · simp only [incL]
          rw [if_pos h0, if_pos h1, rdn_int C h0, ew]
          exact e1
        · rw [(e3 j).1, (e3 j).2, hset]
          split
          · rename_i e; subst e; exact ⟨rfl, rfl⟩
          · exact ⟨rfl, rfl⟩
    · obtain ⟨D, e1, e2, e3, e4⟩ := ih C N hc (by omega) (fun m hm => hk m (by simp [hm]))
      refine ⟨D, ?_, e2, e3, fun j hj hv => by have := e4 j hj hv; omega⟩
      simp only [incL]
      rw [if_neg h0]
      exact e1
theorem new_some {D : List CL} {v : Nat → Nat} {N : Int} (hT : Typed D v N) (hN : 1 ≤ N) (x : CL) (l : Nat) (hl : 1 ≤ l) (hx0 : x.f0 = 1) (hx1 : l = 1 → x.f2 = []) (hx2 : 2 ≤ l → x.f2.length = 4 ∧ x.f1.size = 0 ∧ ∀ n ∈ x.f2, Ref D v n (l - 1)) :
    ∃ v1, Typed (newC D x).1 v1 N ∧ v1 (newC D x).2 = l ∧ (∀ j, j < D.length → v j ≠ 0 → v1 j = v j ∧ rdn (newC D x).1 j = rdn D j) ∧ rdn (newC D x).1 (newC D x).2 = x := by
  have key : ∀ (E : List CL) (k1 : Nat), D.length ≤ E.length → k1 < E.length → v k1 = 0 → (∀ j, j < E.length → j ≠ k1 → j < D.length) → (∀ j, j < D.length → j ≠ k1 → rdn E j = rdn D j) → rdn E k1 = x → ∃ v1 : Nat → Nat, Typed E v1 N ∧ v1 k1 = l ∧ (∀ j, j < D.length → v j ≠ 0 → v1 j = v j ∧ rdn E j = rdn D j) ∧ rdn E k1 = x := by
    intro E k1 h1 h2 h3 h4 h5 h6
    have hne : ∀ j, v j ≠ 0 → j ≠ k1 := fun j hj e => hj (e ▸ h3)
    have href : ∀ n m, Ref D v n m → Ref E (fun j => if j = k1 then l else v j) n m := fun n m hr => by
      rcases hr with e | ⟨r0, r1, r2, r3⟩
      · exact .inl e
      · refine .inr ⟨r0, by omega, ?_, r3⟩
        show (if n.toNat = k1 then l else v n.toNat) = m
        rw [if_neg (hne _ (by omega))]
        exact r2
    refine ⟨fun j => if j = k1 then l else v j, ⟨fun j hj hv => ?_, fun j hj hv => ?_, fun j hj hv => ?_, fun j hj => ?_⟩, if_pos rfl, fun j hj hv => ⟨if_neg (hne j hv), h5 j hj (hne j hv)⟩, h6⟩
    · by_cases e : j = k1
      · subst e; rw [h6, hx0]; omega
      · simp only [if_neg e] at hv
        rw [h5 j (h4 j hj e) e]
        exact hT.cnt j (h4 j hj e) hv
    · by_cases e : j = k1
      · subst e; simp only [if_pos] at hv; rw [h6]; exact hx1 hv
      · simp only [if_neg e] at hv
        rw [h5 j (h4 j hj e) e]
        exact hT.one j (h4 j hj e) hv
    · by_cases e : j = k1
      · subst e
        simp only [if_pos] at hv ⊢
        rw [h6]
        obtain ⟨a, b, c⟩ := hx2 hv
        exact ⟨a, b, fun n hn => href _ _ (c n hn)⟩
      · simp only [if_neg e] at hv ⊢
        rw [h5 j (h4 j hj e) e]
        obtain ⟨a, b, c⟩ := hT.two j (h4 j hj e) hv
        exact ⟨a, b, fun n hn => href _ _ (c n hn)⟩
    · show (if j = k1 then l else v j) = 0
      rw [if_neg (by omega)]
      exact hT.out j (by omega)
  unfold newC
  split
  · rename_i hf
    exact key _ _ (by simp) (by simp) (hT.out _ (Nat.le_refl _)) (fun j hj hne => by simp at hj; omega) (fun j hj _ => rdn_push D x j hj) (rdn_last D x)
  · rename_i hf
    have hlt := freeK_lt D hf
    refine key _ _ (by simp) (by simpa using hlt) ?_ (fun j hj _ => by simpa using hj) (fun j hj hne => ?_) ?_
    · rcases freeFrom_lt D 0 with e | ⟨j, hj, e, he⟩
      · exact absurd (show freeK D < 0 by unfold freeK; omega) hf
      · have ej : (freeK D).toNat = j := by unfold freeK; omega
        rw [ej]
        by_cases hv : v j = 0
        · exact hv
        · have := hT.cnt j hj hv
          rw [rdn_at hj, he] at this
          omega
    · rw [rdn_set hlt, if_neg hne]
    · rw [rdn_set hlt, if_pos rfl]
theorem own_some {C : List CL} {v : Nat → Nat} {N : Int} (hT : Typed C v N) (hN : 1 ≤ N ∧ N ≤ 90000) (hn : C.length ≤ 1000000) {k : Int} {l : Nat} (hl : 1 ≤ l) (hk : Ref C v k l) :
    ∃ C1 k1 v1, ownM C k l = some (C1, k1) ∧ Typed C1 v1 (N + 4) ∧ C.length ≤ C1.length ∧ C1.length ≤ C.length + 1 ∧ k1 < C1.length ∧ v1 k1 = l ∧ (∀ j, j < C.length → v j ≠ 0 → v1 j = v j ∧ (rdn C1 j).f1 = (rdn C j).f1 ∧ (rdn C1 j).f2 = (rdn C j).f2) ∧ (0 ≤ k → (rdn C1 k1).f2 = (rdn C k.toNat).f2) := by
  have hw : ∀ {D : List CL} {w : Nat → Nat} {M M' : Int}, Typed D w M → M ≤ M' → Typed D w M' := fun h hM => ⟨fun j hj hv => by have := h.cnt j hj hv; omega, h.one, h.two, h.out⟩
  by_cases h0 : k < 0
  · obtain ⟨v1, t1, t2, t3, t4⟩ := new_some hT hN.1 ⟨1, ⟨#[]⟩, if l = 1 then [] else [-1, -1, -1, -1]⟩ l hl rfl (fun e => by rw [if_pos e]) (fun e => by rw [if_neg (by omega)]; exact ⟨rfl, rfl, fun n hn => .inl (by simp at hn; omega)⟩)
    have hlen := newC_len C ⟨1, ⟨#[]⟩, if l = 1 then [] else [-1, -1, -1, -1]⟩
    refine ⟨_, _, v1, by unfold ownM; rw [if_pos hn, if_pos h0], hw t1 (by omega), hlen.1, hlen.2, newC_lt _ _, t2, fun j hj hv => ⟨(t3 j hj hv).1, by rw [(t3 j hj hv).2], by rw [(t3 j hj hv).2]⟩, fun h => by omega⟩
  · obtain ⟨r0, r1, r2, r3⟩ : 0 ≤ k ∧ k < (C.length : Int) ∧ v k.toNat = l ∧ l ≠ 0 := hk.resolve_left h0
    have hkl : k.toNat < C.length := by omega
    have hcn := hT.cnt k.toNat hkl (by omega)
    have hrd := rdn_int C r0
    by_cases h1 : (rdn C k.toNat).f0 = 1
    · exact ⟨C, k.toNat, v, by unfold ownM; rw [if_pos hn, if_neg h0, if_pos r1, hrd, if_pos h1], hw hT (by omega), Nat.le_refl _, by omega, hkl, r2, fun j hj hv => ⟨rfl, rfl, rfl⟩, fun _ => rfl⟩
    · have hkids : (rdn C k.toNat).f2.length ≤ 4 ∧ (∀ n ∈ (rdn C k.toNat).f2, Ref C v n (l - 1)) := by
        by_cases e1 : l = 1
        · rw [hT.one k.toNat hkl (by omega)]; simp
        · obtain ⟨a, _, c⟩ := hT.two k.toNat hkl (by omega)
          rw [r2] at c
          exact ⟨by omega, c⟩
      have ew : wrap64 ((rdn C k.toNat).f0 - 1) = (rdn C k.toNat).f0 - 1 := w64 (by omega) (by omega)
      have hset := rdn_set hkl (⟨(rdn C k.toNat).f0 - 1, (rdn C k.toNat).f1, (rdn C k.toNat).f2⟩ : CL)
      obtain ⟨D, e1, e2, e3, e4⟩ := inc_some v (rdn C k.toNat).f2 (C.set k.toNat ⟨(rdn C k.toNat).f0 - 1, (rdn C k.toNat).f1, (rdn C k.toNat).f2⟩) N (fun j hj hv => by
        rw [List.length_set] at hj
        rw [hset]
        split
        · exact ⟨by show 1 ≤ (rdn C k.toNat).f0 - 1; omega, by show (rdn C k.toNat).f0 - 1 ≤ N; omega⟩
        · exact hT.cnt j hj hv) (by omega) (fun n hn => by
        rw [List.length_set]
        rcases hkids.2 n hn with e | ⟨a, b, c, d⟩
        · exact .inl e
        · exact .inr ⟨b, by omega⟩)
      rw [List.length_set] at e2
      have hf : ∀ j, (rdn D j).f1 = (rdn C j).f1 ∧ (rdn D j).f2 = (rdn C j).f2 := fun j => by
        rw [(e3 j).1, (e3 j).2, hset]
        split
        · rename_i e; subst e; exact ⟨rfl, rfl⟩
        · exact ⟨rfl, rfl⟩
      have hrefD : ∀ n m, Ref C v n m → Ref D v n m := fun n m h => by unfold Ref at h ⊢; rw [e2]; exact h
      have hTD : Typed D v (N + 4) := ⟨fun j hj hv => by have := e4 j (by rw [List.length_set]; omega) hv; omega, fun j hj hv => by rw [(hf j).2]; exact hT.one j (by omega) hv, fun j hj hv => by
        rw [(hf j).1, (hf j).2]
        obtain ⟨a, b, c⟩ := hT.two j (by omega) hv
        exact ⟨a, b, fun n hn => hrefD _ _ (c n hn)⟩, fun j hj => hT.out j (by omega)⟩
      obtain ⟨v1, t1, t2, t3, t4⟩ := new_some hTD (by omega) ⟨1, (rdn C k.toNat).f1, (rdn C k.toNat).f2⟩ l hl rfl (fun e => hT.one k.toNat hkl (by omega)) (fun e => by
        obtain ⟨a, b, c⟩ := hT.two k.toNat hkl (by omega)
        rw [r2] at c
        exact ⟨a, b, fun n hn => hrefD _ _ (c n hn)⟩)
      have hlen := newC_len D ⟨1, (rdn C k.toNat).f1, (rdn C k.toNat).f2⟩
      refine ⟨_, _, v1, ?_, t1, by omega, by omega, newC_lt _ _, t2, fun j hj hv => ⟨(t3 j (by omega) hv).1, by rw [(t3 j (by omega) hv).2]; exact (hf j).1, by rw [(t3 j (by omega) hv).2]; exact (hf j).2⟩, fun _ => by rw [t4]⟩
      unfold ownM
      rw [if_pos hn, if_neg h0, if_pos r1, hrd, if_neg h1, if_pos (by omega), ew, e1]
      rfl
def leafZ (dg : Nat → Int) (C : List CL) : Nat → Int → Prop
  | 0, _ => True
  | l + 1, k => 0 ≤ k ∧ (l = 0 ∨ leafZ dg C l (rd (rdn C k.toNat).f2 (dg (l + 1))))
theorem rd_memI {ks : List Int} {d : Int} (h0 : 0 ≤ d) (h : d < (ks.length : Int)) : rd ks d ∈ ks := by
  have hl : d.toNat < ks.length := by omega
  have e := rd_getD hl
  rw [show ((d.toNat : Nat) : Int) = d by omega] at e
  rw [e]
  exact List.getElem_mem hl
theorem leafZ_eq (dg : Nat → Int) {C C1 : List CL} {v : Nat → Nat} {N : Int} (hT : Typed C v N) (hd : ∀ j, 2 ≤ j → j ≤ 3 → 0 ≤ dg j ∧ dg j < 4) (hf : ∀ j, j < C.length → v j ≠ 0 → (rdn C1 j).f2 = (rdn C j).f2) : ∀ (l : Nat) (k : Int), l ≤ 3 → Ref C v k l → leafZ dg C l k → leafZ dg C1 l k := by
  intro l
  induction l with
  | zero => intro k _ _ _; trivial
  | succ l ih =>
    rintro k hl hk ⟨h0, h1⟩
    refine ⟨h0, h1.imp id (fun h2 => ?_)⟩
    obtain ⟨r0, r1, r2, r3⟩ : 0 ≤ k ∧ k < (C.length : Int) ∧ v k.toNat = l + 1 ∧ l + 1 ≠ 0 := hk.resolve_left (by omega)
    rw [hf k.toNat (by omega) (by omega)]
    by_cases e : l = 0
    · subst e; trivial
    · obtain ⟨a, _, c⟩ := hT.two k.toNat (by omega) (by omega)
      have hdg := hd (l + 1) (by omega) (by omega)
      have h3 := c _ (rd_memI hdg.1 (by omega))
      rw [r2] at h3
      exact ih _ (by omega) h3 h2
theorem put_some (dg : Nat → Int) (leaf : ByteArray) (hd : ∀ j, 2 ≤ j → j ≤ 3 → 0 ≤ dg j ∧ dg j < 4) : ∀ (l : Nat) (C : List CL) (v : Nat → Nat) (k : Int) (N : Int), 1 ≤ l → l ≤ 3 → Typed C v N → 1 ≤ N ∧ N + 4 * l ≤ 90000 → C.length + l ≤ 1000000 → Ref C v k l → (leaf.size = 0 → leafZ dg C l k) →
    ∃ C2 z2, putM dg leaf l C k = some (C2, z2) ∧ C.length ≤ C2.length ∧ ∀ j, j < C.length → l < v j → (rdn C2 j).f1 = (rdn C j).f1 ∧ (rdn C2 j).f2 = (rdn C j).f2 := by
  intro l
  induction l with
  | zero => intro C v k N h1; omega
  | succ l ih =>
    intro C v k N _ hl3 hT hN hn hk hz
    obtain ⟨C1, k1, v1, e1, t1, t2, t3, t4, t5, t6, t7⟩ := own_some hT ⟨hN.1, by omega⟩ (by omega) (l := l + 1) (by omega) hk
    have hlk : ¬ (leaf.size = 0 ∧ k < 0) := fun h => by have := (hz h.1).1; omega
    simp only [putM]
    rw [if_neg hlk, e1, Option.bind_some]
    simp only
    have far : ∀ j, j < C.length → l + 1 < v j → j ≠ k1 := fun j hj hv e => by have := (t6 j hj (by omega)).1; rw [e, t5] at this; rw [e] at hv; omega
    have rk : rd_T68 C1 (k1 : Int) = rdn C1 k1 := rfl
    by_cases h0 : l = 0
    · rw [if_pos h0]
      have fin : ∀ x : CL, C.length ≤ (C1.set k1 x).length ∧ ∀ j, j < C.length → l + 1 < v j → (rdn (C1.set k1 x) j).f1 = (rdn C j).f1 ∧ (rdn (C1.set k1 x) j).f2 = (rdn C j).f2 := fun x => ⟨by rw [List.length_set]; exact t2, fun j hj hv => by rw [rdn_set t4, if_neg (far j hj hv)]; exact (t6 j hj (by omega)).2⟩
      split
      · exact ⟨_, _, rfl, fin _⟩
      · exact ⟨_, _, rfl, fin _⟩
    · rw [if_neg h0]
      have hdg := hd (l + 1) (by omega) (by omega)
      obtain ⟨a, b, c⟩ := t1.two k1 t4 (by omega)
      rw [t5] at c
      rw [rk, if_pos ⟨hdg.1, hdg.2, a⟩]
      have hkid := c _ (rd_memI hdg.1 (by omega))
      obtain ⟨C2, z2, q1, q2, q3⟩ := ih C1 v1 (rd (rdn C1 k1).f2 (dg (l + 1))) (N + 4) (by omega) (by omega) t1 ⟨by omega, by omega⟩ (by omega) hkid (fun h => by
        obtain ⟨p0, p1⟩ := hz h
        rw [t7 p0]
        obtain ⟨r0, r1, r2, r3⟩ : 0 ≤ k ∧ k < (C.length : Int) ∧ v k.toNat = l + 1 ∧ l + 1 ≠ 0 := hk.resolve_left (by omega)
        obtain ⟨a', _, c'⟩ := hT.two k.toNat (by omega) (by omega)
        have h3 := c' _ (rd_memI hdg.1 (by omega))
        rw [r2] at h3
        exact leafZ_eq dg hT hd (fun j hj hv => (t6 j hj hv).2.2) l _ (by omega) h3 (p1.resolve_left h0))
      rw [q1, Option.bind_some]
      simp only
      obtain ⟨s1, s2⟩ := q3 k1 t4 (by omega)
      have rk2 : rd_T68 C2 (k1 : Int) = rdn C2 k1 := rfl
      have hk2 : k1 < C2.length := by omega
      rw [rk2, if_pos ⟨hk2, by rw [s2]; exact a, by rw [s1]; exact b⟩]
      have fin : ∀ x : CL, C.length ≤ (C2.set k1 x).length ∧ ∀ j, j < C.length → l + 1 < v j → (rdn (C2.set k1 x) j).f1 = (rdn C j).f1 ∧ (rdn (C2.set k1 x) j).f2 = (rdn C j).f2 := fun x => ⟨by rw [List.length_set]; omega, fun j hj hv => by
        rw [rdn_set hk2, if_neg (far j hj hv)]
        have h6 := t6 j hj (by omega)
        have h7 := q3 j (by omega) (by omega)
        exact ⟨h7.1.trans h6.2.1, h7.2.trans h6.2.2⟩⟩
      split
      · exact ⟨_, _, rfl, fin _⟩
      · exact ⟨_, _, rfl, fin _⟩
section
variable {C : List CL} {roots : List Int} {L : Int} {V c v : List Int}
theorem cnt_le (hI : Inv C roots L V [] c v) (hn : C.length ≤ 80) (hr : roots.length ≤ 8) (k : Int) (h0 : 0 ≤ k) (h1 : k < (C.length : Int)) : rd c k ≤ 328 := by
  have h2 := hI.cnts k h0 h1
  have h3 : roots.count k ≤ roots.length := List.count_le_length
  have h4 : (V.flatMap (kidsOf C)).count k ≤ (V.flatMap (kidsOf C)).length := List.count_le_length
  have h5 := flat_len (kidsOf C) V (fun z hz => by
    obtain ⟨z0, z1⟩ := hI.vin z hz
    have hg := hI.good z hz
    exact (goodB_kids hg.1).1)
  have h6 := hI.len
  simp only [List.map_nil, List.count_nil] at h2
  omega
def vOf (C : List CL) (v : List Int) (j : Nat) : Nat := if j < C.length then (rd v (j : Int)).toNat else 0
theorem ref_of {m : Nat} {k : Int} (hk : RefOK C v (k, (m : Int))) : Ref C (vOf C v) k m := by
  rcases hk with e | ⟨h0, h1, h2, h3⟩
  · simp only at e; exact .inl (by omega)
  · simp only at h0 h1 h2 h3
    refine .inr ⟨h0, h1, ?_, by omega⟩
    unfold vOf
    rw [if_pos (by omega), show ((k.toNat : Nat) : Int) = k by omega, h2]
    omega
theorem typed_of (hI : Inv C roots L V [] c v) (hE : endM C c C.length 0 = true) (hn : C.length ≤ 80) (hr : roots.length ≤ 8) (h1 : 1 ≤ L) : Typed C (vOf C v) 328 := by
  have hc : ∀ j, j < C.length → (rdn C j).f0 = rd c (j : Int) := by
    have gen : ∀ f i, endM C c f i = true → ∀ j, i ≤ j → j < i + f → (rdn C j).f0 = rd c (j : Int) := by
      intro f
      induction f with
      | zero => intro i _ j h1 h2; omega
      | succ f ih =>
        intro i h j h1 h2
        unfold endM at h
        split at h
        · rename_i ho
          by_cases e : j = i
          · subst e
            unfold okEnd at ho
            split at ho
            · assumption
            · cases ho
          · exact ih (i + 1) h j (by omega) (by omega)
        · cases h
    exact fun j hj => gen _ _ hE j (by omega) (by omega)
  have hv : ∀ j, j < C.length → vOf C v j ≠ 0 → (j : Int) ∈ V ∧ 1 ≤ rd v (j : Int) ∧ vOf C v j = (rd v (j : Int)).toNat := fun j hj h => by
    unfold vOf at h ⊢
    rw [if_pos hj] at h ⊢
    have hm := (hI.vl (j : Int) (by omega) (by omega)).1 (by omega)
    exact ⟨hm, (hI.good _ hm).2.1, rfl⟩
  refine ⟨fun j hj h => ?_, fun j hj h => ?_, fun j hj h => ?_, fun j hj => by unfold vOf; rw [if_neg (by omega)]⟩
  · rw [hc j hj]
    exact ⟨(hI.pos (j : Int) (by omega) (by omega)).1 (hv j hj h).1, cnt_le hI hn hr _ (by omega) (by omega)⟩
  · obtain ⟨hm, h2, h3⟩ := hv j hj (by omega)
    have hk : RefOK C v ((j : Int), ((0 : Nat) : Int) + 1) := .inr ⟨by show (0 : Int) ≤ j; omega, by show (j : Int) < C.length; omega, by show rd v (j : Int) = _; omega, by show ((0 : Nat) : Int) + 1 ≠ 0; omega⟩
    exact (hI.below hk (by omega)).2.2.2.2.1 rfl
  · obtain ⟨hm, h2, h3⟩ := hv j hj (by omega)
    obtain ⟨m, hm2⟩ : ∃ m : Nat, rd v (j : Int) = (m : Int) + 1 := ⟨(rd v (j : Int)).toNat - 1, by omega⟩
    have hk : RefOK C v ((j : Int), (m : Int) + 1) := .inr ⟨by show (0 : Int) ≤ j; omega, by show (j : Int) < C.length; omega, hm2, by show (m : Int) + 1 ≠ 0; omega⟩
    obtain ⟨_, _, g, _, _, g2, g3⟩ := hI.below hk (by omega)
    refine ⟨g2 (by omega), ?_, fun n hn => ?_⟩
    · have := good_node g (by omega)
      unfold okNode at this
      split at this
      · split at this
        · exact of_decide_eq_true this
        · cases this
      · cases this
    · rw [h3, show (rd v (j : Int)).toNat - 1 = m by omega]
      exact ref_of (g3 n hn)
theorem kids_of (hI : Inv C roots L V [] c v) (hE : endM C c C.length 0 = true) : ∀ x ∈ C, x.f2.length ≤ 4 := by
  have gen : ∀ f i, endM C c f i = true → ∀ j, i ≤ j → j < i + f → okEnd (rdn C j) (rd c (j : Int)) = true := by
    intro f
    induction f with
    | zero => intro i _ j h1 h2; omega
    | succ f ih =>
      intro i h j h1 h2
      unfold endM at h
      split at h
      · rename_i ho
        by_cases e : j = i
        · subst e; exact ho
        · exact ih (i + 1) h j (by omega) (by omega)
      · cases h
  intro x hx
  obtain ⟨j, hj, rfl⟩ := List.mem_iff_getElem.1 hx
  rw [← rdn_at hj]
  have ho := gen _ _ hE j (by omega) (by omega)
  by_cases hm : (j : Int) ∈ V
  · exact (goodB_kids (hI.good _ hm).1).1
  · have h0 := (hI.pos (j : Int) (by omega) (by omega)).2 hm
    unfold okEnd at ho
    split at ho
    · rename_i e
      rw [h0] at e
      rw [if_pos e] at ho
      split at ho
      · have := of_decide_eq_true ho; omega
      · cases ho
    · cases ho
theorem dg_bound (q : Int) (h0 : 0 ≤ q) (h1 : q < 16) : ∀ j, 2 ≤ j → j ≤ 3 → 0 ≤ dgI q j ∧ dgI q j < 4 := by
  intro j h2 h3
  obtain rfl | rfl : j = 2 ∨ j = 3 := by omega
  · unfold dgI
    rw [show ((2 : Nat) : Int) = 2 by rfl, digit_2 q h0 h1]
    show 0 ≤ q % 4 ∧ q % 4 < 4
    omega
  · unfold dgI
    rw [show ((3 : Nat) : Int) = 3 by rfl, digit_3 q h0 h1]
    show 0 ≤ q / 4 ∧ q / 4 < 4
    omega
theorem path_empty (hI : Inv C roots L V [] c v) (q : Int) (h0 : 0 ≤ q) (h1 : q < 16) : ∀ (l : Nat) (k : Int), 1 ≤ l → l ≤ 3 → RefOK C v (k, (l : Int)) → ¬ leafZ (dgI q) C l k → Ev (fun n => impl_Cow_leafAt.l0 n q k (l : Int) C roots L) ⟨#[]⟩ := by
  intro l
  induction l with
  | zero => intro k h; omega
  | succ l ih =>
    intro k _ hl hk hz
    by_cases hk0 : k < 0
    · exact Ev.step (fun _ => impl_Cow_leafAt.l0.eq_2 ..) (ev_neg (by omega) (ev_pos (by omega) (ev_ret rfl)))
    · by_cases e : l = 0
      · subst e
        exact absurd ⟨by omega, .inl rfl⟩ hz
      · obtain ⟨k0, k1, _, _, _, k6, k7⟩ := hI.below (m := l) (by simpa using hk) (by omega)
        have kl := k6 e
        have hdg := dg_bound q h0 h1 (l + 1) (by omega) (by omega)
        have hm := rd_memI hdg.1 (by rw [kl]; omega : dgI q (l + 1) < ((rd_T68 C k).f2.length : Int))
        have ew : wrap64 (((l + 1 : Nat) : Int) - 1) = (l : Int) := by rw [w64 (by omega) (by omega)]; omega
        have hr := ih _ (by omega) (by omega) (k7 _ hm) (fun h => hz ⟨by omega, .inr (by rw [rdn_int C k0] at h; exact h)⟩)
        refine Ev.step (fun _ => impl_Cow_leafAt.l0.eq_2 ..) (ev_pos k0 (ev_pos (by omega) (ev_pos k0 (ev_pos k1 (ev_bindc (dgI_some q (l + 1) (by omega) (by omega)) (ev_pos hdg.1 (ev_pos (by rw [kl]; omega) ?_)))))))
        rw [ew]
        exact hr
end
theorem ev_ten {α : Type} {f : Nat → Option α} {A : Prop} [Decidable A] {r : α} (hA : A) (h : Ev f r) : Ev (fun k => if 10 ≤ k ∧ A then f k else none) r := by
  obtain ⟨k0, h⟩ := h
  exact ⟨max k0 10, fun k hk => by
    show (if 10 ≤ k ∧ A then f k else none) = some r
    rw [if_pos ⟨by omega, hA⟩]
    exact h k (by omega)⟩
theorem put_full (C : List CL) (roots : List Int) (L a q : Int) (leaf : ByteArray) (hk : ∀ x ∈ C, x.f2.length ≤ 1048576) : ∃ C1 R1 L1 b, C1.length ≤ 80 ∧ R1.length ≤ 8 ∧ (∀ x ∈ C1, x.f2.length ≤ 1048576) ∧ (b = true → 1 ≤ R1.length ∧ 1 ≤ L1 ∧ L1 ≤ 3) ∧ Ev (fun k => spec_PutLeaf.f k C roots L a q leaf) (C1, R1, L1, b) ∧ Ev (fun k => impl_PutLeaf.f k C roots L a q leaf) (C1, R1, L1, b) := by
  obtain ⟨g, hb1, hb2⟩ := spec_impl C roots L
  unfold spec_PutLeaf.f impl_PutLeaf.f
  cases g with
  | false => exact ⟨[], [], 0, false, by simp, by simp, by simp, by simp, Ev.bind hb1 (ev_false rfl (ev_ret rfl)), ev_bindc (is_root C roots L a false (by simp) hb2) (ev_false rfl (ev_ret rfl))⟩
  | true =>
    obtain ⟨hL1, hL3, hn, hr1, hr8, V, c, v, hI, hE⟩ := good_tree hb2
    have hR := is_root C roots L a true (fun _ => hr8) hb2
    have hS := l1In_root a roots hr8
    by_cases ha : 0 ≤ a ∧ a < (roots.length : Int)
    · have da := decide_eq_true ha
      obtain ⟨hp1, hp2⟩ := places_both C roots L hL1 hL3
      have hpl : 1 ≤ plc L ∧ plc L ≤ 16 := by
        unfold plc
        split
        · omega
        · split <;> omega
      have ep : wrap64 (plc L - 1) = plc L - 1 := w64 (by omega) (by omega)
      by_cases hq : 0 ≤ q ∧ q ≤ plc L - 1
      · have eS : spec_l1In.f q 0 (wrap64 (plc L - 1)) = some true := by rw [ep, in_dec, decide_eq_true hq]
        have eI : impl_within.f q 0 (wrap64 (plc L - 1)) = some true := by rw [ep, within_inR]; unfold inR; rw [decide_eq_true hq]
        by_cases h8 : (leaf.size : Int) > 8
        · exact ⟨[], [], 0, false, by simp, by simp, by simp, by simp, Ev.bind hb1 (ev_true rfl (ev_bindc hS (ev_true da (Ev.bind hp1 (ev_bindc eS (ev_true rfl (ev_pos h8 (ev_ret rfl)))))))), ev_bindc hR (ev_true (by rw [da]; rfl) (ev_bindc hp2 (ev_bindc eI (ev_true rfl (ev_pos h8 (ev_ret rfl))))))⟩
        · obtain ⟨r, er1, er2⟩ := leaf_both hI hL1 hL3 a q ha hq.1 (by omega)
          have hcond : ownB C roots = true ∧ 0 ≤ L ∧ L ≤ 1000 := ⟨ownB_of (by omega) (by omega) hk, by omega, by omega⟩
          suffices h : ∃ C1 R1 L1 b, C1.length ≤ 80 ∧ R1.length ≤ 8 ∧ (∀ x ∈ C1, x.f2.length ≤ 1048576) ∧ (b = true → 1 ≤ R1.length ∧ 1 ≤ L1 ∧ L1 ≤ 3) ∧ Ev (fun k => putSp k C roots L a q leaf) (C1, R1, L1, b) ∧ Ev (fun k => putI k C roots L a q leaf) (C1, R1, L1, b) by
            obtain ⟨C1, R1, L1, b, u1, u2, u3, u3_, u4, u5⟩ := h
            exact ⟨C1, R1, L1, b, u1, u2, u3, u3_, Ev.bind hb1 (ev_true rfl (ev_bindc hS (ev_true da (Ev.bind hp1 (ev_bindc eS (ev_true rfl (ev_neg h8 u4))))))), ev_bindc hR (ev_true (by rw [da]; rfl) (ev_bindc hp2 (ev_bindc eI (ev_true rfl (ev_neg h8 u5)))))⟩
          unfold putSp putI
          by_cases hle : r = leaf
          · refine ⟨C, roots, L, true, hn, by omega, hk, fun _ => ⟨by omega, hL1, hL3⟩, ev_pos ha (Ev.bind er1 (ev_pos hle (Ev.bind (own_ev C roots L (by omega) hk (by omega)) (ev_ret rfl)))), ev_pos hcond (Ev.bind er2 (ev_bindc (a := (C, roots)) (by unfold putR; rw [if_pos hle]) (ev_bindc (a := true) hb2 (ev_true rfl (ev_ret rfl)))))⟩
          · have hkr := root_ref hI a ha.1 ha.2
            have hLn : ((L.toNat : Nat) : Int) = L := by omega
            obtain ⟨C2, z2, e2, e3, _⟩ := put_some (dgI q) leaf (dg_bound q hq.1 (by omega)) L.toNat C (vOf C v) (rd roots a) 328 (by omega) (by omega) (typed_of hI hE hn (by omega) hL1) ⟨by omega, by omega⟩ (by omega) (ref_of (by rw [hLn]; exact hkr)) (fun h => by
              refine Classical.byContradiction fun hz => hle ?_
              have hp := path_empty hI q hq.1 (by omega) L.toNat (rd roots a) (by omega) (by omega) (by rw [hLn]; exact hkr) hz
              rw [hLn] at hp
              have hp2 : Ev (fun n => impl_Cow_leafAt.f n C roots L a q) ⟨#[]⟩ := by
                unfold impl_Cow_leafAt.f
                exact ev_pos ha.1 (ev_pos ha.2 hp)
              rw [ev_unique er2 hp2, empty_of_size h])
            obtain ⟨g2, f1, f2⟩ := spec_impl C2 (roots.set a.toNat z2) L
            have fI : impl_GoodCow.f C2 (roots.set a.toNat z2) L = some g2 := f2
            have eR : putR q leaf r C roots L a = some (C2, roots.set a.toNat z2) := by
              unfold putR
              rw [if_neg hle, if_pos ha, e2]
              rfl
            have hd2 : 1 ≤ L ∧ L ≤ 3 ∧ 0 ≤ q ∧ q < plc L := ⟨hL1, hL3, hq.1, by omega⟩
            cases g2 with
            | false =>
              refine ⟨[], [], 0, false, by simp, by simp, by simp, by simp, ev_pos ha (Ev.bind er1 (ev_neg hle (ev_ten hd2 (Ev.bind (own_ev C roots L (by omega) hk (by omega)) ?_)))), ev_pos hcond (Ev.bind er2 (ev_bindc eR (ev_bindc fI (ev_false rfl (ev_ret rfl)))))⟩
              unfold putSd
              exact ev_pos ha.2 (ev_bindc e2 (Ev.bind f1 (ev_false rfl (ev_ret rfl))))
            | true =>
              obtain ⟨_, _, hn2, _, hr82, V2, c2, v2, hI2, hE2⟩ := good_tree f2
              refine ⟨C2, roots.set a.toNat z2, L, true, hn2, by omega, fun x hx => by have := kids_of hI2 hE2 x hx; omega, fun _ => ⟨by rw [List.length_set]; omega, hL1, hL3⟩, ev_pos ha (Ev.bind er1 (ev_neg hle (ev_ten hd2 (Ev.bind (own_ev C roots L (by omega) hk (by omega)) ?_)))), ev_pos hcond (Ev.bind er2 (ev_bindc eR (ev_bindc fI (ev_true rfl (ev_ret rfl)))))⟩
              unfold putSd
              exact ev_pos ha.2 (ev_bindc e2 (Ev.bind f1 (ev_true rfl (ev_ret rfl))))
      · have eS : spec_l1In.f q 0 (wrap64 (plc L - 1)) = some false := by rw [ep, in_dec, decide_eq_false hq]
        have eI : impl_within.f q 0 (wrap64 (plc L - 1)) = some false := by rw [ep, within_inR]; unfold inR; rw [decide_eq_false hq]
        exact ⟨[], [], 0, false, by simp, by simp, by simp, by simp, Ev.bind hb1 (ev_true rfl (ev_bindc hS (ev_true da (Ev.bind hp1 (ev_bindc eS (ev_false rfl (ev_ret rfl))))))), ev_bindc hR (ev_true (by rw [da]; rfl) (ev_bindc hp2 (ev_bindc eI (ev_false rfl (ev_ret rfl)))))⟩
    · have da := decide_eq_false ha
      exact ⟨[], [], 0, false, by simp, by simp, by simp, by simp, Ev.bind hb1 (ev_true rfl (ev_bindc hS (ev_false da (ev_ret rfl)))), ev_bindc hR (ev_false (by rw [da]; rfl) (ev_ret rfl))⟩
end Go.Proofs.Ytacfalpgmibfnaa.PCow
namespace Go.Proofs.Ytacfalpgmibfnaa.PCow
open Go.RowKit Go.Proofs.YtacfalpgmibfnaaW.PrintWords Go.Proofs.YtacfalpgmibfnaaW.PrintLast Go.Proofs.YtacfalpgmibfnaaW.PrintMore
attribute [local go_sem] max2_int min2_int max_two min_two max_three min_three max_four min_four
set_option linter.unusedVariables false
set_option linter.unusedSimpArgs false
def impl_LeavesOf.l0 : Nat → Int → List ByteArray → Int → Int → List (S68) → List Int → Int → Option (List ByteArray × Bool)
 | 0, _, _, _, _, _, _, _ => none
 | k + 1, x1, x6, x14, x15, x340000, x340001, x340002 => if x15 < x14 then ((impl_Cow_leafAt.f k x340000 x340001 x340002 x1 x15).bind fun t345 => (if x6.length < 8796093022208 then (impl_LeavesOf.l0 k x1 (x6 ++ [t345]) x14 (wrap64 (x15 + 1)) x340000 x340001 x340002) else (none))) else (some (x6, true))
def impl_LeavesOf.f (k : Nat) (l0_0 : List (S68)) (l0_1 : List Int) (a0_2 : Int) (a1 : Int) : Option (List ByteArray × Bool) := (impl_isRoot.f l0_0 l0_1 a0_2 a1).bind fun t340 => (if t340 = true then ((impl_Cow_places.f l0_0 l0_1 a0_2).bind fun t344 => (impl_LeavesOf.l0 k a1 (([] : List ByteArray)) t344 0 l0_0 l0_1 a0_2)) else (some (([] : List ByteArray), false)))
set_option maxHeartbeats 8000000 in
set_option maxRecDepth 100000 in
theorem impl_LeavesOf.calls (k : Nat) (A0_0 : Option Addr) (c0_0 : Nat) (l0_0 : List (S68)) (A0_1 : Option Addr) (c0_1 : Nat) (l0_1 : List Int) (a0_2 : Int) (a1 : Int) (r1 : List ByteArray) (r2 : Bool) (w : World) (hr0_0 : Kd.C k68 w A0_0 l0_0.length l0_0) (hc0_0 : l0_0.length ≤ c0_0) (hr0_1 : Kd.C (Kd.int .i64) w A0_1 l0_1.length l0_1) (hc0_1 : l0_1.length ≤ c0_1) (h : impl_LeavesOf.f k l0_0 l0_1 a0_2 a1 = some (r1, r2)) :
  Calls Try.prog 30 #[.agg #[.slice A0_0 l0_0.length c0_0, .slice A0_1 l0_1.length c0_1, .int .i64 a0_2], .int .i64 a1] w fun e w' => ∃ v0_ : Value, e = .returned (.tuple #[v0_, .bool r2]) ∧ Kd.R Kd.string 9 w' w.heap.size (fun _ => True) v0_ r1 ∧ Below w.heap.size w w' := by
 have hu25 := Try.underlying25
 have HR0_0 := Aside0.mk hr0_0
 have HC0_0 := Aside0.mk hc0_0
 clear hr0_0 hc0_0
 have HR0_1 := Aside0.mk hr0_1
 have HC0_1 := Aside0.mk hc0_1
 clear hr0_1 hc0_1
 have HB := Aside0.mk (Below.refl w.heap.size w)
 have H : ((impl_isRoot.f l0_0 l0_1 a0_2 a1).bind fun t340 => (if t340 = true then ((impl_Cow_places.f l0_0 l0_1 a0_2).bind fun t344 => (impl_LeavesOf.l0 k a1 (([] : List ByteArray)) t344 0 l0_0 l0_1 a0_2)) else (some (([] : List ByteArray), false)))) = some (r1, r2) := h
 clear h
 replace H := Option.bind_eq_some_iff.mp H
 obtain ⟨t340, A30, H⟩ := H
 replace H : (if t340 = true then ((impl_Cow_places.f l0_0 l0_1 a0_2).bind fun t344 => (impl_LeavesOf.l0 k a1 (([] : List ByteArray)) t344 0 l0_0 l0_1 a0_2)) else (some (([] : List ByteArray), false))) = some (r1, r2) := H
 have A3 := Aside0.mk A30
 clear A30
 by_cases c4 : t340 = true
 ·subst c4
  have H1 : ((impl_Cow_places.f l0_0 l0_1 a0_2).bind fun t344 => (impl_LeavesOf.l0 k a1 (([] : List ByteArray)) t344 0 l0_0 l0_1 a0_2)) = some (r1, r2) := by rw [if_pos rfl] at H; exact H
  clear H
  have H := H1
  clear H1
  obtain ⟨y341, hy341⟩ : ∃ y_ : List ByteArray, y_ = (([] : List ByteArray)) := ⟨_, rfl⟩
  replace H : ((impl_Cow_places.f l0_0 l0_1 a0_2).bind fun t344 => (impl_LeavesOf.l0 k a1 y341 t344 0 l0_0 l0_1 a0_2)) = some (r1, r2) := by first | (rw [hy341]; with_reducible exact H) | (have H2_ := (Option.bind_some _ _).symm.trans H; rw [hy341]; with_reducible exact H2_) | (have H2_ := (Option.bind_some _ _).symm.trans H; with_reducible exact H2_) | with_reducible exact H | (rw [hy341]; exact H) | exact H
  have Ny341 := Aside0.mk hy341
  clear hy341
  replace H := Option.bind_eq_some_iff.mp H
  obtain ⟨t344, A50, H⟩ := H
  replace H : (impl_LeavesOf.l0 k a1 y341 t344 0 l0_0 l0_1 a0_2) = some (r1, r2) := H
  have A5 := Aside0.mk A50
  clear A50
  have H' := Aside0.mk H
  clear H
  go_enter Try.func30, Try.ntmps30
  go_wp2_with (first | ((with_reducible refine gate_dst (N := 2) rfl ?_); refine box_event ?hg (N := 2) ?hd (cs := #[.slice A0_0 l0_0.length c0_0, .slice A0_1 l0_1.length c0_1, .int .i64 a0_2]) (t := 25) ?hr ?_; (case hd => rfl); (case hg => rfl); (case hr => first | (go_simp; done) | (go_simp; rfl)); intro gb339 hg w6 hbox hb; have BK339 := Aside0.mk (hbox); have GW339 := Aside0.mk ((by rw [hg]; exact (below_size (by with_reducible repeat (first | exact HB.out | apply below_alloc | apply pw_below_drewN | apply below_drew1))) : w.heap.size ≤ gb339)); have GE339 := Aside0.mk ((by rw [hg]; exact (below_size (by with_reducible repeat (first | exact HB.out | apply below_alloc | apply pw_below_drewN | apply below_drew1))) : w.heap.size ≤ gb339)); replace HB := Aside0.mk (below_step (by with_reducible repeat (first | exact HB.out | apply below_alloc | apply pw_below_drewN | apply below_drew1)) hb); clear hb hbox hg; have hcz7_0 : w6.cell? ⟨gb339, 0, none⟩ = some (.slice A0_0 l0_0.length c0_0) := (blk_cell BK339.out 0).trans rfl; have hcz7_1 : w6.cell? ⟨gb339, 1, none⟩ = some (.slice A0_1 l0_1.length c0_1) := (blk_cell BK339.out 1).trans rfl; have hcz7_2 : w6.cell? ⟨gb339, 2, none⟩ = some (.int .i64 a0_2) := (blk_cell BK339.out 2).trans rfl; have hfz7_0 := blk_frozen BK339.out 0; have hfz7_1 := blk_frozen BK339.out 1; have hfz7_2 := blk_frozen BK339.out 2) | ((with_reducible refine gate_callee (f := 63) rfl ?_); refine goesL_ (some 10) rfl rfl Try.func63 (by kernel_rfl) rfl #[.agg #[.slice A0_0 l0_0.length c0_0, .slice A0_1 l0_1.length c0_1, .int .i64 a0_2], .int .i64 a1] rfl (by (try simp only [List.map_toArray, List.map_cons, List.map_nil]); first | done | rfl | (simp only [List.length_drop, List.length_take]; rfl)) ?_; (with_reducible refine (impl_isRoot.calls _ _ l0_0 _ _ l0_1 a0_2 a1 true _ ?side1 ?side2 ?side3 ?side4 A3.out).mono ?_); (case side1 => repeat (first | exact (Kd.C_below HR0_0.out HB.out) | (with_reducible refine Kd.C_alloc ?_ _) | (with_reducible refine Kd.C_drewN ?_ _) | (with_reducible refine Kd.C_drew ?_))); (case side2 => exact HC0_0.out); (case side3 => repeat (first | exact (Kd.C_below HR0_1.out HB.out) | (with_reducible refine Kd.C_alloc ?_ _) | (with_reducible refine Kd.C_drewN ?_ _) | (with_reducible refine Kd.C_drew ?_))); (case side4 => exact HC0_1.out); rintro e w8 ⟨rfl, hb⟩; refine ⟨_, rfl, ?_⟩; replace BK339 := Aside0.mk (blk_below (g := gb339) (o := .cells #[.slice A0_0 l0_0.length c0_0, .slice A0_1 l0_1.length c0_1, .int .i64 a0_2] 25 (0, 0)) (by (with_reducible repeat (first | refine blk_drewN ?_ _ | refine blk_drew ?_ | refine blk_alloc ?_ _)); exact BK339.out) hb); replace HB := Aside0.mk (below_step (by with_reducible repeat (first | exact HB.out | apply below_alloc | apply pw_below_drewN | apply below_drew1 | refine below_set ?_ GE339.out)) hb); (try clear hb); (try clear hb2); (try clear hk); (try clear hi)) | ((with_reducible refine gate_dst (N := 12) rfl ?_); refine Kd.R_lit Kd.string _ 9 ?hg (N := 12) ?hd (xs := ([] : List ByteArray)) (inner := []) (ok := fun _ => True) (okp := fun _ => True) ?hr ?hp (fun _ hk => hk) trivial (Below.refl _ _) (Nat.le_refl _) (by simp) ?_; (case hd => rfl); (case hg => rfl); (case hr => first | (go_simp; done) | (go_simp; rfl)); (case hp => exact (Reps.none _ _)); intro v342 w9 ho10 hb hg_ hnew_; clear hg_ hnew_; (first | rw [← Ny341.out] at ho10 | (simp only [Int.reduceToNat] at ho10; rw [← Ny341.out] at ho10)); have HO343 := Aside0.mk (Kd.R_lower ho10 (below_size (by with_reducible repeat (first | exact HB.out | apply below_alloc | apply pw_below_drewN | apply below_drew1 | refine below_set ?_ GE339.out)))); replace BK339 := Aside0.mk (blk_below (g := gb339) (o := .cells #[.slice A0_0 l0_0.length c0_0, .slice A0_1 l0_1.length c0_1, .int .i64 a0_2] 25 (0, 0)) (by (with_reducible repeat (first | refine blk_drewN ?_ _ | refine blk_drew ?_ | refine blk_alloc ?_ _)); exact BK339.out) hb); replace HB := Aside0.mk (below_step (by with_reducible repeat (first | exact HB.out | apply below_alloc | apply pw_below_drewN | apply below_drew1 | refine below_set ?_ GE339.out)) hb); clear hb ho10; have hcz11_0 : w9.cell? ⟨gb339, 0, none⟩ = some (.slice A0_0 l0_0.length c0_0) := (blk_cell BK339.out 0).trans rfl; have hcz11_1 : w9.cell? ⟨gb339, 1, none⟩ = some (.slice A0_1 l0_1.length c0_1) := (blk_cell BK339.out 1).trans rfl; have hcz11_2 : w9.cell? ⟨gb339, 2, none⟩ = some (.int .i64 a0_2) := (blk_cell BK339.out 2).trans rfl; have hfz11_0 := blk_frozen BK339.out 0; have hfz11_1 := blk_frozen BK339.out 1; have hfz11_2 := blk_frozen BK339.out 2) | ((with_reducible refine gate_callee (f := 64) rfl ?_); refine goesL_ (some 14) rfl rfl Try.func64 (by kernel_rfl) rfl #[.agg #[.slice A0_0 l0_0.length c0_0, .slice A0_1 l0_1.length c0_1, .int .i64 a0_2]] rfl (by (try simp only [List.map_toArray, List.map_cons, List.map_nil]); first | done | rfl | (simp only [List.length_drop, List.length_take]; rfl)) ?_; (with_reducible refine (impl_Cow_places.calls _ _ l0_0 _ _ l0_1 a0_2 t344 _ ?side1 ?side2 ?side3 ?side4 A5.out).mono ?_); (case side1 => repeat (first | exact (Kd.C_below HR0_0.out HB.out) | (with_reducible refine Kd.C_alloc ?_ _) | (with_reducible refine Kd.C_drewN ?_ _) | (with_reducible refine Kd.C_drew ?_))); (case side2 => exact HC0_0.out); (case side3 => repeat (first | exact (Kd.C_below HR0_1.out HB.out) | (with_reducible refine Kd.C_alloc ?_ _) | (with_reducible refine Kd.C_drewN ?_ _) | (with_reducible refine Kd.C_drew ?_))); (case side4 => exact HC0_1.out); rintro e w12 ⟨rfl, hb⟩; refine ⟨_, rfl, ?_⟩; replace HO343 := Aside0.mk (Kd.R_below (by (with_reducible repeat (first | apply Kd.R_alloc | apply Kd.R_drewN | apply Kd.R_drew)); exact HO343.out) hb); replace BK339 := Aside0.mk (blk_below (g := gb339) (o := .cells #[.slice A0_0 l0_0.length c0_0, .slice A0_1 l0_1.length c0_1, .int .i64 a0_2] 25 (0, 0)) (by (with_reducible repeat (first | refine blk_drewN ?_ _ | refine blk_drew ?_ | refine blk_alloc ?_ _)); exact BK339.out) hb); replace HB := Aside0.mk (below_step (by with_reducible repeat (first | exact HB.out | apply below_alloc | apply pw_below_drewN | apply below_drew1 | refine below_set ?_ GE339.out)) hb); (try clear hb); (try clear hb2); (try clear hk); (try clear hi)))
  go_loopg [6, 15] k (fun kq v6 v15 w' => ∃ (x6_1 : List ByteArray) (x15_1 : Int), v15 = .int .i64 x15_1 ∧ Aside0 (impl_LeavesOf.l0 kq a1 x6_1 t344 x15_1 l0_0 l0_1 a0_2 = some (r1, r2)) ∧ Aside0 (kq ≤ k) ∧ Aside0 (Kd.R Kd.string 9 w' w.heap.size (fun _ => True) v6 x6_1) ∧ Aside0 (w'.heap[gb339]? = some (.cells #[(.slice A0_0 l0_0.length c0_0), (.slice A0_1 l0_1.length c0_1), .int .i64 a0_2] 25 (0, 0))) ∧ Aside0 (Below w.heap.size w w'))
  case atStart => exact ⟨(y341), (0), (by first | rfl | (simp; done) | (simp [*]; done)), H', ⟨Nat.le_refl _⟩, ⟨by (with_reducible repeat (first | apply Kd.R_alloc | apply Kd.R_drewN | apply Kd.R_drew)); exact HO343.out⟩, ⟨by (with_reducible repeat (first | refine blk_drewN ?_ _ | refine blk_drew ?_ | refine blk_alloc ?_ _)); exact BK339.out⟩, ⟨by with_reducible repeat (first | exact HB.out | apply below_alloc | apply pw_below_drewN | apply below_drew1 | refine below_set ?_ GE339.out)⟩⟩
  case round =>
   clear H'
   try clear p2
   try clear c3
   try clear c4
   try clear c6
   try clear hcz11_0
   try clear hcz11_1
   try clear hcz11_2
   try clear hcz7_0
   try clear hcz7_1
   try clear hcz7_2
   try clear hfz11_0
   try clear hfz11_1
   try clear hfz11_2
   try clear hfz7_0
   try clear hfz7_1
   try clear hfz7_2
   obtain ⟨x6_1, x15_1, rfl, HA, HK1, HO_6, BK339, HB⟩ := hrel
   cases gk with
   | zero => exact absurd HA.out (by simp [impl_LeavesOf.l0])
   | succ k1 =>
    have H := HA.out
    clear HA
    simp only [impl_LeavesOf.l0] at H
    by_cases c13 : x15_1 < t344
    ·rw [if_pos c13] at H
     have c13b0 : decide (x15_1 < t344) = true := decide_eq_true c13
     clear c13
     replace H := Option.bind_eq_some_iff.mp H
     obtain ⟨t345, A140, H⟩ := H
     replace H : (if x6_1.length < 8796093022208 then (impl_LeavesOf.l0 k1 a1 (x6_1 ++ [t345]) t344 (wrap64 (x15_1 + 1)) l0_0 l0_1 a0_2) else (none)) = some (r1, r2) := H
     have A14 := Aside0.mk A140
     clear A140
     by_cases c15 : x6_1.length < 8796093022208
     ·rw [if_pos c15] at H
      have LMc15 := Aside0.mk c15
      clear c15
      obtain ⟨y346, hy346⟩ : ∃ y_ : List ByteArray, y_ = (x6_1 ++ [t345]) := ⟨_, rfl⟩
      replace H : (impl_LeavesOf.l0 k1 a1 y346 t344 (wrap64 (x15_1 + 1)) l0_0 l0_1 a0_2) = some (r1, r2) := by first | (rw [hy346]; with_reducible exact H) | (have H2_ := (Option.bind_some _ _).symm.trans H; rw [hy346]; with_reducible exact H2_) | (have H2_ := (Option.bind_some _ _).symm.trans H; with_reducible exact H2_) | with_reducible exact H | (rw [hy346]; exact H) | exact H
      have Ny346 := Aside0.mk hy346
      clear hy346
      have H' := Aside0.mk H
      clear H
      have hcz16_0 : wr.cell? ⟨gb339, 0, none⟩ = some (.slice A0_0 l0_0.length c0_0) := (blk_cell BK339.out 0).trans rfl
      have hcz16_1 : wr.cell? ⟨gb339, 1, none⟩ = some (.slice A0_1 l0_1.length c0_1) := (blk_cell BK339.out 1).trans rfl
      have hcz16_2 : wr.cell? ⟨gb339, 2, none⟩ = some (.int .i64 a0_2) := (blk_cell BK339.out 2).trans rfl
      have hfz16_0 := blk_frozen BK339.out 0
      have hfz16_1 := blk_frozen BK339.out 1
      have hfz16_2 := blk_frozen BK339.out 2
      go_wp2_with (first | ((with_reducible refine gate_callee (f := 65) rfl ?_); refine goesL_ (some 22) rfl rfl Try.func65 (by kernel_rfl) rfl #[.agg #[.slice A0_0 l0_0.length c0_0, .slice A0_1 l0_1.length c0_1, .int .i64 a0_2], .int .i64 a1, .int .i64 x15_1] rfl (by (try simp only [List.map_toArray, List.map_cons, List.map_nil]); first | done | rfl | (simp only [List.length_drop, List.length_take]; rfl)) ?_; (with_reducible refine (impl_Cow_leafAt.calls k1 _ _ l0_0 _ _ l0_1 a0_2 a1 x15_1 t345 _ ?side1 ?side2 ?side3 ?side4 A14.out).mono ?_); (case side1 => repeat (first | exact (Kd.C_below HR0_0.out HB.out) | (with_reducible refine Kd.C_alloc ?_ _) | (with_reducible refine Kd.C_drewN ?_ _) | (with_reducible refine Kd.C_drew ?_))); (case side2 => exact HC0_0.out); (case side3 => repeat (first | exact (Kd.C_below HR0_1.out HB.out) | (with_reducible refine Kd.C_alloc ?_ _) | (with_reducible refine Kd.C_drewN ?_ _) | (with_reducible refine Kd.C_drew ?_))); (case side4 => exact HC0_1.out); rintro e w17 ⟨rfl, hb⟩; refine ⟨_, rfl, ?_⟩; replace HO_6 := Aside0.mk (Kd.R_below (by (with_reducible repeat (first | apply Kd.R_alloc | apply Kd.R_drewN | apply Kd.R_drew)); exact HO_6.out) hb); replace BK339 := Aside0.mk (blk_below (g := gb339) (o := .cells #[.slice A0_0 l0_0.length c0_0, .slice A0_1 l0_1.length c0_1, .int .i64 a0_2] 25 (0, 0)) (by (with_reducible repeat (first | refine blk_drewN ?_ _ | refine blk_drew ?_ | refine blk_alloc ?_ _)); exact BK339.out) hb); replace HB := Aside0.mk (below_step (by with_reducible repeat (first | exact HB.out | apply below_alloc | apply pw_below_drewN | apply below_drew1 | refine below_set ?_ GE339.out)) hb); (try clear hb); (try clear hb2); (try clear hk); (try clear hi)) | ((with_reducible refine gate_builtin (b := .append) (xs := #[.tmp 18, .tmp 23]) rfl ?_); at_builtin; refine Kd.R_append Kd.string (w0 := w) w.heap.size rfl (.tmp 18) (.tmp 23) 44 9 (.string ⟨#[]⟩) 16 rfl Try.underlying44 info9 rfl (by decide) (by omega) u6 x6_1 t345 [.string t345] (fun _ => True) (fun _ => False) rfl rfl ?aP (fun _ hk => hk.elim) ?aF ?aO ?aB ?aS ?aL ?_; (case aP => exact rfl); (case aB => exact (by with_reducible repeat (first | exact HB.out | apply below_alloc | apply pw_below_drewN | apply below_drew1 | refine below_set ?_ GE339.out))); (case aF => exact (fun _ _ => trivial)); (case aO => exact (by (with_reducible repeat (first | apply Kd.R_alloc | apply Kd.R_drewN | apply Kd.R_drew)); exact HO_6.out)); (case aS => exact (below_size (by with_reducible repeat (first | exact HB.out | apply below_alloc | apply pw_below_drewN | apply below_drew1 | refine below_set ?_ GE339.out)))); (case aL => have := LMc15.out; omega); intro v347 w18 ho hb hg hat; rw [← Ny346.out] at ho; replace BK339 := Aside0.mk (blk_grown (g := gb339) (o := .cells #[.slice A0_0 l0_0.length c0_0, .slice A0_1 l0_1.length c0_1, .int .i64 a0_2] 25 (0, 0)) (by (with_reducible repeat (first | refine blk_drewN ?_ _ | refine blk_drew ?_ | refine blk_alloc ?_ _)); exact BK339.out) hg (Kd.R_ne HO_6.out BK339.out (by decide))); replace HB := Aside0.mk (hb); have HO348 := Aside0.mk (ho); clear HO_6; clear ho hb hg hat))
      go_roundg k1
      case measure => have := HK1.out; omega
      case rel => exact ⟨(y346), (wrap64 (x15_1 + 1)), (by first | rfl | (simp; done) | (simp [*]; done)), H', ⟨by have := HK1.out; omega⟩, ⟨by (with_reducible repeat (first | apply Kd.R_alloc | apply Kd.R_drewN | apply Kd.R_drew)); exact HO348.out⟩, ⟨by (with_reducible repeat (first | refine blk_drewN ?_ _ | refine blk_drew ?_ | refine blk_alloc ?_ _)); exact BK339.out⟩, ⟨by with_reducible repeat (first | exact HB.out | apply below_alloc | apply pw_below_drewN | apply below_drew1 | refine below_set ?_ GE339.out)⟩⟩
     ·rw [if_neg c15] at H
      exact absurd H (by simp)
    ·rw [if_neg c13] at H
     have c13b0 : decide (x15_1 < t344) = false := decide_eq_false c13
     clear c13
     simp only [Option.some.injEq, Prod.mk.injEq] at H
     obtain ⟨rfl, rfl⟩ := H
     go_wp2
     go_ret2
     exact ⟨_, by first | rfl | (simp [errW_none, errW_some] <;> rfl) | (simp [*, errW_none, errW_some] <;> rfl) | (simp [E.isEmpty_bne]; done) | (rw [E.bne_empty]), by (with_reducible repeat (first | apply Kd.R_alloc | apply Kd.R_drewN | apply Kd.R_drew)); exact HO_6.out, by with_reducible repeat (first | exact HB.out | apply below_alloc | apply pw_below_drewN | apply below_drew1 | refine below_set ?_ GE339.out)⟩
 ·replace c4 := Bool.eq_false_iff.mpr c4
  subst c4
  have H1 : (some (([] : List ByteArray), false)) = some (r1, r2) := by rw [if_neg (show ¬ (false = true) by decide)] at H; exact H
  clear H
  have H := H1
  clear H1
  simp only [Option.some.injEq, Prod.mk.injEq] at H
  obtain ⟨rfl, rfl⟩ := H
  go_enter Try.func30, Try.ntmps30
  go_wp2_with (first | ((with_reducible refine gate_dst (N := 2) rfl ?_); refine box_event ?hg (N := 2) ?hd (cs := #[.slice A0_0 l0_0.length c0_0, .slice A0_1 l0_1.length c0_1, .int .i64 a0_2]) (t := 25) ?hr ?_; (case hd => rfl); (case hg => rfl); (case hr => first | (go_simp; done) | (go_simp; rfl)); intro gb339 hg w19 hbox hb; have BK339 := Aside0.mk (hbox); have GW339 := Aside0.mk ((by rw [hg]; exact (below_size (by with_reducible repeat (first | exact HB.out | apply below_alloc | apply pw_below_drewN | apply below_drew1))) : w.heap.size ≤ gb339)); have GE339 := Aside0.mk ((by rw [hg]; exact (below_size (by with_reducible repeat (first | exact HB.out | apply below_alloc | apply pw_below_drewN | apply below_drew1))) : w.heap.size ≤ gb339)); replace HB := Aside0.mk (below_step (by with_reducible repeat (first | exact HB.out | apply below_alloc | apply pw_below_drewN | apply below_drew1)) hb); clear hb hbox hg; have hcz20_0 : w19.cell? ⟨gb339, 0, none⟩ = some (.slice A0_0 l0_0.length c0_0) := (blk_cell BK339.out 0).trans rfl; have hcz20_1 : w19.cell? ⟨gb339, 1, none⟩ = some (.slice A0_1 l0_1.length c0_1) := (blk_cell BK339.out 1).trans rfl; have hcz20_2 : w19.cell? ⟨gb339, 2, none⟩ = some (.int .i64 a0_2) := (blk_cell BK339.out 2).trans rfl; have hfz20_0 := blk_frozen BK339.out 0; have hfz20_1 := blk_frozen BK339.out 1; have hfz20_2 := blk_frozen BK339.out 2) | ((with_reducible refine gate_callee (f := 63) rfl ?_); refine goesL_ (some 10) rfl rfl Try.func63 (by kernel_rfl) rfl #[.agg #[.slice A0_0 l0_0.length c0_0, .slice A0_1 l0_1.length c0_1, .int .i64 a0_2], .int .i64 a1] rfl (by (try simp only [List.map_toArray, List.map_cons, List.map_nil]); first | done | rfl | (simp only [List.length_drop, List.length_take]; rfl)) ?_; (with_reducible refine (impl_isRoot.calls _ _ l0_0 _ _ l0_1 a0_2 a1 false _ ?side1 ?side2 ?side3 ?side4 A3.out).mono ?_); (case side1 => repeat (first | exact (Kd.C_below HR0_0.out HB.out) | (with_reducible refine Kd.C_alloc ?_ _) | (with_reducible refine Kd.C_drewN ?_ _) | (with_reducible refine Kd.C_drew ?_))); (case side2 => exact HC0_0.out); (case side3 => repeat (first | exact (Kd.C_below HR0_1.out HB.out) | (with_reducible refine Kd.C_alloc ?_ _) | (with_reducible refine Kd.C_drewN ?_ _) | (with_reducible refine Kd.C_drew ?_))); (case side4 => exact HC0_1.out); rintro e w21 ⟨rfl, hb⟩; refine ⟨_, rfl, ?_⟩; replace BK339 := Aside0.mk (blk_below (g := gb339) (o := .cells #[.slice A0_0 l0_0.length c0_0, .slice A0_1 l0_1.length c0_1, .int .i64 a0_2] 25 (0, 0)) (by (with_reducible repeat (first | refine blk_drewN ?_ _ | refine blk_drew ?_ | refine blk_alloc ?_ _)); exact BK339.out) hb); replace HB := Aside0.mk (below_step (by with_reducible repeat (first | exact HB.out | apply below_alloc | apply pw_below_drewN | apply below_drew1 | refine below_set ?_ GE339.out)) hb); (try clear hb); (try clear hb2); (try clear hk); (try clear hi)))
  go_ret2
  exact ⟨_, by first | rfl | (simp [errW_none, errW_some] <;> rfl) | (simp [*, errW_none, errW_some] <;> rfl) | (simp [E.isEmpty_bne]; done) | (rw [E.bne_empty]), by first | exact Kd.R_nil _ _ _ _ _ | exact Kd.N_nil _ _ _ _ _ | exact Kd.V_nil _ _ _ _ _ | exact Kd.Q_nil _ _ _ _ _ | exact Kd.S_nil _ _ _ _ _, by with_reducible repeat (first | exact HB.out | apply below_alloc | apply pw_below_drewN | apply below_drew1 | refine below_set ?_ GE339.out)⟩
end Go.Proofs.Ytacfalpgmibfnaa.PCow
namespace Go.Proofs.Ytacfalpgmibfnaa.PCow
open Go.RowKit Go.Proofs.YtacfalpgmibfnaaW.PrintWords Go.Proofs.YtacfalpgmibfnaaW.PrintLast Go.Proofs.YtacfalpgmibfnaaW.PrintMore
attribute [local go_sem] max2_int min2_int max_two min_two max_three min_three max_four min_four
set_option linter.unusedVariables false
set_option linter.unusedSimpArgs false
def spec_UsedCells.l0 : Nat → Int → List (S68) → Int → Int → Option (Int × Bool)
 | 0, _, _, _, _ => none
 | k + 1, x4, x11, x12, x13 => if x13 < x12 then (if 0 ≤ x13 then (if x13 < (x11.length : Int) then (if ((rd_T68 x11 x13).f0) > 0 then (spec_UsedCells.l0 k (wrap64 (x4 + 1)) x11 x12 (wrap64 (x13 + 1))) else (spec_UsedCells.l0 k x4 x11 x12 (wrap64 (x13 + 1)))) else (none)) else (none)) else (some (x4, true))
def spec_UsedCells.f (k : Nat) (l0_0 : List (S68)) (l0_1 : List Int) (a0_2 : Int) : Option (Int × Bool) := (spec_GoodCow.f k l0_0 l0_1 a0_2).bind fun t169 => (if t169 = true then (spec_UsedCells.l0 k 0 l0_0 (l0_0.length : Int) 0) else (some (0, false)))
def impl_UsedCells.l0 : Nat → Int → List (S68) → Int → Int → Option (Int × Bool)
 | 0, _, _, _, _ => none
 | k + 1, x4, x11, x12, x13 => if x13 < x12 then (if 0 ≤ x13 then (if x13 < (x11.length : Int) then (if ((rd_T68 x11 x13).f0) > 0 then (impl_UsedCells.l0 k (wrap64 (x4 + 1)) x11 x12 (wrap64 (x13 + 1))) else (impl_UsedCells.l0 k x4 x11 x12 (wrap64 (x13 + 1)))) else (none)) else (none)) else (some (x4, true))
def impl_UsedCells.f (k : Nat) (l0_0 : List (S68)) (l0_1 : List Int) (a0_2 : Int) : Option (Int × Bool) := (impl_GoodCow.f l0_0 l0_1 a0_2).bind fun t173 => (if t173 = true then (impl_UsedCells.l0 k 0 l0_0 (l0_0.length : Int) 0) else (some (0, false)))
set_option maxHeartbeats 8000000 in
set_option maxRecDepth 100000 in
theorem impl_UsedCells.calls (k : Nat) (A0_0 : Option Addr) (c0_0 : Nat) (l0_0 : List (S68)) (A0_1 : Option Addr) (c0_1 : Nat) (l0_1 : List Int) (a0_2 : Int) (r1 : Int) (r2 : Bool) (w : World) (hr0_0 : Kd.C k68 w A0_0 l0_0.length l0_0) (hc0_0 : l0_0.length ≤ c0_0) (hr0_1 : Kd.C (Kd.int .i64) w A0_1 l0_1.length l0_1) (hc0_1 : l0_1.length ≤ c0_1) (h : impl_UsedCells.f k l0_0 l0_1 a0_2 = some (r1, r2)) :
  Calls Try.prog 24 #[.agg #[.slice A0_0 l0_0.length c0_0, .slice A0_1 l0_1.length c0_1, .int .i64 a0_2]] w fun e w' => e = .returned (.tuple #[.int .i64 r1, .bool r2]) ∧ Below w.heap.size w w' := by
 have hu25 := Try.underlying25
 have hu68 := Try.underlying68
 have HR0_0 := Aside0.mk hr0_0
 have HC0_0 := Aside0.mk hc0_0
 clear hr0_0 hc0_0
 have HR0_1 := Aside0.mk hr0_1
 have HC0_1 := Aside0.mk hc0_1
 clear hr0_1 hc0_1
 have HB := Aside0.mk (Below.refl w.heap.size w)
 have H : ((impl_GoodCow.f l0_0 l0_1 a0_2).bind fun t173 => (if t173 = true then (impl_UsedCells.l0 k 0 l0_0 (l0_0.length : Int) 0) else (some (0, false)))) = some (r1, r2) := h
 clear h
 replace H := Option.bind_eq_some_iff.mp H
 obtain ⟨t173, A20, H⟩ := H
 replace H : (if t173 = true then (impl_UsedCells.l0 k 0 l0_0 (l0_0.length : Int) 0) else (some (0, false))) = some (r1, r2) := H
 have A2 := Aside0.mk A20
 clear A20
 by_cases c3 : t173 = true
 ·subst c3
  have H1 : (impl_UsedCells.l0 k 0 l0_0 (l0_0.length : Int) 0) = some (r1, r2) := by rw [if_pos rfl] at H; exact H
  clear H
  have H := H1
  clear H1
  have H' := Aside0.mk H
  clear H
  go_enter Try.func24, Try.ntmps24
  go_wp2_with (first | ((with_reducible refine gate_dst (N := 1) rfl ?_); refine box_event ?hg (N := 1) ?hd (cs := #[.slice A0_0 l0_0.length c0_0, .slice A0_1 l0_1.length c0_1, .int .i64 a0_2]) (t := 25) ?hr ?_; (case hd => rfl); (case hg => rfl); (case hr => first | (go_simp; done) | (go_simp; rfl)); intro gb172 hg w4 hbox hb; have BK172 := Aside0.mk (hbox); have GW172 := Aside0.mk ((by rw [hg]; exact (below_size (by with_reducible repeat (first | exact HB.out | apply below_alloc | apply pw_below_drewN | apply below_drew1))) : w.heap.size ≤ gb172)); have GE172 := Aside0.mk ((by rw [hg]; exact (below_size (by with_reducible repeat (first | exact HB.out | apply below_alloc | apply pw_below_drewN | apply below_drew1))) : w.heap.size ≤ gb172)); replace HB := Aside0.mk (below_step (by with_reducible repeat (first | exact HB.out | apply below_alloc | apply pw_below_drewN | apply below_drew1)) hb); clear hb hbox hg; have hcz5_0 : w4.cell? ⟨gb172, 0, none⟩ = some (.slice A0_0 l0_0.length c0_0) := (blk_cell BK172.out 0).trans rfl; have hcz5_1 : w4.cell? ⟨gb172, 1, none⟩ = some (.slice A0_1 l0_1.length c0_1) := (blk_cell BK172.out 1).trans rfl; have hcz5_2 : w4.cell? ⟨gb172, 2, none⟩ = some (.int .i64 a0_2) := (blk_cell BK172.out 2).trans rfl; have hfz5_0 := blk_frozen BK172.out 0; have hfz5_1 := blk_frozen BK172.out 1; have hfz5_2 := blk_frozen BK172.out 2) | ((with_reducible refine gate_callee (f := 22) rfl ?_); refine goesL_ (some 8) rfl rfl Try.func22 (by kernel_rfl) rfl #[.agg #[.slice A0_0 l0_0.length c0_0, .slice A0_1 l0_1.length c0_1, .int .i64 a0_2]] rfl (by (try simp only [List.map_toArray, List.map_cons, List.map_nil]); first | done | rfl | (simp only [List.length_drop, List.length_take]; rfl)) ?_; (with_reducible refine (impl_GoodCow.calls _ _ l0_0 _ _ l0_1 a0_2 true _ ?side1 ?side2 ?side3 ?side4 A2.out).mono ?_); (case side1 => repeat (first | exact (Kd.C_below HR0_0.out HB.out) | (with_reducible refine Kd.C_alloc ?_ _) | (with_reducible refine Kd.C_drewN ?_ _) | (with_reducible refine Kd.C_drew ?_))); (case side2 => exact HC0_0.out); (case side3 => repeat (first | exact (Kd.C_below HR0_1.out HB.out) | (with_reducible refine Kd.C_alloc ?_ _) | (with_reducible refine Kd.C_drewN ?_ _) | (with_reducible refine Kd.C_drew ?_))); (case side4 => exact HC0_1.out); rintro e w6 ⟨rfl, hb⟩; refine ⟨_, rfl, ?_⟩; replace BK172 := Aside0.mk (blk_below (g := gb172) (o := .cells #[.slice A0_0 l0_0.length c0_0, .slice A0_1 l0_1.length c0_1, .int .i64 a0_2] 25 (0, 0)) (by (with_reducible repeat (first | refine blk_drewN ?_ _ | refine blk_drew ?_ | refine blk_alloc ?_ _)); exact BK172.out) hb); replace HB := Aside0.mk (below_step (by with_reducible repeat (first | exact HB.out | apply below_alloc | apply pw_below_drewN | apply below_drew1 | refine below_set ?_ GE172.out)) hb); (try clear hb); (try clear hb2); (try clear hk); (try clear hi); have hcz7_0 : w6.cell? ⟨gb172, 0, none⟩ = some (.slice A0_0 l0_0.length c0_0) := (blk_cell BK172.out 0).trans rfl; have hcz7_1 : w6.cell? ⟨gb172, 1, none⟩ = some (.slice A0_1 l0_1.length c0_1) := (blk_cell BK172.out 1).trans rfl; have hcz7_2 : w6.cell? ⟨gb172, 2, none⟩ = some (.int .i64 a0_2) := (blk_cell BK172.out 2).trans rfl; have hfz7_0 := blk_frozen BK172.out 0; have hfz7_1 := blk_frozen BK172.out 1; have hfz7_2 := blk_frozen BK172.out 2))
  go_loopg [4, 13] k (fun kq v4 v13 w' => ∃ (x4_1 : Int) (x13_1 : Int), v4 = .int .i64 x4_1 ∧ v13 = .int .i64 x13_1 ∧ Aside0 (impl_UsedCells.l0 kq x4_1 l0_0 (l0_0.length : Int) x13_1 = some (r1, r2)) ∧ Aside0 (kq ≤ k) ∧ Aside0 (w'.heap[gb172]? = some (.cells #[(.slice A0_0 l0_0.length c0_0), (.slice A0_1 l0_1.length c0_1), .int .i64 a0_2] 25 (0, 0))) ∧ Aside0 (Below w.heap.size w w'))
  case atStart => exact ⟨(0), (0), (by first | rfl | (simp; done) | (simp [*]; done)), (by first | rfl | (simp; done) | (simp [*]; done)), H', ⟨Nat.le_refl _⟩, ⟨by (with_reducible repeat (first | refine blk_drewN ?_ _ | refine blk_drew ?_ | refine blk_alloc ?_ _)); exact BK172.out⟩, ⟨by with_reducible repeat (first | exact HB.out | apply below_alloc | apply pw_below_drewN | apply below_drew1 | refine below_set ?_ GE172.out)⟩⟩
  case round =>
   clear H'
   try clear c2
   try clear p2
   try clear c3
   try clear hcz5_0
   try clear hcz5_1
   try clear hcz5_2
   try clear hcz7_0
   try clear hcz7_1
   try clear hcz7_2
   try clear hfz5_0
   try clear hfz5_1
   try clear hfz5_2
   try clear hfz7_0
   try clear hfz7_1
   try clear hfz7_2
   obtain ⟨x4_1, x13_1, rfl, rfl, HA, HK1, BK172, HB⟩ := hrel
   cases gk with
   | zero => exact absurd HA.out (by simp [impl_UsedCells.l0])
   | succ k1 =>
    have H := HA.out
    clear HA
    simp only [impl_UsedCells.l0] at H
    by_cases c8 : x13_1 < (l0_0.length : Int)
    ·rw [if_pos c8] at H
     have c8b0 : decide (x13_1 < (l0_0.length : Int)) = true := decide_eq_true c8
     clear c8
     by_cases c9 : 0 ≤ x13_1
     ·rw [if_pos c9] at H
      have c9b0 : decide (0 ≤ x13_1) = true := decide_eq_true c9
      clear c9
      by_cases c10 : x13_1 < (l0_0.length : Int)
      ·rw [if_pos c10] at H
       have c10b0 : decide (x13_1 < (l0_0.length : Int)) = true := decide_eq_true c10
       clear c10
       by_cases c11 : ((rd_T68 l0_0 x13_1).f0) > 0
       ·rw [if_pos c11] at H
        have c11b0 : decide (0 < ((rd_T68 l0_0 x13_1).f0)) = true := decide_eq_true c11
        clear c11
        have H' := Aside0.mk H
        clear H
        have p174 : 0 ≤ (x13_1 : Int) := of_decide_eq_true (by assumption)
        have q174 : x13_1 < (l0_0.length : Int) := of_decide_eq_true (by assumption)
        obtain ⟨ad174, A174_2, c174_2, e174, hx174_0, hx174_1, hx174_2, hl174_2, hi174_2⟩ := at_T68 HR0_0.out x13_1 p174 q174
        cases e174
        replace hx174_0 := (HB.out.cell (World.block_lt_of_cell? w _ hx174_0)).trans hx174_0
        replace hx174_1 := (HB.out.cell (World.block_lt_of_cell? w _ hx174_1)).trans hx174_1
        replace hx174_2 := (HB.out.cell (World.block_lt_of_cell? w _ hx174_2)).trans hx174_2
        have HR174_2 := Aside0.mk hi174_2
        have HC174_2 := Aside0.mk hl174_2
        clear hi174_2 hl174_2
        replace p174 := eq_true p174
        replace q174 := eq_true q174
        go_wp2_with (first | ((with_reducible refine gate_dst (N := 6) rfl ?_); refine box_event ?hg (N := 6) ?hd (cs := #[.int .i64 0, .string (⟨#[]⟩ : ByteArray), .slice none 0 0]) (t := 68) ?hr ?_; (case hd => rfl); (case hg => rfl); (case hr => first | (go_simp; done) | (go_simp; rfl)); intro gb175 hg w12 hbox hb; have BK175 := Aside0.mk (hbox); have GW175 := Aside0.mk ((by rw [hg]; exact (below_size (by with_reducible repeat (first | exact HB.out | apply below_alloc | apply pw_below_drewN | apply below_drew1 | refine below_set ?_ GE172.out))) : w.heap.size ≤ gb175)); have GE175 := Aside0.mk ((by rw [hg]; exact (below_size (by with_reducible repeat (first | exact HB.out | apply below_alloc | apply pw_below_drewN | apply below_drew1 | refine below_set ?_ GE172.out))) : w.heap.size ≤ gb175)); replace HB := Aside0.mk (below_step (by with_reducible repeat (first | exact HB.out | apply below_alloc | apply pw_below_drewN | apply below_drew1 | refine below_set ?_ GE172.out)) hb); have NB172_175 := Aside0.mk ((by rw [hg]; exact Nat.ne_of_lt (blk_lt (g := gb172) (o := .cells #[.slice (some ad174) l0_0.length c0_0, .slice A0_1 l0_1.length c0_1, .int .i64 a0_2] 25 (0, 0)) (by (with_reducible repeat (first | refine blk_drewN ?_ _ | refine blk_drew ?_ | refine blk_alloc ?_ _)); exact BK172.out)) : gb172 ≠ gb175)); have NB175_172 := Aside0.mk ((by rw [hg]; exact Nat.ne_of_gt (blk_lt (g := gb172) (o := .cells #[.slice (some ad174) l0_0.length c0_0, .slice A0_1 l0_1.length c0_1, .int .i64 a0_2] 25 (0, 0)) (by (with_reducible repeat (first | refine blk_drewN ?_ _ | refine blk_drew ?_ | refine blk_alloc ?_ _)); exact BK172.out)) : gb175 ≠ gb172)); replace BK172 := Aside0.mk (blk_below (g := gb172) (o := .cells #[.slice (some ad174) l0_0.length c0_0, .slice A0_1 l0_1.length c0_1, .int .i64 a0_2] 25 (0, 0)) (by (with_reducible repeat (first | refine blk_drewN ?_ _ | refine blk_drew ?_ | refine blk_alloc ?_ _)); exact BK172.out) hb); clear hb hbox hg; have hnb13 := NB175_172.out; have hnc13 := NB172_175.out; have hcz14_0 : w12.cell? ⟨gb175, 0, none⟩ = some (.int .i64 0) := (blk_cell BK175.out 0).trans rfl; have hcz14_1 : w12.cell? ⟨gb175, 1, none⟩ = some (.string (⟨#[]⟩ : ByteArray)) := (blk_cell BK175.out 1).trans rfl; have hcz14_2 : w12.cell? ⟨gb175, 2, none⟩ = some (.slice none 0 0) := (blk_cell BK175.out 2).trans rfl; have hfz14_0 := blk_frozen BK175.out 0; have hfz14_1 := blk_frozen BK175.out 1; have hfz14_2 := blk_frozen BK175.out 2))
        go_roundg k1
        case measure => have := HK1.out; omega
        case rel => exact ⟨(wrap64 (x4_1 + 1)), (wrap64 (x13_1 + 1)), (by first | rfl | (simp; done) | (simp [*]; done)), (by first | rfl | (simp; done) | (simp [*]; done)), H', ⟨by have := HK1.out; omega⟩, ⟨by (with_reducible repeat (first | refine blk_drewN ?_ _ | refine blk_drew ?_ | refine blk_alloc ?_ _)); refine blk_far ?_ NB172_175.out _; (with_reducible repeat (first | refine blk_drewN ?_ _ | refine blk_drew ?_ | refine blk_alloc ?_ _)); refine blk_far ?_ NB172_175.out _; (with_reducible repeat (first | refine blk_drewN ?_ _ | refine blk_drew ?_ | refine blk_alloc ?_ _)); refine blk_far ?_ NB172_175.out _; (with_reducible repeat (first | refine blk_drewN ?_ _ | refine blk_drew ?_ | refine blk_alloc ?_ _)); exact BK172.out⟩, ⟨by with_reducible repeat (first | exact HB.out | apply below_alloc | apply pw_below_drewN | apply below_drew1 | refine below_set ?_ GE172.out | refine below_set ?_ GE175.out)⟩⟩
       ·rw [if_neg c11] at H
        have c11b0 : decide (0 < ((rd_T68 l0_0 x13_1).f0)) = false := decide_eq_false c11
        clear c11
        have H' := Aside0.mk H
        clear H
        have p174 : 0 ≤ (x13_1 : Int) := of_decide_eq_true (by assumption)
        have q174 : x13_1 < (l0_0.length : Int) := of_decide_eq_true (by assumption)
        obtain ⟨ad174, A174_2, c174_2, e174, hx174_0, hx174_1, hx174_2, hl174_2, hi174_2⟩ := at_T68 HR0_0.out x13_1 p174 q174
        cases e174
        replace hx174_0 := (HB.out.cell (World.block_lt_of_cell? w _ hx174_0)).trans hx174_0
        replace hx174_1 := (HB.out.cell (World.block_lt_of_cell? w _ hx174_1)).trans hx174_1
        replace hx174_2 := (HB.out.cell (World.block_lt_of_cell? w _ hx174_2)).trans hx174_2
        have HR174_2 := Aside0.mk hi174_2
        have HC174_2 := Aside0.mk hl174_2
        clear hi174_2 hl174_2
        replace p174 := eq_true p174
        replace q174 := eq_true q174
        go_wp2_with (first | ((with_reducible refine gate_dst (N := 6) rfl ?_); refine box_event ?hg (N := 6) ?hd (cs := #[.int .i64 0, .string (⟨#[]⟩ : ByteArray), .slice none 0 0]) (t := 68) ?hr ?_; (case hd => rfl); (case hg => rfl); (case hr => first | (go_simp; done) | (go_simp; rfl)); intro gb175 hg w15 hbox hb; have BK175 := Aside0.mk (hbox); have GW175 := Aside0.mk ((by rw [hg]; exact (below_size (by with_reducible repeat (first | exact HB.out | apply below_alloc | apply pw_below_drewN | apply below_drew1 | refine below_set ?_ GE172.out))) : w.heap.size ≤ gb175)); have GE175 := Aside0.mk ((by rw [hg]; exact (below_size (by with_reducible repeat (first | exact HB.out | apply below_alloc | apply pw_below_drewN | apply below_drew1 | refine below_set ?_ GE172.out))) : w.heap.size ≤ gb175)); replace HB := Aside0.mk (below_step (by with_reducible repeat (first | exact HB.out | apply below_alloc | apply pw_below_drewN | apply below_drew1 | refine below_set ?_ GE172.out)) hb); have NB172_175 := Aside0.mk ((by rw [hg]; exact Nat.ne_of_lt (blk_lt (g := gb172) (o := .cells #[.slice (some ad174) l0_0.length c0_0, .slice A0_1 l0_1.length c0_1, .int .i64 a0_2] 25 (0, 0)) (by (with_reducible repeat (first | refine blk_drewN ?_ _ | refine blk_drew ?_ | refine blk_alloc ?_ _)); exact BK172.out)) : gb172 ≠ gb175)); have NB175_172 := Aside0.mk ((by rw [hg]; exact Nat.ne_of_gt (blk_lt (g := gb172) (o := .cells #[.slice (some ad174) l0_0.length c0_0, .slice A0_1 l0_1.length c0_1, .int .i64 a0_2] 25 (0, 0)) (by (with_reducible repeat (first | refine blk_drewN ?_ _ | refine blk_drew ?_ | refine blk_alloc ?_ _)); exact BK172.out)) : gb175 ≠ gb172)); replace BK172 := Aside0.mk (blk_below (g := gb172) (o := .cells #[.slice (some ad174) l0_0.length c0_0, .slice A0_1 l0_1.length c0_1, .int .i64 a0_2] 25 (0, 0)) (by (with_reducible repeat (first | refine blk_drewN ?_ _ | refine blk_drew ?_ | refine blk_alloc ?_ _)); exact BK172.out) hb); clear hb hbox hg; have hnb16 := NB175_172.out; have hnc16 := NB172_175.out; have hcz17_0 : w15.cell? ⟨gb175, 0, none⟩ = some (.int .i64 0) := (blk_cell BK175.out 0).trans rfl; have hcz17_1 : w15.cell? ⟨gb175, 1, none⟩ = some (.string (⟨#[]⟩ : ByteArray)) := (blk_cell BK175.out 1).trans rfl; have hcz17_2 : w15.cell? ⟨gb175, 2, none⟩ = some (.slice none 0 0) := (blk_cell BK175.out 2).trans rfl; have hfz17_0 := blk_frozen BK175.out 0; have hfz17_1 := blk_frozen BK175.out 1; have hfz17_2 := blk_frozen BK175.out 2))
        go_roundg k1
        case measure => have := HK1.out; omega
        case rel => exact ⟨(x4_1), (wrap64 (x13_1 + 1)), (by first | rfl | (simp; done) | (simp [*]; done)), (by first | rfl | (simp; done) | (simp [*]; done)), H', ⟨by have := HK1.out; omega⟩, ⟨by (with_reducible repeat (first | refine blk_drewN ?_ _ | refine blk_drew ?_ | refine blk_alloc ?_ _)); refine blk_far ?_ NB172_175.out _; (with_reducible repeat (first | refine blk_drewN ?_ _ | refine blk_drew ?_ | refine blk_alloc ?_ _)); refine blk_far ?_ NB172_175.out _; (with_reducible repeat (first | refine blk_drewN ?_ _ | refine blk_drew ?_ | refine blk_alloc ?_ _)); refine blk_far ?_ NB172_175.out _; (with_reducible repeat (first | refine blk_drewN ?_ _ | refine blk_drew ?_ | refine blk_alloc ?_ _)); exact BK172.out⟩, ⟨by with_reducible repeat (first | exact HB.out | apply below_alloc | apply pw_below_drewN | apply below_drew1 | refine below_set ?_ GE172.out | refine below_set ?_ GE175.out)⟩⟩
      ·rw [if_neg c10] at H
       exact absurd H (by simp)
     ·rw [if_neg c9] at H
      exact absurd H (by simp)
    ·rw [if_neg c8] at H
     have c8b0 : decide (x13_1 < (l0_0.length : Int)) = false := decide_eq_false c8
     clear c8
     simp only [Option.some.injEq, Prod.mk.injEq] at H
     obtain ⟨rfl, rfl⟩ := H
     go_wp2
     go_ret2
     exact ⟨by first | rfl | (simp [errW_none, errW_some] <;> rfl) | (simp [*, errW_none, errW_some] <;> rfl) | (simp [E.isEmpty_bne]; done) | (rw [E.bne_empty]), by with_reducible repeat (first | exact HB.out | apply below_alloc | apply pw_below_drewN | apply below_drew1 | refine below_set ?_ GE172.out)⟩
 ·replace c3 := Bool.eq_false_iff.mpr c3
  subst c3
  have H1 : (some (0, false)) = some (r1, r2) := by rw [if_neg (show ¬ (false = true) by decide)] at H; exact H
  clear H
  have H := H1
  clear H1
  simp only [Option.some.injEq, Prod.mk.injEq] at H
  obtain ⟨rfl, rfl⟩ := H
  go_enter Try.func24, Try.ntmps24
  go_wp2_with (first | ((with_reducible refine gate_dst (N := 1) rfl ?_); refine box_event ?hg (N := 1) ?hd (cs := #[.slice A0_0 l0_0.length c0_0, .slice A0_1 l0_1.length c0_1, .int .i64 a0_2]) (t := 25) ?hr ?_; (case hd => rfl); (case hg => rfl); (case hr => first | (go_simp; done) | (go_simp; rfl)); intro gb172 hg w18 hbox hb; have BK172 := Aside0.mk (hbox); have GW172 := Aside0.mk ((by rw [hg]; exact (below_size (by with_reducible repeat (first | exact HB.out | apply below_alloc | apply pw_below_drewN | apply below_drew1))) : w.heap.size ≤ gb172)); have GE172 := Aside0.mk ((by rw [hg]; exact (below_size (by with_reducible repeat (first | exact HB.out | apply below_alloc | apply pw_below_drewN | apply below_drew1))) : w.heap.size ≤ gb172)); replace HB := Aside0.mk (below_step (by with_reducible repeat (first | exact HB.out | apply below_alloc | apply pw_below_drewN | apply below_drew1)) hb); clear hb hbox hg; have hcz19_0 : w18.cell? ⟨gb172, 0, none⟩ = some (.slice A0_0 l0_0.length c0_0) := (blk_cell BK172.out 0).trans rfl; have hcz19_1 : w18.cell? ⟨gb172, 1, none⟩ = some (.slice A0_1 l0_1.length c0_1) := (blk_cell BK172.out 1).trans rfl; have hcz19_2 : w18.cell? ⟨gb172, 2, none⟩ = some (.int .i64 a0_2) := (blk_cell BK172.out 2).trans rfl; have hfz19_0 := blk_frozen BK172.out 0; have hfz19_1 := blk_frozen BK172.out 1; have hfz19_2 := blk_frozen BK172.out 2) | ((with_reducible refine gate_callee (f := 22) rfl ?_); refine goesL_ (some 8) rfl rfl Try.func22 (by kernel_rfl) rfl #[.agg #[.slice A0_0 l0_0.length c0_0, .slice A0_1 l0_1.length c0_1, .int .i64 a0_2]] rfl (by (try simp only [List.map_toArray, List.map_cons, List.map_nil]); first | done | rfl | (simp only [List.length_drop, List.length_take]; rfl)) ?_; (with_reducible refine (impl_GoodCow.calls _ _ l0_0 _ _ l0_1 a0_2 false _ ?side1 ?side2 ?side3 ?side4 A2.out).mono ?_); (case side1 => repeat (first | exact (Kd.C_below HR0_0.out HB.out) | (with_reducible refine Kd.C_alloc ?_ _) | (with_reducible refine Kd.C_drewN ?_ _) | (with_reducible refine Kd.C_drew ?_))); (case side2 => exact HC0_0.out); (case side3 => repeat (first | exact (Kd.C_below HR0_1.out HB.out) | (with_reducible refine Kd.C_alloc ?_ _) | (with_reducible refine Kd.C_drewN ?_ _) | (with_reducible refine Kd.C_drew ?_))); (case side4 => exact HC0_1.out); rintro e w20 ⟨rfl, hb⟩; refine ⟨_, rfl, ?_⟩; replace BK172 := Aside0.mk (blk_below (g := gb172) (o := .cells #[.slice A0_0 l0_0.length c0_0, .slice A0_1 l0_1.length c0_1, .int .i64 a0_2] 25 (0, 0)) (by (with_reducible repeat (first | refine blk_drewN ?_ _ | refine blk_drew ?_ | refine blk_alloc ?_ _)); exact BK172.out) hb); replace HB := Aside0.mk (below_step (by with_reducible repeat (first | exact HB.out | apply below_alloc | apply pw_below_drewN | apply below_drew1 | refine below_set ?_ GE172.out)) hb); (try clear hb); (try clear hb2); (try clear hk); (try clear hi)))
  go_ret2
  exact ⟨by first | rfl | (simp [errW_none, errW_some] <;> rfl) | (simp [*, errW_none, errW_some] <;> rfl) | (simp [E.isEmpty_bne]; done) | (rw [E.bne_empty]), by with_reducible repeat (first | exact HB.out | apply below_alloc | apply pw_below_drewN | apply below_drew1 | refine below_set ?_ GE172.out)⟩
end Go.Proofs.Ytacfalpgmibfnaa.PCow
namespace Go.Proofs.Ytacfalpgmibfnaa.PCow
open Go.RowKit Go.Proofs.YtacfalpgmibfnaaW.PrintWords Go.Proofs.YtacfalpgmibfnaaW.PrintLast Go.Proofs.YtacfalpgmibfnaaW.PrintMore Go.Proofs.Ytacfalpgmibfnaa.E
set_option linter.unusedSimpArgs false
set_option linter.unusedVariables false
def loopB (F : Int → List Bool → Option (List Bool)) : List Int → List Bool → Option (List Bool)
 | [], s => some s
 | z :: r, s => (F z s).bind fun t => loopB F r t
def markM (C : List S68) : Nat → Int → List Bool → Option (List Bool)
 | 0, _, _ => none
 | m + 1, k, s => if k < 0 then some s else if k < (s.length : Int) then (if rdOf false s k = true then some s else if k < (C.length : Int) then loopB (markM C m) (rd_T68 C k).f2 (s.set k.toNat true) else none) else none
theorem rowb_ok {e base : Nat} {w : World} {v : Value} {xs : List Bool} {ok : Nat → Prop} (h : Kd.bool.R e w base (fun _ => True) v xs) (hok : ∀ k, v.ownBlock = some k → ok k) : Kd.bool.R e w base ok v xs := Kd.R_of_own (Kd.own_of_R h) hok
end Go.Proofs.Ytacfalpgmibfnaa.PCow
namespace Go.Proofs.Ytacfalpgmibfnaa.PCow
open Go.RowKit Go.Proofs.YtacfalpgmibfnaaW.PrintWords Go.Proofs.YtacfalpgmibfnaaW.PrintLast Go.Proofs.YtacfalpgmibfnaaW.PrintMore Go.Proofs.Ytacfalpgmibfnaa.E
set_option linter.unusedSimpArgs false
set_option linter.unusedVariables false
def spec_l14Mark.f (l0_0 : List S68) (l0_1 : List Int) (a0_2 : Int) (a1 : Int) (l2 : List Bool) : Option (List Bool) := markM l0_0 5 a1 l2
end Go.Proofs.Ytacfalpgmibfnaa.PCow
namespace Go.Proofs.Ytacfalpgmibfnaa.PCow
open Go.RowKit Go.Proofs.YtacfalpgmibfnaaW.PrintWords Go.Proofs.YtacfalpgmibfnaaW.PrintLast Go.Proofs.YtacfalpgmibfnaaW.PrintMore Go.Proofs.Ytacfalpgmibfnaa.E
set_option linter.unusedSimpArgs false
set_option linter.unusedVariables false
set_option maxHeartbeats 2000000 in
set_option maxRecDepth 100000 in
theorem impl_Cow_reach.at_ (C : List S68) : ∀ (lev : Nat) (A0 : Option Addr) (c0 : Nat) (A1 : Option Addr) (c1 : Nat) (l1 : List Int) (a2 k : Int) (P : Nat → Prop) (u : Value) (seen r2 : List Bool) (w0 w : World) (hB : Below w0.heap.size w0 w)
  (hr0 : ∀ W_, Kept w W_ (fun k_ => P k_) → Kd.C k68 W_ A0 C.length C) (hc0 : C.length ≤ c0) (hu : Kd.bool.R 4 w w0.heap.size (fun _ => True) u seen) (hP : ∀ k, u.ownBlock = some k → P k ∧ k < w.heap.size) (h : markM C lev k seen = some r2),
  Calls Try.prog 67 #[.agg #[.slice A0 C.length c0, .slice A1 l1.length c1, .int .i64 a2], .int .i64 k, u] w fun e w' => e = .returned (.tuple #[]) ∧ Kd.bool.R 4 w' w0.heap.size (fun _ => True) u r2 ∧ Below w0.heap.size w0 w' ∧ Kept w w' (fun k_ => P k_) := by
 intro lev
 induction lev with
 | zero =>
  intro A0 c0 A1 c1 l1 a2 k P u seen r2 w0 w hB hr0 hc0 hu hP h
  simp only [markM] at h
  cases h
 | succ lev ih =>
  intro A0 c0 A1 c1 l1 a2 k P u seen r2 w0 w hB hr0 hc0 hu hP h
  have hu25 := Try.underlying25
  have hu68 := Try.underlying68
  have hn0 : C.length ≤ 9223372036854775807 := (hr0 w (Kept.refl _ _)).2.1
  have HR := Aside0.mk hr0
  have HU := Aside0.mk hu
  have HP := Aside0.mk hP
  have HB := Aside0.mk hB
  have HS := Aside0.mk hB.size
  have IH := Aside0.mk ih
  simp only [markM] at h
  clear hr0 hu hP hB ih
  by_cases hk1 : k < 0
  ·rw [if_pos hk1] at h
   simp only [Option.some.injEq] at h
   subst h
   have hk2 : (k < 0) = True := eq_true hk1
   clear hk1
   go_enter Try.func67, Try.ntmps67
   go_wp2
   repeat (go_quiet (fail); try go_wp2)
   first | go_end0 | ((try simp only [Exit.inBlock, Exit.then]); refine bodyPost_ret (results_none rfl _ _ _) rfl ?_)
   exact ⟨rfl, Kd.R_alloc HU.out _, HB.out.alloc HS.out _, (Kept.refl _ _).alloc _⟩
  rw [if_neg hk1] at h
  have hk2 : (k < 0) = False := eq_false hk1
  by_cases hin : k < (seen.length : Int)
  ·rw [if_pos hin] at h
   obtain ⟨W1, hW1⟩ : ∃ W, w.alloc (.cells #[.slice A0 C.length c0, .slice A1 l1.length c1, .int .i64 a2] 25) = W := ⟨_, rfl⟩
   have X1 := Aside0.mk (show W1.heap[w.heap.size]? = some (.cells #[.slice A0 C.length c0, .slice A1 l1.length c1, .int .i64 a2] 25 (0, 0)) by rw [← hW1]; exact heap_alloc_new w _)
   have B1 := Aside0.mk (show Below w0.heap.size w0 W1 by rw [← hW1]; exact HB.out.alloc HS.out _)
   have K1 := Aside0.mk (show Kept w W1 (fun k_ => P k_) by rw [← hW1]; exact (Kept.refl _ _).alloc _)
   have U1 := Aside0.mk (show Kd.bool.R 4 W1 w0.heap.size (fun _ => True) u seen by rw [← hW1]; exact Kd.R_alloc HU.out _)
   obtain ⟨g, cap, hv, hg1, hg2, cs, hgc⟩ := Kd.R_form U1.out (by omega)
   subst hv
   have hgP := HP.out g rfl
   have p1 : (0 ≤ k) = True := eq_true (by omega)
   have p3 : (k < (seen.length : Int)) = True := eq_true hin
   have q1 : W1.cell? ⟨g, k.toNat, none⟩ = some (.bool (rdOf false seen k)) := (Kd.R_celln (d := false) U1.out k (by omega) hin).1
   have qf1 : W1.frozen? ⟨g, k.toNat, none⟩ = false := (Kd.R_celln (d := false) U1.out k (by omega) hin).2
   cases hz : rdOf false seen k with
   | true =>
    rw [hz, if_pos rfl] at h
    simp only [Option.some.injEq] at h
    subst h
    rw [hz] at q1
    clear hz hk1 hin
    go_enter Try.func67, Try.ntmps67
    go_wp2
    repeat (go_quiet (fail); try go_wp2)
    first | go_end0 | ((try simp only [Exit.inBlock, Exit.then]); refine bodyPost_ret (results_none rfl _ _ _) rfl ?_)
    exact ⟨rfl, by (with_reducible repeat (first | apply Kd.R_alloc | apply Kd.R_drewN | apply Kd.R_drew)); exact U1.out, by (with_reducible repeat (first | apply below_alloc | apply pw_below_drewN | apply below_drew1)); exact B1.out, by (with_reducible repeat (first | apply Kept.alloc | apply Kept.drewN | apply Kept.drew)); exact K1.out⟩
   | false =>
    rw [hz, if_neg (by simp)] at h
    rw [hz] at q1
    by_cases hC : k < (C.length : Int)
    ·rw [if_pos hC] at h
     obtain ⟨ad, A2, c2, hA0, hlen, hcell⟩ := cell_at HR.out k (by omega) hC
     subst hA0
     have hcell' := Aside0.mk hcell
     clear hcell
     obtain ⟨x, hx⟩ : ∃ x, rd_T68 C k = x := ⟨_, rfl⟩
     rw [hx] at hcell' hlen h
     have hx2 : x.f2.length ≤ 9223372036854775807 := (hcell'.out w (Kept.refl _ _)).2.2.2.2.1
     have p2 : (k < (C.length : Int)) = True := eq_true hC
     have hgs := Aside0.mk (show g < w.heap.size from hgP.2)
     have hgp := Aside0.mk hgP.1
     have HLp := Aside0.mk h
     obtain ⟨w2, hw2, hX2, hB2, hK2, hU2⟩ : ∃ w2, W1.setCell ⟨g, k.toNat, none⟩ (.bool true) = w2 ∧ w2.heap[w.heap.size]? = some (.cells #[.slice (some ad) C.length c0, .slice A1 l1.length c1, .int .i64 a2] 25 (0, 0)) ∧ Below w0.heap.size w0 w2 ∧ Kept w w2 (fun k_ => P k_) ∧ Kd.bool.R 4 w2 w0.heap.size (fun _ => True) (.slice (some ⟨g, 0, none⟩) seen.length cap) (seen.set k.toNat true) :=
      ⟨_, rfl, blk_far X1.out (p := ⟨g, k.toNat, none⟩) (by show w.heap.size ≠ g; omega) _, below_set B1.out hg1, K1.out.setCell (.inl hgP.1) _, Kd.R_putn U1.out k _⟩
     have X2 := Aside0.mk hX2
     have B2 := Aside0.mk hB2
     have K2 := Aside0.mk hK2
     have U2 := Aside0.mk hU2
     have e0' : w2.cell? ⟨w.heap.size, 0, none⟩ = some (.slice (some ad) C.length c0) := (blk_cell X2.out _).trans rfl
     obtain ⟨hx0, hx1, hx2', _⟩ := hcell'.out w2 K2.out
     clear hz hC hin hx hX2 hB2 hK2 hU2 h hgP X1 B1 K1 U1 HU HB hg1 hg2 hgc hk1
     go_enter Try.func67, Try.ntmps67
     go_wp2
     repeat (go_quiet (fail); try go_wp2)
     clear hW1 hw2 e0' hx0 hx1 hx2' q1 qf1
     go_loopw [26] (fun vi wr => ∃ (q : Nat) (s : List Bool), q ≤ x.f2.length ∧ vi = .int .i64 q ∧ Aside0 (loopB (markM C lev) (x.f2.drop q) s = some r2) ∧ Aside0 (Kd.bool.R 4 wr w0.heap.size (fun _ => True) (.slice (some ⟨g, 0, none⟩) seen.length cap) s) ∧ Aside0 (wr.heap[w.heap.size]? = some (.cells #[.slice (some ad) C.length c0, .slice A1 l1.length c1, .int .i64 a2] 25 (0, 0))) ∧ Aside0 (Below w0.heap.size w0 wr) ∧ Aside0 (Kept w wr (fun k_ => P k_))) (fun vi _ => x.f2.length - (intOf vi).toNat)
     case atStart => exact ⟨0, _, Nat.zero_le _, rfl, ⟨by rw [List.drop_zero]; exact HLp.out⟩, U2, X2, B2, K2⟩
     case round =>
      clear X2 B2 K2 U2 HLp
      obtain ⟨q, s, hq, rfl, HLq, U3, X3, B3, K3⟩ := hrel
      have e0 : wr.cell? ⟨w.heap.size, 0, none⟩ = some (.slice (some ad) C.length c0) := (blk_cell X3.out _).trans rfl
      have e1 : wr.cell? ⟨w.heap.size, 1, none⟩ = some (.slice A1 l1.length c1) := (blk_cell X3.out _).trans rfl
      have e2 : wr.cell? ⟨w.heap.size, 2, none⟩ = some (.int .i64 a2) := (blk_cell X3.out _).trans rfl
      by_cases hql : q < x.f2.length
      ·obtain ⟨ad2, e3, hy⟩ := Kd.at_int (hcell'.out wr K3.out).2.2.2 (q : Int) (by omega) (by omega)
       subst e3
       simp only [Int.toNat_natCast] at hy
       obtain ⟨z, hz⟩ : ∃ z, rd x.f2 (q : Int) = z := ⟨_, rfl⟩
       rw [hz] at hy
       have hd : x.f2.drop q = z :: x.f2.drop (q + 1) := by
        rw [List.drop_eq_getElem_cons hql, ← hz]
        congr 1
        unfold rd
        rw [List.getD_eq_getElem?_getD, Int.toNat_natCast, List.getElem?_eq_getElem hql]
        rfl
       obtain ⟨s1, h1, h2⟩ := Option.bind_eq_some_iff.1 (show (markM C lev z s).bind (fun t => loopB (markM C lev) (x.f2.drop (q + 1)) t) = some r2 by
        have := HLq.out
        rw [hd] at this
        exact this)
       have H2 := Aside0.mk h2
       have hqq : ((q : Int) < (x.f2.length : Int)) = True := eq_true (by omega)
       have hcall := Aside0.mk (IH.out (some ad) c0 A1 c1 l1 a2 z (fun k_ => P k_ ∧ k_ < w.heap.size) _ s s1 w0 wr B3.out (fun W hk => HR.out W (K3.out.then_ hk (fun _ h3 => .inl h3.1))) hc0 U3.out (fun j hj => by
        have : g = j := by simpa [Value.ownBlock] using hj
        subst this
        exact ⟨⟨hgp.out, hgs.out⟩, by have := K3.out.1; have := hgs.out; omega⟩) h1)
       have hsl : s.length = seen.length := (Kd.R_reads' U3.out).1.symm
       clear h1 h2 hd hz HLq
       go_wp2_with (go_at_call 67; (with_reducible refine hcall.out.mono ?_))
       (first | rintro e w4 rfl hU4 hB4 hK4 | rintro e w4 ⟨rfl, hU4, hB4, hK4⟩)
       have X4 := Aside0.mk (blk_kept X3.out hK4 (fun h3 => by have := h3.2; omega))
       have K4 := Aside0.mk (K3.out.then_ hK4 (fun _ h3 => .inl h3.1))
       have U4 := Aside0.mk hU4
       have B4 := Aside0.mk hB4
       clear hU4 hB4 hK4 e0 e1 e2 hcall
       go_wp2
       go_roundw
       case rel => exact ⟨q + 1, s1, hql, by go_num, H2, U4, X4, B4, K4⟩
       case measure => simp [intOf]; omega
      ·have hqq : ((q : Int) < (x.f2.length : Int)) = False := eq_false (by omega)
       have h3 := HLq.out
       rw [List.drop_of_length_le (by omega)] at h3
       simp only [loopB, Option.some.injEq] at h3
       subst h3
       clear hql hq HLq
       go_wp2
       first | go_end0 | ((try simp only [Exit.inBlock, Exit.then]); refine bodyPost_ret (results_none rfl _ _ _) rfl ?_)
       exact ⟨rfl, U3.out, B3.out, K3.out⟩
    ·rw [if_neg hC] at h
     cases h
  ·rw [if_neg hin] at h
   cases h
def impl_Cow_reach.f (l0_0 : List S68) (l0_1 : List Int) (a0_2 : Int) (a1 : Int) (l2 : List Bool) : Option (List Bool) := markM l0_0 5 a1 l2
theorem impl_Cow_reach.calls (A0_0 : Option Addr) (c0_0 : Nat) (l0_0 : List (S68)) (A0_1 : Option Addr) (c0_1 : Nat) (l0_1 : List Int) (a0_2 : Int) (a1 : Int) (P2_ : Nat → Prop) (u9000_ : Value) (l2 : List Bool) (r : List Bool) (w0 w : World) (hB : Below w0.heap.size w0 w) (hr0_0 : ∀ W_, Kept w W_ (fun k_ => P2_ k_) → Kd.C k68 W_ A0_0 l0_0.length l0_0) (hc0_0 : l0_0.length ≤ c0_0) (hr0_1 : ∀ W_, Kept w W_ (fun k_ => P2_ k_) → Kd.C (Kd.int .i64) W_ A0_1 l0_1.length l0_1) (hc0_1 : l0_1.length ≤ c0_1) (ho2 : Kd.R Kd.bool 4 w w0.heap.size P2_ u9000_ l2) (h : impl_Cow_reach.f l0_0 l0_1 a0_2 a1 l2 = some r) :
  Calls Try.prog 67 #[.agg #[.slice A0_0 l0_0.length c0_0, .slice A0_1 l0_1.length c0_1, .int .i64 a0_2], .int .i64 a1, u9000_] w fun e w' => e = .returned (.tuple #[]) ∧ Kd.R Kd.bool 4 w' w0.heap.size (fun k_ => (P2_ k_ ∨ w.heap.size ≤ k_)) u9000_ r ∧ Below w0.heap.size w0 w' ∧ Kept w w' (fun k_ => P2_ k_) :=
 (impl_Cow_reach.at_ l0_0 5 A0_0 c0_0 A0_1 c0_1 l0_1 a0_2 a1 P2_ u9000_ l2 r w0 w hB hr0_0 hc0_0 (Kd.R_mono ho2 (fun _ _ => trivial)) (fun k hk => ⟨ho2.1 k hk, Kd.R_lt ho2 k hk⟩) h).mono fun e w' ⟨he, hR, hB', hK⟩ => ⟨he, rowb_ok hR (fun k hk => .inl (ho2.1 k hk)), hB', hK⟩
end Go.Proofs.Ytacfalpgmibfnaa.PCow
namespace Go.Proofs.Ytacfalpgmibfnaa.PCow
open Go.RowKit Go.Proofs.YtacfalpgmibfnaaW.PrintWords Go.Proofs.YtacfalpgmibfnaaW.PrintLast Go.Proofs.YtacfalpgmibfnaaW.PrintMore
attribute [local go_sem] max2_int min2_int max_two min_two max_three min_three max_four min_four
set_option linter.unusedVariables false
set_option linter.unusedSimpArgs false
mutual
def impl_SharedBy.j0 : Nat → Int → Int → Bool → List (S68) → List Int → Int → Option (Int × Bool)
 | 0, _, _, _, _, _, _ => none
 | k + 1, x1, x2, x21, x282000, x282001, x282002 => if x21 = true then (some (0, false)) else (if 0 ≤ (x282000.length : Int) then (if ((x282000.length : Int) : Int).toNat ≤ 281474976710656 then ((some (List.replicate ((x282000.length : Int) : Int).toNat false : List Bool)).bind fun y284 => (if 0 ≤ x1 then (if x1 < (x282001.length : Int) then ((impl_Cow_reach.f x282000 x282001 x282002 (rd x282001 x1) y284).bind fun t291 => (if 0 ≤ x2 then (if x2 < (x282001.length : Int) then ((impl_Cow_reach.f x282000 x282001 x282002 (rd x282001 x2) (List.replicate ((x282000.length : Int) : Int).toNat false)).bind fun t293 => (impl_SharedBy.l0 k t291 t293 0 (y284.length : Int) 0)) else (none)) else (none))) else (none)) else (none))) else (none)) else (none))
def impl_SharedBy.l0 : Nat → List Bool → List Bool → Int → Int → Int → Option (Int × Bool)
 | 0, _, _, _, _, _ => none
 | k + 1, x8, x9, x10, x47, x48 => if x48 < x47 then (if 0 ≤ x48 then (if x48 < (x8.length : Int) then (if rdOf false x8 x48 = true then (if x48 < (x9.length : Int) then (if rdOf false x9 x48 = true then (impl_SharedBy.l0 k x8 x9 (wrap64 (x10 + 1)) x47 (wrap64 (x48 + 1))) else (impl_SharedBy.l0 k x8 x9 x10 x47 (wrap64 (x48 + 1)))) else (none)) else (impl_SharedBy.l0 k x8 x9 x10 x47 (wrap64 (x48 + 1)))) else (none)) else (none)) else (some (x10, true))
end
def impl_SharedBy.f (k : Nat) (l0_0 : List (S68)) (l0_1 : List Int) (a0_2 : Int) (a1 : Int) (a2 : Int) : Option (Int × Bool) := (impl_isRoot.f l0_0 l0_1 a0_2 a1).bind fun t282 => (if t282 = true then ((impl_isRoot.f l0_0 l0_1 a0_2 a2).bind fun t283 => (impl_SharedBy.j0 k a1 a2 (!t283) l0_0 l0_1 a0_2)) else (impl_SharedBy.j0 k a1 a2 true l0_0 l0_1 a0_2))
def impl_SharedBy.T3 : Bool × List (List Nat × List Nat) := (true, [([], []), ([0], [0]), ([1], [1]), ([2, 2], [2]), ([], []), ([4], [4]), ([5], [5]), ([6, 6], [6]), ([3, 0, 1, 2, 3], [3]), ([7, 8, 0, 1, 2, 3, 4, 5, 6, 7, 8], [7])])
def impl_SharedBy.B3 : List Nat := [0, 1, 3, 7, 0, 16, 48, 112, 15, 511]
theorem impl_SharedBy.tab3 : rtab .any (opsOf Try.f28 3) = impl_SharedBy.T3 := by kernel_rfl
theorem impl_SharedBy.bits3 : waitsOk impl_SharedBy.T3.2 impl_SharedBy.B3 = true := by kernel_rfl
def impl_SharedBy.T4 : Bool × List (List Nat × List Nat) := (true, [([], []), ([], []), ([1], [1]), ([], []), ([2, 3], [2, 3]), ([4], [4]), ([], []), ([0, 5, 6], [0, 5, 6])])
def impl_SharedBy.B4 : List Nat := [0, 0, 2, 0, 14, 30, 0, 127]
theorem impl_SharedBy.tab4 : rtab .any (opsOf Try.f28 4) = impl_SharedBy.T4 := by kernel_rfl
theorem impl_SharedBy.bits4 : waitsOk impl_SharedBy.T4.2 impl_SharedBy.B4 = true := by kernel_rfl
def impl_SharedBy.T5 : Bool × List (List Nat × List Nat) := (true, [([], []), ([], []), ([1], [1]), ([], []), ([2, 3], [2, 3]), ([4], [4]), ([], []), ([0, 5, 6], [0, 5, 6])])
def impl_SharedBy.B5 : List Nat := [0, 0, 2, 0, 14, 30, 0, 127]
theorem impl_SharedBy.tab5 : rtab .any (opsOf Try.f28 5) = impl_SharedBy.T5 := by kernel_rfl
theorem impl_SharedBy.bits5 : waitsOk impl_SharedBy.T5.2 impl_SharedBy.B5 = true := by kernel_rfl
set_option maxHeartbeats 8000000 in
set_option maxRecDepth 100000 in
theorem impl_SharedBy.calls (k : Nat) (A0_0 : Option Addr) (c0_0 : Nat) (l0_0 : List (S68)) (A0_1 : Option Addr) (c0_1 : Nat) (l0_1 : List Int) (a0_2 : Int) (a1 : Int) (a2 : Int) (r1 : Int) (r2 : Bool) (w : World) (hr0_0 : Kd.C k68 w A0_0 l0_0.length l0_0) (hc0_0 : l0_0.length ≤ c0_0) (hr0_1 : Kd.C (Kd.int .i64) w A0_1 l0_1.length l0_1) (hc0_1 : l0_1.length ≤ c0_1) (h : impl_SharedBy.f k l0_0 l0_1 a0_2 a1 a2 = some (r1, r2)) :
  Calls Try.prog 28 #[.agg #[.slice A0_0 l0_0.length c0_0, .slice A0_1 l0_1.length c0_1, .int .i64 a0_2], .int .i64 a1, .int .i64 a2] w fun e w' => e = .returned (.tuple #[.int .i64 r1, .bool r2]) ∧ Below w.heap.size w w' := by
 have hu25 := Try.underlying25
 have HR0_0 := Aside0.mk hr0_0
 have HC0_0 := Aside0.mk hc0_0
 clear hr0_0 hc0_0
 have HR0_1 := Aside0.mk hr0_1
 have HC0_1 := Aside0.mk hc0_1
 clear hr0_1 hc0_1
 have HB := Aside0.mk (Below.refl w.heap.size w)
 have H : ((impl_isRoot.f l0_0 l0_1 a0_2 a1).bind fun t282 => (if t282 = true then ((impl_isRoot.f l0_0 l0_1 a0_2 a2).bind fun t283 => (impl_SharedBy.j0 k a1 a2 (!t283) l0_0 l0_1 a0_2)) else (impl_SharedBy.j0 k a1 a2 true l0_0 l0_1 a0_2))) = some (r1, r2) := h
 clear h
 have HC4 := Aside0.mk H
 clear H
 go_enter Try.func28, Try.ntmps28
 go_upto_region 1 with (first | ((with_reducible refine gate_dst (N := 3) rfl ?_); refine box_event ?hg (N := 3) ?hd (cs := #[.slice A0_0 l0_0.length c0_0, .slice A0_1 l0_1.length c0_1, .int .i64 a0_2]) (t := 25) ?hr ?_; (case hd => rfl); (case hg => rfl); (case hr => first | (go_simp; done) | (go_simp; rfl)); intro gb281 hg w5 hbox hb; have BK281 := Aside0.mk (hbox); have GW281 := Aside0.mk ((by rw [hg]; exact (below_size (by with_reducible repeat (first | exact HB.out | apply below_alloc | apply pw_below_drewN | apply below_drew1))) : w.heap.size ≤ gb281)); have GE281 := Aside0.mk ((by rw [hg]; exact (below_size (by with_reducible repeat (first | exact HB.out | apply below_alloc | apply pw_below_drewN | apply below_drew1))) : w.heap.size ≤ gb281)); replace HB := Aside0.mk (below_step (by with_reducible repeat (first | exact HB.out | apply below_alloc | apply pw_below_drewN | apply below_drew1)) hb); clear hb hbox hg))
 (try simp only [Act.put, List.setIfInBounds_toArray, List.set_cons_zero, List.set_cons_succ])
 go_cut [21] (fun v21 wc => ∃ (kq : Nat) (x21_3 : Bool), v21 = .bool x21_3 ∧ Aside0 (impl_SharedBy.j0 kq a1 a2 x21_3 l0_0 l0_1 a0_2 = some (r1, r2)) ∧ Aside0 (kq ≤ k) ∧ Aside0 (wc.heap[gb281]? = some (.cells #[(.slice A0_0 l0_0.length c0_0), (.slice A0_1 l0_1.length c0_1), .int .i64 a0_2] 25 (0, 0))) ∧ Aside0 (Below w.heap.size w wc))
 case first =>
  have H := HC4.out
  clear HC4
  replace H := Option.bind_eq_some_iff.mp H
  obtain ⟨t282, A60, H⟩ := H
  replace H : (if t282 = true then ((impl_isRoot.f l0_0 l0_1 a0_2 a2).bind fun t283 => (impl_SharedBy.j0 k a1 a2 (!t283) l0_0 l0_1 a0_2)) else (impl_SharedBy.j0 k a1 a2 true l0_0 l0_1 a0_2)) = some (r1, r2) := H
  have A6 := Aside0.mk A60
  clear A60
  by_cases c7 : t282 = true
  ·subst c7
   have H1 : ((impl_isRoot.f l0_0 l0_1 a0_2 a2).bind fun t283 => (impl_SharedBy.j0 k a1 a2 (!t283) l0_0 l0_1 a0_2)) = some (r1, r2) := by rw [if_pos rfl] at H; exact H
   clear H
   have H := H1
   clear H1
   replace H := Option.bind_eq_some_iff.mp H
   obtain ⟨t283, A80, H⟩ := H
   replace H : (impl_SharedBy.j0 k a1 a2 (!t283) l0_0 l0_1 a0_2) = some (r1, r2) := H
   have A8 := Aside0.mk A80
   clear A80
   have H' := Aside0.mk H
   clear H
   have hcz9_0 : w5.cell? ⟨gb281, 0, none⟩ = some (.slice A0_0 l0_0.length c0_0) := (blk_cell BK281.out 0).trans rfl
   have hcz9_1 : w5.cell? ⟨gb281, 1, none⟩ = some (.slice A0_1 l0_1.length c0_1) := (blk_cell BK281.out 1).trans rfl
   have hcz9_2 : w5.cell? ⟨gb281, 2, none⟩ = some (.int .i64 a0_2) := (blk_cell BK281.out 2).trans rfl
   have hfz9_0 := blk_frozen BK281.out 0
   have hfz9_1 := blk_frozen BK281.out 1
   have hfz9_2 := blk_frozen BK281.out 2
   go_wp2_with (first | ((with_reducible refine gate_callee (f := 63) rfl ?_); refine goesL_ (some 14) rfl rfl Try.func63 (by kernel_rfl) rfl #[.agg #[.slice A0_0 l0_0.length c0_0, .slice A0_1 l0_1.length c0_1, .int .i64 a0_2], .int .i64 a1] rfl (by (try simp only [List.map_toArray, List.map_cons, List.map_nil]); first | done | rfl | (simp only [List.length_drop, List.length_take]; rfl)) ?_; (with_reducible refine (impl_isRoot.calls _ _ l0_0 _ _ l0_1 a0_2 a1 true _ ?side1 ?side2 ?side3 ?side4 A6.out).mono ?_); (case side1 => repeat (first | exact (Kd.C_below HR0_0.out HB.out) | (with_reducible refine Kd.C_alloc ?_ _) | (with_reducible refine Kd.C_drewN ?_ _) | (with_reducible refine Kd.C_drew ?_))); (case side2 => exact HC0_0.out); (case side3 => repeat (first | exact (Kd.C_below HR0_1.out HB.out) | (with_reducible refine Kd.C_alloc ?_ _) | (with_reducible refine Kd.C_drewN ?_ _) | (with_reducible refine Kd.C_drew ?_))); (case side4 => exact HC0_1.out); rintro e w10 ⟨rfl, hb⟩; refine ⟨_, rfl, ?_⟩; replace BK281 := Aside0.mk (blk_below (g := gb281) (o := .cells #[.slice A0_0 l0_0.length c0_0, .slice A0_1 l0_1.length c0_1, .int .i64 a0_2] 25 (0, 0)) (by (with_reducible repeat (first | refine blk_drewN ?_ _ | refine blk_drew ?_ | refine blk_alloc ?_ _)); exact BK281.out) hb); replace HB := Aside0.mk (below_step (by with_reducible repeat (first | exact HB.out | apply below_alloc | apply pw_below_drewN | apply below_drew1 | refine below_set ?_ GE281.out)) hb); (try clear hb); (try clear hb2); (try clear hk); (try clear hi); have hcz11_0 : w10.cell? ⟨gb281, 0, none⟩ = some (.slice A0_0 l0_0.length c0_0) := (blk_cell BK281.out 0).trans rfl; have hcz11_1 : w10.cell? ⟨gb281, 1, none⟩ = some (.slice A0_1 l0_1.length c0_1) := (blk_cell BK281.out 1).trans rfl; have hcz11_2 : w10.cell? ⟨gb281, 2, none⟩ = some (.int .i64 a0_2) := (blk_cell BK281.out 2).trans rfl; have hfz11_0 := blk_frozen BK281.out 0; have hfz11_1 := blk_frozen BK281.out 1; have hfz11_2 := blk_frozen BK281.out 2) | (go_at_call 63; (with_reducible refine (impl_isRoot.calls _ _ l0_0 _ _ l0_1 a0_2 a2 t283 _ ?side1 ?side2 ?side3 ?side4 A8.out).mono ?_); (case side1 => repeat (first | exact (Kd.C_below HR0_0.out HB.out) | (with_reducible refine Kd.C_alloc ?_ _) | (with_reducible refine Kd.C_drewN ?_ _) | (with_reducible refine Kd.C_drew ?_))); (case side2 => exact HC0_0.out); (case side3 => repeat (first | exact (Kd.C_below HR0_1.out HB.out) | (with_reducible refine Kd.C_alloc ?_ _) | (with_reducible refine Kd.C_drewN ?_ _) | (with_reducible refine Kd.C_drew ?_))); (case side4 => exact HC0_1.out); rintro e w12 ⟨rfl, hb⟩; replace BK281 := Aside0.mk (blk_below (g := gb281) (o := .cells #[.slice A0_0 l0_0.length c0_0, .slice A0_1 l0_1.length c0_1, .int .i64 a0_2] 25 (0, 0)) (by (with_reducible repeat (first | refine blk_drewN ?_ _ | refine blk_drew ?_ | refine blk_alloc ?_ _)); exact BK281.out) hb); replace HB := Aside0.mk (below_step (by with_reducible repeat (first | exact HB.out | apply below_alloc | apply pw_below_drewN | apply below_drew1 | refine below_set ?_ GE281.out)) hb); (try clear hb); (try clear hb2); (try clear hk); (try clear hi)))
   go_meet
   case rel => exact ⟨_, (!t283), (by first | rfl | (simp; done) | (simp [*]; done)), H', ⟨by first | omega | exact Nat.le_refl _⟩, ⟨by (with_reducible repeat (first | refine blk_drewN ?_ _ | refine blk_drew ?_ | refine blk_alloc ?_ _)); exact BK281.out⟩, ⟨by with_reducible repeat (first | exact HB.out | apply below_alloc | apply pw_below_drewN | apply below_drew1 | refine below_set ?_ GE281.out)⟩⟩
  ·replace c7 := Bool.eq_false_iff.mpr c7
   subst c7
   have H1 : (impl_SharedBy.j0 k a1 a2 true l0_0 l0_1 a0_2) = some (r1, r2) := by rw [if_neg (show ¬ (false = true) by decide)] at H; exact H
   clear H
   have H := H1
   clear H1
   have H' := Aside0.mk H
   clear H
   have hcz13_0 : w5.cell? ⟨gb281, 0, none⟩ = some (.slice A0_0 l0_0.length c0_0) := (blk_cell BK281.out 0).trans rfl
   have hcz13_1 : w5.cell? ⟨gb281, 1, none⟩ = some (.slice A0_1 l0_1.length c0_1) := (blk_cell BK281.out 1).trans rfl
   have hcz13_2 : w5.cell? ⟨gb281, 2, none⟩ = some (.int .i64 a0_2) := (blk_cell BK281.out 2).trans rfl
   have hfz13_0 := blk_frozen BK281.out 0
   have hfz13_1 := blk_frozen BK281.out 1
   have hfz13_2 := blk_frozen BK281.out 2
   go_wp2_with (first | ((with_reducible refine gate_callee (f := 63) rfl ?_); refine goesL_ (some 14) rfl rfl Try.func63 (by kernel_rfl) rfl #[.agg #[.slice A0_0 l0_0.length c0_0, .slice A0_1 l0_1.length c0_1, .int .i64 a0_2], .int .i64 a1] rfl (by (try simp only [List.map_toArray, List.map_cons, List.map_nil]); first | done | rfl | (simp only [List.length_drop, List.length_take]; rfl)) ?_; (with_reducible refine (impl_isRoot.calls _ _ l0_0 _ _ l0_1 a0_2 a1 false _ ?side1 ?side2 ?side3 ?side4 A6.out).mono ?_); (case side1 => repeat (first | exact (Kd.C_below HR0_0.out HB.out) | (with_reducible refine Kd.C_alloc ?_ _) | (with_reducible refine Kd.C_drewN ?_ _) | (with_reducible refine Kd.C_drew ?_))); (case side2 => exact HC0_0.out); (case side3 => repeat (first | exact (Kd.C_below HR0_1.out HB.out) | (with_reducible refine Kd.C_alloc ?_ _) | (with_reducible refine Kd.C_drewN ?_ _) | (with_reducible refine Kd.C_drew ?_))); (case side4 => exact HC0_1.out); rintro e w14 ⟨rfl, hb⟩; refine ⟨_, rfl, ?_⟩; replace BK281 := Aside0.mk (blk_below (g := gb281) (o := .cells #[.slice A0_0 l0_0.length c0_0, .slice A0_1 l0_1.length c0_1, .int .i64 a0_2] 25 (0, 0)) (by (with_reducible repeat (first | refine blk_drewN ?_ _ | refine blk_drew ?_ | refine blk_alloc ?_ _)); exact BK281.out) hb); replace HB := Aside0.mk (below_step (by with_reducible repeat (first | exact HB.out | apply below_alloc | apply pw_below_drewN | apply below_drew1 | refine below_set ?_ GE281.out)) hb); (try clear hb); (try clear hb2); (try clear hk); (try clear hi)))
   go_meet
   case rel => exact ⟨_, (true), (by first | rfl | (simp; done) | (simp [*]; done)), H', ⟨by first | omega | exact Nat.le_refl _⟩, ⟨by (with_reducible repeat (first | refine blk_drewN ?_ _ | refine blk_drew ?_ | refine blk_alloc ?_ _)); exact BK281.out⟩, ⟨by with_reducible repeat (first | exact HB.out | apply below_alloc | apply pw_below_drewN | apply below_drew1 | refine below_set ?_ GE281.out)⟩⟩
 case rest =>
  clear HC4
  try clear c2
  try clear p2
  try clear c6
  try clear c7
  try clear hcz11_0
  try clear hcz11_1
  try clear hcz11_2
  try clear hcz13_0
  try clear hcz13_1
  try clear hcz13_2
  try clear hcz9_0
  try clear hcz9_1
  try clear hcz9_2
  try clear hfz11_0
  try clear hfz11_1
  try clear hfz11_2
  try clear hfz13_0
  try clear hfz13_1
  try clear hfz13_2
  try clear hfz9_0
  try clear hfz9_1
  try clear hfz9_2
  obtain ⟨kq, x21_3, rfl, HA, HJ3, BK281, HB⟩ := hcut
  cases kq with
  | zero => exact absurd HA.out (by simp [impl_SharedBy.j0])
  | succ kj3 =>
   have H := HA.out
   clear HA
   simp only [impl_SharedBy.j0] at H
   by_cases c15 : x21_3 = true
   ·subst c15
    have H1 : (some (0, false)) = some (r1, r2) := by rw [if_pos rfl] at H; exact H
    clear H
    have H := H1
    clear H1
    simp only [Option.some.injEq, Prod.mk.injEq] at H
    obtain ⟨rfl, rfl⟩ := H
    go_wp2
    go_ret2
    exact ⟨by first | rfl | (simp [errW_none, errW_some] <;> rfl) | (simp [*, errW_none, errW_some] <;> rfl) | (simp [E.isEmpty_bne]; done) | (rw [E.bne_empty]), by with_reducible repeat (first | exact HB.out | apply below_alloc | apply pw_below_drewN | apply below_drew1 | refine below_set ?_ GE281.out)⟩
   ·replace c15 := Bool.eq_false_iff.mpr c15
    subst c15
    have H1 : (if 0 ≤ (l0_0.length : Int) then (if ((l0_0.length : Int) : Int).toNat ≤ 281474976710656 then ((some (List.replicate ((l0_0.length : Int) : Int).toNat false : List Bool)).bind fun y284 => (if 0 ≤ a1 then (if a1 < (l0_1.length : Int) then ((impl_Cow_reach.f l0_0 l0_1 a0_2 (rd l0_1 a1) y284).bind fun t291 => (if 0 ≤ a2 then (if a2 < (l0_1.length : Int) then ((impl_Cow_reach.f l0_0 l0_1 a0_2 (rd l0_1 a2) (List.replicate ((l0_0.length : Int) : Int).toNat false)).bind fun t293 => (impl_SharedBy.l0 kj3 t291 t293 0 (y284.length : Int) 0)) else (none)) else (none))) else (none)) else (none))) else (none)) else (none)) = some (r1, r2) := by rw [if_neg (show ¬ (false = true) by decide)] at H; exact H
    clear H
    have H := H1
    clear H1
    by_cases c16 : 0 ≤ (l0_0.length : Int)
    ·rw [if_pos c16] at H
     have c16b0 := eq_true c16
     have c16b1 : decide (0 ≤ (l0_0.length : Int)) = true := decide_eq_true c16
     clear c16
     by_cases c17 : ((l0_0.length : Int) : Int).toNat ≤ 281474976710656
     ·rw [if_pos c17] at H
      have c17b0 := eq_true c17
      have c17b1 : decide (((l0_0.length : Int) : Int).toNat ≤ 281474976710656) = true := decide_eq_true c17
      clear c17
      obtain ⟨y284, hy284⟩ : ∃ y_ : List Bool, y_ = (List.replicate ((l0_0.length : Int) : Int).toNat false) := ⟨_, rfl⟩
      replace H : (if 0 ≤ a1 then (if a1 < (l0_1.length : Int) then ((impl_Cow_reach.f l0_0 l0_1 a0_2 (rd l0_1 a1) y284).bind fun t291 => (if 0 ≤ a2 then (if a2 < (l0_1.length : Int) then ((impl_Cow_reach.f l0_0 l0_1 a0_2 (rd l0_1 a2) (List.replicate ((l0_0.length : Int) : Int).toNat false)).bind fun t293 => (impl_SharedBy.l0 kj3 t291 t293 0 (y284.length : Int) 0)) else (none)) else (none))) else (none)) else (none)) = some (r1, r2) := by first | (rw [hy284]; with_reducible exact H) | (have H2_ := (Option.bind_some _ _).symm.trans H; rw [hy284]; with_reducible exact H2_) | (have H2_ := (Option.bind_some _ _).symm.trans H; with_reducible exact H2_) | with_reducible exact H | (rw [hy284]; exact H) | exact H
      have Ny284 := Aside0.mk hy284
      clear hy284
      obtain ⟨y287, hy287⟩ : ∃ y_ : List Bool, y_ = (List.replicate ((l0_0.length : Int) : Int).toNat false) := ⟨_, rfl⟩
      replace H : (if 0 ≤ a1 then (if a1 < (l0_1.length : Int) then ((impl_Cow_reach.f l0_0 l0_1 a0_2 (rd l0_1 a1) y284).bind fun t291 => (if 0 ≤ a2 then (if a2 < (l0_1.length : Int) then ((impl_Cow_reach.f l0_0 l0_1 a0_2 (rd l0_1 a2) y287).bind fun t293 => (impl_SharedBy.l0 kj3 t291 t293 0 (y284.length : Int) 0)) else (none)) else (none))) else (none)) else (none)) = some (r1, r2) := by first | (rw [hy287]; with_reducible exact H) | (have H2_ := (Option.bind_some _ _).symm.trans H; rw [hy287]; with_reducible exact H2_) | (have H2_ := (Option.bind_some _ _).symm.trans H; with_reducible exact H2_) | with_reducible exact H | (rw [hy287]; exact H) | exact H
      have Ny287 := Aside0.mk hy287
      clear hy287
      by_cases c18 : 0 ≤ a1
      ·rw [if_pos c18] at H
       have c18b0 : decide (0 ≤ a1) = true := decide_eq_true c18
       clear c18
       by_cases c19 : a1 < (l0_1.length : Int)
       ·rw [if_pos c19] at H
        have c19b0 : decide (a1 < (l0_1.length : Int)) = true := decide_eq_true c19
        clear c19
        replace H := Option.bind_eq_some_iff.mp H
        obtain ⟨t291, A200, H⟩ := H
        replace H : (if 0 ≤ a2 then (if a2 < (l0_1.length : Int) then ((impl_Cow_reach.f l0_0 l0_1 a0_2 (rd l0_1 a2) y287).bind fun t293 => (impl_SharedBy.l0 kj3 t291 t293 0 (y284.length : Int) 0)) else (none)) else (none)) = some (r1, r2) := H
        have A20 := Aside0.mk A200
        clear A200
        by_cases c21 : 0 ≤ a2
        ·rw [if_pos c21] at H
         have c21b0 : decide (0 ≤ a2) = true := decide_eq_true c21
         clear c21
         by_cases c22 : a2 < (l0_1.length : Int)
         ·rw [if_pos c22] at H
          have c22b0 : decide (a2 < (l0_1.length : Int)) = true := decide_eq_true c22
          clear c22
          replace H := Option.bind_eq_some_iff.mp H
          obtain ⟨t293, A230, H⟩ := H
          replace H : (impl_SharedBy.l0 kj3 t291 t293 0 (y284.length : Int) 0) = some (r1, r2) := H
          have A23 := Aside0.mk A230
          clear A230
          have H' := Aside0.mk H
          clear H
          try go_wp2
          have n0_ := Aside0.mk (blk_drew BK281.out)
          have n1_ := Aside0.mk (below_drew1 HB.out)
          clear BK281
          clear HB
          have BK281 := n0_
          have HB := n1_
          clear n0_ n1_
          refine start_ (n := 10) (S := fun w' => w'.cell? ⟨gb281, 0, none⟩ = some (.slice A0_0 l0_0.length c0_0) ∧ w'.cell? ⟨gb281, 1, none⟩ = some (.slice A0_1 l0_1.length c0_1) ∧ w'.cell? ⟨gb281, 2, none⟩ = some (.int .i64 a0_2)) (ds := []) #[false, false, false, false, false, false, false, false, false, false] (by kernel_rfl) rfl rfl ⟨(blk_cell BK281.out 0).trans rfl, (blk_cell BK281.out 1).trans rfl, (blk_cell BK281.out 2).trans rfl⟩ (fun hHeld => ?_); refine with_tabW impl_SharedBy.tab3 impl_SharedBy.bits3 (fun HT_ HW_ => ?_)
          generalize wc.drew = w24 at BK281 HB hHeld ⊢
          refine pure_ (i := 0) (N := some 22) (v := ?_) (a' := ?_) #[true, false, false, false, false, false, false, false, false, false] rfl rfl (any_of HT_.out (by kernel_rfl)) (fun _ _ _ h => h) (Or.inl ⟨by rfl, ?_⟩) ?_ ?_
          rotate_left
          ·intro w'
           go_simp
           with_reducible rfl
          rotate_left
          ·simp only [Act.put, List.setIfInBounds_toArray, List.set_cons_zero, List.set_cons_succ, i64_w, i32_w]
           rfl
          refine pure_ (i := 4) (N := some 26) (v := ?_) (a' := ?_) #[true, false, false, false, true, false, false, false, false, false] rfl rfl (any_of HT_.out (by kernel_rfl)) (fun _ _ _ h => h) (Or.inl ⟨by rfl, ?_⟩) ?_ ?_
          rotate_left
          ·intro w'
           go_simp
           with_reducible rfl
          rotate_left
          ·simp only [Act.put, List.setIfInBounds_toArray, List.set_cons_zero, List.set_cons_succ, i64_w, i32_w]
           rfl
          refine take_ (i := 1) (N := some 23) (v := ?_) (a' := ?_) #[true, true, false, false, true, false, false, false, false, false] rfl rfl (take_ofW HT_.out HW_.out (by kernel_rfl)) (fun _ _ _ h => h) (Or.inl ⟨by rfl, ?_⟩) hHeld ?_ ?_
          rotate_left
          ·rintro w' ⟨s0, s1, s2⟩
           go_simp
           with_reducible rfl
          rotate_left
          ·simp only [Act.put, List.setIfInBounds_toArray, List.set_cons_zero, List.set_cons_succ, i64_w, i32_w]
           rfl
          refine pure_ (i := 2) (N := some 24) (v := ?_) (a' := ?_) #[true, true, true, false, true, false, false, false, false, false] rfl rfl (any_of HT_.out (by kernel_rfl)) (fun _ _ _ h => h) (Or.inl ⟨by rfl, ?_⟩) ?_ ?_
          rotate_left
          ·intro w'
           go_simp
           with_reducible rfl
          rotate_left
          ·simp only [Act.put, List.setIfInBounds_toArray, List.set_cons_zero, List.set_cons_succ, i64_w, i32_w]
           rfl
          refine take_ (i := 5) (N := some 27) (v := ?_) (a' := ?_) #[true, true, true, false, true, true, false, false, false, false] rfl rfl (take_ofW HT_.out HW_.out (by kernel_rfl)) (fun _ _ _ h => h) (Or.inl ⟨by rfl, ?_⟩) hHeld ?_ ?_
          rotate_left
          ·rintro w' ⟨s0, s1, s2⟩
           go_simp
           with_reducible rfl
          rotate_left
          ·simp only [Act.put, List.setIfInBounds_toArray, List.set_cons_zero, List.set_cons_succ, i64_w, i32_w]
           rfl
          refine pure_ (i := 6) (N := some 28) (v := ?_) (a' := ?_) #[true, true, true, false, true, true, true, false, false, false] rfl rfl (any_of HT_.out (by kernel_rfl)) (fun _ _ _ h => h) (Or.inl ⟨by rfl, ?_⟩) ?_ ?_
          rotate_left
          ·intro w'
           go_simp
           with_reducible rfl
          rotate_left
          ·simp only [Act.put, List.setIfInBounds_toArray, List.set_cons_zero, List.set_cons_succ, i64_w, i32_w]
           rfl
          refine join_ (σ := Value × Value) 1 #[true, true, true, true, true, true, true, true, true, false] (fun s_ => [(25, s_.1), (29, s_.2), (8, s_.1)]) (fun s_ w' => (w'.cell? ⟨gb281, 0, none⟩ = some (.slice A0_0 l0_0.length c0_0) ∧ w'.cell? ⟨gb281, 1, none⟩ = some (.slice A0_1 l0_1.length c0_1) ∧ w'.cell? ⟨gb281, 2, none⟩ = some (.int .i64 a0_2)) ∧ (Kd.R Kd.bool 4 w' w.heap.size (fun k_ => some k_ ≠ (s_.2 : Value).ownBlock) s_.1 y284) ∧ (Kd.R Kd.bool 4 w' w.heap.size (fun k_ => some k_ ≠ (s_.1 : Value).ownBlock) s_.2 y287) ∧ (w'.heap[gb281]? = some (.cells #[.slice A0_0 l0_0.length c0_0, .slice A0_1 l0_1.length c0_1, .int .i64 a0_2] 25 (0, 0))) ∧ (Below w.heap.size w w')) ?_ ?_
          rotate_left
          ·intro hCont
           refine two_ (i := 3) (j := 7) (Ni := some 25) (Nj := some 29) #[true, true, true, true, true, true, true, false, false, false] #[true, true, true, false, true, true, true, true, false, false] rfl rfl rfl rfl (two_of HT_.out (by kernel_rfl)) (by decide) (by decide) (fun K hK => ?_) (fun K hK => ?_)
           ·skip
            refine Kd.R_make_step Kd.bool _ 4 (by rfl) (N := 25) rfl 78 _ _ rfl (l0_0.length : Int) rfl rfl Try.underlying78 (.bool false) 1 info4 rfl (by decide) (by omega) false (ok := fun _ => True) (okp := fun _ => True) rfl (fun _ hk => hk) trivial (of_decide_eq_true (by assumption)) (Nat.le_trans (Nat.mul_le_mul_right _ (of_decide_eq_true (by assumption) : (l0_0.length : Int).toNat ≤ 281474976710656)) (by omega)) (Below.refl _ _) (Nat.le_refl _) ?_
            intro v285 w25 ho26 hb hg_ hnew_
            clear hg_ hnew_
            (first | rw [← Ny284.out] at ho26 | (simp only [Int.reduceToNat] at ho26; rw [← Ny284.out] at ho26))
            have n0_ := Aside0.mk (Kd.R_lower ho26 (below_size (by with_reducible repeat (first | exact HB.out | apply below_alloc | apply pw_below_drewN | apply below_drew1 | refine below_set ?_ GE281.out))))
            have n1_ := Aside0.mk (blk_below (g := gb281) (o := .cells #[.slice A0_0 l0_0.length c0_0, .slice A0_1 l0_1.length c0_1, .int .i64 a0_2] 25 (0, 0)) (by (with_reducible repeat (first | refine blk_drewN ?_ _ | refine blk_drew ?_ | refine blk_alloc ?_ _)); exact BK281.out) hb)
            have n2_ := Aside0.mk (below_step (by with_reducible repeat (first | exact HB.out | apply below_alloc | apply pw_below_drewN | apply below_drew1 | refine below_set ?_ GE281.out)) hb)
            clear BK281
            clear HB
            have HO286 := n0_
            have BK281 := n1_
            have HB := n2_
            clear n0_ n1_ n2_
            clear hb ho26
            refine hK.out _ _ ⟨(blk_cell BK281.out 0).trans rfl, (blk_cell BK281.out 1).trans rfl, (blk_cell BK281.out 2).trans rfl⟩ (fun hHeld => ?_)
            clear hK K
            refine norm_ (a' := ?_) ?_ ?_
            rotate_left
            ·show Act.put _ (some 25) _ = _
             simp only [Act.put, List.setIfInBounds_toArray, List.set_cons_zero, List.set_cons_succ, i64_w, i32_w]
             rfl
            refine pure_ (i := 8) (N := some 8) (v := ?_) (a' := ?_) #[true, true, true, true, true, true, true, false, true, false] rfl rfl (any_of HT_.out (by kernel_rfl)) (fun _ _ _ h => h) (Or.inl ⟨by rfl, ?_⟩) ?_ ?_
            rotate_left
            ·intro w'
             go_simp
             with_reducible rfl
            rotate_left
            ·simp only [Act.put, List.setIfInBounds_toArray, List.set_cons_zero, List.set_cons_succ, i64_w, i32_w]
             rfl
            refine one_ (i := 7) (N := some 29) #[true, true, true, true, true, true, true, true, true, false] rfl rfl (one_of HT_.out (by kernel_rfl)) (by decide) (fun K hK => ?_)
            refine Kd.R_make_step Kd.bool _ 4 (by rfl) (N := 29) rfl 78 _ _ rfl (l0_0.length : Int) rfl rfl Try.underlying78 (.bool false) 1 info4 rfl (by decide) (by omega) false (ok := fun _ => True) (okp := fun _ => True) rfl (fun _ hk => hk) trivial (of_decide_eq_true (by assumption)) (Nat.le_trans (Nat.mul_le_mul_right _ (of_decide_eq_true (by assumption) : (l0_0.length : Int).toNat ≤ 281474976710656)) (by omega)) (Below.refl _ _) (Nat.le_refl _) ?_
            intro v288 w27 ho28 hb hg_ hnew_
            clear hg_ hnew_
            (first | rw [← Ny287.out] at ho28 | (simp only [Int.reduceToNat] at ho28; rw [← Ny287.out] at ho28))
            have n0_ := Aside0.mk (Kd.R_elder' (by (with_reducible repeat (first | apply Kd.R_alloc | apply Kd.R_drewN | apply Kd.R_drew)); exact HO286.out) (Kd.R_base ho28) hb)
            have n1_ := Aside0.mk (Kd.R_lower (Kd.R_new' ho28 (Kd.R_lt (by (with_reducible repeat (first | apply Kd.R_alloc | apply Kd.R_drewN | apply Kd.R_drew)); exact HO286.out))) (below_size (by with_reducible repeat (first | exact HB.out | apply below_alloc | apply pw_below_drewN | apply below_drew1 | refine below_set ?_ GE281.out))))
            have n2_ := Aside0.mk (blk_below (g := gb281) (o := .cells #[.slice A0_0 l0_0.length c0_0, .slice A0_1 l0_1.length c0_1, .int .i64 a0_2] 25 (0, 0)) (by (with_reducible repeat (first | refine blk_drewN ?_ _ | refine blk_drew ?_ | refine blk_alloc ?_ _)); exact BK281.out) hb)
            have n3_ := Aside0.mk (below_step (by with_reducible repeat (first | exact HB.out | apply below_alloc | apply pw_below_drewN | apply below_drew1 | refine below_set ?_ GE281.out)) hb)
            clear HO286
            clear BK281
            clear HB
            have HO286 := n0_
            have HO289 := n1_
            have BK281 := n2_
            have HB := n3_
            clear n0_ n1_ n2_ n3_
            clear hb ho28
            refine hK.out _ _ ⟨(blk_cell BK281.out 0).trans rfl, (blk_cell BK281.out 1).trans rfl, (blk_cell BK281.out 2).trans rfl⟩ (fun hHeld => ?_)
            clear hK K
            refine norm_ (a' := ?_) ?_ ?_
            rotate_left
            ·show Act.put _ (some 29) _ = _
             simp only [Act.put, List.setIfInBounds_toArray, List.set_cons_zero, List.set_cons_succ, i64_w, i32_w]
             rfl
            exact norm_ (by simp only [putAll, Act.put, List.setIfInBounds_toArray, List.set_cons_zero, List.set_cons_succ]) (hCont (v285, v288) _ ⟨hHeld, (by (with_reducible repeat (first | apply Kd.R_alloc | apply Kd.R_drewN | apply Kd.R_drew)); exact Kd.R_mono HO286.out (fun _ hk => hk.2)), (by (with_reducible repeat (first | apply Kd.R_alloc | apply Kd.R_drewN | apply Kd.R_drew)); exact Kd.R_mono HO289.out (fun _ hk => hk.2)), (by (with_reducible repeat (first | refine blk_drewN ?_ _ | refine blk_drew ?_ | refine blk_alloc ?_ _)); exact BK281.out), (by with_reducible repeat (first | exact HB.out | apply below_alloc | apply pw_below_drewN | apply below_drew1 | refine below_set ?_ GE281.out))⟩)
           ·skip
            refine Kd.R_make_step Kd.bool _ 4 (by rfl) (N := 29) rfl 78 _ _ rfl (l0_0.length : Int) rfl rfl Try.underlying78 (.bool false) 1 info4 rfl (by decide) (by omega) false (ok := fun _ => True) (okp := fun _ => True) rfl (fun _ hk => hk) trivial (of_decide_eq_true (by assumption)) (Nat.le_trans (Nat.mul_le_mul_right _ (of_decide_eq_true (by assumption) : (l0_0.length : Int).toNat ≤ 281474976710656)) (by omega)) (Below.refl _ _) (Nat.le_refl _) ?_
            intro v288 w25 ho26 hb hg_ hnew_
            clear hg_ hnew_
            (first | rw [← Ny287.out] at ho26 | (simp only [Int.reduceToNat] at ho26; rw [← Ny287.out] at ho26))
            have n0_ := Aside0.mk (Kd.R_lower ho26 (below_size (by with_reducible repeat (first | exact HB.out | apply below_alloc | apply pw_below_drewN | apply below_drew1 | refine below_set ?_ GE281.out))))
            have n1_ := Aside0.mk (blk_below (g := gb281) (o := .cells #[.slice A0_0 l0_0.length c0_0, .slice A0_1 l0_1.length c0_1, .int .i64 a0_2] 25 (0, 0)) (by (with_reducible repeat (first | refine blk_drewN ?_ _ | refine blk_drew ?_ | refine blk_alloc ?_ _)); exact BK281.out) hb)
            have n2_ := Aside0.mk (below_step (by with_reducible repeat (first | exact HB.out | apply below_alloc | apply pw_below_drewN | apply below_drew1 | refine below_set ?_ GE281.out)) hb)
            clear BK281
            clear HB
            have HO289 := n0_
            have BK281 := n1_
            have HB := n2_
            clear n0_ n1_ n2_
            clear hb ho26
            refine hK.out _ _ ⟨(blk_cell BK281.out 0).trans rfl, (blk_cell BK281.out 1).trans rfl, (blk_cell BK281.out 2).trans rfl⟩ (fun hHeld => ?_)
            clear hK K
            refine norm_ (a' := ?_) ?_ ?_
            rotate_left
            ·show Act.put _ (some 29) _ = _
             simp only [Act.put, List.setIfInBounds_toArray, List.set_cons_zero, List.set_cons_succ, i64_w, i32_w]
             rfl
            refine one_ (i := 3) (N := some 25) #[true, true, true, true, true, true, true, true, false, false] rfl rfl (one_of HT_.out (by kernel_rfl)) (by decide) (fun K hK => ?_)
            refine Kd.R_make_step Kd.bool _ 4 (by rfl) (N := 25) rfl 78 _ _ rfl (l0_0.length : Int) rfl rfl Try.underlying78 (.bool false) 1 info4 rfl (by decide) (by omega) false (ok := fun _ => True) (okp := fun _ => True) rfl (fun _ hk => hk) trivial (of_decide_eq_true (by assumption)) (Nat.le_trans (Nat.mul_le_mul_right _ (of_decide_eq_true (by assumption) : (l0_0.length : Int).toNat ≤ 281474976710656)) (by omega)) (Below.refl _ _) (Nat.le_refl _) ?_
            intro v285 w27 ho28 hb hg_ hnew_
            clear hg_ hnew_
            (first | rw [← Ny284.out] at ho28 | (simp only [Int.reduceToNat] at ho28; rw [← Ny284.out] at ho28))
            have n0_ := Aside0.mk (Kd.R_elder' (by (with_reducible repeat (first | apply Kd.R_alloc | apply Kd.R_drewN | apply Kd.R_drew)); exact HO289.out) (Kd.R_base ho28) hb)
            have n1_ := Aside0.mk (Kd.R_lower (Kd.R_new' ho28 (Kd.R_lt (by (with_reducible repeat (first | apply Kd.R_alloc | apply Kd.R_drewN | apply Kd.R_drew)); exact HO289.out))) (below_size (by with_reducible repeat (first | exact HB.out | apply below_alloc | apply pw_below_drewN | apply below_drew1 | refine below_set ?_ GE281.out))))
            have n2_ := Aside0.mk (blk_below (g := gb281) (o := .cells #[.slice A0_0 l0_0.length c0_0, .slice A0_1 l0_1.length c0_1, .int .i64 a0_2] 25 (0, 0)) (by (with_reducible repeat (first | refine blk_drewN ?_ _ | refine blk_drew ?_ | refine blk_alloc ?_ _)); exact BK281.out) hb)
            have n3_ := Aside0.mk (below_step (by with_reducible repeat (first | exact HB.out | apply below_alloc | apply pw_below_drewN | apply below_drew1 | refine below_set ?_ GE281.out)) hb)
            clear HO289
            clear BK281
            clear HB
            have HO289 := n0_
            have HO286 := n1_
            have BK281 := n2_
            have HB := n3_
            clear n0_ n1_ n2_ n3_
            clear hb ho28
            refine hK.out _ _ ⟨(blk_cell BK281.out 0).trans rfl, (blk_cell BK281.out 1).trans rfl, (blk_cell BK281.out 2).trans rfl⟩ (fun hHeld => ?_)
            clear hK K
            refine norm_ (a' := ?_) ?_ ?_
            rotate_left
            ·show Act.put _ (some 25) _ = _
             simp only [Act.put, List.setIfInBounds_toArray, List.set_cons_zero, List.set_cons_succ, i64_w, i32_w]
             rfl
            refine pure_ (i := 8) (N := some 8) (v := ?_) (a' := ?_) #[true, true, true, true, true, true, true, true, true, false] rfl rfl (any_of HT_.out (by kernel_rfl)) (fun _ _ _ h => h) (Or.inl ⟨by rfl, ?_⟩) ?_ ?_
            rotate_left
            ·intro w'
             go_simp
             with_reducible rfl
            rotate_left
            ·simp only [Act.put, List.setIfInBounds_toArray, List.set_cons_zero, List.set_cons_succ, i64_w, i32_w]
             rfl
            exact norm_ (by simp only [putAll, Act.put, List.setIfInBounds_toArray, List.set_cons_zero, List.set_cons_succ]) (hCont (v285, v288) _ ⟨hHeld, (by (with_reducible repeat (first | apply Kd.R_alloc | apply Kd.R_drewN | apply Kd.R_drew)); exact Kd.R_mono HO286.out (fun _ hk => hk.2)), (by (with_reducible repeat (first | apply Kd.R_alloc | apply Kd.R_drewN | apply Kd.R_drew)); exact Kd.R_mono HO289.out (fun _ hk => hk.2)), (by (with_reducible repeat (first | refine blk_drewN ?_ _ | refine blk_drew ?_ | refine blk_alloc ?_ _)); exact BK281.out), (by with_reducible repeat (first | exact HB.out | apply below_alloc | apply pw_below_drewN | apply below_drew1 | refine below_set ?_ GE281.out))⟩)
          rintro ⟨v285, v288⟩ w29 ⟨hS_, h0_, h1_, h2_, h3_⟩
          have n0_ : Aside0 (Kd.R Kd.bool 4 w29 w.heap.size (fun k_ => some k_ ≠ (v288 : Value).ownBlock) v285 y284) := ⟨h0_⟩
          have n1_ : Aside0 (Kd.R Kd.bool 4 w29 w.heap.size (fun k_ => some k_ ≠ (v285 : Value).ownBlock) v288 y287) := ⟨h1_⟩
          have n2_ : Aside0 (w29.heap[gb281]? = some (.cells #[.slice A0_0 l0_0.length c0_0, .slice A0_1 l0_1.length c0_1, .int .i64 a0_2] 25 (0, 0))) := ⟨h2_⟩
          have n3_ : Aside0 (Below w.heap.size w w29) := ⟨h3_⟩
          clear BK281
          clear HB
          clear h0_ h1_ h2_ h3_
          have HO286 := n0_
          have HO289 := n1_
          have BK281 := n2_
          have HB := n3_
          clear n0_ n1_ n2_ n3_
          have hHeld : w29.cell? ⟨gb281, 0, none⟩ = some (.slice A0_0 l0_0.length c0_0) ∧ w29.cell? ⟨gb281, 1, none⟩ = some (.slice A0_1 l0_1.length c0_1) ∧ w29.cell? ⟨gb281, 2, none⟩ = some (.int .i64 a0_2) := hS_
          refine norm_ (a' := ?_) ?_ ?_
          rotate_left
          ·simp only [putAll, Act.put, List.setIfInBounds_toArray, List.set_cons_zero, List.set_cons_succ]
           rfl
          refine pure_ (i := 9) (N := some 9) (v := ?_) (a' := ?_) #[true, true, true, true, true, true, true, true, true, true] rfl rfl (any_of HT_.out (by kernel_rfl)) (fun _ _ _ h => h) (Or.inl ⟨by rfl, ?_⟩) ?_ ?_
          rotate_left
          ·intro w'
           go_simp
           with_reducible rfl
          rotate_left
          ·simp only [Act.put, List.setIfInBounds_toArray, List.set_cons_zero, List.set_cons_succ, i64_w, i32_w]
           rfl
          refine done_ (done_of HT_.out (by kernel_rfl)) ?_
          try go_wp2
          have n0_ := Aside0.mk (Kd.R_drew HO286.out)
          have n1_ := Aside0.mk (Kd.R_drew HO289.out)
          have n2_ := Aside0.mk (blk_drew BK281.out)
          have n3_ := Aside0.mk (below_drew1 HB.out)
          clear HO286
          clear HO289
          clear BK281
          clear HB
          have HO286 := n0_
          have HO289 := n1_
          have BK281 := n2_
          have HB := n3_
          clear n0_ n1_ n2_ n3_
          have p290 : 0 ≤ (a1 : Int) := of_decide_eq_true (by assumption)
          have q290 : a1 < (l0_1.length : Int) := of_decide_eq_true (by assumption)
          obtain ⟨ad290, e290, hx290_0⟩ := Kd.at_int HR0_1.out a1 p290 q290
          have hw290_0 := hx290_0
          cases e290
          replace hx290_0 := (HB.out.cell (World.block_lt_of_cell? w _ hx290_0)).trans hx290_0
          replace p290 := eq_true p290
          replace q290 := eq_true q290
          obtain ⟨Ao31, co31, eo31⟩ := Kd.R_slice HO286.out
          (first | subst eo31 | (injection eo31 with f1_ f2_ f3_; have f4_ := f1_.symm; have f5_ := f3_.symm; clear f1_ f2_ f3_; subst f4_; subst f5_))
          refine start_ (n := 8) (S := fun w' => w'.cell? ⟨gb281, 0, none⟩ = some (.slice A0_0 l0_0.length c0_0) ∧ w'.cell? ⟨gb281, 1, none⟩ = some (.slice (some ad290) l0_1.length c0_1) ∧ w'.cell? ⟨gb281, 2, none⟩ = some (.int .i64 a0_2) ∧ w'.cell? (ad290.add (a1).toNat) = some (.int .i64 (rd l0_1 a1))) (ds := []) #[false, false, false, false, false, false, false, false] (by kernel_rfl) rfl rfl ⟨(blk_cell BK281.out 0).trans rfl, (blk_cell BK281.out 1).trans rfl, (blk_cell BK281.out 2).trans rfl, ((HB.out.cell (World.block_lt_of_cell? w _ hw290_0)).trans hw290_0)⟩ (fun hHeld => ?_); refine with_tabW impl_SharedBy.tab4 impl_SharedBy.bits4 (fun HT_ HW_ => ?_)
          generalize w29.drew = w30 at HO286 HO289 BK281 HB hx290_0 hHeld ⊢
          refine pure_ (i := 1) (N := some 31) (v := ?_) (a' := ?_) #[false, true, false, false, false, false, false, false] rfl rfl (any_of HT_.out (by kernel_rfl)) (fun _ _ _ h => h) (Or.inl ⟨by rfl, ?_⟩) ?_ ?_
          rotate_left
          ·intro w'
           go_simp
           with_reducible rfl
          rotate_left
          ·simp only [Act.put, List.setIfInBounds_toArray, List.set_cons_zero, List.set_cons_succ, i64_w, i32_w]
           rfl
          refine pure_ (i := 3) (N := some 33) (v := ?_) (a' := ?_) #[false, true, false, true, false, false, false, false] rfl rfl (any_of HT_.out (by kernel_rfl)) (fun _ _ _ h => h) (Or.inl ⟨by rfl, ?_⟩) ?_ ?_
          rotate_left
          ·intro w'
           go_simp
           with_reducible rfl
          rotate_left
          ·simp only [Act.put, List.setIfInBounds_toArray, List.set_cons_zero, List.set_cons_succ, i64_w, i32_w]
           rfl
          refine pure_ (i := 6) (N := some 36) (v := ?_) (a' := ?_) #[false, true, false, true, false, false, true, false] rfl rfl (any_of HT_.out (by kernel_rfl)) (fun _ _ _ h => h) (Or.inl ⟨by rfl, ?_⟩) ?_ ?_
          rotate_left
          ·intro w'
           go_simp
           with_reducible rfl
          rotate_left
          ·simp only [Act.put, List.setIfInBounds_toArray, List.set_cons_zero, List.set_cons_succ, i64_w, i32_w]
           rfl
          refine take_ (i := 0) (N := some 30) (v := ?_) (a' := ?_) #[true, true, false, true, false, false, true, false] rfl rfl (take_ofW HT_.out HW_.out (by kernel_rfl)) (fun _ _ _ h => h) (Or.inl ⟨by rfl, ?_⟩) hHeld ?_ ?_
          rotate_left
          ·rintro w' ⟨s0, s1, s2, s3⟩
           go_simp
           with_reducible rfl
          rotate_left
          ·simp only [Act.put, List.setIfInBounds_toArray, List.set_cons_zero, List.set_cons_succ, i64_w, i32_w]
           rfl
          refine take_ (i := 2) (N := some 32) (v := ?_) (a' := ?_) #[true, true, true, true, false, false, true, false] rfl rfl (take_ofW HT_.out HW_.out (by kernel_rfl)) (fun _ _ _ h => h) (Or.inl ⟨by rfl, ?_⟩) hHeld ?_ ?_
          rotate_left
          ·rintro w' ⟨s0, s1, s2, s3⟩
           go_simp
           with_reducible rfl
          rotate_left
          ·simp only [Act.put, List.setIfInBounds_toArray, List.set_cons_zero, List.set_cons_succ, i64_w, i32_w]
           rfl
          refine pure_ (i := 4) (N := some 34) (v := ?_) (a' := ?_) #[true, true, true, true, true, false, true, false] rfl rfl (any_of HT_.out (by kernel_rfl)) (fun _ _ _ h => h) (Or.inl ⟨by rfl, ?_⟩) ?_ ?_
          rotate_left
          ·intro w'
           go_simp
           with_reducible rfl
          rotate_left
          ·simp only [Act.put, List.setIfInBounds_toArray, List.set_cons_zero, List.set_cons_succ, i64_w, i32_w]
           rfl
          refine take_ (i := 5) (N := some 35) (v := ?_) (a' := ?_) #[true, true, true, true, true, true, true, false] rfl rfl (take_ofW HT_.out HW_.out (by kernel_rfl)) (fun _ _ _ h => h) (Or.inl ⟨by rfl, ?_⟩) hHeld ?_ ?_
          rotate_left
          ·rintro w' ⟨s0, s1, s2, s3⟩
           go_simp
           with_reducible rfl
          rotate_left
          ·simp only [Act.put, List.setIfInBounds_toArray, List.set_cons_zero, List.set_cons_succ, i64_w, i32_w]
           rfl
          refine one_ (i := 7) (N := some 37) #[true, true, true, true, true, true, true, true] rfl rfl (one_of HT_.out (by kernel_rfl)) (by decide) (fun K hK => ?_)
          refine goes_ Try.func67 (by kernel_rfl) rfl #[.agg #[.slice A0_0 l0_0.length c0_0, .slice (some ad290) l0_1.length c0_1, .int .i64 a0_2], .int .i64 (rd l0_1 a1), .slice Ao31 y284.length co31] (by rfl) rfl rfl (by (try simp only [List.map_toArray, List.map_cons, List.map_nil]); first | done | rfl | (simp only [List.length_drop, List.length_take]; rfl)) ?_
          with_reducible refine (impl_Cow_reach.calls _ _ l0_0 _ _ l0_1 a0_2 (rd l0_1 a1) (fun k_ => some k_ = (.slice Ao31 y284.length co31 : Value).ownBlock) (.slice Ao31 y284.length co31) y284 t291 w _ ?side1 ?side2 ?side3 ?side4 ?side5 ?side6 A20.out).mono ?_
          (case side1 => with_reducible repeat (first | exact HB.out | apply below_alloc | apply pw_below_drewN | apply below_drew1 | refine below_set ?_ GE281.out))
          (case side2 => exact Kd.C_kept_came k68_heap HR0_0.out (by with_reducible repeat (first | exact HB.out | apply below_alloc | apply pw_below_drewN | apply below_drew1 | refine below_set ?_ GE281.out)) (fun k_ hs_ => (fun e_ => Kd.R_base HO286.out k_ e_.symm) hs_))
          (case side3 => exact HC0_0.out)
          (case side4 => exact Kd.C_kept_came (Kd.heap_int .i64) HR0_1.out (by with_reducible repeat (first | exact HB.out | apply below_alloc | apply pw_below_drewN | apply below_drew1 | refine below_set ?_ GE281.out)) (fun k_ hs_ => (fun e_ => Kd.R_base HO286.out k_ e_.symm) hs_))
          (case side5 => exact HC0_1.out)
          (case side6 => exact Kd.R_tight rfl HO286.out)
          rintro e w32 ⟨rfl, hy0, hb, hkp⟩
          refine ⟨_, rfl, ?_⟩
          have n0_ := Aside0.mk (blk_kept (by (with_reducible repeat (first | refine blk_drewN ?_ _ | refine blk_drew ?_ | refine blk_alloc ?_ _)); exact BK281.out) hkp (fun hs_ => (fun e_ => (Kd.R_ne HO286.out BK281.out (by decide)) e_) hs_))
          have n1_ := Aside0.mk (Kd.R_reok rfl hy0 (fun k_ e_ => HO286.out.1 k_ e_))
          have n2_ := Aside0.mk (Kd.R_mono (ok' := fun k_ => some k_ ≠ (.slice Ao31 y284.length co31 : Value).ownBlock) (Kd.R_keptB (HO289.out) hkp (fun k_ hk_ hs_ => (hk_) hs_)) (fun k_ hk_ => hk_.1))
          have n3_ := Aside0.mk (hb)
          clear BK281
          clear HO286
          clear HO289
          clear HB
          have BK281 := n0_
          have HO286 := n1_
          have HO289 := n2_
          have HB := n3_
          clear n0_ n1_ n2_ n3_
          (try clear hb)
          (try clear hkp)
          (try clear hy0)
          refine hK.out _ _ ⟨(blk_cell BK281.out 0).trans rfl, (blk_cell BK281.out 1).trans rfl, (blk_cell BK281.out 2).trans rfl, ((HB.out.cell (World.block_lt_of_cell? w _ hw290_0)).trans hw290_0)⟩ (fun hHeld => ?_)
          clear hK K
          refine norm_ (a' := ?_) ?_ ?_
          rotate_left
          ·show Act.put _ (some 37) _ = _
           simp only [Act.put, List.setIfInBounds_toArray, List.set_cons_zero, List.set_cons_succ, i64_w, i32_w]
           rfl
          refine done_ (done_of HT_.out (by kernel_rfl)) ?_
          try go_wp2
          have n0_ := Aside0.mk (Kd.R_drew HO286.out)
          have n1_ := Aside0.mk (Kd.R_drew HO289.out)
          have n2_ := Aside0.mk (blk_drew BK281.out)
          have n3_ := Aside0.mk (below_drew1 HB.out)
          clear HO286
          clear HO289
          clear BK281
          clear HB
          have HO286 := n0_
          have HO289 := n1_
          have BK281 := n2_
          have HB := n3_
          clear n0_ n1_ n2_ n3_
          have p292 : 0 ≤ (a2 : Int) := of_decide_eq_true (by assumption)
          have q292 : a2 < (l0_1.length : Int) := of_decide_eq_true (by assumption)
          obtain ⟨ad292, e292, hx292_0⟩ := Kd.at_int HR0_1.out a2 p292 q292
          have hw292_0 := hx292_0
          obtain rfl : ad290 = ad292 := (by injection e292)
          replace hx292_0 := (HB.out.cell (World.block_lt_of_cell? w _ hx292_0)).trans hx292_0
          replace p292 := eq_true p292
          replace q292 := eq_true q292
          obtain ⟨Ao34, co34, eo34⟩ := Kd.R_slice HO289.out
          (first | subst eo34 | (injection eo34 with f1_ f2_ f3_; have f4_ := f1_.symm; have f5_ := f3_.symm; clear f1_ f2_ f3_; subst f4_; subst f5_))
          refine start_ (n := 8) (S := fun w' => w'.cell? ⟨gb281, 0, none⟩ = some (.slice A0_0 l0_0.length c0_0) ∧ w'.cell? ⟨gb281, 1, none⟩ = some (.slice (some ad290) l0_1.length c0_1) ∧ w'.cell? ⟨gb281, 2, none⟩ = some (.int .i64 a0_2) ∧ w'.cell? (ad290.add (a2).toNat) = some (.int .i64 (rd l0_1 a2))) (ds := []) #[false, false, false, false, false, false, false, false] (by kernel_rfl) rfl rfl ⟨(blk_cell BK281.out 0).trans rfl, (blk_cell BK281.out 1).trans rfl, (blk_cell BK281.out 2).trans rfl, ((HB.out.cell (World.block_lt_of_cell? w _ hw292_0)).trans hw292_0)⟩ (fun hHeld => ?_); refine with_tabW impl_SharedBy.tab5 impl_SharedBy.bits5 (fun HT_ HW_ => ?_)
          generalize w32.drew = w33 at HO286 HO289 BK281 HB hx292_0 hHeld ⊢
          refine pure_ (i := 1) (N := some 39) (v := ?_) (a' := ?_) #[false, true, false, false, false, false, false, false] rfl rfl (any_of HT_.out (by kernel_rfl)) (fun _ _ _ h => h) (Or.inl ⟨by rfl, ?_⟩) ?_ ?_
          rotate_left
          ·intro w'
           go_simp
           with_reducible rfl
          rotate_left
          ·simp only [Act.put, List.setIfInBounds_toArray, List.set_cons_zero, List.set_cons_succ, i64_w, i32_w]
           rfl
          refine pure_ (i := 3) (N := some 41) (v := ?_) (a' := ?_) #[false, true, false, true, false, false, false, false] rfl rfl (any_of HT_.out (by kernel_rfl)) (fun _ _ _ h => h) (Or.inl ⟨by rfl, ?_⟩) ?_ ?_
          rotate_left
          ·intro w'
           go_simp
           with_reducible rfl
          rotate_left
          ·simp only [Act.put, List.setIfInBounds_toArray, List.set_cons_zero, List.set_cons_succ, i64_w, i32_w]
           rfl
          refine pure_ (i := 6) (N := some 44) (v := ?_) (a' := ?_) #[false, true, false, true, false, false, true, false] rfl rfl (any_of HT_.out (by kernel_rfl)) (fun _ _ _ h => h) (Or.inl ⟨by rfl, ?_⟩) ?_ ?_
          rotate_left
          ·intro w'
           go_simp
           with_reducible rfl
          rotate_left
          ·simp only [Act.put, List.setIfInBounds_toArray, List.set_cons_zero, List.set_cons_succ, i64_w, i32_w]
           rfl
          refine take_ (i := 0) (N := some 38) (v := ?_) (a' := ?_) #[true, true, false, true, false, false, true, false] rfl rfl (take_ofW HT_.out HW_.out (by kernel_rfl)) (fun _ _ _ h => h) (Or.inl ⟨by rfl, ?_⟩) hHeld ?_ ?_
          rotate_left
          ·rintro w' ⟨s0, s1, s2, s3⟩
           go_simp
           with_reducible rfl
          rotate_left
          ·simp only [Act.put, List.setIfInBounds_toArray, List.set_cons_zero, List.set_cons_succ, i64_w, i32_w]
           rfl
          refine take_ (i := 2) (N := some 40) (v := ?_) (a' := ?_) #[true, true, true, true, false, false, true, false] rfl rfl (take_ofW HT_.out HW_.out (by kernel_rfl)) (fun _ _ _ h => h) (Or.inl ⟨by rfl, ?_⟩) hHeld ?_ ?_
          rotate_left
          ·rintro w' ⟨s0, s1, s2, s3⟩
           go_simp
           with_reducible rfl
          rotate_left
          ·simp only [Act.put, List.setIfInBounds_toArray, List.set_cons_zero, List.set_cons_succ, i64_w, i32_w]
           rfl
          refine pure_ (i := 4) (N := some 42) (v := ?_) (a' := ?_) #[true, true, true, true, true, false, true, false] rfl rfl (any_of HT_.out (by kernel_rfl)) (fun _ _ _ h => h) (Or.inl ⟨by rfl, ?_⟩) ?_ ?_
          rotate_left
          ·intro w'
           go_simp
           with_reducible rfl
          rotate_left
          ·simp only [Act.put, List.setIfInBounds_toArray, List.set_cons_zero, List.set_cons_succ, i64_w, i32_w]
           rfl
          refine take_ (i := 5) (N := some 43) (v := ?_) (a' := ?_) #[true, true, true, true, true, true, true, false] rfl rfl (take_ofW HT_.out HW_.out (by kernel_rfl)) (fun _ _ _ h => h) (Or.inl ⟨by rfl, ?_⟩) hHeld ?_ ?_
          rotate_left
          ·rintro w' ⟨s0, s1, s2, s3⟩
           go_simp
           with_reducible rfl
          rotate_left
          ·simp only [Act.put, List.setIfInBounds_toArray, List.set_cons_zero, List.set_cons_succ, i64_w, i32_w]
           rfl
          refine one_ (i := 7) (N := some 45) #[true, true, true, true, true, true, true, true] rfl rfl (one_of HT_.out (by kernel_rfl)) (by decide) (fun K hK => ?_)
          refine goes_ Try.func67 (by kernel_rfl) rfl #[.agg #[.slice A0_0 l0_0.length c0_0, .slice (some ad290) l0_1.length c0_1, .int .i64 a0_2], .int .i64 (rd l0_1 a2), .slice Ao34 y287.length co34] (by rfl) rfl rfl (by (try simp only [List.map_toArray, List.map_cons, List.map_nil]); first | done | rfl | (simp only [List.length_drop, List.length_take]; rfl)) ?_
          with_reducible refine (impl_Cow_reach.calls _ _ l0_0 _ _ l0_1 a0_2 (rd l0_1 a2) (fun k_ => some k_ = (.slice Ao34 y287.length co34 : Value).ownBlock) (.slice Ao34 y287.length co34) y287 t293 w _ ?side1 ?side2 ?side3 ?side4 ?side5 ?side6 A23.out).mono ?_
          (case side1 => with_reducible repeat (first | exact HB.out | apply below_alloc | apply pw_below_drewN | apply below_drew1 | refine below_set ?_ GE281.out))
          (case side2 => exact Kd.C_kept_came k68_heap HR0_0.out (by with_reducible repeat (first | exact HB.out | apply below_alloc | apply pw_below_drewN | apply below_drew1 | refine below_set ?_ GE281.out)) (fun k_ hs_ => (fun e_ => Kd.R_base HO289.out k_ e_.symm) hs_))
          (case side3 => exact HC0_0.out)
          (case side4 => exact Kd.C_kept_came (Kd.heap_int .i64) HR0_1.out (by with_reducible repeat (first | exact HB.out | apply below_alloc | apply pw_below_drewN | apply below_drew1 | refine below_set ?_ GE281.out)) (fun k_ hs_ => (fun e_ => Kd.R_base HO289.out k_ e_.symm) hs_))
          (case side5 => exact HC0_1.out)
          (case side6 => exact Kd.R_tight rfl HO289.out)
          rintro e w35 ⟨rfl, hy0, hb, hkp⟩
          refine ⟨_, rfl, ?_⟩
          have n0_ := Aside0.mk (blk_kept (by (with_reducible repeat (first | refine blk_drewN ?_ _ | refine blk_drew ?_ | refine blk_alloc ?_ _)); exact BK281.out) hkp (fun hs_ => (fun e_ => (Kd.R_ne HO289.out BK281.out (by decide)) e_) hs_))
          have n1_ := Aside0.mk (Kd.R_mono (ok' := fun k_ => some k_ ≠ (.slice Ao34 y287.length co34 : Value).ownBlock) (Kd.R_keptB (HO286.out) hkp (fun k_ hk_ hs_ => (hk_) hs_)) (fun k_ hk_ => hk_.1))
          have n2_ := Aside0.mk (Kd.R_reok rfl hy0 (fun k_ e_ => HO289.out.1 k_ e_))
          have n3_ := Aside0.mk (hb)
          clear BK281
          clear HO286
          clear HO289
          clear HB
          have BK281 := n0_
          have HO286 := n1_
          have HO289 := n2_
          have HB := n3_
          clear n0_ n1_ n2_ n3_
          (try clear hb)
          (try clear hkp)
          (try clear hy0)
          refine hK.out _ _ ⟨(blk_cell BK281.out 0).trans rfl, (blk_cell BK281.out 1).trans rfl, (blk_cell BK281.out 2).trans rfl, ((HB.out.cell (World.block_lt_of_cell? w _ hw292_0)).trans hw292_0)⟩ (fun hHeld => ?_)
          clear hK K
          refine norm_ (a' := ?_) ?_ ?_
          rotate_left
          ·show Act.put _ (some 45) _ = _
           simp only [Act.put, List.setIfInBounds_toArray, List.set_cons_zero, List.set_cons_succ, i64_w, i32_w]
           rfl
          refine done_ (done_of HT_.out (by kernel_rfl)) ?_
          try go_wp2
          go_loopg [10, 48] kj3 (fun kq v10 v48 w' => ∃ (x10_2 : Int) (x48_2 : Int), v10 = .int .i64 x10_2 ∧ v48 = .int .i64 x48_2 ∧ Aside0 (impl_SharedBy.l0 kq t291 t293 x10_2 (y284.length : Int) x48_2 = some (r1, r2)) ∧ Aside0 (kq ≤ kj3) ∧ Aside0 (Kd.R Kd.bool 4 w' w.heap.size (fun k_ => some k_ ≠ ((.slice Ao34 y287.length co34) : Value).ownBlock) (.slice Ao31 y284.length co31) t291) ∧ Aside0 (Kd.R Kd.bool 4 w' w.heap.size (fun k_ => some k_ ≠ ((.slice Ao31 y284.length co31) : Value).ownBlock) (.slice Ao34 y287.length co34) t293) ∧ Aside0 (w'.heap[gb281]? = some (.cells #[(.slice A0_0 l0_0.length c0_0), (.slice (some ad290) l0_1.length c0_1), .int .i64 a0_2] 25 (0, 0))) ∧ Aside0 (Below w.heap.size w w'))
          case atStart => exact ⟨(0), (0), (by first | rfl | (simp; done) | (simp [*]; done)), (by first | rfl | (simp; done) | (simp [*]; done)), H', ⟨Nat.le_refl _⟩, ⟨by (with_reducible repeat (first | apply Kd.R_alloc | apply Kd.R_drewN | apply Kd.R_drew)); exact HO286.out⟩, ⟨by (with_reducible repeat (first | apply Kd.R_alloc | apply Kd.R_drewN | apply Kd.R_drew)); exact HO289.out⟩, ⟨by (with_reducible repeat (first | refine blk_drewN ?_ _ | refine blk_drew ?_ | refine blk_alloc ?_ _)); exact BK281.out⟩, ⟨by with_reducible repeat (first | exact HB.out | apply below_alloc | apply pw_below_drewN | apply below_drew1 | refine below_set ?_ GE281.out)⟩⟩
          case round =>
           clear H'
           try clear c1
           try clear c2
           try clear p2
           try clear q2
           try clear hx2
           try clear c6
           try clear c7
           try clear c15
           try clear c16
           try clear c16b0
           try clear c16b1
           try clear c17
           try clear c17b0
           try clear c17b1
           try clear c18
           try clear c18b0
           try clear c19
           try clear c19b0
           try clear c21
           try clear c21b0
           try clear c22
           try clear c22b0
           try clear c28
           try clear p29
           try clear q29
           try clear hx29
           try clear hcz11_0
           try clear hcz11_1
           try clear hcz11_2
           try clear hcz13_0
           try clear hcz13_1
           try clear hcz13_2
           try clear hcz9_0
           try clear hcz9_1
           try clear hcz9_2
           try clear hfz11_0
           try clear hfz11_1
           try clear hfz11_2
           try clear hfz13_0
           try clear hfz13_1
           try clear hfz13_2
           try clear hfz9_0
           try clear hfz9_1
           try clear hfz9_2
           try clear hx290_0
           try clear hx292_0
           try clear p2
           try clear p290
           try clear p292
           try clear q290
           try clear q292
           obtain ⟨x10_2, x48_2, rfl, rfl, HA, HK2, HO_8, HO_9, BK281, HB⟩ := hrel
           have hl8_2 := (Kd.R_reads' HO_8.out).1
           rw [hl8_2] at HO_8
           (try simp only [hl8_2])
           (try simp only [hl8_2] at BK281)
           (try simp only [hl8_2] at HO_9)
           have hl9_2 := (Kd.R_reads' HO_9.out).1
           rw [hl9_2] at HO_9
           (try simp only [hl9_2])
           (try simp only [hl9_2] at BK281)
           (try simp only [hl9_2] at HO_8)
           cases gk with
           | zero => exact absurd HA.out (by simp [impl_SharedBy.l0])
           | succ k2 =>
            have H := HA.out
            clear HA
            simp only [impl_SharedBy.l0] at H
            by_cases c36 : x48_2 < (y284.length : Int)
            ·rw [if_pos c36] at H
             have c36b0 : decide (x48_2 < (y284.length : Int)) = true := decide_eq_true c36
             clear c36
             by_cases c37 : 0 ≤ x48_2
             ·rw [if_pos c37] at H
              have c37b0 : decide (0 ≤ x48_2) = true := decide_eq_true c37
              clear c37
              by_cases c38 : x48_2 < (t291.length : Int)
              ·rw [if_pos c38] at H
               have c38b0 : decide (x48_2 < (t291.length : Int)) = true := decide_eq_true c38
               clear c38
               obtain ⟨bq39, hbq39⟩ : ∃ b_ : Bool, b_ = (rdOf false t291 x48_2) := ⟨_, rfl⟩
               replace H : (if bq39 = true then (if x48_2 < (t293.length : Int) then (if rdOf false t293 x48_2 = true then (impl_SharedBy.l0 k2 t291 t293 (wrap64 (x10_2 + 1)) (y284.length : Int) (wrap64 (x48_2 + 1))) else (impl_SharedBy.l0 k2 t291 t293 x10_2 (y284.length : Int) (wrap64 (x48_2 + 1)))) else (none)) else (impl_SharedBy.l0 k2 t291 t293 x10_2 (y284.length : Int) (wrap64 (x48_2 + 1)))) = some (r1, r2) := by rw [← hbq39] at H; exact H
               have Nbq39 := Aside0.mk hbq39
               clear hbq39
               by_cases c40 : bq39 = true
               ·subst c40
                have H1 : (if x48_2 < (t293.length : Int) then (if rdOf false t293 x48_2 = true then (impl_SharedBy.l0 k2 t291 t293 (wrap64 (x10_2 + 1)) (y284.length : Int) (wrap64 (x48_2 + 1))) else (impl_SharedBy.l0 k2 t291 t293 x10_2 (y284.length : Int) (wrap64 (x48_2 + 1)))) else (none)) = some (r1, r2) := by rw [if_pos rfl] at H; exact H
                clear H
                have H := H1
                clear H1
                by_cases c41 : x48_2 < (t293.length : Int)
                ·rw [if_pos c41] at H
                 have c41b0 : decide (x48_2 < (t293.length : Int)) = true := decide_eq_true c41
                 clear c41
                 obtain ⟨bq42, hbq42⟩ : ∃ b_ : Bool, b_ = (rdOf false t293 x48_2) := ⟨_, rfl⟩
                 replace H : (if bq42 = true then (impl_SharedBy.l0 k2 t291 t293 (wrap64 (x10_2 + 1)) (y284.length : Int) (wrap64 (x48_2 + 1))) else (impl_SharedBy.l0 k2 t291 t293 x10_2 (y284.length : Int) (wrap64 (x48_2 + 1)))) = some (r1, r2) := by rw [← hbq42] at H; exact H
                 have Nbq42 := Aside0.mk hbq42
                 clear hbq42
                 by_cases c43 : bq42 = true
                 ·subst c43
                  have H1 : (impl_SharedBy.l0 k2 t291 t293 (wrap64 (x10_2 + 1)) (y284.length : Int) (wrap64 (x48_2 + 1))) = some (r1, r2) := by rw [if_pos rfl] at H; exact H
                  clear H
                  have H := H1
                  clear H1
                  have H' := Aside0.mk H
                  clear H
                  have p294 : 0 ≤ (x48_2 : Int) := of_decide_eq_true (by assumption)
                  have q294 : x48_2 < (t291.length : Int) := of_decide_eq_true (by assumption)
                  try (obtain ⟨Aoz, coz, eoz⟩ := Kd.R_slice HO_8.out; subst eoz)
                  obtain ⟨ad294, e294, hx294_0⟩ := Kd.at_bool (Kd.R_reads' HO_8.out).2.2 x48_2 p294 q294
                  (try rw [← Nbq39.out] at hx294_0)
                  (try rw [← Nbq42.out] at hx294_0)
                  cases e294
                  replace p294 := eq_true p294
                  replace q294 := eq_true q294
                  have p295 : 0 ≤ (x48_2 : Int) := of_decide_eq_true (by assumption)
                  have q295 : x48_2 < (t293.length : Int) := of_decide_eq_true (by assumption)
                  try (obtain ⟨Aoz, coz, eoz⟩ := Kd.R_slice HO_9.out; subst eoz)
                  obtain ⟨ad295, e295, hx295_0⟩ := Kd.at_bool (Kd.R_reads' HO_9.out).2.2 x48_2 p295 q295
                  (try rw [← Nbq39.out] at hx295_0)
                  (try rw [← Nbq42.out] at hx295_0)
                  cases e295
                  replace p295 := eq_true p295
                  replace q295 := eq_true q295
                  go_wp2
                  (try simp only [← hl8_2, ← hl9_2])
                  go_roundg k2
                  case measure => have := HJ3.out; have := HK2.out; omega
                  case rel => exact ⟨(wrap64 (x10_2 + 1)), (wrap64 (x48_2 + 1)), (by first | rfl | (simp; done) | (simp [*]; done)), (by first | rfl | (simp; done) | (simp [*]; done)), H', ⟨by have := HJ3.out; have := HK2.out; omega⟩, ⟨by (try simp only [hl8_2]); (try simp only [hl9_2]); (with_reducible repeat (first | apply Kd.R_alloc | apply Kd.R_drewN | apply Kd.R_drew)); exact HO_8.out⟩, ⟨by (try simp only [hl8_2]); (try simp only [hl9_2]); (with_reducible repeat (first | apply Kd.R_alloc | apply Kd.R_drewN | apply Kd.R_drew)); exact HO_9.out⟩, ⟨by (try simp only [hl8_2]); (try simp only [hl9_2]); (with_reducible repeat (first | refine blk_drewN ?_ _ | refine blk_drew ?_ | refine blk_alloc ?_ _)); exact BK281.out⟩, ⟨by with_reducible repeat (first | exact HB.out | apply below_alloc | apply pw_below_drewN | apply below_drew1 | refine below_set ?_ GE281.out)⟩⟩
                 ·replace c43 := Bool.eq_false_iff.mpr c43
                  subst c43
                  have H1 : (impl_SharedBy.l0 k2 t291 t293 x10_2 (y284.length : Int) (wrap64 (x48_2 + 1))) = some (r1, r2) := by rw [if_neg (show ¬ (false = true) by decide)] at H; exact H
                  clear H
                  have H := H1
                  clear H1
                  have H' := Aside0.mk H
                  clear H
                  have p294 : 0 ≤ (x48_2 : Int) := of_decide_eq_true (by assumption)
                  have q294 : x48_2 < (t291.length : Int) := of_decide_eq_true (by assumption)
                  try (obtain ⟨Aoz, coz, eoz⟩ := Kd.R_slice HO_8.out; subst eoz)
                  obtain ⟨ad294, e294, hx294_0⟩ := Kd.at_bool (Kd.R_reads' HO_8.out).2.2 x48_2 p294 q294
                  (try rw [← Nbq39.out] at hx294_0)
                  (try rw [← Nbq42.out] at hx294_0)
                  cases e294
                  replace p294 := eq_true p294
                  replace q294 := eq_true q294
                  have p295 : 0 ≤ (x48_2 : Int) := of_decide_eq_true (by assumption)
                  have q295 : x48_2 < (t293.length : Int) := of_decide_eq_true (by assumption)
                  try (obtain ⟨Aoz, coz, eoz⟩ := Kd.R_slice HO_9.out; subst eoz)
                  obtain ⟨ad295, e295, hx295_0⟩ := Kd.at_bool (Kd.R_reads' HO_9.out).2.2 x48_2 p295 q295
                  (try rw [← Nbq39.out] at hx295_0)
                  (try rw [← Nbq42.out] at hx295_0)
                  cases e295
                  replace p295 := eq_true p295
                  replace q295 := eq_true q295
                  go_wp2
                  (try simp only [← hl8_2, ← hl9_2])
                  go_roundg k2
                  case measure => have := HJ3.out; have := HK2.out; omega
                  case rel => exact ⟨(x10_2), (wrap64 (x48_2 + 1)), (by first | rfl | (simp; done) | (simp [*]; done)), (by first | rfl | (simp; done) | (simp [*]; done)), H', ⟨by have := HJ3.out; have := HK2.out; omega⟩, ⟨by (try simp only [hl8_2]); (try simp only [hl9_2]); (with_reducible repeat (first | apply Kd.R_alloc | apply Kd.R_drewN | apply Kd.R_drew)); exact HO_8.out⟩, ⟨by (try simp only [hl8_2]); (try simp only [hl9_2]); (with_reducible repeat (first | apply Kd.R_alloc | apply Kd.R_drewN | apply Kd.R_drew)); exact HO_9.out⟩, ⟨by (try simp only [hl8_2]); (try simp only [hl9_2]); (with_reducible repeat (first | refine blk_drewN ?_ _ | refine blk_drew ?_ | refine blk_alloc ?_ _)); exact BK281.out⟩, ⟨by with_reducible repeat (first | exact HB.out | apply below_alloc | apply pw_below_drewN | apply below_drew1 | refine below_set ?_ GE281.out)⟩⟩
                ·rw [if_neg c41] at H
                 exact absurd H (by simp)
               ·replace c40 := Bool.eq_false_iff.mpr c40
                subst c40
                have H1 : (impl_SharedBy.l0 k2 t291 t293 x10_2 (y284.length : Int) (wrap64 (x48_2 + 1))) = some (r1, r2) := by rw [if_neg (show ¬ (false = true) by decide)] at H; exact H
                clear H
                have H := H1
                clear H1
                have H' := Aside0.mk H
                clear H
                have p294 : 0 ≤ (x48_2 : Int) := of_decide_eq_true (by assumption)
                have q294 : x48_2 < (t291.length : Int) := of_decide_eq_true (by assumption)
                try (obtain ⟨Aoz, coz, eoz⟩ := Kd.R_slice HO_8.out; subst eoz)
                obtain ⟨ad294, e294, hx294_0⟩ := Kd.at_bool (Kd.R_reads' HO_8.out).2.2 x48_2 p294 q294
                (try rw [← Nbq39.out] at hx294_0)
                cases e294
                replace p294 := eq_true p294
                replace q294 := eq_true q294
                go_wp2
                (try simp only [← hl8_2, ← hl9_2])
                go_roundg k2
                case measure => have := HJ3.out; have := HK2.out; omega
                case rel => exact ⟨(x10_2), (wrap64 (x48_2 + 1)), (by first | rfl | (simp; done) | (simp [*]; done)), (by first | rfl | (simp; done) | (simp [*]; done)), H', ⟨by have := HJ3.out; have := HK2.out; omega⟩, ⟨by (try simp only [hl8_2]); (try simp only [hl9_2]); (with_reducible repeat (first | apply Kd.R_alloc | apply Kd.R_drewN | apply Kd.R_drew)); exact HO_8.out⟩, ⟨by (try simp only [hl8_2]); (try simp only [hl9_2]); (with_reducible repeat (first | apply Kd.R_alloc | apply Kd.R_drewN | apply Kd.R_drew)); exact HO_9.out⟩, ⟨by (try simp only [hl8_2]); (try simp only [hl9_2]); (with_reducible repeat (first | refine blk_drewN ?_ _ | refine blk_drew ?_ | refine blk_alloc ?_ _)); exact BK281.out⟩, ⟨by with_reducible repeat (first | exact HB.out | apply below_alloc | apply pw_below_drewN | apply below_drew1 | refine below_set ?_ GE281.out)⟩⟩
              ·rw [if_neg c38] at H
               exact absurd H (by simp)
             ·rw [if_neg c37] at H
              exact absurd H (by simp)
            ·rw [if_neg c36] at H
             have c36b0 : decide (x48_2 < (y284.length : Int)) = false := decide_eq_false c36
             try have c36b9 := c36b0
             try rw [hl9_2] at c36b9
             try have c36b8 := c36b0
             try rw [hl8_2] at c36b8
             clear c36
             simp only [Option.some.injEq, Prod.mk.injEq] at H
             obtain ⟨rfl, rfl⟩ := H
             go_wp2
             go_ret2
             exact ⟨by first | rfl | (simp [errW_none, errW_some] <;> rfl) | (simp [*, errW_none, errW_some] <;> rfl) | (simp [E.isEmpty_bne]; done) | (rw [E.bne_empty]), by with_reducible repeat (first | exact HB.out | apply below_alloc | apply pw_below_drewN | apply below_drew1 | refine below_set ?_ GE281.out)⟩
         ·rw [if_neg c22] at H
          exact absurd H (by simp)
        ·rw [if_neg c21] at H
         exact absurd H (by simp)
       ·rw [if_neg c19] at H
        exact absurd H (by simp)
      ·rw [if_neg c18] at H
       exact absurd H (by simp)
     ·rw [if_neg c17] at H
      exact absurd H (by simp)
    ·rw [if_neg c16] at H
     exact absurd H (by simp)
end Go.Proofs.Ytacfalpgmibfnaa.PCow
namespace Go.Proofs.Ytacfalpgmibfnaa.PCow
open Go.RowKit Go.Proofs.YtacfalpgmibfnaaW.PrintWords Go.Proofs.YtacfalpgmibfnaaW.PrintLast Go.Proofs.YtacfalpgmibfnaaW.PrintMore Go.Proofs.Ytacfalpgmibfnaa.E
set_option linter.unusedSimpArgs false
set_option linter.unusedVariables false
def usedN (C : List CL) : Nat := C.countP fun x => decide (x.f0 > 0)
theorem used_val (C : List CL) (hn : C.length ≤ 80) : ∀ (f i : Nat) (a : Int), i + f = C.length → 0 ≤ a → a ≤ i → Ev (fun k => impl_UsedCells.l0 k a C (C.length : Int) (i : Int)) (a + (usedN (C.drop i) : Nat), true) := by
  intro f
  induction f with
  | zero =>
    intro i a hi h0 h1
    refine Ev.step (fun _ => impl_UsedCells.l0.eq_2 ..) (ev_neg (by omega) (ev_ret ?_))
    rw [List.drop_of_length_le (by omega)]
    simp [usedN]
  | succ f ih =>
    intro i a hi h0 h1
    have hl : i < C.length := by omega
    have e1 : wrap64 ((i : Int) + 1) = ((i + 1 : Nat) : Int) := by rw [w64 (by omega) (by omega)]; omega
    have e2 : wrap64 (a + 1) = a + 1 := w64 (by omega) (by omega)
    have e3 : usedN (C.drop i) = usedN (C.drop (i + 1)) + if (C[i]).f0 > 0 then 1 else 0 := by
      unfold usedN
      rw [List.drop_eq_getElem_cons hl, List.countP_cons]
      simp
    refine Ev.step (fun _ => impl_UsedCells.l0.eq_2 ..) (ev_pos (by omega) (ev_pos (by omega) (ev_pos (by omega) ?_)))
    rw [rd_cl_nat hl, e1, e2, e3]
    by_cases hp : (C[i]).f0 > 0
    · refine ev_pos hp ?_
      rw [if_pos hp]
      have := ih (i + 1) (a + 1) (by omega) (by omega) (by omega)
      rwa [show a + 1 + (usedN (C.drop (i + 1)) : Nat) = a + ((usedN (C.drop (i + 1)) + 1 : Nat) : Int) by omega] at this
    · refine ev_neg hp ?_
      rw [if_neg hp, Nat.add_zero]
      exact ih (i + 1) a (by omega) (by omega) (by omega)
theorem used_is {C : List CL} {R : List Int} {L : Int} (hg : goodC 100 C R L = some true) : Ev (fun k => impl_UsedCells.f k C R L) ((usedN C : Nat), true) := by
  obtain ⟨_, _, hn, _⟩ := good_tree hg
  unfold impl_UsedCells.f impl_GoodCow.f
  have := used_val C hn C.length 0 0 (by omega) (by omega) (by omega)
  rw [List.drop_zero, Int.zero_add] at this
  exact ev_bindc hg (ev_true rfl this)
theorem plc_bd (L : Int) : 1 ≤ plc L ∧ plc L ≤ 16 := by
  unfold plc
  split
  · omega
  · split <;> omega
def leafI (C : List CL) : Nat → Int → Int → ByteArray
  | 0, _, _ => ⟨#[]⟩
  | m + 1, k, a => if k < 0 then ⟨#[]⟩ else if m = 0 then (rd_T68 C k).f1 else leafI C m (rd (rd_T68 C k).f2 (dgI a ((m + 1 : Nat) : Int).toNat)) a
theorem dgI_range (a : Int) (h0 : 0 ≤ a) (h1 : a < 16) (m : Nat) (h2 : m = 2 ∨ m = 3) : 0 ≤ dgI a m ∧ dgI a m < 4 := by
  unfold dgI
  rcases h2 with rfl | rfl
  · rw [show ((2 : Nat) : Int) = 2 from rfl, digit_2 a h0 h1]; show 0 ≤ a % 4 ∧ a % 4 < 4; omega
  · rw [show ((3 : Nat) : Int) = 3 from rfl, digit_3 a h0 h1]; show 0 ≤ a / 4 ∧ a / 4 < 4; omega
section
variable {C : List CL} {roots : List Int} {L : Int}
theorem leaf_val {V c v : List Int} (hI : Inv C roots L V [] c v) {a : Int} (h0 : 0 ≤ a) (h1 : a < 16) : ∀ (m : Nat), 1 ≤ m → m ≤ 3 → ∀ k, RefOK C v (k, (m : Int)) → Ev (fun n => impl_Cow_leafAt.l0 n a k (m : Int) C roots L) (leafI C m k a) := by
  intro m
  induction m with
  | zero => intro h; omega
  | succ m ih =>
    intro _ hm k hk
    by_cases hk1 : k = -1
    · subst hk1
      refine Ev.step (fun _ => impl_Cow_leafAt.l0.eq_2 ..) (ev_neg (by omega) (ev_pos (by omega) (ev_ret ?_)))
      rw [leafI, if_pos (by omega)]
    · obtain ⟨k0, k1, _, _, _, k6, k7⟩ := hI.below (m := m) (by simpa using hk) hk1
      rw [leafI, if_neg (by omega)]
      by_cases hm0 : m = 0
      · subst hm0
        rw [if_pos rfl]
        exact Ev.step (fun _ => impl_Cow_leafAt.l0.eq_2 ..) (ev_pos k0 (ev_neg (by omega) (ev_neg (by omega) (ev_pos k0 (ev_pos k1 (ev_ret rfl))))))
      · rw [if_neg hm0]
        have kl := k6 hm0
        obtain ⟨d0, d1⟩ := dgI_range a h0 h1 (m + 1) (by omega)
        have ed : impl_digit.f a ((m + 1 : Nat) : Int) = some (dgI a (m + 1)) := dgI_some a (m + 1) (by omega) (by omega)
        rw [Int.toNat_natCast]
        generalize dgI a (m + 1) = d at d0 d1 ed ⊢
        have ha : d.toNat < (rd_T68 C k).f2.length := by omega
        have hz : RefOK C v (rd (rd_T68 C k).f2 d, (m : Int)) := by
          have := k7 _ (List.getElem_mem ha)
          rw [← rd_getD ha, show ((d.toNat : Nat) : Int) = d by omega] at this
          exact this
        refine Ev.step (fun _ => impl_Cow_leafAt.l0.eq_2 ..) (ev_pos k0 (ev_pos (by omega) (ev_pos k0 (ev_pos k1 (ev_bindc ed (ev_pos d0 (ev_pos (by omega) ?_)))))))
        rw [w64 (x := ((m + 1 : Nat) : Int) - 1) (by omega) (by omega), show ((m + 1 : Nat) : Int) - 1 = (m : Int) by omega]
        exact ih (by omega) (by omega) _ hz
def leavesI (C : List CL) (L r : Int) : List ByteArray := (List.range (plc L).toNat).map fun i : Nat => leafI C L.toNat r (i : Int)
theorem leaf_root {V c v : List Int} (hI : Inv C roots L V [] c v) (h1 : 1 ≤ L) (h3 : L ≤ 3) (r : Int) (h0 : 0 ≤ r) (hr : r < (roots.length : Int)) (a : Int) (a0 : 0 ≤ a) (a1 : a < 16) : Ev (fun n => impl_Cow_leafAt.f n C roots L r a) (leafI C L.toNat (rd roots r) a) := by
  unfold impl_Cow_leafAt.f
  have hk := root_ref hI r h0 hr
  have := leaf_val hI a0 a1 L.toNat (by omega) (by omega) (rd roots r) (by rw [show ((L.toNat : Nat) : Int) = L by omega]; exact hk)
  rw [show ((L.toNat : Nat) : Int) = L by omega] at this
  exact ev_pos h0 (ev_pos hr this)
theorem leaves_val {V c v : List Int} (hI : Inv C roots L V [] c v) (h1 : 1 ≤ L) (h3 : L ≤ 3) (r : Int) (h0 : 0 ≤ r) (hr : r < (roots.length : Int)) : ∀ (f i : Nat) (out : List ByteArray), i + f = (plc L).toNat → out.length = i →
    Ev (fun k => impl_LeavesOf.l0 k r out (plc L) (i : Int) C roots L) (out ++ (List.range' i f).map (fun i : Nat => leafI C L.toNat (rd roots r) (i : Int)), true) := by
  have hp := plc_bd L
  intro f
  induction f with
  | zero =>
    intro i out hi ho
    exact Ev.step (fun _ => impl_LeavesOf.l0.eq_2 ..) (ev_neg (by omega) (ev_ret (by simp)))
  | succ f ih =>
    intro i out hi ho
    have e : wrap64 ((i : Int) + 1) = ((i + 1 : Nat) : Int) := by rw [w64 (by omega) (by omega)]; omega
    have h2 := ih (i + 1) (out ++ [leafI C L.toNat (rd roots r) (i : Int)]) (by omega) (by simp [ho])
    rw [List.append_assoc] at h2
    refine Ev.step (fun _ => impl_LeavesOf.l0.eq_2 ..) (ev_pos (by omega) (Ev.bind (leaf_root hI h1 h3 r h0 hr (i : Int) (by omega) (by omega)) (ev_pos (by omega) ?_)))
    rw [e]
    simpa [List.range'_succ] using h2
theorem leaves_is (hg : goodC 100 C roots L = some true) (r : Int) (h0 : 0 ≤ r) (hr : r < (roots.length : Int)) : Ev (fun k => impl_LeavesOf.f k C roots L r) (leavesI C L (rd roots r), true) := by
  obtain ⟨hL1, hL3, hn, hr1, hr8, V, c, v, hI, _⟩ := good_tree hg
  have hR := is_root C roots L r true (fun _ => hr8) hg
  have hp := plc_bd L
  have := leaves_val hI hL1 hL3 r h0 hr (plc L).toNat 0 [] (by omega) rfl
  unfold impl_LeavesOf.f
  refine ev_bindc hR (ev_true (by rw [decide_eq_true ⟨h0, hr⟩]; rfl) (ev_bindc (places_both C roots L hL1 hL3).2 ?_))
  unfold leavesI
  rw [List.range_eq_range']
  exact this
theorem leafI_congr {D : List CL} (h : ∀ k : Int, 0 ≤ k → (rd_T68 D k).f1 = (rd_T68 C k).f1 ∧ (rd_T68 D k).f2 = (rd_T68 C k).f2) : ∀ (m : Nat) (k a : Int), leafI D m k a = leafI C m k a
  | 0, _, _ => rfl
  | m + 1, k, a => by
    rw [leafI, leafI]
    by_cases hk : k < 0
    · rw [if_pos hk, if_pos hk]
    · rw [if_neg hk, if_neg hk, (h k (by omega)).1, (h k (by omega)).2, leafI_congr h m]
end
end Go.Proofs.Ytacfalpgmibfnaa.PCow
namespace Go.Proofs.Ytacfalpgmibfnaa.PCow
open Go.RowKit Go.Proofs.YtacfalpgmibfnaaW.PrintWords Go.Proofs.YtacfalpgmibfnaaW.PrintLast Go.Proofs.YtacfalpgmibfnaaW.PrintMore Go.Proofs.Ytacfalpgmibfnaa.E
set_option linter.unusedSimpArgs false
set_option linter.unusedVariables false
theorem rdOf_set_self {s : List Bool} {k : Int} (h0 : 0 ≤ k) (h1 : k < (s.length : Int)) : rdOf false (s.set k.toNat true) k = true := by
  unfold rdOf
  rw [List.getD_eq_getElem?_getD, List.getElem?_set, if_pos rfl, if_pos (by omega)]
  rfl
theorem rdOf_set_ne {s : List Bool} {j k : Int} (h0 : 0 ≤ j) (h1 : 0 ≤ k) (hne : j ≠ k) : rdOf false (s.set k.toNat true) j = rdOf false s j := by
  unfold rdOf
  rw [List.getD_eq_getElem?_getD, List.getElem?_set, if_neg (by omega), List.getD_eq_getElem?_getD]
section
variable {C : List CL} {R : List Int} {L : Int} {E : List (Int × Int)} {lev : Int → Int}
structure Grew (C : List CL) (s s' : List Bool) : Prop where
  len : s'.length = s.length
  old : ∀ j, 0 ≤ j → rdOf false s j = true → rdOf false s' j = true
  new : ∀ j, 0 ≤ j → j < (C.length : Int) → rdOf false s' j = true → rdOf false s j = true ∨ ((rd_T68 C j).f0 ≠ 0 ∧ ∀ z ∈ (rd_T68 C j).f2, 0 ≤ z → rdOf false s' z = true)
theorem Grew.refl (s : List Bool) : Grew C s s := ⟨rfl, fun _ _ h => h, fun _ _ _ h => .inl h⟩
theorem Grew.trans {s s1 s2 : List Bool} (h : Grew C s s1) (k : Grew C s1 s2) : Grew C s s2 := by
  refine ⟨k.len.trans h.len, fun j j0 hj => k.old j j0 (h.old j j0 hj), fun j j0 j1 hj => ?_⟩
  rcases k.new j j0 j1 hj with e | e
  · rcases h.new j j0 j1 e with e2 | ⟨e2, e3⟩
    · exact .inl e2
    · exact .inr ⟨e2, fun z hz z0 => k.old z z0 (e3 z hz z0)⟩
  · exact .inr e
theorem mark_grew (h : Tidy C R L E lev) : ∀ (m f : Nat), m < f → ∀ (k : Int) (s : List Bool), s.length = C.length → (k = -1 ∨ (0 ≤ k ∧ k < (C.length : Int) ∧ (rd_T68 C k).f0 ≠ 0 ∧ lev k = (m : Int))) → ∃ s', markM C f k s = some s' ∧ Grew C s s' ∧ (0 ≤ k → rdOf false s' k = true) := by
  intro m
  induction m with
  | zero =>
    intro f hf k s hs hk
    obtain ⟨f, rfl⟩ : ∃ g, f = g + 1 := ⟨f - 1, by omega⟩
    rcases hk with rfl | ⟨k0, k1, k2, k3⟩
    · exact ⟨s, by simp [markM], Grew.refl s, fun e => by omega⟩
    · have := (h.good k k0 k1 k2).2.1; omega
  | succ m ih =>
    intro f hf k s hs hk
    obtain ⟨f, rfl⟩ : ∃ g, f = g + 1 := ⟨f - 1, by omega⟩
    rcases hk with rfl | ⟨k0, k1, k2, k3⟩
    · exact ⟨s, by simp [markM], Grew.refl s, fun e => by omega⟩
    · rw [markM, if_neg (by omega), if_pos (by omega)]
      cases hb : rdOf false s k with
      | true => exact ⟨s, by rw [if_pos rfl], Grew.refl s, fun _ => hb⟩
      | false =>
        rw [if_neg (by simp), if_pos k1]
        have hloop : ∀ (ks : List Int), (∀ z ∈ ks, z ∈ (rd_T68 C k).f2) → ∀ t : List Bool, t.length = C.length → ∃ t', loopB (markM C f) ks t = some t' ∧ Grew C t t' ∧ ∀ z ∈ ks, 0 ≤ z → rdOf false t' z = true := by
          intro ks
          induction ks with
          | nil => intro _ t ht; exact ⟨t, rfl, Grew.refl t, fun z hz => by cases hz⟩
          | cons z r ihr =>
            intro hks t ht
            have hz := hks z (by simp)
            have hz2 : z = -1 ∨ (0 ≤ z ∧ z < (C.length : Int) ∧ (rd_T68 C z).f0 ≠ 0 ∧ lev z = (m : Int)) := by
              rcases h.kid k k0 k1 k2 z hz with e | ⟨z0, z1, e⟩
              · exact .inl e
              · have := h.used k0 k1 z0 z1 hz
                exact .inr ⟨z0, z1, by omega, by omega⟩
            obtain ⟨t1, e1, g1, m1⟩ := ih f (by omega) z t ht hz2
            obtain ⟨t2, e2, g2, m2⟩ := ihr (fun y hy => hks y (by simp [hy])) t1 (by have := g1.len; omega)
            refine ⟨t2, by simp only [loopB, e1, Option.bind_some]; exact e2, g1.trans g2, fun y hy y0 => ?_⟩
            rcases List.mem_cons.1 hy with rfl | hy
            · exact g2.old y y0 (m1 y0)
            · exact m2 y hy y0
        obtain ⟨t, e, g, mk⟩ := hloop _ (fun z hz => hz) (s.set k.toNat true) (by rw [List.length_set]; exact hs)
        have hks := g.old k k0 (rdOf_set_self k0 (by omega))
        refine ⟨t, e, ⟨by rw [g.len, List.length_set], fun j j0 hj => g.old j j0 ?_, fun j j0 j1 hj => ?_⟩, fun _ => hks⟩
        · by_cases ej : j = k
          · subst ej; exact rdOf_set_self j0 (by omega)
          · rw [rdOf_set_ne j0 k0 ej]; exact hj
        · by_cases ej : j = k
          · subst ej
            exact .inr ⟨k2, mk⟩
          · rcases g.new j j0 j1 hj with e2 | e2
            · rw [rdOf_set_ne j0 k0 ej] at e2
              exact .inl e2
            · exact .inr e2
theorem rdOf_none (n : Nat) (j : Int) : rdOf false (List.replicate n false) j = false := by
  unfold rdOf
  rw [List.getD_eq_getElem?_getD, List.getElem?_replicate]
  split <;> rfl
theorem one_all {r : Int} {s : List Bool} (h : Tidy C [r] L [] lev) (hg : Grew C (List.replicate C.length false) s) (hr : 0 ≤ r → rdOf false s r = true) : ∀ (d : Nat) (k : Int), 0 ≤ k → k < (C.length : Int) → (rd_T68 C k).f0 ≠ 0 → L - lev k ≤ (d : Int) → rdOf false s k = true := by
  intro d
  induction d with
  | zero =>
    intro k k0 k1 k2 hd
    have hc := h.cnt k k0 k1
    have hn := h.nn k k0 k1
    simp only [List.map_nil, List.count_nil, Nat.add_zero] at hc
    by_cases hp : 0 < [r].count k
    · have hm := List.mem_singleton.1 (List.count_pos_iff.1 hp)
      subst hm
      exact hr k0
    · obtain ⟨j, j0, j1, hj⟩ := kc_pos (C := C) (k := k) (by omega)
      have hj2 : (rd_T68 C j).f0 ≠ 0 := fun e => by rw [(h.emp j j0 j1 e).2] at hj; cases hj
      rcases h.kid j j0 j1 hj2 k hj with e | ⟨_, _, e⟩
      · omega
      · have := (h.good j j0 j1 hj2).2.2
        omega
  | succ d ih =>
    intro k k0 k1 k2 hd
    have hc := h.cnt k k0 k1
    have hn := h.nn k k0 k1
    simp only [List.map_nil, List.count_nil, Nat.add_zero] at hc
    by_cases hp : 0 < [r].count k
    · have hm := List.mem_singleton.1 (List.count_pos_iff.1 hp)
      subst hm
      exact hr k0
    · obtain ⟨j, j0, j1, hj⟩ := kc_pos (C := C) (k := k) (by omega)
      have hj2 : (rd_T68 C j).f0 ≠ 0 := fun e => by rw [(h.emp j j0 j1 e).2] at hj; cases hj
      rcases h.kid j j0 j1 hj2 k hj with e | ⟨_, _, e⟩
      · omega
      · have hm := ih j j0 j1 hj2 (by omega)
        rcases hg.new j j0 j1 hm with e2 | e2
        · rw [rdOf_none] at e2; cases e2
        · exact e2.2 k hj k0
theorem one_used {r : Int} {s : List Bool} (h : Tidy C [r] L [] lev) (hg : Grew C (List.replicate C.length false) s) (hr : 0 ≤ r → rdOf false s r = true) : s.countP id = usedN C := by
  have hl : s.length = C.length := by rw [hg.len]; simp
  have e : s = C.map fun x => decide (x.f0 > 0) := by
    refine List.ext_getElem (by simp [hl]) (fun i h1 h2 => ?_)
    have hi : i < C.length := by omega
    have e1 : rdOf false s (i : Int) = s[i] := by
      unfold rdOf
      rw [List.getD_eq_getElem?_getD, Int.toNat_natCast, List.getElem?_eq_getElem h1]
      rfl
    have hn := h.nn (i : Int) (by omega) (by omega)
    rw [List.getElem_map, ← rd_cl_nat hi, ← e1]
    by_cases hp : (rd_T68 C (i : Int)).f0 > 0
    · rw [decide_eq_true hp]
      exact one_all h hg hr (L - lev (i : Int)).toNat (i : Int) (by omega) (by omega) (by omega) (by omega)
    · rw [decide_eq_false hp]
      cases hb : rdOf false s (i : Int) with
      | false => rfl
      | true =>
        rcases hg.new (i : Int) (by omega) (by omega) hb with e2 | e2
        · rw [rdOf_none] at e2; cases e2
        · exact absurd (by omega : (rd_T68 C (i : Int)).f0 = 0) e2.1
  rw [e, List.countP_map]
  rfl
theorem both_val (x : List Bool) (n : Nat) (hn : n ≤ 80) (hx : x.length = n) : ∀ (f i : Nat) (a : Int), i + f = n → 0 ≤ a → a ≤ i → Ev (fun k => impl_SharedBy.l0 k x x a (n : Int) (i : Int)) (a + ((x.drop i).countP id : Nat), true) := by
  intro f
  induction f with
  | zero =>
    intro i a hi h0 h1
    refine Ev.step (fun _ => impl_SharedBy.l0.eq_2 ..) (ev_neg (by omega) (ev_ret ?_))
    rw [List.drop_of_length_le (by omega)]
    simp
  | succ f ih =>
    intro i a hi h0 h1
    have hl : i < x.length := by omega
    have e1 : wrap64 ((i : Int) + 1) = ((i + 1 : Nat) : Int) := by rw [w64 (by omega) (by omega)]; omega
    have e2 : wrap64 (a + 1) = a + 1 := w64 (by omega) (by omega)
    have er : rdOf false x (i : Int) = x[i] := by
      unfold rdOf
      rw [List.getD_eq_getElem?_getD, Int.toNat_natCast, List.getElem?_eq_getElem hl]
      rfl
    rw [List.drop_eq_getElem_cons hl, List.countP_cons]
    cases hb : x[i] with
    | false =>
      rw [hb] at er
      refine Ev.step (fun _ => impl_SharedBy.l0.eq_2 ..) (ev_pos (by omega) (ev_pos (by omega) (ev_pos (by omega) (ev_false er ?_))))
      rw [e1]
      exact ih (i + 1) a (by omega) (by omega) (by omega)
    | true =>
      rw [hb] at er
      refine Ev.step (fun _ => impl_SharedBy.l0.eq_2 ..) (ev_pos (by omega) (ev_pos (by omega) (ev_pos (by omega) (ev_true er (ev_pos (by omega) (ev_true er ?_))))))
      rw [e1, e2]
      have := ih (i + 1) (a + 1) (by omega) (by omega) (by omega)
      rw [show a + 1 + ((x.drop (i + 1)).countP id : Nat) = a + (((x.drop (i + 1)).countP id + 1 : Nat) : Int) by omega] at this
      exact this
theorem shared_is (hg : goodC 100 C R L = some true) {a b : Int} (ha : 0 ≤ a ∧ a < (R.length : Int)) (hb : 0 ≤ b ∧ b < (R.length : Int)) (e : rd R a = rd R b) : ∃ s, markM C 5 (rd R a) (List.replicate C.length false) = some s ∧ Grew C (List.replicate C.length false) s ∧ (0 ≤ rd R a → rdOf false s (rd R a) = true) ∧ Ev (fun k => impl_SharedBy.f k C R L a b) ((s.countP id : Nat), true) := by
  obtain ⟨hL1, hL3, hn, hr1, hr8, V, c, v, hI, hE⟩ := good_tree hg
  have hT := tidy_of hI hE hn (by omega)
  have hR := fun a => is_root C R L a true (fun _ => hr8) hg
  have hk : rd R a = -1 ∨ (0 ≤ rd R a ∧ rd R a < (C.length : Int) ∧ (rd_T68 C (rd R a)).f0 ≠ 0 ∧ rd v (rd R a) = ((L.toNat : Nat) : Int)) := by
    have hm : rd R a ∈ R := by
      have hl : a.toNat < R.length := by omega
      have := rd_getD hl
      rw [show ((a.toNat : Nat) : Int) = a by omega] at this
      rw [this]; exact List.getElem_mem hl
    rcases hT.rts _ hm with e | ⟨e1, e2, e3⟩
    · exact .inl e
    · have := hT.usedR e1 e2 hm
      exact .inr ⟨e1, e2, by omega, by omega⟩
  obtain ⟨s, e1, g, mk⟩ := mark_grew hT L.toNat 5 (by omega) (rd R a) (List.replicate C.length false) (by simp) hk
  have hl : s.length = C.length := by rw [g.len]; simp
  refine ⟨s, e1, g, mk, ?_⟩
  have e2 : ((C.length : Int)).toNat = C.length := by omega
  have e3 : (((List.replicate C.length false).length : Nat) : Int) = (C.length : Int) := by simp
  have hv := both_val s C.length hn hl C.length 0 0 (by omega) (by omega) (by omega)
  rw [List.drop_zero, Int.zero_add] at hv
  unfold impl_SharedBy.f
  refine ev_bindc (hR a) (ev_true (by rw [decide_eq_true ha]; rfl) (ev_bindc (hR b) (Ev.step (fun _ => impl_SharedBy.j0.eq_2 ..) (ev_neg (by simp [hb.1, hb.2]) (ev_pos (by omega) (ev_pos (by omega) (ev_some ?_)))))))
  rw [e2, e3]
  exact ev_pos ha.1 (ev_pos ha.2 (ev_bindc (show impl_Cow_reach.f C R L (rd R a) (List.replicate C.length false) = some s from e1) (ev_pos hb.1 (ev_pos hb.2 (ev_bindc (show impl_Cow_reach.f C R L (rd R b) (List.replicate C.length false) = some s from by rw [← e]; exact e1) hv)))))
theorem one_law {r : Int} (hg : goodC 100 C [r] L = some true) : ∃ n : Int, Ev (fun k => impl_UsedCells.f k C [r] L) (n, true) ∧ Ev (fun k => impl_SharedBy.f k C [r] L 0 0) (n, true) := by
  obtain ⟨hL1, hL3, hn, hr1, hr8, V, c, v, hI, hE⟩ := good_tree hg
  have hT := tidy_of hI hE hn (by simp)
  obtain ⟨s, e1, g, mk, hv⟩ := shared_is hg (a := 0) (b := 0) (by simp) (by simp) rfl
  refine ⟨_, used_is hg, ?_⟩
  rw [← one_used hT g mk]
  exact hv
structure Taken (C : List CL) (R : List Int) (L a : Int) (C2 : List CL) (R2 : List Int) : Prop where
  g : goodC 100 C R L = some true
  g2 : goodC 100 C2 R2 L = some true
  len : R2.length = R.length + 1
  lv : ∃ ws : List ByteArray, ws.length ≤ 16 ∧ Ev (fun k => impl_LeavesOf.f k C R L a) (ws, true) ∧ Ev (fun k => impl_LeavesOf.f k C2 R2 L (R.length : Int)) (ws, true)
  us : ∃ n : Int, Ev (fun k => impl_UsedCells.f k C R L) (n, true) ∧ Ev (fun k => impl_UsedCells.f k C2 R2 L) (n, true)
  sh : ∃ n : Int, Ev (fun k => impl_SharedBy.f k C2 R2 L a (R.length : Int)) (n, true) ∧ Ev (fun k => impl_SharedBy.f k C2 R2 L a a) (n, true)
  back : impl_DropPicture.f 0 C2 R2 L (R.length : Int) = some (C, R, L, true)
end
end Go.Proofs.Ytacfalpgmibfnaa.PCow
namespace Go.Proofs.Ytacfalpgmibfnaa.PCow
open Go.RowKit Go.Proofs.YtacfalpgmibfnaaW.PrintWords Go.Proofs.YtacfalpgmibfnaaW.PrintLast Go.Proofs.YtacfalpgmibfnaaW.PrintMore Go.Proofs.Ytacfalpgmibfnaa.E
set_option linter.unusedSimpArgs false
set_option linter.unusedVariables false
def takeM (C : List CL) (R : List Int) (L root : Int) : Option (List CL × List Int × Int × Bool) :=
 if ownB C R = true then (if 0 ≤ root ∧ root < (R.length : Int) then (if rd R root ≥ 0 then (if rd R root < (C.length : Int) then some (C.set (rd R root).toNat ⟨wrap64 ((rd_T68 C (rd R root)).f0 + 1), (rd_T68 C (rd R root)).f1, (rd_T68 C (rd R root)).f2⟩, R ++ [rd R root], L, true) else none) else some (C, R ++ [rd R root], L, true)) else none) else none
def impl_TakePicture.f (_k : Nat) (C : List CL) (R : List Int) (L root : Int) : Option (List CL × List Int × Int × Bool) :=
 (impl_isRoot.f C R L root).bind fun b => if b = true then (if (R.length : Int) = 8 then some ([], [], 0, false) else takeM C R L root) else some ([], [], 0, false)
theorem take_step {w w3 w4 w9 : World} {gz gb : Nat} {A5 A6 : Option Addr} {c5 c6 : Nat} {C : List CL} {R : List Int} {L k : Int} {v9 : Value} {zb : Obj} (ZG : w.heap.size ≤ gz) (LZ : gz < w3.heap.size) (LG : w3.heap.size ≤ gb) (N4 : ∀ k, (Value.slice A6 R.length c6).ownBlock = some k → w3.heap.size ≤ k)
  (Z4 : w4.heap[gz]? = some zb) (G4 : w4.heap[gb]? = some (.cells #[.slice A5 C.length c5, .slice A6 R.length c6, .int .i64 L] 25 (0, 0))) (S4 : CS w4 w.heap.size (fun k_ => k_ ≠ gb ∧ some k_ ≠ (Value.slice A6 R.length c6).ownBlock) (.slice A5 C.length c5) C)
  (ho : IR w9 w.heap.size (fun k_ => k_ ≠ gb) v9 (R ++ [k])) (hb : Below w.heap.size w w9) (hg : w4.grownBy w9 (Value.slice A6 R.length c6).ownBlock) (hat : v9.ownBlock = (Value.slice A6 R.length c6).ownBlock ∨ ∃ b, v9.ownBlock = some b ∧ w4.heap.size ≤ b) (hr6 : ∀ k_, (Value.slice A6 R.length c6).ownBlock = some k_ → k_ ≠ gb) :
  ∃ w10 A9 c9, v9 = .slice A9 (R.length + 1) c9 ∧ w9.setCell ⟨gb, 1, none⟩ (.slice A9 (R.length + 1) c9) = w10 ∧ w9.cell? ⟨gb, 1, none⟩ = some (.slice A6 R.length c6) ∧ w9.frozen? ⟨gb, 1, none⟩ = false ∧ Aside0 (w10.heap[gz]? = some zb) ∧
   Aside0 (w10.heap[gb]? = some (.cells #[.slice A5 C.length c5, .slice A9 (R.length + 1) c9, .int .i64 L] 25 (0, 0))) ∧ Aside0 (CS w10 w.heap.size (fun k_ => k_ ≠ gb ∧ some k_ ≠ (Value.slice A9 (R.length + 1) c9).ownBlock) (.slice A5 C.length c5) C) ∧ Aside0 (IR w10 w.heap.size (fun k_ => k_ ≠ gb) (.slice A9 (R.length + 1) c9) (R ++ [k])) ∧ Aside0 (Below w.heap.size w w10) := by
 obtain ⟨A9, c9, rfl⟩ : ∃ A9 c9, v9 = .slice A9 (R.length + 1) c9 := by
  obtain ⟨A9, c9, e_⟩ := Kd.R_slice ho
  exact ⟨A9, c9, by rw [e_, List.length_append]; rfl⟩
 have G9 := blk_grown G4 hg (fun e_ => hr6 gb e_.symm rfl)
 have Z9 := blk_grown Z4 hg (fun e_ => by have := N4 gz e_.symm; omega)
 have S9 : CS w9 w.heap.size (fun k_ => k_ ≠ gb ∧ some k_ ≠ (Value.slice A9 (R.length + 1) c9).ownBlock) (.slice A5 C.length c5) C := Kd.S_after (ok := fun k_ => k_ ≠ gb) S4 hg hat
 refine ⟨_, A9, c9, rfl, rfl, (blk_cell G9 1).trans rfl, blk_frozen G9 1, ⟨(Below.heap_setCell w9 ⟨gb, 1, none⟩ _ gz (by show gz ≠ gb; omega)).trans Z9⟩, ⟨blk_put (cs := #[.slice A5 C.length c5, .slice A6 R.length c6, .int .i64 L]) G9 1 _ rfl⟩, ⟨Kd.S_far (p := ⟨gb, 1, none⟩) S9 (fun k_ h_ => h_.1) _⟩, ⟨Kd.R_far (p := ⟨gb, 1, none⟩) ho (fun k_ h_ => h_) _⟩, ⟨below_set hb (by omega)⟩⟩
theorem take_count {w W : World} {gz gb g5 n5 c5 : Nat} {C : List CL} {R : List Int} {L k x : Int} {v9 : Value} {zb : Array Value} (h0 : 0 ≤ k) (h1 : k < (C.length : Int)) (hn : n5 = C.length)
  (Z : W.heap[gz]? = some (.cells zb 25 (0, 0))) (G : W.heap[gb]? = some (.cells #[.slice (some ⟨g5, 0, none⟩) n5 c5, v9, .int .i64 L] 25 (0, 0))) (S : CS W w.heap.size (fun k_ => k_ ≠ gb ∧ some k_ ≠ v9.ownBlock) (.slice (some ⟨g5, 0, none⟩) n5 c5) C) (hr : IR W w.heap.size (fun k_ => k_ ≠ gb) v9 R) (hb : Below w.heap.size w W) (hx : x = wrap64 ((rd_T68 C k).f0 + 1)) :
  W.cell? ⟨g5, k.toNat * 3, none⟩ = some (.int .i64 (rd_T68 C k).f0) ∧ W.frozen? ⟨g5, k.toNat * 3, none⟩ = false ∧ ∃ w1, W.setCell ⟨g5, k.toNat * 3, none⟩ (.int .i64 x) = w1 ∧ Aside0 (w1.heap[gz]? = some (.cells zb 25 (0, 0))) ∧ Aside0 (w1.heap[gb]? = some (.cells #[.slice (some ⟨g5, 0, none⟩) n5 c5, v9, .int .i64 L] 25 (0, 0))) ∧
   Aside0 (CS w1 w.heap.size (fun k_ => k_ ≠ gb ∧ some k_ ≠ v9.ownBlock) (.slice (some ⟨g5, 0, none⟩) n5 c5) (C.set k.toNat ⟨x, (rd_T68 C k).f1, (rd_T68 C k).f2⟩)) ∧ Aside0 (IR w1 w.heap.size (fun k_ => k_ ≠ gb) v9 R) ∧ Aside0 (Below w.heap.size w w1) := by
 obtain ⟨oki, v, e0, _, _, hfr, _, _, _⟩ := cs_elem S k h0 (by omega)
 have hg5 := (Kd.S_R S).1 g5 rfl
 have hz5 : gz ≠ g5 := fun e => by
  have := Kd.S_ne S Z (by decide)
  rw [e] at this
  exact this rfl
 refine ⟨e0, hfr 0, _, rfl, ⟨(Below.heap_setCell W ⟨g5, k.toNat * 3, none⟩ _ gz hz5).trans Z⟩, ⟨(Below.heap_setCell W ⟨g5, k.toNat * 3, none⟩ _ gb (Ne.symm hg5.1)).trans G⟩, ⟨cs_put0 S k h0 (by omega) x⟩, ⟨?_⟩, ⟨below_set hb (Kd.S_base S g5 rfl)⟩⟩
 have h2 : IR W w.heap.size (fun k_ => some k_ = v9.ownBlock) v9 R := Kd.R_of_own (Kd.own_of_R hr) (fun k hk => hk.symm)
 exact Kd.R_mono (Kd.R_far (p := ⟨g5, k.toNat * 3, none⟩) h2 (fun k_ hk e_ => hg5.2 (by rw [← hk]; exact congrArg some e_.symm)) _) (fun k_ hk => hr.1 k_ hk.symm)
set_option maxHeartbeats 8000000 in
set_option maxRecDepth 100000 in
theorem impl_TakePicture.calls (k_ : Nat) (A0 : Option Addr) (c0 : Nat) (C : List CL) (A1 : Option Addr) (c1 : Nat) (R : List Int) (L root : Int) (r1 : List CL) (r2 : List Int) (r3 : Int) (r4 : Bool) (w : World) (hr0 : Kd.C k68 w A0 C.length C) (hc0 : C.length ≤ c0) (hr1 : Kd.C (Kd.int .i64) w A1 R.length R) (hc1 : R.length ≤ c1) (h : impl_TakePicture.f k_ C R L root = some (r1, r2, r3, r4)) :
  Calls Try.prog 35 #[.agg #[.slice A0 C.length c0, .slice A1 R.length c1, .int .i64 L], .int .i64 root] w fun e w' => ∃ v0_ v1_ : Value, e = .returned (.tuple #[.agg #[v0_, v1_, .int .i64 r3], .bool r4]) ∧ Kd.S k68 68 w' w.heap.size (fun k_ => some k_ ≠ (v1_ : Value).ownBlock) v0_ r1 ∧ Kd.R (Kd.int .i64) 3 w' w.heap.size (fun _ => True) v1_ r2 ∧ Below w.heap.size w w' := by
 have hu25 := Try.underlying25
 have hu68 := Try.underlying68
 have hu22 := Try.underlying22
 have HR0 := Aside0.mk hr0
 have HR1 := Aside0.mk hr1
 have HC0 := Aside0.mk hc0
 have HC1 := Aside0.mk hc1
 have hl : R.length ≤ 9223372036854775807 := hr1.2.1
 have hlc : C.length ≤ 9223372036854775807 := hr0.2.1
 clear hr0 hr1 hc0 hc1
 obtain ⟨b, hb, h⟩ := Option.bind_eq_some_iff.1 h
 have HBB := Aside0.mk hb
 clear hb
 obtain ⟨W1, hW1⟩ : ∃ W, w.alloc (.cells #[.slice A0 C.length c0, .slice A1 R.length c1, .int .i64 L] 25) = W := ⟨_, rfl⟩
 obtain ⟨W2, hW2⟩ : ∃ W, W1.alloc (.cells #[.slice none 0 0, .slice none 0 0, .int .i64 0] 25) = W := ⟨_, rfl⟩
 have hb1 : Below w.heap.size w W1 := by rw [← hW1]; exact below_alloc (Below.refl _ _) _
 have hb2 : Below W1.heap.size W1 W2 := by rw [← hW2]; exact below_alloc (Below.refl _ _) _
 have X1 : W1.heap[w.heap.size]? = some (.cells #[.slice A0 C.length c0, .slice A1 R.length c1, .int .i64 L] 25 (0, 0)) := by rw [← hW1]; exact heap_alloc_new w _
 have Z1 : W2.heap[W1.heap.size]? = some (.cells #[.slice none 0 0, .slice none 0 0, .int .i64 0] 25 (0, 0)) := by rw [← hW2]; exact heap_alloc_new W1 _
 have B2 := Aside0.mk (below_step hb1 hb2)
 have X2 := Aside0.mk (blk_below X1 hb2)
 have Z2 := Aside0.mk Z1
 have ZG := Aside0.mk (show w.heap.size ≤ W1.heap.size from hb1.size)
 have ZN := Aside0.mk (show w.heap.size ≠ W1.heap.size by have := blk_lt X1; omega)
 clear hb1 hb2 X1 Z1
 have d0 : W2.cell? ⟨w.heap.size, 0, none⟩ = some (.slice A0 C.length c0) := (blk_cell X2.out 0).trans rfl
 have d1 : W2.cell? ⟨w.heap.size, 1, none⟩ = some (.slice A1 R.length c1) := (blk_cell X2.out 1).trans rfl
 have d2 : W2.cell? ⟨w.heap.size, 2, none⟩ = some (.int .i64 L) := (blk_cell X2.out 2).trans rfl
 have TT := Aside0.mk (impl_isRoot.calls A0 c0 C A1 c1 R L root b W2 (Kd.C_below HR0.out B2.out) HC0.out (Kd.C_below HR1.out B2.out) HC1.out HBB.out)
 have HH := Aside0.mk h
 clear h
 go_enter Try.func35, Try.ntmps35
 go_wp2_with (go_at_call 63; refine TT.out.mono ?_)
 (first | rintro e w3 rfl hb | rintro e w3 ⟨rfl, hb⟩)
 clear TT hW1 d0 d1 d2
 generalize hgz : W1.heap.size = gz at *
 clear hgz hW2
 have B3 := Aside0.mk (below_step B2.out hb)
 have X3 := Aside0.mk (blk_below X2.out hb)
 have Z3 := Aside0.mk (blk_below Z2.out hb)
 clear B2 X2 Z2 hb
 have d0 : w3.cell? ⟨w.heap.size, 0, none⟩ = some (.slice A0 C.length c0) := (blk_cell X3.out 0).trans rfl
 have d1 : w3.cell? ⟨w.heap.size, 1, none⟩ = some (.slice A1 R.length c1) := (blk_cell X3.out 1).trans rfl
 have d2 : w3.cell? ⟨w.heap.size, 2, none⟩ = some (.int .i64 L) := (blk_cell X3.out 2).trans rfl
 have z0 : w3.cell? ⟨gz, 0, none⟩ = some (.slice none 0 0) := (blk_cell Z3.out 0).trans rfl
 have z1 : w3.cell? ⟨gz, 1, none⟩ = some (.slice none 0 0) := (blk_cell Z3.out 1).trans rfl
 have z2 : w3.cell? ⟨gz, 2, none⟩ = some (.int .i64 0) := (blk_cell Z3.out 2).trans rfl
 have y0 := blk_frozen Z3.out 0
 have y1 := blk_frozen Z3.out 1
 have y2 := blk_frozen Z3.out 2
 cases b with
 | false =>
  have h : some (([] : List CL), ([] : List Int), (0 : Int), false) = some (r1, r2, r3, r4) := HH.out
  simp only [Option.some.injEq, Prod.mk.injEq] at h
  obtain ⟨rfl, rfl, rfl, rfl⟩ := h
  go_wp2
  refine bodyPost_ret (results_ct rfl _ _ gz 25 #[.slice none 0 0, .slice none 0 0, .int .i64 0] (0, 0) _ rfl (put3 Z3.out _ _ _) Try.underlying25 rfl (by kernel_rfl)) rfl ?_
  exact ⟨_, _, rfl, Kd.S_nil _ _ _ _ _, Kd.R_nil _ _ _ _ _, below_set (below_set (below_set B3.out ZG.out) ZG.out) ZG.out⟩
 | true =>
  have h : (if (R.length : Int) = 8 then some (([] : List CL), ([] : List Int), (0 : Int), false) else takeM C R L root) = some (r1, r2, r3, r4) := HH.out
  by_cases h8 : (R.length : Int) = 8
  ·rw [if_pos h8] at h
   simp only [Option.some.injEq, Prod.mk.injEq] at h
   obtain ⟨rfl, rfl, rfl, rfl⟩ := h
   have q1 : ((R.length : Int) == 8) = true := by simpa using h8
   have q2 : ((R.length : Int) = 8) = True := eq_true h8
   clear h8 HH
   go_wp2
   refine bodyPost_ret (results_ct rfl _ _ gz 25 #[.slice none 0 0, .slice none 0 0, .int .i64 0] (0, 0) _ rfl (put3 Z3.out _ _ _) Try.underlying25 rfl (by kernel_rfl)) rfl ?_
   exact ⟨_, _, rfl, Kd.S_nil _ _ _ _ _, Kd.R_nil _ _ _ _ _, below_set (below_set (below_set B3.out ZG.out) ZG.out) ZG.out⟩
  ·rw [if_neg h8] at h
   have q1 : ((R.length : Int) == 8) = false := beq_eq_false_iff_ne.2 h8
   have q2 : ((R.length : Int) = 8) = False := eq_false h8
   clear h8 HH
   unfold takeM at h
   split at h
   ·rename_i hown
    split at h
    ·rename_i hrt
     obtain ⟨o1, o2, o3⟩ := ownB_out hown
     have TT := Aside0.mk (ownCow_calls A0 c0 C A1 c1 R L w3 (Kd.C_below HR0.out B3.out) HC0.out (Kd.C_below HR1.out B3.out) HC1.out o1 o3 o2)
     have HH := Aside0.mk h
     have OR := Aside0.mk o2
     have ORt := Aside0.mk hrt
     clear h hown o1 o2 o3 hrt
     go_wp2_with (go_at_call 70; refine TT.out.mono ?_)
     (first | rintro e w4 ⟨gb, v0, v1, rfl, hO, hb⟩ | rintro e w4 rfl hO hb)
     clear TT d0 d1 d2 z0 z1 z2 y0 y1 y2
     obtain ⟨A5, c5, rfl⟩ := Kd.S_slice hO.cs
     obtain ⟨A6, c6, rfl⟩ := Kd.R_slice hO.rs
     have B4 := Aside0.mk (below_step B3.out hb)
     have X4 := Aside0.mk (blk_below X3.out hb)
     have Z4 := Aside0.mk (blk_below Z3.out hb)
     have G4 := Aside0.mk hO.box
     have LG := Aside0.mk (show w3.heap.size ≤ gb from hO.ge)
     have LZ := Aside0.mk (show gz < w3.heap.size from blk_lt Z3.out)
     have S4 := Aside0.mk (Kd.S_lower hO.cs B3.out.size)
     have R4 := Aside0.mk (Kd.R_lower hO.rs B3.out.size)
     have N4 := Aside0.mk (show ∀ k, (Value.slice A6 R.length c6).ownBlock = some k → w3.heap.size ≤ k from fun k hk => Kd.R_base hO.rs k hk)
     clear hO hb B3 X3 Z3
     have hrt := ORt.out
     obtain ⟨ad, e5, hx⟩ := Kd.at_int (Kd.C_below HR1.out B4.out) root hrt.1 hrt.2
     subst e5
     obtain ⟨k, hk⟩ : ∃ k, rd R root = k := ⟨_, rfl⟩
     rw [hk] at hx
     have p1 : (0 ≤ root) = True := eq_true hrt.1
     have p2 : (root < (R.length : Int)) = True := eq_true hrt.2
     have HKK := Aside0.mk hk
     clear hk hrt
     have d1 : w4.cell? ⟨w.heap.size, 1, none⟩ = some (.slice (some ad) R.length c1) := (blk_cell X4.out 1).trans rfl
     have g1 : w4.cell? ⟨gb, 1, none⟩ = some (.slice A6 R.length c6) := (blk_cell G4.out 1).trans rfl
     by_cases hk0 : k ≥ 0
     ·have t1 : (k ≥ 0) = True := eq_true hk0
      have t2 : (0 ≤ k) = True := eq_true hk0
      have h := HH.out
      rw [HKK.out, if_pos hk0] at h
      by_cases hkC : k < (C.length : Int)
      ·rw [if_pos hkC] at h
       simp only [Option.some.injEq, Prod.mk.injEq] at h
       obtain ⟨rfl, rfl, rfl, rfl⟩ := h
       have t3 : (k < (C.length : Int)) = True := eq_true hkC
       clear HH
       obtain ⟨g5, cap5, hv5, _, _, _⟩ := Kd.S_form S4.out (by omega)
       injection hv5 with hA5 hn5 hc5
       subst hA5 hc5
       clear hn5
       go_wp2_with ((with_reducible refine gate_builtin (b := .append) (xs := #[.tmp 30, .tmp 32]) rfl ?_); at_builtin; refine Kd.R_append (Kd.int .i64) (w0 := w) (W := w4) w.heap.size rfl (.tmp 30) (.tmp 32) 23 3 (.int .i64 0) 8 rfl Try.underlying23 info3 rfl (by decide) (by omega) (.slice A6 R.length c6) R k [.int .i64 k] (fun k_ => k_ ≠ gb) (fun _ => False) rfl rfl ?aP (fun _ h_ => h_.elim) (fun k_ h_ => by have := blk_lt G4.out; omega) R4.out B4.out B4.out.size (by have := OR.out; omega) ?_; (case aP => rfl); intro v9 w9 ho hb hg hat; (obtain ⟨w10, A9, c9, rfl, hw10, g9, f9, Z9, G9, S9, R9, B9⟩ := take_step ZG.out LZ.out LG.out N4.out Z4.out G4.out S4.out ho hb hg hat (fun k_ h_ => R4.out.1 k_ h_)); clear ho hb hg hat; have g0 : w10.cell? ⟨gb, 0, none⟩ = some (.slice (some ⟨g5, 0, none⟩) C.length c5) := (blk_cell G9.out 0).trans rfl; obtain ⟨e0, f0, w11, hw11, Z11, G11, S11, R11, B11⟩ := take_count hk0 hkC rfl Z9.out G9.out S9.out R9.out B9.out rfl; have k0 : w11.cell? ⟨gb, 0, none⟩ = some (.slice (some ⟨g5, 0, none⟩) C.length c5) := (blk_cell G11.out 0).trans rfl; have k1 : w11.cell? ⟨gb, 1, none⟩ = some (.slice A9 (R.length + 1) c9) := (blk_cell G11.out 1).trans rfl; have k2 : w11.cell? ⟨gb, 2, none⟩ = some (.int .i64 L) := (blk_cell G11.out 2).trans rfl; have z0 : w11.cell? ⟨gz, 0, none⟩ = some (.slice none 0 0) := (blk_cell Z11.out 0).trans rfl; have z1 : w11.cell? ⟨gz, 1, none⟩ = some (.slice none 0 0) := (blk_cell Z11.out 1).trans rfl; have z2 : w11.cell? ⟨gz, 2, none⟩ = some (.int .i64 0) := (blk_cell Z11.out 2).trans rfl; have y0 := blk_frozen Z11.out 0; have y1 := blk_frozen Z11.out 1; have y2 := blk_frozen Z11.out 2; clear Z9 G9 S9 R9 B9)
       refine bodyPost_ret (results_ct rfl _ _ gz 25 #[.slice (some ⟨g5, 0, none⟩) C.length c5, .slice A9 (R.length + 1) c9, .int .i64 L] (0, 0) _ rfl (put3 Z11.out _ _ _) Try.underlying25 rfl (by kernel_rfl)) rfl ?_
       obtain ⟨r1_, r2_, r3_⟩ := ret_cow (x := .slice (some ⟨g5, 0, none⟩) C.length c5) (y := .slice A9 (R.length + 1) c9) (z := .int .i64 L) Z11.out ZG.out S11.out (fun k_ h_ => h_.2) R11.out B11.out
       exact ⟨_, _, rfl, r1_, r2_, r3_⟩
      ·rw [if_neg hkC] at h
       cases h
     ·have t1 : (k ≥ 0) = False := eq_false hk0
      have t2 : (0 ≤ k) = False := eq_false hk0
      have h := HH.out
      rw [HKK.out, if_neg hk0] at h
      simp only [Option.some.injEq, Prod.mk.injEq] at h
      obtain ⟨rfl, rfl, rfl, rfl⟩ := h
      clear HH
      go_wp2_with ((with_reducible refine gate_builtin (b := .append) (xs := #[.tmp 30, .tmp 32]) rfl ?_); at_builtin; refine Kd.R_append (Kd.int .i64) (w0 := w) (W := w4) w.heap.size rfl (.tmp 30) (.tmp 32) 23 3 (.int .i64 0) 8 rfl Try.underlying23 info3 rfl (by decide) (by omega) (.slice A6 R.length c6) R k [.int .i64 k] (fun k_ => k_ ≠ gb) (fun _ => False) rfl rfl ?aP (fun _ h_ => h_.elim) (fun k_ h_ => by have := blk_lt G4.out; omega) R4.out B4.out B4.out.size (by have := OR.out; omega) ?_; (case aP => rfl); intro v9 w9 ho hb hg hat; (obtain ⟨w10, A9, c9, rfl, hw10, g9, f9, Z9, G9, S9, R9, B9⟩ := take_step ZG.out LZ.out LG.out N4.out Z4.out G4.out S4.out ho hb hg hat (fun k_ h_ => R4.out.1 k_ h_)); clear ho hb hg hat; have k0 : w10.cell? ⟨gb, 0, none⟩ = some (.slice A5 C.length c5) := (blk_cell G9.out 0).trans rfl; have k1 : w10.cell? ⟨gb, 1, none⟩ = some (.slice A9 (R.length + 1) c9) := (blk_cell G9.out 1).trans rfl; have k2 : w10.cell? ⟨gb, 2, none⟩ = some (.int .i64 L) := (blk_cell G9.out 2).trans rfl; have z0 : w10.cell? ⟨gz, 0, none⟩ = some (.slice none 0 0) := (blk_cell Z9.out 0).trans rfl; have z1 : w10.cell? ⟨gz, 1, none⟩ = some (.slice none 0 0) := (blk_cell Z9.out 1).trans rfl; have z2 : w10.cell? ⟨gz, 2, none⟩ = some (.int .i64 0) := (blk_cell Z9.out 2).trans rfl; have y0 := blk_frozen Z9.out 0; have y1 := blk_frozen Z9.out 1; have y2 := blk_frozen Z9.out 2)
      refine bodyPost_ret (results_ct rfl _ _ gz 25 #[.slice A5 C.length c5, .slice A9 (R.length + 1) c9, .int .i64 L] (0, 0) _ rfl (put3 Z9.out _ _ _) Try.underlying25 rfl (by kernel_rfl)) rfl ?_
      obtain ⟨r1_, r2_, r3_⟩ := ret_cow (x := .slice A5 C.length c5) (y := .slice A9 (R.length + 1) c9) (z := .int .i64 L) Z9.out ZG.out S9.out (fun k_ h_ => h_.2) R9.out B9.out
      exact ⟨_, _, rfl, r1_, r2_, r3_⟩
    ·cases h
   ·cases h
end Go.Proofs.Ytacfalpgmibfnaa.PCow
