import Derived.Test.YtjepecinpgjgdaaXVauCurV
/-! spec.DrawPutText and spec.DrawTextIn: what they draw is small. -/
namespace Go.Proofs.Ytjepecinpgjgdaa.PVau
open Go.RowKit Go.Proofs.YtjepecinpgjgdaaW.PrintWords Go.Proofs.YtjepecinpgjgdaaW.PrintLast Go.Proofs.YtjepecinpgjgdaaW.PrintMore Go.Proofs.Ytjepecinpgjgdaa.E Go.Proofs.Ytjepecinpgjgdaa.ZVau
set_option linter.unusedSimpArgs false
set_option linter.unusedVariables false
theorem IsS76.alloc_self {w : World} {A0 : Option Addr} {c0 : Nat} {l0 : List Int} (h : Kd.C (Kd.int .u8) w A0 l0.length l0) : IsS76 w (w.alloc (.cells #[.slice A0 l0.length c0, .int .i64 0, .int .u64 0] 76)) w.heap.size l0 0 0 :=
 ⟨A0, c0, heap_alloc_new w _, Nat.le_refl _, h⟩
/-- A vault that is drawn, in the world that holds the caller's cell. -/
theorem drawn_ret {w W1 W2 W : World} {gz : Nat} {v0 v1 x y : Value} {ps : List KL} {fs : List FL} (hz : W.heap[gz]? = some (.cells #[x, y] 51 (0, 0))) (hg : w.heap.size ≤ gz) (h1 : Below w.heap.size w W1) (h2 : W1.heap.size ≤ W2.heap.size) (hb : Below W1.heap.size W1 W) (hk : KS W W2.heap.size (fun _ => True) v0 ps) (hf : FS W W2.heap.size (fun _ => True) v1 fs) :
  Kd.R k89 89 ((W.setCell ⟨gz, 0, none⟩ v0).setCell ⟨gz, 1, none⟩ v1) w.heap.size (fun _ => True) v0 ps ∧ Kd.S k87 87 ((W.setCell ⟨gz, 0, none⟩ v0).setCell ⟨gz, 1, none⟩ v1) w.heap.size (fun _ => True) v1 fs ∧ Below w.heap.size w ((W.setCell ⟨gz, 0, none⟩ v0).setCell ⟨gz, 1, none⟩ v1) := by
 have hle : w.heap.size ≤ W2.heap.size := Nat.le_trans h1.size h2
 exact ret_vault hz hg (Kd.R_lower hk hle) (Kd.S_lower hf hle) (below_weaken h1 h1.size hb)
set_option maxHeartbeats 8000000 in
set_option maxRecDepth 100000 in
theorem spec_DrawPutText.calls (A0 : Option Addr) (c0 : Nat) (l0 : List Int) (w : World) (hl : Bytes l0) (hr0 : Kd.C (Kd.int .u8) w A0 l0.length l0) (hc0 : l0.length ≤ c0) :
  Calls Try.prog 52 #[.slice A0 l0.length c0] w fun e w' => ∃ (v0_ v1_ : Value) (ps : List KL) (fs : List FL) (x_ : ByteArray), e = .returned (.tuple #[.agg #[v0_, v1_], .string x_]) ∧ Kd.R k89 89 w' w.heap.size (fun _ => True) v0_ ps ∧ Kd.S k87 87 w' w.heap.size (fun _ => True) v1_ fs ∧ (ps.length ≤ 101 ∧ fs.length ≤ 21 ∧ ∀ x ∈ fs, x.f0.length ≤ 200) ∧ x_.size ≤ 600 ∧ Below w.heap.size w w' := by
 have huV := Try.underlying51
 have HBY := Aside0.mk hl
 obtain ⟨W1, hW1⟩ : ∃ W, w.alloc (.cells #[.slice none 0 0, .slice none 0 0] 51) = W := ⟨_, rfl⟩
 obtain ⟨W2, hW2⟩ : ∃ W, W1.alloc (.cells #[.slice A0 l0.length c0, .int .i64 0, .int .u64 0] 76) = W := ⟨_, rfl⟩
 have hb1 : Below w.heap.size w W1 := by rw [← hW1]; exact below_alloc (Below.refl _ _) _
 have hb2 : Below W1.heap.size W1 W2 := by rw [← hW2]; exact below_alloc (Below.refl _ _) _
 have Z1 : W1.heap[w.heap.size]? = some (.cells #[.slice none 0 0, .slice none 0 0] 51 (0, 0)) := by rw [← hW1]; exact heap_alloc_new w _
 have I2 : IsS76 W1 W2 W1.heap.size l0 0 0 := by rw [← hW2]; exact IsS76.alloc_self (Kd.C_below hr0 hb1)
 have HH := Aside0.mk (show Below w.heap.size w W1 ∧ W1.heap[w.heap.size]? = some (.cells #[.slice none 0 0, .slice none 0 0] 51 (0, 0)) ∧ W1.heap.size ≤ W2.heap.size from ⟨hb1, Z1, hb2.size⟩)
 have HG := Aside0.mk (show W1.heap.size < W2.heap.size by obtain ⟨_, _, h_, _⟩ := I2; exact blk_lt h_)
 have TT := Aside0.mk (curVault_calls W1.heap.size l0 0 0 W1 W2 hl (by omega) (by omega) I2 hb2)
 clear hl hr0 hb1 hb2 Z1 I2
 go_enter Try.func52, Try.ntmps52
 go_wp2_with (go_at_call 83; refine TT.out.mono ?_)
 rintro e w3 v0 v1 rfl ps hk fs hf p hp0 hp1 hs1 hs2 hs3 q hI hB hK
 have hsz := And.intro hs1 (And.intro hs2 hs3)
 have hp := And.intro hp0 hp1
 clear hs1 hs2 hs3 hp0 hp1
 have HSZ := Aside0.mk hsz
 obtain ⟨A0', c0', rfl⟩ := Kd.R_slice hk
 obtain ⟨A1', c1', rfl⟩ := Kd.S_slice hf
 clear hsz TT
 obtain ⟨s, p2, q2, ⟨kw, e2⟩, hs, hp2, hp3⟩ := words_ok HBY.out p q hp.1 (by omega)
 have TT := Aside0.mk (spec_l1Cur_words.calls kw W1.heap.size l0 p q s p2 q2 W1 w3 hI hB (e2 _ (Nat.le_refl _)))
 have HR := Aside0.mk (show KS w3 W2.heap.size (fun _ => True) (.slice A0' ps.length c0') ps ∧ FS w3 W2.heap.size (fun _ => True) (.slice A1' fs.length c1') fs ∧ s.size ≤ 600 from ⟨hk, hf, hs⟩)
 clear hk hf hp hI hB hK e2 hs hp2 hp3
 go_wp2_with (go_at_call 63; refine TT.out.mono ?_)
 rintro e w4 ⟨rfl, hI, hB, hK⟩
 have K4 := Aside0.mk (show KS w4 W2.heap.size (fun _ => True) (.slice A0' ps.length c0') ps ∧ FS w4 W2.heap.size (fun _ => True) (.slice A1' fs.length c1') fs from ⟨Kd.R_mono (Kd.R_keep (Kd.R_bound HR.out.1) hK (fun k h_ => by have := h_.2.1; have := HG.out; omega)) (fun _ _ => trivial), Kd.S_mono (Kd.S_keep (Kd.S_bound HR.out.2.1) hK (fun k h_ => by have := h_.2.1; have := HG.out; omega)) (fun _ _ => trivial)⟩)
 have B4 := Aside0.mk (show Below W1.heap.size W1 w4 ∧ w4.heap[w.heap.size]? = some (.cells #[.slice none 0 0, .slice none 0 0] 51 (0, 0)) from ⟨hB, blk_below HH.out.2.1 hB⟩)
 clear hI hB hK TT hW1 hW2
 have z0 := (blk_cell B4.out.2 0).trans (show _ = some (Value.slice none 0 0) from rfl)
 have z1 := (blk_cell B4.out.2 1).trans (show _ = some (Value.slice none 0 0) from rfl)
 have y0 := blk_frozen B4.out.2 0
 have y1 := blk_frozen B4.out.2 1
 go_wp2
 refine bodyPost_ret (results_ct rfl _ _ w.heap.size 51 #[.slice A0' ps.length c0', .slice A1' fs.length c1'] (0, 0) _ rfl (put2 B4.out.2 _ _) Try.underlying51 rfl (by kernel_rfl)) rfl ?_
 obtain ⟨t1_, t2_, t3_⟩ := drawn_ret B4.out.2 (Nat.le_refl _) HH.out.1 HH.out.2.2 B4.out.1 K4.out.1 K4.out.2
 exact ⟨_, _, _, _, _, rfl, t1_, t2_, HSZ.out, HR.out.2.2, t3_⟩
structure KB (w0 W : World) (B g gv : Nat) (A0 : Option Addr) (c0 : Nat) (ps : List KL) (A1 : Option Addr) (c1 : Nat) (fs : List FL) (l0 : List Int) (p q : Int) : Prop where
 ks : KS W B (fun _ => True) (.slice A0 ps.length c0) ps
 fs_ : FS W B (fun _ => True) (.slice A1 fs.length c1) fs
 v : W.heap[gv]? = some (.cells #[.slice A0 ps.length c0, .slice A1 fs.length c1] 51 (0, 0))
 b : Below w0.heap.size w0 W
 i : IsS76 w0 W g l0 p q
theorem KB.drew {w0 W : World} {B g gv : Nat} {A0 : Option Addr} {c0 : Nat} {ps : List KL} {A1 : Option Addr} {c1 : Nat} {fs : List FL} {l0 : List Int} {p q : Int} (h : KB w0 W B g gv A0 c0 ps A1 c1 fs l0 p q) : KB w0 W.drew B g gv A0 c0 ps A1 c1 fs l0 p q :=
 have hb := below_drew1 (Below.refl W.heap.size W)
 ⟨Kd.R_below h.ks hb, Kd.S_below h.fs_ hb, blk_below h.v hb, below_step h.b hb, h.i.below hb⟩
theorem KB.cur {w0 W W1 : World} {B g gv : Nat} {A0 : Option Addr} {c0 : Nat} {ps : List KL} {A1 : Option Addr} {c1 : Nat} {fs : List FL} {l0 : List Int} {p q p' q' : Int} (h : KB w0 W B g gv A0 c0 ps A1 c1 fs l0 p q) (hg : g < B) (hv : g ≠ gv) (hi : IsS76 w0 W1 g l0 p' q') (hb : Below w0.heap.size w0 W1) (hk : KeepBut W W1 g none) : KB w0 W1 B g gv A0 c0 ps A1 c1 fs l0 p' q' :=
 ⟨Kd.R_mono (Kd.R_keep (Kd.R_bound h.ks) hk (fun k h_ => by have := h_.2.1; omega)) (fun _ _ => trivial), Kd.S_mono (Kd.S_keep (Kd.S_bound h.fs_) hk (fun k h_ => by have := h_.2.1; omega)) (fun _ _ => trivial), hk.blk h.v (fun e_ => hv e_.symm) (by simp), hb, hi⟩
set_option maxHeartbeats 8000000 in
set_option maxRecDepth 100000 in
theorem spec_DrawTextIn.calls (A0 : Option Addr) (c0 : Nat) (l0 : List Int) (w : World) (hl : Bytes l0) (hr0 : Kd.C (Kd.int .u8) w A0 l0.length l0) (hc0 : l0.length ≤ c0) :
  Calls Try.prog 53 #[.slice A0 l0.length c0] w fun e w' => ∃ (v0_ v1_ : Value) (ps : List KL) (fs : List FL) (x_ : Int), e = .returned (.tuple #[.agg #[v0_, v1_], .int .i64 x_]) ∧ Kd.R k89 89 w' w.heap.size (fun _ => True) v0_ ps ∧ Kd.S k87 87 w' w.heap.size (fun _ => True) v1_ fs ∧ (ps.length ≤ 101 ∧ fs.length ≤ 21 ∧ ∀ x ∈ fs, x.f0.length ≤ 200) ∧ Below w.heap.size w w' := by
 have huV := Try.underlying51
 have HBY := Aside0.mk hl
 obtain ⟨W1, hW1⟩ : ∃ W, w.alloc (.cells #[.slice none 0 0, .slice none 0 0] 51) = W := ⟨_, rfl⟩
 obtain ⟨W2, hW2⟩ : ∃ W, W1.alloc (.cells #[.slice A0 l0.length c0, .int .i64 0, .int .u64 0] 76) = W := ⟨_, rfl⟩
 have hb1 : Below w.heap.size w W1 := by rw [← hW1]; exact below_alloc (Below.refl _ _) _
 have hb2 : Below W1.heap.size W1 W2 := by rw [← hW2]; exact below_alloc (Below.refl _ _) _
 have Z1 : W1.heap[w.heap.size]? = some (.cells #[.slice none 0 0, .slice none 0 0] 51 (0, 0)) := by rw [← hW1]; exact heap_alloc_new w _
 have I2 : IsS76 W1 W2 W1.heap.size l0 0 0 := by rw [← hW2]; exact IsS76.alloc_self (Kd.C_below hr0 hb1)
 have HH := Aside0.mk (show Below w.heap.size w W1 ∧ W1.heap[w.heap.size]? = some (.cells #[.slice none 0 0, .slice none 0 0] 51 (0, 0)) ∧ W1.heap.size ≤ W2.heap.size from ⟨hb1, Z1, hb2.size⟩)
 have HG := Aside0.mk (show W1.heap.size < W2.heap.size by obtain ⟨_, _, h_, _⟩ := I2; exact blk_lt h_)
 have TT := Aside0.mk (curVault_calls W1.heap.size l0 0 0 W1 W2 hl (by omega) (by omega) I2 hb2)
 clear hl hr0 hb1 hb2 Z1 I2
 go_enter Try.func53, Try.ntmps53
 go_wp2_with (go_at_call 83; refine TT.out.mono ?_)
 rintro e w3 v0 v1 rfl ps hk fs hf p hp0 hp1 hs1 hs2 hs3 q hI hB hK
 have hsz := And.intro hs1 (And.intro hs2 hs3)
 have hp := And.intro hp0 hp1
 clear hs1 hs2 hs3 hp0 hp1
 have HSZ := Aside0.mk hsz
 obtain ⟨A0', c0', rfl⟩ := Kd.R_slice hk
 obtain ⟨A1', c1', rfl⟩ := Kd.S_slice hf
 clear hsz TT
 obtain ⟨w4, hw4⟩ : ∃ W, w3.alloc (.cells #[.slice A0' ps.length c0', .slice A1' fs.length c1'] 51) = W := ⟨_, rfl⟩
 have hb4 : Below w3.heap.size w3 w4 := by rw [← hw4]; exact below_alloc (Below.refl _ _) _
 have X4 : w4.heap[w3.heap.size]? = some (.cells #[.slice A0' ps.length c0', .slice A1' fs.length c1'] 51 (0, 0)) := by rw [← hw4]; exact heap_alloc_new w3 _
 have B := Aside0.mk (show KB W1 w4 W2.heap.size W1.heap.size w3.heap.size A0' c0' ps A1' c1' fs l0 p q from ⟨Kd.R_below hk hb4, Kd.S_below hf hb4, X4, below_step hB hb4, hI.below hb4⟩)
 have HV := Aside0.mk (show W1.heap.size ≠ w3.heap.size by have := HG.out; have := keep_size hK; omega)
 have HP := Aside0.mk hp
 have wq : wrap64 ((fs.length : Int) + 2) = (fs.length : Int) + 2 := w64 (by omega) (by have := HSZ.out.2.1; omega)
 clear hk hf hp hI hB hK hb4 X4
 go_wp2
 (try simp only [Act.put, List.setIfInBounds_toArray, List.set_cons_zero, List.set_cons_succ])
 clear hW1 hW2 hw4
 generalize w3.heap.size = gv at *
 refine start_ (n := 10) (S := fun w' => w'.cell? ⟨gv, 0, none⟩ = some (.slice A0' ps.length c0') ∧ w'.cell? ⟨gv, 1, none⟩ = some (.slice A1' fs.length c1')) (ds := [8]) (fl 10 0) (by kernel_rfl) rfl (by kernel_rfl) ⟨(blk_cell B.out.v 0).trans rfl, (blk_cell B.out.v 1).trans rfl⟩ (fun hHeld => ?_)
 replace B := Aside0.mk B.out.drew
 generalize w4.drew = w5 at B hHeld ⊢
 refine take_ (i := 0) (N := some 11) (v := ?_) (a' := ?_) (fl 10 1) rfl rfl (by kernel_rfl) (fun _ _ _ h => h) (Or.inl ⟨by rfl, ?_⟩) hHeld ?_ ?_
 rotate_left
 ·rintro w' ⟨s0, s1⟩
  go_simp
  with_reducible rfl
 rotate_left
 ·simp only [Act.put, List.setIfInBounds_toArray, List.set_cons_zero, List.set_cons_succ, i64_w, i32_w]
  rfl
 refine pure_ (i := 1) (N := some 12) (v := ?_) (a' := ?_) (fl 10 3) rfl rfl (by kernel_rfl) (fun _ _ _ h => h) (Or.inl ⟨by rfl, ?_⟩) ?_ ?_
 rotate_left
 ·intro w'
  go_simp
  with_reducible rfl
 rotate_left
 ·simp only [Act.put, List.setIfInBounds_toArray, List.set_cons_zero, List.set_cons_succ, i64_w, i32_w]
  rfl
 refine pure_ (i := 2) (N := some 13) (v := ?_) (a' := ?_) (fl 10 7) rfl rfl (by kernel_rfl) (fun _ _ _ h => h) (Or.inl ⟨by rfl, ?_⟩) ?_ ?_
 rotate_left
 ·intro w'
  go_simp
  with_reducible rfl
 rotate_left
 ·simp only [Act.put, List.setIfInBounds_toArray, List.set_cons_zero, List.set_cons_succ, i64_w, i32_w]
  rfl
 refine take_ (i := 3) (N := some 14) (v := ?_) (a' := ?_) (fl 10 15) rfl rfl (by kernel_rfl) (fun _ _ _ h => h) (Or.inl ⟨by rfl, ?_⟩) hHeld ?_ ?_
 rotate_left
 ·rintro w' ⟨s0, s1⟩
  go_simp
  with_reducible rfl
 rotate_left
 ·simp only [Act.put, List.setIfInBounds_toArray, List.set_cons_zero, List.set_cons_succ, i64_w, i32_w]
  rfl
 refine pure_ (i := 4) (N := some 15) (v := ?_) (a' := ?_) (fl 10 31) rfl rfl (by kernel_rfl) (fun _ _ _ h => h) (Or.inl ⟨by rfl, ?_⟩) ?_ ?_
 rotate_left
 ·intro w'
  go_simp
  with_reducible rfl
 rotate_left
 ·simp only [Act.put, List.setIfInBounds_toArray, List.set_cons_zero, List.set_cons_succ, i64_w, i32_w]
  rfl
 refine pure_ (i := 5) (N := some 16) (v := ?_) (a' := ?_) (fl 10 63) rfl rfl (by kernel_rfl) (fun _ _ _ h => h) (Or.inl ⟨by rfl, ?_⟩) ?_ ?_
 rotate_left
 ·intro w'
  go_simp
  with_reducible rfl
 rotate_left
 ·simp only [Act.put, List.setIfInBounds_toArray, List.set_cons_zero, List.set_cons_succ, i64_w, i32_w]
  rfl
 refine one_ (i := 6) (N := some 17) (fl 10 127) rfl rfl (by kernel_rfl) (by decide) (fun K hK => ?_)
 refine goes_ Try.func84 (by kernel_rfl) rfl #[.pointer (some ⟨W1.heap.size, 0, none⟩), .int .i64 (wrap64 ((fs.length : Int) + 2))] (by rfl) rfl rfl (by (try simp only [List.map_toArray, List.map_cons, List.map_nil]); first | done | rfl | (simp only [List.length_drop, List.length_take]; rfl)) ?_
 rw [wq]
 obtain ⟨a, p2, q2, e2, ha0, ha1, hp2, hp3⟩ := pick_ok HBY.out p q ((fs.length : Int) + 2) HP.out.1 (by have := HP.out; omega) (by have := HSZ.out.2.1; omega)
 refine (spec_l1Cur_pick.calls W1.heap.size l0 p q ((fs.length : Int) + 2) a p2 q2 W1 w5 B.out.i B.out.b e2).mono ?_
 rintro e w6 ⟨rfl, hI, hB, hK⟩
 refine ⟨_, rfl, ?_⟩
 have HA := Aside0.mk (show 0 ≤ a ∧ a ≤ 30 by have := HSZ.out.2.1; omega)
 replace B := Aside0.mk (B.out.cur HG.out HV.out hI hB hK)
 clear hI hB hK e2 ha0 ha1 hp2 hp3
 refine hK.out _ _ ⟨(blk_cell B.out.v 0).trans rfl, (blk_cell B.out.v 1).trans rfl⟩ (fun hHeld => ?_)
 clear hK K
 refine norm_ (a' := ?_) ?_ ?_
 rotate_left
 ·show Act.put _ (some 17) _ = _
  simp only [Act.put, List.setIfInBounds_toArray, List.set_cons_zero, List.set_cons_succ, i64_w, i32_w]
  rfl
 refine pure_ (i := 7) (N := some 18) (v := ?_) (a' := ?_) (fl 10 255) rfl rfl (by kernel_rfl) (fun _ _ _ h => h) (Or.inl ⟨by rfl, ?_⟩) ?_ ?_
 rotate_left
 ·intro w'
  go_simp
  with_reducible rfl
 rotate_left
 ·simp only [Act.put, List.setIfInBounds_toArray, List.set_cons_zero, List.set_cons_succ, i64_w, i32_w]
  rfl
 have Z6 := Aside0.mk (blk_below HH.out.2.1 B.out.b)
 have x0 : w6.cell? ⟨w.heap.size, 0, none⟩ = some (.slice none 0 0) := (blk_cell Z6.out 0).trans rfl
 have x1 : w6.cell? ⟨w.heap.size, 1, none⟩ = some (.slice none 0 0) := (blk_cell Z6.out 1).trans rfl
 have y0 := blk_frozen Z6.out 0
 have y1 := blk_frozen Z6.out 1
 refine last_ (i := 8) (N := none) (fl 10 511) rfl rfl (by kernel_rfl) (by decide) (fun K hK => ?_)
 refine skip_ (w1 := (w6.setCell ⟨w.heap.size, 0, none⟩ (.slice A0' ps.length c0')).setCell ⟨w.heap.size, 1, none⟩ (.slice A1' fs.length c1')) (by rfl) rfl ?_ ?_
 ·first | (go_simp; done) | (go_simp; rfl)
 refine hK.out _ _ ?_
 clear hK K x0 x1 y0 y1
 refine pure_ (i := 9) (N := some 3) (v := ?_) (a' := ?_) (fl 10 1023) rfl rfl (by kernel_rfl) (fun _ _ _ h => h) (Or.inl ⟨by rfl, ?_⟩) ?_ ?_
 rotate_left
 ·intro w'
  go_simp
  with_reducible rfl
 rotate_left
 ·simp only [Act.put, List.setIfInBounds_toArray, List.set_cons_zero, List.set_cons_succ, i64_w, i32_w]
  rfl
 refine done_ (by kernel_rfl) ?_
 clear hHeld
 go_wp2
 refine bodyPost_ret (results_ct rfl _ _ w.heap.size 51 #[.slice A0' ps.length c0', .slice A1' fs.length c1'] (0, 0) _ rfl (put2 Z6.out _ _) Try.underlying51 rfl (by kernel_rfl)) rfl ?_
 obtain ⟨t1_, t2_, t3_⟩ := drawn_ret Z6.out (Nat.le_refl _) HH.out.1 HH.out.2.2 B.out.b B.out.ks B.out.fs_
 exact ⟨_, _, _, _, _, rfl, t1_, t2_, HSZ.out, t3_⟩
end Go.Proofs.Ytjepecinpgjgdaa.PVau
