import Derived.Test.YtacfalpgmibfnaaXCowClone
import Derived.Test.YtacfalpgmibfnaaXCowRow
import Derived.StillTailTactics
/-! ownCow: a cow in new memory, behind a pointer; walked by hand. -/
namespace Go.Proofs.Ytacfalpgmibfnaa.PCow
open Go.RowKit Go.Proofs.YtacfalpgmibfnaaW.PrintWords Go.Proofs.YtacfalpgmibfnaaW.PrintLast Go.Proofs.YtacfalpgmibfnaaW.PrintMore Go.Proofs.Ytacfalpgmibfnaa.E
set_option linter.unusedSimpArgs false
set_option linter.unusedVariables false
/-- A cow of the call's own behind a pointer (block gb): its cells' row, its roots' row. -/
structure Out (W : World) (base gb : Nat) (C : List CL) (R : List Int) (L : Int) (v0 v1 : Value) : Prop where
  box : W.heap[gb]? = some (.cells #[v0, v1, .int .i64 L] 25 (0, 0))
  ge : base ≤ gb
  cs : CS W base (fun k => k ≠ gb ∧ some k ≠ v1.ownBlock) v0 C
  rs : IR W base (fun k => k ≠ gb) v1 R
def ownB (C : List CL) (R : List Int) : Bool := decide (C.length ≤ 1048576 ∧ R.length ≤ 1048576) && C.all fun x => decide (x.f2.length ≤ 1048576)
theorem ownB_out {C : List CL} {R : List Int} (h : ownB C R = true) : C.length ≤ 1048576 ∧ R.length ≤ 1048576 ∧ ∀ x ∈ C, x.f2.length ≤ 1048576 := by
  unfold ownB at h
  rw [Bool.and_eq_true] at h
  have h1 := of_decide_eq_true h.1
  exact ⟨h1.1, h1.2, fun x hx => of_decide_eq_true (List.all_eq_true.1 h.2 x hx)⟩
theorem ownB_of {C : List CL} {R : List Int} (h1 : C.length ≤ 1048576) (h2 : R.length ≤ 1048576) (h3 : ∀ x ∈ C, x.f2.length ≤ 1048576) : ownB C R = true := by
  unfold ownB
  rw [Bool.and_eq_true]
  exact ⟨decide_eq_true ⟨h1, h2⟩, List.all_eq_true.2 fun x hx => decide_eq_true (h3 x hx)⟩
theorem put3 {W : World} {g : Nat} {a b c : Value} (h : W.heap[g]? = some (.cells #[a, b, c] 25 (0, 0))) (x y z : Value) : (((W.setCell ⟨g, 0, none⟩ x).setCell ⟨g, 1, none⟩ y).setCell ⟨g, 2, none⟩ z).heap[g]? = some (.cells #[x, y, z] 25 (0, 0)) :=
  blk_put (cs := #[x, y, c]) (blk_put (cs := #[x, b, c]) (blk_put (cs := #[a, b, c]) h 0 x rfl) 1 y rfl) 2 z rfl
set_option maxHeartbeats 8000000 in
set_option maxRecDepth 100000 in
theorem ownCow_calls (A0 : Option Addr) (c0 : Nat) (C : List CL) (A1 : Option Addr) (c1 : Nat) (R : List Int) (L : Int) (w : World) (hr0 : Kd.C k68 w A0 C.length C) (hc0 : C.length ≤ c0) (hr1 : Kd.C (Kd.int .i64) w A1 R.length R) (hc1 : R.length ≤ c1) (hn : C.length ≤ 1048576) (hk : ∀ x ∈ C, x.f2.length ≤ 1048576) (hR : R.length ≤ 1048576) :
    Calls Try.prog 70 #[.agg #[.slice A0 C.length c0, .slice A1 R.length c1, .int .i64 L]] w fun e w' => ∃ gb v0 v1, e = .returned (.pointer (some ⟨gb, 0, none⟩)) ∧ Out w' w.heap.size gb C R L v0 v1 ∧ Below w.heap.size w w' := by
  have hu25 := Try.underlying25
  have hu68 := Try.underlying68
  have hu22 := Try.underlying22
  have HR0 := Aside0.mk hr0
  have HR1 := Aside0.mk hr1
  have HC0 := Aside0.mk hc0
  have HC1 := Aside0.mk hc1
  have HK := Aside0.mk hk
  have HN := Aside0.mk hn
  have HRL := Aside0.mk hR
  have hl : C.length ≤ 9223372036854775807 := by omega
  clear hr0 hr1 hc0 hc1 hk hR hn
  obtain ⟨W1, hW1⟩ : ∃ W, w.alloc (.cells #[.slice A0 C.length c0, .slice A1 R.length c1, .int .i64 L] 25) = W := ⟨_, rfl⟩
  have B1 := Aside0.mk (show Below w.heap.size w W1 by rw [← hW1]; exact below_alloc (Below.refl _ _) _)
  have X1 := Aside0.mk (show W1.heap[w.heap.size]? = some (.cells #[.slice A0 C.length c0, .slice A1 R.length c1, .int .i64 L] 25 (0, 0)) by rw [← hW1]; exact heap_alloc_new w _)
  have d0 : W1.cell? ⟨w.heap.size, 0, none⟩ = some (.slice A0 C.length c0) := (blk_cell X1.out 0).trans rfl
  have d1 : W1.cell? ⟨w.heap.size, 1, none⟩ = some (.slice A1 R.length c1) := (blk_cell X1.out 1).trans rfl
  have d2 : W1.cell? ⟨w.heap.size, 2, none⟩ = some (.int .i64 L) := (blk_cell X1.out 2).trans rfl
  have TT := Aside0.mk (slices_Clone_int_int.calls A1 c1 R R W1 (Kd.C_below HR1.out B1.out) HC1.out (by unfold slices_Clone_int_int.f; rw [if_pos HRL.out]))
  go_enter Try.func70, Try.ntmps70
  go_wp2
  clear TT hW1 d0 d1 d2
  refine start_ (n := 8) (S := fun w' => w'.cell? ⟨w.heap.size, 1, none⟩ = some (.slice A1 R.length c1) ∧ w'.cell? ⟨w.heap.size, 2, none⟩ = some (.int .i64 L)) (ds := []) #[false, false, false, false, false, false, false, false] (by kernel_rfl) rfl rfl ⟨(blk_cell X1.out 1).trans rfl, (blk_cell X1.out 2).trans rfl⟩ (fun hHeld => ?_)
  replace B1 := Aside0.mk (below_drew1 B1.out)
  replace X1 := Aside0.mk (blk_drew X1.out)
  generalize W1.drew = V1 at B1 X1 hHeld ⊢
  have TT := Aside0.mk (slices_Clone_int_int.calls A1 c1 R R V1 (Kd.C_below HR1.out B1.out) HC1.out (by unfold slices_Clone_int_int.f; rw [if_pos HRL.out]))
  refine take_ (i := 0) (N := some 6) (v := ?_) (a' := ?_) #[true, false, false, false, false, false, false, false] rfl rfl (by kernel_rfl) (fun _ _ _ h => h) (Or.inl ⟨by rfl, ?_⟩) hHeld ?_ ?_
  rotate_left
  · rintro w' ⟨s0, s1⟩
    go_simp
    with_reducible rfl
  rotate_left
  · simp only [Act.put, List.setIfInBounds_toArray, List.set_cons_zero, List.set_cons_succ, i64_w, i32_w]
    rfl
  refine take_ (i := 1) (N := some 7) (v := ?_) (a' := ?_) #[true, true, false, false, false, false, false, false] rfl rfl (by kernel_rfl) (fun _ _ _ h => h) (Or.inl ⟨by rfl, ?_⟩) hHeld ?_ ?_
  rotate_left
  · rintro w' ⟨s0, s1⟩
    go_simp
    with_reducible rfl
  rotate_left
  · simp only [Act.put, List.setIfInBounds_toArray, List.set_cons_zero, List.set_cons_succ, i64_w, i32_w]
    rfl
  refine take_ (i := 3) (N := some 9) (v := ?_) (a' := ?_) #[true, true, false, true, false, false, false, false] rfl rfl (by kernel_rfl) (fun _ _ _ h => h) (Or.inl ⟨by rfl, ?_⟩) hHeld ?_ ?_
  rotate_left
  · rintro w' ⟨s0, s1⟩
    go_simp
    with_reducible rfl
  rotate_left
  · simp only [Act.put, List.setIfInBounds_toArray, List.set_cons_zero, List.set_cons_succ, i64_w, i32_w]
    rfl
  refine take_ (i := 4) (N := some 10) (v := ?_) (a' := ?_) #[true, true, false, true, true, false, false, false] rfl rfl (by kernel_rfl) (fun _ _ _ h => h) (Or.inl ⟨by rfl, ?_⟩) hHeld ?_ ?_
  rotate_left
  · rintro w' ⟨s0, s1⟩
    go_simp
    with_reducible rfl
  rotate_left
  · simp only [Act.put, List.setIfInBounds_toArray, List.set_cons_zero, List.set_cons_succ, i64_w, i32_w]
    rfl
  refine one_ (i := 2) (N := some 8) #[true, true, true, true, true, false, false, false] rfl rfl (by kernel_rfl) (by decide) (fun K hK => ?_)
  refine goes_ Try.func87 (by kernel_rfl) rfl #[.slice A1 R.length c1] (by rfl) rfl rfl (by (try simp only [List.map_toArray, List.map_cons, List.map_nil]); first | done | rfl | (simp only [List.length_drop, List.length_take]; rfl)) ?_
  refine TT.out.mono ?_
  rintro e w2 ⟨v1, rfl, hr, hb⟩
  refine ⟨_, rfl, ?_⟩
  have B2 := Aside0.mk (below_step B1.out hb)
  have X2 := Aside0.mk (blk_below X1.out hb)
  have R2 := Aside0.mk (Kd.R_mono (Kd.R_bound (Kd.R_lower hr B1.out.size)) (fun k hk => hk.2.2.1) : IR w2 w.heap.size (fun k => k < w2.heap.size) v1 R)
  clear hr hb B1 X1 TT
  obtain ⟨A3, c3, rfl⟩ := Kd.R_slice R2.out
  refine hK.out _ _ ⟨(blk_cell X2.out 1).trans rfl, (blk_cell X2.out 2).trans rfl⟩ (fun hHeld => ?_)
  clear hK K
  refine norm_ (a' := ?_) ?_ ?_
  rotate_left
  · show Act.put _ (some 8) _ = _
    simp only [Act.put, List.setIfInBounds_toArray, List.set_cons_zero, List.set_cons_succ, i64_w, i32_w]
    rfl
  refine pure_ (i := 5) (N := some 11) (v := ?_) (a' := ?_) #[true, true, true, true, true, true, false, false] rfl rfl (by kernel_rfl) (fun _ _ _ h => h) (Or.inl ⟨by rfl, ?_⟩) ?_ ?_
  rotate_left
  · intro w'
    go_simp
    with_reducible rfl
  rotate_left
  · simp only [Act.put, List.setIfInBounds_toArray, List.set_cons_zero, List.set_cons_succ, i64_w, i32_w]
    rfl
  refine one_ (i := 6) (N := some 12) #[true, true, true, true, true, true, true, false] rfl rfl (by kernel_rfl) (by decide) (fun K hK => ?_)
  refine box_step (by rfl) (N := 12) rfl (cs := #[.slice none 0 0, .slice A3 R.length c3, .int .i64 L]) (t := 25) (by first | (go_simp; done) | (go_simp; rfl)) ?_
  intro gb hgb W3 hG hb
  have B3 := Aside0.mk (below_step B2.out hb)
  have X3 := Aside0.mk (blk_below X2.out hb)
  have G3 := Aside0.mk hG
  have R3 := Aside0.mk (show IR W3 w.heap.size (fun k => k ≠ gb) (.slice A3 R.length c3) R from Kd.R_mono (Kd.R_below R2.out hb) (fun k hk => (by omega : k ≠ gb)))
  have GE := Aside0.mk (show w.heap.size ≤ gb by rw [hgb]; exact B2.out.size)
  have S3 := Aside0.mk (show CS W3 w.heap.size (fun k => k ≠ gb ∧ some k ≠ (Value.slice A3 R.length c3).ownBlock) (.slice none 0 0) [] from Kd.S_nil _ _ _ _ _)
  have hne := Aside0.mk (show w.heap.size ≠ gb from by have := blk_lt X2.out; omega)
  refine hK.out _ _ ⟨(blk_cell X3.out 1).trans rfl, (blk_cell X3.out 2).trans rfl⟩ (fun hHeld => ?_)
  clear hK K hG hb hgb B2 R2 X2
  refine norm_ (a' := ?_) ?_ ?_
  rotate_left
  · show Act.put _ (some 12) _ = _
    simp only [Act.put, List.setIfInBounds_toArray, List.set_cons_zero, List.set_cons_succ, i64_w, i32_w]
    rfl
  refine pure_ (i := 7) (N := some 3) (v := ?_) (a' := ?_) #[true, true, true, true, true, true, true, true] rfl rfl (by kernel_rfl) (fun _ _ _ h => h) (Or.inl ⟨by rfl, ?_⟩) ?_ ?_
  rotate_left
  · intro w'
    go_simp
    with_reducible rfl
  rotate_left
  · simp only [Act.put, List.setIfInBounds_toArray, List.set_cons_zero, List.set_cons_succ, i64_w, i32_w]
    rfl
  refine done_ (by kernel_rfl) ?_
  clear hHeld
  have d0 : W3.cell? ⟨w.heap.size, 0, none⟩ = some (.slice A0 C.length c0) := (blk_cell X3.out 0).trans rfl
  go_wp2
  clear d0
  go_loopw [16] (fun vi wr => ∃ (q : Nat) (A9 : Option Addr) (c9 : Nat), q ≤ C.length ∧ vi = .int .i64 q ∧ Aside0 (wr.heap[w.heap.size]? = some (.cells #[.slice A0 C.length c0, .slice A1 R.length c1, .int .i64 L] 25 (0, 0))) ∧ Aside0 (wr.heap[gb]? = some (.cells #[.slice A9 q c9, .slice A3 R.length c3, .int .i64 L] 25 (0, 0))) ∧ Aside0 (CS wr w.heap.size (fun k => k ≠ gb ∧ some k ≠ (Value.slice A3 R.length c3).ownBlock) (.slice A9 q c9) (C.take q)) ∧ Aside0 (IR wr w.heap.size (fun k => k ≠ gb) (.slice A3 R.length c3) R) ∧ Aside0 (Below w.heap.size w wr)) (fun vi _ => C.length - (intOf vi).toNat)
  case atStart => exact ⟨0, none, 0, Nat.zero_le _, rfl, X3, G3, S3, R3, B3⟩
  case round =>
    clear X3 G3 S3 R3 B3
    obtain ⟨q, A9, c9, hq, rfl, X3, G3, S3, R3, B3⟩ := hrel
    by_cases hql : q < C.length
    · have hqq : ((q : Int) < (C.length : Int)) = True := eq_true (by omega)
      obtain ⟨ad, A4, c4, e4, x0, x1, x2, hc4, hC4⟩ := at_T68 (Kd.C_below HR0.out B3.out) (q : Int) (by omega) (by omega)
      subst e4
      obtain ⟨x, hx⟩ : ∃ x, rd_T68 C (q : Int) = x := ⟨_, rfl⟩
      rw [hx] at x0 x1 x2 hc4 hC4
      simp only [Int.toNat_natCast] at x0 x1 x2
      have hxm : x ∈ C := by
        rw [← hx, rd_cl, Int.toNat_natCast, List.getD_eq_getElem?_getD, List.getElem?_eq_getElem hql]
        exact List.getElem_mem hql
      have HKL := Aside0.mk (HK.out x hxm)
      have hxe := Aside0.mk hx
      obtain ⟨V, hV⟩ : ∃ V, wr.alloc (.cells #[.int .i64 x.f0, .string x.f1, .slice A4 x.f2.length c4] 68) = V := ⟨_, rfl⟩
      have hb : Below wr.heap.size wr V := by rw [← hV]; exact below_alloc (Below.refl _ _) _
      have Y4 := Aside0.mk (show V.heap[wr.heap.size]? = some (.cells #[.int .i64 x.f0, .string x.f1, .slice A4 x.f2.length c4] 68 (0, 0)) by rw [← hV]; exact heap_alloc_new wr _)
      have LT := Aside0.mk (show V.heap.size = wr.heap.size + 1 by rw [← hV]; simp)
      have TT := Aside0.mk (slices_Clone_int_int.calls A4 c4 x.f2 x.f2 V (Kd.C_below hC4 hb) hc4 (by unfold slices_Clone_int_int.f; rw [if_pos HKL.out]))
      have X4 := Aside0.mk (blk_below X3.out hb)
      have G4 := Aside0.mk (blk_below G3.out hb)
      have S4 := Aside0.mk (Kd.S_below (Kd.S_elderB S3.out wr.heap.size (Nat.le_refl _)) hb)
      have R4 := Aside0.mk (Kd.R_below (Kd.R_mono (Kd.R_bound R3.out) (fun k hk => (⟨hk.1, by omega⟩ : k ≠ gb ∧ k ≠ wr.heap.size))) hb)
      have B4 := Aside0.mk (below_step B3.out hb)
      have GX := Aside0.mk (show gb ≠ wr.heap.size from Nat.ne_of_lt (blk_lt G3.out))
      have GL := Aside0.mk (show gb < wr.heap.size from blk_lt G3.out)
      have RN := Aside0.mk (show ∀ k, (Value.slice A3 R.length c3).ownBlock = some k → k ≠ gb from fun k hk => R3.out.1 k hk)
      have WX := Aside0.mk (show w.heap.size ≤ wr.heap.size from B3.out.size)
      clear hb hC4 hxm hx hc4 X3 G3 S3 R3 B3
      have y2 : V.cell? ⟨wr.heap.size, 2, none⟩ = some (.slice A4 x.f2.length c4) := (blk_cell Y4.out 2).trans rfl
      have HQ := Aside0.mk hql
      have HXQ := Aside0.mk (show C[q] = x from (by rw [← hxe.out, rd_cl, Int.toNat_natCast, List.getD_eq_getElem?_getD, List.getElem?_eq_getElem hql]; rfl))
      go_wp2_with (go_at_call 87; refine TT.out.mono ?_)
      rintro e w2 ⟨v2, rfl, hr, hb⟩
      clear TT hV y2
      obtain ⟨A6, c6, rfl⟩ := Kd.R_slice hr
      have NV := Aside0.mk (show ∀ k, (Value.slice A6 x.f2.length c6).ownBlock = some k → wr.heap.size < k from fun k hk => by have := Kd.R_base hr k hk; have := LT.out; omega)
      have NS := Aside0.mk (show ∀ k, (Value.slice A9 q c9).ownBlock = some k → k < wr.heap.size from fun k hk => by have h1 := Kd.S_lt S4.out k hk; have h2 := (Kd.S_R S4.out).1 k hk; have := LT.out; omega)
      have N1 := Aside0.mk (show ∀ k, (Value.slice A3 R.length c3).ownBlock = some k → k < wr.heap.size from fun k hk => by have h1 := Kd.R_lt R4.out k hk; have h2 := R4.out.1 k hk; have := LT.out; omega)
      obtain ⟨w3, hw3⟩ : ∃ W, w2.setCell ⟨wr.heap.size, 2, none⟩ (.slice A6 x.f2.length c6) = W := ⟨_, rfl⟩
      have Y5 := blk_below Y4.out hb
      have X5 := Aside0.mk (show w3.heap[w.heap.size]? = some (.cells #[.slice (some ad) C.length c0, .slice A1 R.length c1, .int .i64 L] 25 (0, 0)) by rw [← hw3]; exact blk_far (blk_below X4.out hb) (p := ⟨wr.heap.size, 2, none⟩) (by have := blk_lt (blk_below X4.out hb); show w.heap.size ≠ wr.heap.size; intro e_; rw [← e_] at Y5; rw [blk_below X4.out hb] at Y5; injection Y5 with h1; injection h1 with _ h2; exact absurd h2 (by decide)) _)
      have G5 := Aside0.mk (show w3.heap[gb]? = some (.cells #[.slice A9 q c9, .slice A3 R.length c3, .int .i64 L] 25 (0, 0)) by rw [← hw3]; exact blk_far (blk_below G4.out hb) (p := ⟨wr.heap.size, 2, none⟩) GX.out _)
      have Y6 := Aside0.mk (show w3.heap[wr.heap.size]? = some (.cells #[.int .i64 x.f0, .string x.f1, .slice A6 x.f2.length c6] 68 (0, 0)) by rw [← hw3]; exact blk_put (cs := #[.int .i64 x.f0, .string x.f1, .slice A4 x.f2.length c4]) Y5 2 _ rfl)
      have S5 := Aside0.mk (show CS w3 w.heap.size (fun k => ((k ≠ gb ∧ some k ≠ (Value.slice A3 R.length c3).ownBlock) ∧ k ≠ wr.heap.size) ∧ k < V.heap.size) (.slice A9 q c9) (C.take q) by rw [← hw3]; exact Kd.S_far (p := ⟨wr.heap.size, 2, none⟩) (Kd.S_below (Kd.S_mono (Kd.S_bound S4.out) (fun k hk => ⟨hk.1, hk.2.2.1⟩)) hb) (fun k hk => hk.1.2) _)
      have R5 := Aside0.mk (show IR w3 w.heap.size (fun k => k ≠ gb ∧ k ≠ wr.heap.size) (.slice A3 R.length c3) R by rw [← hw3]; exact Kd.R_far (p := ⟨wr.heap.size, 2, none⟩) (Kd.R_below R4.out hb) (fun k hk => hk.2) _)
      have K5 := Aside0.mk (show IR w3 w.heap.size (fun k => k ≠ wr.heap.size) (.slice A6 x.f2.length c6) x.f2 by rw [← hw3]; exact Kd.R_far (p := ⟨wr.heap.size, 2, none⟩) (Kd.R_of_own (Kd.own_of_R (Kd.R_lower hr B4.out.size)) (fun k hk => (by have := NV.out k hk; omega : k ≠ wr.heap.size))) (fun k hk => hk) _)
      have B5 := Aside0.mk (show Below w.heap.size w w3 by rw [← hw3]; exact below_set (below_step B4.out hb) WX.out)
      have y2 : w2.cell? ⟨wr.heap.size, 2, none⟩ = some (.slice A4 x.f2.length c4) := (blk_cell Y5 2).trans rfl
      have z2 : w2.frozen? ⟨wr.heap.size, 2, none⟩ = false := blk_frozen Y5 2
      clear Y5 hr hb Y4 X4 G4 S4 R4 B4
      go_wp2
      clear y2 z2 hw3
      refine start_ (n := 11) (S := fun w' => w'.cell? ⟨gb, 0, none⟩ = some (.slice A9 q c9) ∧ w'.cell? ⟨wr.heap.size, 0, none⟩ = some (.int .i64 x.f0) ∧ w'.cell? ⟨wr.heap.size, 1, none⟩ = some (.string x.f1) ∧ w'.cell? ⟨wr.heap.size, 2, none⟩ = some (.slice A6 x.f2.length c6)) (ds := [10]) #[false, false, false, false, false, false, false, false, false, false, false] (by kernel_rfl) rfl rfl ⟨(blk_cell G5.out 0).trans rfl, (blk_cell Y6.out 0).trans rfl, (blk_cell Y6.out 1).trans rfl, (blk_cell Y6.out 2).trans rfl⟩ (fun hHeld => ?_)
      replace X5 := Aside0.mk (blk_drew X5.out)
      replace G5 := Aside0.mk (blk_drew G5.out)
      replace Y6 := Aside0.mk (blk_drew Y6.out)
      replace S5 := Aside0.mk (Kd.S_drew S5.out)
      replace R5 := Aside0.mk (Kd.R_drew R5.out)
      replace K5 := Aside0.mk (Kd.R_drew K5.out)
      replace B5 := Aside0.mk (below_drew1 B5.out)
      generalize w3.drew = w7 at X5 G5 Y6 S5 R5 K5 B5 hHeld ⊢
      refine take_ (i := 0) (N := some 24) (v := ?_) (a' := ?_) #[true, false, false, false, false, false, false, false, false, false, false] rfl rfl (by kernel_rfl) (fun _ _ _ h => h) (Or.inl ⟨by rfl, ?_⟩) hHeld ?_ ?_
      rotate_left
      · rintro w' ⟨s0, s1, s2, s3⟩
        go_simp
        with_reducible rfl
      rotate_left
      · simp only [Act.put, List.setIfInBounds_toArray, List.set_cons_zero, List.set_cons_succ, i64_w, i32_w]
        rfl
      refine take_ (i := 1) (N := some 25) (v := ?_) (a' := ?_) #[true, true, false, false, false, false, false, false, false, false, false] rfl rfl (by kernel_rfl) (fun _ _ _ h => h) (Or.inl ⟨by rfl, ?_⟩) hHeld ?_ ?_
      rotate_left
      · rintro w' ⟨s0, s1, s2, s3⟩
        go_simp
        with_reducible rfl
      rotate_left
      · simp only [Act.put, List.setIfInBounds_toArray, List.set_cons_zero, List.set_cons_succ, i64_w, i32_w]
        rfl
      refine take_ (i := 2) (N := some 26) (v := ?_) (a' := ?_) #[true, true, true, false, false, false, false, false, false, false, false] rfl rfl (by kernel_rfl) (fun _ _ _ h => h) (Or.inl ⟨by rfl, ?_⟩) hHeld ?_ ?_
      rotate_left
      · rintro w' ⟨s0, s1, s2, s3⟩
        go_simp
        with_reducible rfl
      rotate_left
      · simp only [Act.put, List.setIfInBounds_toArray, List.set_cons_zero, List.set_cons_succ, i64_w, i32_w]
        rfl
      refine take_ (i := 3) (N := some 27) (v := ?_) (a' := ?_) #[true, true, true, true, false, false, false, false, false, false, false] rfl rfl (by kernel_rfl) (fun _ _ _ h => h) (Or.inl ⟨by rfl, ?_⟩) hHeld ?_ ?_
      rotate_left
      · rintro w' ⟨s0, s1, s2, s3⟩
        go_simp
        with_reducible rfl
      rotate_left
      · simp only [Act.put, List.setIfInBounds_toArray, List.set_cons_zero, List.set_cons_succ, i64_w, i32_w]
        rfl
      refine take_ (i := 4) (N := some 28) (v := ?_) (a' := ?_) #[true, true, true, true, true, false, false, false, false, false, false] rfl rfl (by kernel_rfl) (fun _ _ _ h => h) (Or.inl ⟨by rfl, ?_⟩) hHeld ?_ ?_
      rotate_left
      · rintro w' ⟨s0, s1, s2, s3⟩
        go_simp
        with_reducible rfl
      rotate_left
      · simp only [Act.put, List.setIfInBounds_toArray, List.set_cons_zero, List.set_cons_succ, i64_w, i32_w]
        rfl
      refine take_ (i := 5) (N := some 29) (v := ?_) (a' := ?_) #[true, true, true, true, true, true, false, false, false, false, false] rfl rfl (by kernel_rfl) (fun _ _ _ h => h) (Or.inl ⟨by rfl, ?_⟩) hHeld ?_ ?_
      rotate_left
      · rintro w' ⟨s0, s1, s2, s3⟩
        go_simp
        with_reducible rfl
      rotate_left
      · simp only [Act.put, List.setIfInBounds_toArray, List.set_cons_zero, List.set_cons_succ, i64_w, i32_w]
        rfl
      refine one_ (i := 6) (N := some 30) #[true, true, true, true, true, true, true, false, false, false, false] rfl rfl (by kernel_rfl) (by decide) (fun K hK => ?_)
      refine event_step (by rfl) (v := .slice (some ⟨w7.heap.size, 0, none⟩) 1 1) (w1 := w7.alloc (.cells #[.int .i64 x.f0, .string x.f1, .slice A6 x.f2.length c6] 68)) (by first | (go_simp; done) | (go_simp; rfl)) ?_
      have hb := below_alloc (Below.refl w7.heap.size w7) (.cells #[.int .i64 x.f0, .string x.f1, .slice A6 x.f2.length c6] 68)
      refine hK.out _ _ ⟨(blk_cell (blk_below G5.out hb) 0).trans rfl, (blk_cell (blk_below Y6.out hb) 0).trans rfl, (blk_cell (blk_below Y6.out hb) 1).trans rfl, (blk_cell (blk_below Y6.out hb) 2).trans rfl⟩ (fun hHeld => ?_)
      clear hb
      clear hK K
      refine norm_ (a' := ?_) ?_ ?_
      rotate_left
      · show Act.put _ (some 30) _ = _
        simp only [Act.put, List.setIfInBounds_toArray, List.set_cons_zero, List.set_cons_succ, i64_w, i32_w]
        rfl
      refine one_ (i := 7) (N := some 31) #[true, true, true, true, true, true, true, true, false, false, false] rfl rfl (by kernel_rfl) (by decide) (fun K hK => ?_)
      refine Kd.S_append_step k68 (w0 := w) (W := w7) w.heap.size (by rfl) (.tmp 28) (.tmp 30) 22 68 (.agg #[(.int .i64 0), (.string ⟨#[]⟩), (.slice none 0 0)]) 48 rfl Try.underlying22 info68 rfl (by decide) (by omega) (.slice A9 q c9) (C.take q) x [.int .i64 x.f0, .string x.f1, .slice A6 x.f2.length c6] (fun k => k ≠ gb ∧ some k ≠ (Value.slice A3 R.length c3).ownBlock) (fun k => some k = (Value.slice A6 x.f2.length c6).ownBlock) rfl rfl ?aP ?aK ?aF ?aO B5.out B5.out.size ?aL ?_
      case aP => exact cl_M.2 ⟨_, rfl, Kd.R_of_own (Kd.own_of_R K5.out) (fun k hk => hk.symm)⟩
      case aK => exact fun k hk => by have h1 := NV.out k hk.symm; have h2 := GL.out; exact ⟨⟨by omega, fun e_ => by have := N1.out k e_.symm; omega⟩, fun e_ => by have := NS.out k e_.symm; omega⟩
      case aF => exact fun k hk => ⟨by have := blk_lt G5.out; omega, fun e_ => by have := Kd.R_lt R5.out k e_.symm; omega⟩
      case aO => exact Kd.S_mono S5.out (fun k hk => ⟨hk.1.1, fun e_ => by have := NV.out k e_.symm; have := hk.2; have := LT.out; omega⟩)
      case aL => have := HN.out; have := HQ.out; rw [List.length_take]; omega
      intro v9 w9 ho hb hg hat
      have hn9 : some gb ≠ (.slice A9 q c9 : Value).ownBlock := fun e_ => by have := NS.out gb e_.symm; have h_ := (Kd.S_R S5.out).1 gb e_.symm; exact h_.1.1.1 rfl
      have X9 := Aside0.mk (blk_grown X5.out hg (Kd.S_ne S5.out X5.out (by decide)))
      have G9 := Aside0.mk (blk_grown G5.out hg hn9)
      have Y9 := Aside0.mk (blk_grown Y6.out hg (fun e_ => by have := NS.out _ e_.symm; omega))
      have R9 := Aside0.mk (Kd.R_grown (Kd.R_of_own (Kd.own_of_R R5.out) (fun k hk => hk.symm) : IR w7 w.heap.size (fun k => some k = (Value.slice A3 R.length c3).ownBlock) (.slice A3 R.length c3) R) hg (fun k hk e_ => (Kd.S_R S5.out).1 k e_.symm |>.1.1.2 hk))
      have B9 := Aside0.mk hb
      obtain ⟨A8, c8, rfl⟩ : ∃ A8 c8, v9 = .slice A8 (q + 1) c8 := by
        obtain ⟨A8, c8, e_⟩ := Kd.S_slice ho
        have hql := HQ.out
        exact ⟨A8, c8, by rw [e_, List.length_append, List.length_take]; congr 1; simp; omega⟩
      have S9 := Aside0.mk ho
      refine hK.out _ _ ⟨(blk_cell G9.out 0).trans rfl, (blk_cell Y9.out 0).trans rfl, (blk_cell Y9.out 1).trans rfl, (blk_cell Y9.out 2).trans rfl⟩ (fun hHeld => ?_)
      clear ho hb hg hat hn9 Y9 X5 G5 Y6 S5 R5 K5 B5
      clear hK K
      refine norm_ (a' := ?_) ?_ ?_
      rotate_left
      · show Act.put _ (some 31) _ = _
        simp only [Act.put, List.setIfInBounds_toArray, List.set_cons_zero, List.set_cons_succ, i64_w, i32_w]
        rfl
      refine pure_ (i := 8) (N := some 32) (v := ?_) (a' := ?_) #[true, true, true, true, true, true, true, true, true, false, false] rfl rfl (by kernel_rfl) (fun _ _ _ h => h) (Or.inl ⟨by rfl, ?_⟩) ?_ ?_
      rotate_left
      · intro w'
        go_simp
        with_reducible rfl
      rotate_left
      · simp only [Act.put, List.setIfInBounds_toArray, List.set_cons_zero, List.set_cons_succ, i64_w, i32_w]
        rfl
      refine pure_ (i := 9) (N := some 33) (v := ?_) (a' := ?_) #[true, true, true, true, true, true, true, true, true, true, false] rfl rfl (by kernel_rfl) (fun _ _ _ h => h) (Or.inl ⟨by rfl, ?_⟩) ?_ ?_
      rotate_left
      · intro w'
        go_simp
        with_reducible rfl
      rotate_left
      · simp only [Act.put, List.setIfInBounds_toArray, List.set_cons_zero, List.set_cons_succ, i64_w, i32_w]
        rfl
      have g0 : w9.cell? ⟨gb, 0, none⟩ = some (.slice A9 q c9) := (blk_cell G9.out 0).trans rfl
      have z0 : w9.frozen? ⟨gb, 0, none⟩ = false := blk_frozen G9.out 0
      refine last_ (i := 10) (N := none) #[true, true, true, true, true, true, true, true, true, true, true] rfl rfl (by kernel_rfl) (by decide) (fun K hK => ?_)
      refine skip_ (w1 := w9.setCell ⟨gb, 0, none⟩ (.slice A8 (q + 1) c8)) (by rfl) rfl ?_ ?_
      · first | (go_simp; done) | (go_simp; rfl)
      clear g0 z0
      refine hK.out _ _ ?_
      clear hK K
      refine done_ (by kernel_rfl) ?_
      clear hHeld
      have hql := HQ.out
      have hxq : C.take q ++ [x] = C.take (q + 1) := by
        rw [List.take_succ_eq_append_getElem hql]
        congr 2
        exact HXQ.out.symm
      have X10 := Aside0.mk (blk_far X9.out (p := ⟨gb, 0, none⟩) hne.out (.slice A8 (q + 1) c8))
      have G10 := Aside0.mk (show (w9.setCell ⟨gb, 0, none⟩ (.slice A8 (q + 1) c8)).heap[gb]? = some (.cells #[.slice A8 (q + 1) c8, .slice A3 R.length c3, .int .i64 L] 25 (0, 0)) from blk_put (cs := #[.slice A9 q c9, .slice A3 R.length c3, .int .i64 L]) G9.out 0 _ rfl)
      have S10 := Aside0.mk (Kd.S_far (p := ⟨gb, 0, none⟩) S9.out (fun k hk => hk.1) (.slice A8 (q + 1) c8))
      have R10 := Aside0.mk (show IR (w9.setCell ⟨gb, 0, none⟩ (.slice A8 (q + 1) c8)) w.heap.size (fun k => k ≠ gb) (.slice A3 R.length c3) R from Kd.R_far (p := ⟨gb, 0, none⟩) (Kd.R_mono R9.out (fun k hk => by have := N1.out k hk.symm; exact fun e_ => RN.out k hk.symm e_)) (fun k hk => hk) _)
      have B10 := Aside0.mk ((below_set B9.out GE.out : Below w.heap.size w (w9.setCell ⟨gb, 0, none⟩ (.slice A8 (q + 1) c8))))
      clear X9 G9 S9 R9 B9
      rw [hxq] at S10
      generalize w9.setCell ⟨gb, 0, none⟩ (.slice A8 (q + 1) c8) = wE at X10 G10 S10 R10 B10 ⊢
      try go_wp2
      go_roundw
      case rel => exact ⟨q + 1, A8, c8, hql, by go_num, X10, G10, S10, R10, B10⟩
      case measure => simp [intOf]; omega
    · have hqq : ((q : Int) < (C.length : Int)) = False := eq_false (by omega)
      have e : C.take q = C := List.take_of_length_le (by omega)
      rw [e] at S3
      clear hql
      go_wp2
      go_ret
      exact ⟨gb, _, _, rfl, ⟨G3.out, GE.out, S3.out, R3.out⟩, B3.out⟩
/-- The result's own box is written: what is handed back stands as it stood. -/
theorem ret_cow {w W : World} {gz : Nat} {a b c x y z : Value} {ok ok2 : Nat → Prop} {v0 v1 : Value} {C : List CL} {R : List Int} (hz : W.heap[gz]? = some (.cells #[a, b, c] 25 (0, 0))) (hge : w.heap.size ≤ gz) (hs : CS W w.heap.size ok v0 C) (hok : ∀ k, ok k → some k ≠ v1.ownBlock) (hr : IR W w.heap.size ok2 v1 R) (hb : Below w.heap.size w W) :
    Kd.S k68 68 (((W.setCell ⟨gz, 0, none⟩ x).setCell ⟨gz, 1, none⟩ y).setCell ⟨gz, 2, none⟩ z) w.heap.size (fun k_ => some k_ ≠ v1.ownBlock) v0 C ∧ Kd.R (Kd.int .i64) 3 (((W.setCell ⟨gz, 0, none⟩ x).setCell ⟨gz, 1, none⟩ y).setCell ⟨gz, 2, none⟩ z) w.heap.size (fun _ => True) v1 R ∧ Below w.heap.size w (((W.setCell ⟨gz, 0, none⟩ x).setCell ⟨gz, 1, none⟩ y).setCell ⟨gz, 2, none⟩ z) := by
  have h1 := Kd.S_types hs hz (by decide)
  have h2 := Kd.R_types hr hz (by decide)
  exact ⟨Kd.S_mono (Kd.S_far (p := ⟨gz, 2, none⟩) (Kd.S_far (p := ⟨gz, 1, none⟩) (Kd.S_far (p := ⟨gz, 0, none⟩) h1 (fun _ hk => hk.2) x) (fun _ hk => hk.2) y) (fun _ hk => hk.2) z) (fun k hk => hok k hk.1), Kd.R_mono (Kd.R_far (p := ⟨gz, 2, none⟩) (Kd.R_far (p := ⟨gz, 1, none⟩) (Kd.R_far (p := ⟨gz, 0, none⟩) h2 (fun _ hk => hk.2) x) (fun _ hk => hk.2) y) (fun _ hk => hk.2) z) (fun _ _ => trivial), below_set (below_set (below_set hb hge) hge) hge⟩
end Go.Proofs.Ytacfalpgmibfnaa.PCow
