import Derived.Test.YtjepecinpgjgdaaXVauRow
import Derived.Lib.SliceRun
/-! slices.Clone over whole numbers: a row in new memory; walked by hand. -/
namespace Go.Proofs.Ytjepecinpgjgdaa.PVau
open Go.RowKit Go.Proofs.YtjepecinpgjgdaaW.PrintWords Go.Proofs.YtjepecinpgjgdaaW.PrintLast Go.Proofs.YtjepecinpgjgdaaW.PrintMore Go.Proofs.Ytjepecinpgjgdaa.E
set_option linter.unusedSimpArgs false
set_option linter.unusedVariables false
def slices_Clone_int_int.f (l0 : List Int) : Option (List Int) := if l0.length ≤ 1048576 then some l0 else none
set_option maxHeartbeats 2000000 in
set_option maxRecDepth 100000 in
theorem slices_Clone_int_int.calls (A0 : Option Addr) (c0 : Nat) (l0 : List Int) (r : List Int) (w : World) (hr0 : Kd.C (Kd.int .i64) w A0 l0.length l0) (hc0 : l0.length ≤ c0) (h : slices_Clone_int_int.f l0 = some r) :
  Calls Try.prog 96 #[.slice A0 l0.length c0] w fun e w' => ∃ v0_ : Value, e = .returned v0_ ∧ Kd.R (Kd.int .i64) 3 w' w.heap.size (fun _ => True) v0_ r ∧ Below w.heap.size w w' := by
 unfold slices_Clone_int_int.f at h
 by_cases hl : l0.length ≤ 1048576
 ·rw [if_pos hl] at h
  obtain rfl := Option.some.inj h
  have HR := Aside0.mk hr0
  have HL := Aside0.mk hl
  have q : ∀ (W : World) (a : Option Addr) (n c : Nat), (binOp .eql 22 (.slice a n c) (.slice none 0 0)).run Try.prog W = .ok (.bool a.isNone) W := fun W a n c => Lib.run_eql_slice_nil W 22 3 a n c 0 0 Try.underlying22
  clear hr0 h hl
  cases A0 with
  | none =>
   have hn : l0 = [] := by
    by_cases hp : 0 < l0.length
    ·obtain ⟨ad, e, _⟩ := HR.out.2.2 hp
     cases e
    ·exact List.eq_nil_of_length_eq_zero (by omega)
   subst hn
   go_enter Try.func96, Try.ntmps96
   go_wp2
   go_ret
   exact ⟨_, rfl, Kd.R_nil _ _ _ _ _, Below.refl _ _⟩
  | some ad =>
   go_enter Try.func96, Try.ntmps96
   go_wp2_with (first
    | ((with_reducible refine gate_dst (N := 5) rfl ?_); refine Kd.R_lit (Kd.int .i64) w.heap.size 3 ?hg (N := 5) ?hd (xs := ([] : List Int)) (inner := []) (ok := fun _ => True) (okp := fun _ => True) ?hr ?hp (fun _ hk => hk) trivial (Below.refl w.heap.size w) (Nat.le_refl _) (by simp) ?_; (case hd => rfl); (case hg => rfl); (case hr => first | (go_simp; done) | (go_simp; rfl)); (case hp => exact (Reps.none _ _)); intro v1 w1 ho1 hb1 hg_ hnew_; clear hg_ hnew_; have HO1 := Aside0.mk ho1; have HB1 := Aside0.mk hb1; clear ho1 hb1)
    | ((with_reducible refine gate_builtin (b := .append) (xs := #[.tmp 5, .tmp 6]) rfl ?_); at_builtin; refine Kd.R_append_rows (Kd.int .i64) (w0 := w) w.heap.size rfl (.tmp 5) (.tmp 6) 22 3 (.int .i64 0) 8 rfl Try.underlying22 info3 rfl (by decide) (by omega) v1 [] l0 _ _ _ (fun _ => True) (fun _ => False) rfl rfl HO1.out (Kd.C_below HR.out HB1.out) (fun _ _ h => h) (fun _ h => h.elim) (fun _ _ => trivial) HB1.out HB1.out.size (by have := HL.out; simp; omega) ?_; intro v2 w2 ho2 hb2 hg_ hat_; clear hg_ hat_; have HO2 := Aside0.mk ho2; have HB2 := Aside0.mk hb2; clear ho2 hb2))
   go_ret
   exact ⟨_, rfl, HO2.out, HB2.out⟩
 ·rw [if_neg hl] at h
  cases h
end Go.Proofs.Ytjepecinpgjgdaa.PVau
/-! slices.Clone over pieces: a row in new memory; walked by hand. -/
namespace Go.Proofs.Ytjepecinpgjgdaa.PVau
open Go.RowKit Go.Proofs.YtjepecinpgjgdaaW.PrintWords Go.Proofs.YtjepecinpgjgdaaW.PrintLast Go.Proofs.YtjepecinpgjgdaaW.PrintMore Go.Proofs.Ytjepecinpgjgdaa.E
set_option linter.unusedSimpArgs false
set_option linter.unusedVariables false
def slices_Clone_K.f (l0 : List KL) : Option (List KL) := if l0.length ≤ 1048576 then some l0 else none
set_option maxHeartbeats 2000000 in
set_option maxRecDepth 100000 in
theorem slices_Clone_K.calls (A0 : Option Addr) (c0 : Nat) (l0 : List KL) (r : List KL) (w : World) (hr0 : Kd.C k89 w A0 l0.length l0) (hc0 : l0.length ≤ c0) (h : slices_Clone_K.f l0 = some r) :
  Calls Try.prog 95 #[.slice A0 l0.length c0] w fun e w' => ∃ v0_ : Value, e = .returned v0_ ∧ Kd.R k89 89 w' w.heap.size (fun _ => True) v0_ r ∧ Below w.heap.size w w' := by
 unfold slices_Clone_K.f at h
 by_cases hl : l0.length ≤ 1048576
 ·rw [if_pos hl] at h
  obtain rfl := Option.some.inj h
  have HR := Aside0.mk hr0
  have HL := Aside0.mk hl
  have q : ∀ (W : World) (a : Option Addr) (n c : Nat), (binOp .eql 48 (.slice a n c) (.slice none 0 0)).run Try.prog W = .ok (.bool a.isNone) W := fun W a n c => Lib.run_eql_slice_nil W 48 89 a n c 0 0 Try.underlying48
  clear hr0 h hl
  cases A0 with
  | none =>
   have hn : l0 = [] := by
    by_cases hp : 0 < l0.length
    ·obtain ⟨ad, e, _⟩ := HR.out.2.2 hp
     cases e
    ·exact List.eq_nil_of_length_eq_zero (by omega)
   subst hn
   go_enter Try.func95, Try.ntmps95
   go_wp2
   go_ret
   exact ⟨_, rfl, Kd.R_nil _ _ _ _ _, Below.refl _ _⟩
  | some ad =>
   go_enter Try.func95, Try.ntmps95
   go_wp2_with (first
    | ((with_reducible refine gate_dst (N := 5) rfl ?_); refine Kd.R_lit k89 w.heap.size 89 ?hg (N := 5) ?hd (xs := ([] : List KL)) (inner := []) (ok := fun _ => True) (okp := fun _ => True) ?hr ?hp (fun _ hk => hk) trivial (Below.refl w.heap.size w) (Nat.le_refl _) (by simp) ?_; (case hd => rfl); (case hg => rfl); (case hr => first | (go_simp; done) | (go_simp; rfl)); (case hp => exact (Reps.none _ _)); intro v1 w1 ho1 hb1 hg_ hnew_; clear hg_ hnew_; have HO1 := Aside0.mk ho1; have HB1 := Aside0.mk hb1; clear ho1 hb1)
    | ((with_reducible refine gate_builtin (b := .append) (xs := #[.tmp 5, .tmp 6]) rfl ?_); at_builtin; refine Kd.R_append_rows k89 (w0 := w) w.heap.size rfl (.tmp 5) (.tmp 6) 48 89 (.agg #[.string ⟨#[]⟩, .int .i64 0]) 24 rfl Try.underlying48 info89 rfl (by decide) (by omega) v1 [] l0 _ _ _ (fun _ => True) (fun _ => False) rfl rfl HO1.out (Kd.C_below HR.out HB1.out) (fun _ _ h => h) (fun _ h => h.elim) (fun _ _ => trivial) HB1.out HB1.out.size (by have := HL.out; simp; omega) ?_; intro v2 w2 ho2 hb2 hg_ hat_; clear hg_ hat_; have HO2 := Aside0.mk ho2; have HB2 := Aside0.mk hb2; clear ho2 hb2))
   go_ret
   exact ⟨_, rfl, HO2.out, HB2.out⟩
 ·rw [if_neg hl] at h
  cases h
end Go.Proofs.Ytjepecinpgjgdaa.PVau
/-! ownVault: a vault in new memory; walked by hand (the drawn region's steps told by wip/vauown.py). -/
namespace Go.Proofs.Ytjepecinpgjgdaa.PVau
open Go.RowKit Go.Proofs.YtjepecinpgjgdaaW.PrintWords Go.Proofs.YtjepecinpgjgdaaW.PrintLast Go.Proofs.YtjepecinpgjgdaaW.PrintMore Go.Proofs.Ytjepecinpgjgdaa.E
set_option linter.unusedSimpArgs false
set_option linter.unusedVariables false
theorem put2 {W : World} {g : Nat} {a b : Value} (h : W.heap[g]? = some (.cells #[a, b] 51 (0, 0))) (x y : Value) : ((W.setCell ⟨g, 0, none⟩ x).setCell ⟨g, 1, none⟩ y).heap[g]? = some (.cells #[x, y] 51 (0, 0)) :=
 blk_put (cs := #[x, b]) (blk_put (cs := #[a, b]) h 0 x rfl) 1 y rfl
/-- The result's own box is written: what is handed back stands as it stood. -/
theorem ret_vault {w W : World} {gz : Nat} {a b x y : Value} {ok ok2 : Nat → Prop} {v0 v1 : Value} {C : List KL} {R : List FL} (hz : W.heap[gz]? = some (.cells #[a, b] 51 (0, 0))) (hge : w.heap.size ≤ gz) (hs : KS W w.heap.size ok v0 C) (hr : FS W w.heap.size ok2 v1 R) (hb : Below w.heap.size w W) :
  Kd.R k89 89 ((W.setCell ⟨gz, 0, none⟩ x).setCell ⟨gz, 1, none⟩ y) w.heap.size (fun _ => True) v0 C ∧ Kd.S k87 87 ((W.setCell ⟨gz, 0, none⟩ x).setCell ⟨gz, 1, none⟩ y) w.heap.size (fun _ => True) v1 R ∧ Below w.heap.size w ((W.setCell ⟨gz, 0, none⟩ x).setCell ⟨gz, 1, none⟩ y) := by
 have h1 := Kd.R_types hs hz (by decide)
 have h2 := Kd.S_types hr hz (by decide)
 exact ⟨Kd.R_mono (Kd.R_far (p := ⟨gz, 1, none⟩) (Kd.R_far (p := ⟨gz, 0, none⟩) h1 (fun _ hk => hk.2) x) (fun _ hk => hk.2) y) (fun _ _ => trivial), Kd.S_mono (Kd.S_far (p := ⟨gz, 1, none⟩) (Kd.S_far (p := ⟨gz, 0, none⟩) h2 (fun _ hk => hk.2) x) (fun _ hk => hk.2) y) (fun _ _ => trivial), below_set (below_set hb hge) hge⟩
set_option maxHeartbeats 8000000 in
set_option maxRecDepth 100000 in
theorem ownVault_calls (A0 : Option Addr) (c0 : Nat) (l0 : List KL) (A1 : Option Addr) (c1 : Nat) (l1 : List FL) (w : World) (hr0 : Kd.C k89 w A0 l0.length l0) (hc0 : l0.length ≤ c0) (hr1 : Kd.C k87 w A1 l1.length l1) (hc1 : l1.length ≤ c1) (hn : l0.length ≤ 1048576) (hm : l1.length ≤ 1048576) (hk : ∀ x ∈ l1, x.f0.length ≤ 1048576) :
  Calls Try.prog 76 #[.agg #[.slice A0 l0.length c0, .slice A1 l1.length c1]] w fun e w' => ∃ v0_ v1_ : Value, e = .returned (.agg #[v0_, v1_]) ∧ Kd.R k89 89 w' w.heap.size (fun _ => True) v0_ l0 ∧ Kd.S k87 87 w' w.heap.size (fun _ => True) v1_ l1 ∧ Below w.heap.size w w' := by
 have hu25 := Try.underlying51
 have hu68 := Try.underlying87
 have hu22 := Try.underlying49
 have hu23 := Try.underlying48
 have HR0 := Aside0.mk hr0
 have HR1 := Aside0.mk hr1
 have HC0 := Aside0.mk hc0
 have HC1 := Aside0.mk hc1
 have HK := Aside0.mk hk
 have HN := Aside0.mk hn
 have HM := Aside0.mk hm
 have hl : l1.length ≤ 9223372036854775807 := by omega
 clear hr0 hr1 hc0 hc1 hk hn hm
 obtain ⟨W1, hW1⟩ : ∃ W, w.alloc (.cells #[.slice A0 l0.length c0, .slice A1 l1.length c1] 51) = W := ⟨_, rfl⟩
 obtain ⟨W2, hW2⟩ : ∃ W, W1.alloc (.cells #[.slice none 0 0, .slice none 0 0] 51) = W := ⟨_, rfl⟩
 have hb1 : Below w.heap.size w W1 := by rw [← hW1]; exact below_alloc (Below.refl _ _) _
 have hb2 : Below W1.heap.size W1 W2 := by rw [← hW2]; exact below_alloc (Below.refl _ _) _
 have X1 : W1.heap[w.heap.size]? = some (.cells #[.slice A0 l0.length c0, .slice A1 l1.length c1] 51 (0, 0)) := by rw [← hW1]; exact heap_alloc_new w _
 have Z1 : W2.heap[W1.heap.size]? = some (.cells #[.slice none 0 0, .slice none 0 0] 51 (0, 0)) := by rw [← hW2]; exact heap_alloc_new W1 _
 have B2 := Aside0.mk (below_step hb1 hb2)
 have X2 := Aside0.mk (blk_below X1 hb2)
 have Z2 := Aside0.mk Z1
 have ZG := Aside0.mk (show w.heap.size ≤ W1.heap.size from hb1.size)
 have ZN := Aside0.mk (show w.heap.size ≠ W1.heap.size by have := blk_lt X1; omega)
 clear hb1 hb2 X1 Z1
 have d0 : W2.cell? ⟨w.heap.size, 0, none⟩ = some (.slice A0 l0.length c0) := (blk_cell X2.out 0).trans rfl
 have TT := Aside0.mk (slices_Clone_K.calls A0 c0 l0 l0 W2 (Kd.C_below HR0.out B2.out) HC0.out (by unfold slices_Clone_K.f; rw [if_pos HN.out]))
 go_enter Try.func76, Try.ntmps76
 go_wp2_with (go_at_call 95; refine TT.out.mono ?_)
 rintro e w3 ⟨v0, rfl, hr, hb⟩
 clear TT hW1 d0
 generalize hgz : W1.heap.size = gz at *
 clear hgz hW2
 obtain ⟨A3, c3, rfl⟩ := Kd.R_slice hr
 have hb3 := below_step B2.out hb
 have X3 := blk_below X2.out hb
 have Z3 := blk_below Z2.out hb
 have R3 := Kd.R_lower hr B2.out.size
 obtain ⟨W4, hW4⟩ : ∃ W, w3.alloc (.cells #[.slice A3 l0.length c3, .slice none 0 0] 51) = W := ⟨_, rfl⟩
 have hb4 : Below w3.heap.size w3 W4 := by rw [← hW4]; exact below_alloc (Below.refl _ _) _
 have G4 := Aside0.mk (show W4.heap[w3.heap.size]? = some (.cells #[.slice A3 l0.length c3, .slice none 0 0] 51 (0, 0)) by rw [← hW4]; exact heap_alloc_new w3 _)
 have B4 := Aside0.mk (below_step hb3 hb4)
 have X4 := Aside0.mk (blk_below X3 hb4)
 have Z4 := Aside0.mk (blk_below Z3 hb4)
 have R4 := Aside0.mk (show KS W4 w.heap.size (fun k => k ≠ w3.heap.size) (.slice A3 l0.length c3) l0 from Kd.R_mono (Kd.R_below (Kd.R_bound R3) hb4) (fun k hk => by have := hk.2.2.1; omega))
 have GE := Aside0.mk (show w.heap.size ≤ w3.heap.size from hb3.size)
 have GZ := Aside0.mk (show gz ≠ w3.heap.size from Nat.ne_of_lt (blk_lt Z3))
 have GX := Aside0.mk (show w.heap.size ≠ w3.heap.size from Nat.ne_of_lt (blk_lt X3))
 have S4 := Aside0.mk (show FS W4 w.heap.size (fun k => k ≠ w3.heap.size ∧ some k ≠ (Value.slice A3 l0.length c3).ownBlock) (.slice none 0 0) [] from Kd.S_nil _ _ _ _ _)
 have d1 : W4.cell? ⟨w.heap.size, 1, none⟩ = some (.slice A1 l1.length c1) := (blk_cell X4.out 1).trans rfl
 have d2 : W4.cell? ⟨w3.heap.size, 1, none⟩ = some (.slice none 0 0) := (blk_cell G4.out 1).trans rfl
 have d3 : W4.frozen? ⟨w3.heap.size, 1, none⟩ = false := blk_frozen G4.out 1
 have d4 : W4.setCell ⟨w3.heap.size, 1, none⟩ (.slice none 0 0) = W4 := by rw [← hW4, World.setCell_alloc_new]; rfl
 clear hb hb3 hb4 X3 Z3 R3 hr B2 X2 Z2
 go_wp2
 clear d1 d2 d3 d4 hW4
 generalize hgb : w3.heap.size = gb at *
 clear hgb
 go_loopw [13] (fun vi wr => ∃ (q : Nat) (A9 : Option Addr) (c9 : Nat), q ≤ l1.length ∧ vi = .int .i64 q ∧ Aside0 (wr.heap[w.heap.size]? = some (.cells #[.slice A0 l0.length c0, .slice A1 l1.length c1] 51 (0, 0))) ∧ Aside0 (wr.heap[gz]? = some (.cells #[.slice none 0 0, .slice none 0 0] 51 (0, 0))) ∧ Aside0 (wr.heap[gb]? = some (.cells #[.slice A3 l0.length c3, .slice A9 q c9] 51 (0, 0))) ∧ Aside0 (FS wr w.heap.size (fun k => k ≠ gb ∧ some k ≠ (Value.slice A3 l0.length c3).ownBlock) (.slice A9 q c9) (l1.take q)) ∧ Aside0 (KS wr w.heap.size (fun k => k ≠ gb) (.slice A3 l0.length c3) l0) ∧ Aside0 (Below w.heap.size w wr)) (fun vi _ => l1.length - (intOf vi).toNat)
 case atStart => exact ⟨0, none, 0, Nat.zero_le _, rfl, X4, Z4, G4, S4, R4, B4⟩
 case round =>
  clear X4 Z4 G4 S4 R4 B4
  obtain ⟨q, A9, c9, hq, rfl, X3, Z3, G3, S3, R3, B3⟩ := hrel
  by_cases hql : q < l1.length
  ·have hqq : ((q : Int) < (l1.length : Int)) = True := eq_true (by omega)
   obtain ⟨ad, A4, c4, e4, x0, hc4, hC4⟩ := at_T87 (Kd.C_below HR1.out B3.out) (q : Int) (by omega) (by omega)
   subst e4
   obtain ⟨x, hx⟩ : ∃ x, rd_T87 l1 (q : Int) = x := ⟨_, rfl⟩
   rw [hx] at x0 hc4 hC4
   simp only [Int.toNat_natCast, Nat.mul_one] at x0
   have hxm : x ∈ l1 := by
    rw [← hx, rd_fl, Int.toNat_natCast, List.getD_eq_getElem?_getD, List.getElem?_eq_getElem hql]
    exact List.getElem_mem hql
   have HKL := Aside0.mk (HK.out x hxm)
   have HXQ := Aside0.mk (show l1[q] = x from (by rw [← hx, rd_fl, Int.toNat_natCast, List.getD_eq_getElem?_getD, List.getElem?_eq_getElem hql]; rfl))
   obtain ⟨V, hV⟩ : ∃ V, wr.alloc (.cells #[.slice A4 x.f0.length c4] 87) = V := ⟨_, rfl⟩
   have hb : Below wr.heap.size wr V := by rw [← hV]; exact below_alloc (Below.refl _ _) _
   have Y4 := Aside0.mk (show V.heap[wr.heap.size]? = some (.cells #[.slice A4 x.f0.length c4] 87 (0, 0)) by rw [← hV]; exact heap_alloc_new wr _)
   have LT := Aside0.mk (show V.heap.size = wr.heap.size + 1 by rw [← hV]; simp)
   have C4 := Aside0.mk (Kd.C_below hC4 hb)
   have H4 := Aside0.mk hc4
   have X4 := Aside0.mk (blk_below X3.out hb)
   have Z4 := Aside0.mk (blk_below Z3.out hb)
   have G4 := Aside0.mk (blk_below G3.out hb)
   have S4 := Aside0.mk (Kd.S_below (Kd.S_mono (Kd.S_bound S3.out) (fun k hk => (⟨hk.1, hk.2.2.1⟩ : (k ≠ gb ∧ some k ≠ (Value.slice A3 l0.length c3).ownBlock) ∧ k < wr.heap.size))) hb)
   have R4 := Aside0.mk (Kd.R_below (Kd.R_mono (Kd.R_bound R3.out) (fun k hk => (⟨hk.1, hk.2.2.1⟩ : k ≠ gb ∧ k < wr.heap.size))) hb)
   have B4 := Aside0.mk (below_step B3.out hb)
   have GL := Aside0.mk (show gb < wr.heap.size from blk_lt G3.out)
   have HQ := Aside0.mk hql
   clear hb hC4 hxm hx hc4 X3 Z3 G3 S3 R3 B3
   go_wp2
   clear hV x0
   refine start_ (n := 10) (S := fun w' => w'.cell? ⟨gb, 1, none⟩ = some (.slice A9 q c9) ∧ w'.cell? ⟨wr.heap.size, 0, none⟩ = some (.slice A4 x.f0.length c4)) (ds := [9]) #[false, false, false, false, false, false, false, false, false, false] (by kernel_rfl) rfl rfl ⟨(blk_cell G4.out 1).trans rfl, (blk_cell Y4.out 0).trans rfl⟩ (fun hHeld => ?_)
   replace X4 := Aside0.mk (blk_drew X4.out)
   replace Z4 := Aside0.mk (blk_drew Z4.out)
   replace G4 := Aside0.mk (blk_drew G4.out)
   replace Y4 := Aside0.mk (blk_drew Y4.out)
   replace S4 := Aside0.mk (Kd.S_drew S4.out)
   replace R4 := Aside0.mk (Kd.R_drew R4.out)
   replace B4 := Aside0.mk (below_drew1 B4.out)
   replace C4 := Aside0.mk (Kd.C_drew C4.out)
   have LT2 := Aside0.mk (show V.drew.heap.size = wr.heap.size + 1 from LT.out)
   generalize V.drew = V5 at X4 Z4 G4 Y4 S4 R4 B4 C4 LT2 hHeld ⊢
   refine take_ (i := 0) (N := some 17) (v := ?_) (a' := ?_) #[true, false, false, false, false, false, false, false, false, false] rfl rfl (by kernel_rfl) (fun _ _ _ h => h) (Or.inl ⟨by rfl, ?_⟩) hHeld ?_ ?_
   rotate_left
   ·rintro w' ⟨s0, s1⟩
    go_simp
    with_reducible rfl
   rotate_left
   ·simp only [Act.put, List.setIfInBounds_toArray, List.set_cons_zero, List.set_cons_succ, i64_w, i32_w]
    rfl
   refine take_ (i := 1) (N := some 18) (v := ?_) (a' := ?_) #[true, true, false, false, false, false, false, false, false, false] rfl rfl (by kernel_rfl) (fun _ _ _ h => h) (Or.inl ⟨by rfl, ?_⟩) hHeld ?_ ?_
   rotate_left
   ·rintro w' ⟨s0, s1⟩
    go_simp
    with_reducible rfl
   rotate_left
   ·simp only [Act.put, List.setIfInBounds_toArray, List.set_cons_zero, List.set_cons_succ, i64_w, i32_w]
    rfl
   refine take_ (i := 2) (N := some 19) (v := ?_) (a' := ?_) #[true, true, true, false, false, false, false, false, false, false] rfl rfl (by kernel_rfl) (fun _ _ _ h => h) (Or.inl ⟨by rfl, ?_⟩) hHeld ?_ ?_
   rotate_left
   ·rintro w' ⟨s0, s1⟩
    go_simp
    with_reducible rfl
   rotate_left
   ·simp only [Act.put, List.setIfInBounds_toArray, List.set_cons_zero, List.set_cons_succ, i64_w, i32_w]
    rfl
   refine take_ (i := 3) (N := some 20) (v := ?_) (a' := ?_) #[true, true, true, true, false, false, false, false, false, false] rfl rfl (by kernel_rfl) (fun _ _ _ h => h) (Or.inl ⟨by rfl, ?_⟩) hHeld ?_ ?_
   rotate_left
   ·rintro w' ⟨s0, s1⟩
    go_simp
    with_reducible rfl
   rotate_left
   ·simp only [Act.put, List.setIfInBounds_toArray, List.set_cons_zero, List.set_cons_succ, i64_w, i32_w]
    rfl
   refine one_ (i := 4) (N := some 21) #[true, true, true, true, true, false, false, false, false, false] rfl rfl (by kernel_rfl) (by decide) (fun K hK => ?_)
   refine goes_ Try.func96 (by kernel_rfl) rfl #[.slice A4 x.f0.length c4] (by rfl) rfl rfl (by (try simp only [List.map_toArray, List.map_cons, List.map_nil]); first | done | rfl | (simp only [List.length_drop, List.length_take]; rfl)) ?_
   refine (slices_Clone_int_int.calls A4 c4 x.f0 x.f0 V5 C4.out H4.out (by unfold slices_Clone_int_int.f; rw [if_pos HKL.out])).mono ?_
   rintro e w6 ⟨v2, rfl, hr, hb⟩
   refine ⟨_, rfl, ?_⟩
   obtain ⟨A6, c6, rfl⟩ := Kd.R_slice hr
   have NV := Aside0.mk (show ∀ k, (Value.slice A6 x.f0.length c6).ownBlock = some k → wr.heap.size < k from fun k hk => by have := Kd.R_base hr k hk; have := LT2.out; omega)
   have NS := Aside0.mk (show ∀ k, (Value.slice A9 q c9).ownBlock = some k → k < wr.heap.size from fun k hk => ((Kd.S_R S4.out).1 k hk).2)
   have N1 := Aside0.mk (show ∀ k, (Value.slice A3 l0.length c3).ownBlock = some k → k < wr.heap.size ∧ k ≠ gb from fun k hk => ⟨(R4.out.1 k hk).2, (R4.out.1 k hk).1⟩)
   have X6 := Aside0.mk (blk_below X4.out hb)
   have Z6 := Aside0.mk (blk_below Z4.out hb)
   have G6 := Aside0.mk (blk_below G4.out hb)
   have Y6 := Aside0.mk (blk_below Y4.out hb)
   have S6 := Aside0.mk (Kd.S_below S4.out hb)
   have R6 := Aside0.mk (Kd.R_below R4.out hb)
   have B6 := Aside0.mk (below_step B4.out hb)
   have K6 := Aside0.mk (Kd.R_lower hr B4.out.size)
   clear hr hb X4 Z4 G4 Y4 S4 R4 B4 C4 H4
   refine hK.out _ _ ⟨(blk_cell G6.out 1).trans rfl, (blk_cell Y6.out 0).trans rfl⟩ (fun hHeld => ?_)
   clear hK K
   refine norm_ (a' := ?_) ?_ ?_
   rotate_left
   ·show Act.put _ (some 21) _ = _
    simp only [Act.put, List.setIfInBounds_toArray, List.set_cons_zero, List.set_cons_succ, i64_w, i32_w]
    rfl
   refine pure_ (i := 5) (N := some 22) (v := ?_) (a' := ?_) #[true, true, true, true, true, true, false, false, false, false] rfl rfl (by kernel_rfl) (fun _ _ _ h => h) (Or.inl ⟨by rfl, ?_⟩) ?_ ?_
   rotate_left
   ·intro w'
    go_simp
    with_reducible rfl
   rotate_left
   ·simp only [Act.put, List.setIfInBounds_toArray, List.set_cons_zero, List.set_cons_succ, i64_w, i32_w]
    rfl
   refine one_ (i := 6) (N := some 23) #[true, true, true, true, true, true, true, false, false, false] rfl rfl (by kernel_rfl) (by decide) (fun K hK => ?_)
   refine event_step (by rfl) (v := .slice (some ⟨w6.heap.size, 0, none⟩) 1 1) (w1 := w6.alloc (.cells #[.slice A6 x.f0.length c6] 87)) (by first | (go_simp; done) | (go_simp; rfl)) ?_
   have hb := below_alloc (Below.refl w6.heap.size w6) (.cells #[.slice A6 x.f0.length c6] 87)
   refine hK.out _ _ ⟨(blk_cell (blk_below G6.out hb) 1).trans rfl, (blk_cell (blk_below Y6.out hb) 0).trans rfl⟩ (fun hHeld => ?_)
   clear hb
   clear hK K
   refine norm_ (a' := ?_) ?_ ?_
   rotate_left
   ·show Act.put _ (some 23) _ = _
    simp only [Act.put, List.setIfInBounds_toArray, List.set_cons_zero, List.set_cons_succ, i64_w, i32_w]
    rfl
   refine one_ (i := 7) (N := some 24) #[true, true, true, true, true, true, true, true, false, false] rfl rfl (by kernel_rfl) (by decide) (fun K hK => ?_)
   refine Kd.S_append_step k87 (w0 := w) (W := w6) w.heap.size (by rfl) (.tmp 18) (.tmp 23) 49 87 (.agg #[(.slice none 0 0)]) 24 rfl Try.underlying49 info87 rfl (by decide) (by omega) (.slice A9 q c9) (l1.take q) x [.slice A6 x.f0.length c6] (fun k => k ≠ gb ∧ some k ≠ (Value.slice A3 l0.length c3).ownBlock) (fun k => some k = (Value.slice A6 x.f0.length c6).ownBlock) rfl rfl ?aP ?aK ?aF ?aO B6.out B6.out.size ?aL ?_
   case aP => exact fl_M.2 ⟨_, rfl, Kd.R_of_own (Kd.own_of_R K6.out) (fun k hk => hk.symm)⟩
   case aK => exact fun k hk => by have h1 := NV.out k hk.symm; have h2 := GL.out; exact ⟨⟨by omega, fun e_ => by have := (N1.out k e_.symm).1; omega⟩, fun e_ => by have := NS.out k e_.symm; omega⟩
   case aF => exact fun k hk => ⟨by have := blk_lt G6.out; omega, fun e_ => by have := Kd.R_lt R6.out k e_.symm; omega⟩
   case aO => exact Kd.S_mono S6.out (fun k hk => ⟨hk.1, fun e_ => by have := NV.out k e_.symm; have := hk.2; omega⟩)
   case aL => have := HM.out; have := HQ.out; rw [List.length_take]; omega
   intro v9 w9 ho hb hg hat
   have hn9 : some gb ≠ (Value.slice A9 q c9).ownBlock := fun e_ => by have h_ := (Kd.S_R S6.out).1 gb e_.symm; exact h_.1.1 rfl
   have X9 := Aside0.mk (blk_grown X6.out hg (Kd.S_ne S6.out X6.out (by decide)))
   have Z9 := Aside0.mk (blk_grown Z6.out hg (Kd.S_ne S6.out Z6.out (by decide)))
   have G9 := Aside0.mk (blk_grown G6.out hg hn9)
   have Y9 := Aside0.mk (blk_grown Y6.out hg (fun e_ => by have := NS.out _ e_.symm; omega))
   have R9 := Aside0.mk (Kd.R_grown (Kd.R_mono (Kd.R_tight rfl R6.out) (fun k h_ => h_)) hg (fun k hk e_ => ((Kd.S_R S6.out).1 k e_.symm).1.2 hk))
   have B9 := Aside0.mk hb
   obtain ⟨A8, c8, rfl⟩ : ∃ A8 c8, v9 = .slice A8 (q + 1) c8 := by
    obtain ⟨A8, c8, e_⟩ := Kd.S_slice ho
    have hql := HQ.out
    exact ⟨A8, c8, by rw [e_, List.length_append, List.length_take]; congr 1; simp; omega⟩
   have S9 := Aside0.mk ho
   refine hK.out _ _ ⟨(blk_cell G9.out 1).trans rfl, (blk_cell Y9.out 0).trans rfl⟩ (fun hHeld => ?_)
   clear ho hb hg hat hn9 Y9 X6 Z6 G6 Y6 S6 R6 K6 B6
   clear hK K
   refine norm_ (a' := ?_) ?_ ?_
   rotate_left
   ·show Act.put _ (some 24) _ = _
    simp only [Act.put, List.setIfInBounds_toArray, List.set_cons_zero, List.set_cons_succ, i64_w, i32_w]
    rfl
   refine pure_ (i := 8) (N := some 25) (v := ?_) (a' := ?_) #[true, true, true, true, true, true, true, true, true, false] rfl rfl (by kernel_rfl) (fun _ _ _ h => h) (Or.inl ⟨by rfl, ?_⟩) ?_ ?_
   rotate_left
   ·intro w'
    go_simp
    with_reducible rfl
   rotate_left
   ·simp only [Act.put, List.setIfInBounds_toArray, List.set_cons_zero, List.set_cons_succ, i64_w, i32_w]
    rfl
   have g0 : w9.cell? ⟨gb, 1, none⟩ = some (.slice A9 q c9) := (blk_cell G9.out 1).trans rfl
   have z0 : w9.frozen? ⟨gb, 1, none⟩ = false := blk_frozen G9.out 1
   refine last_ (i := 9) (N := none) #[true, true, true, true, true, true, true, true, true, true] rfl rfl (by kernel_rfl) (by decide) (fun K hK => ?_)
   refine skip_ (w1 := w9.setCell ⟨gb, 1, none⟩ (.slice A8 (q + 1) c8)) (by rfl) rfl ?_ ?_
   ·first | (go_simp; done) | (go_simp; rfl)
   clear g0 z0
   refine hK.out _ _ ?_
   clear hK K
   refine done_ (by kernel_rfl) ?_
   clear hHeld
   have hql := HQ.out
   have hxq : l1.take q ++ [x] = l1.take (q + 1) := by
    rw [List.take_succ_eq_append_getElem hql]
    congr 2
    exact HXQ.out.symm
   have X10 := Aside0.mk (blk_far X9.out (p := ⟨gb, 1, none⟩) GX.out (.slice A8 (q + 1) c8))
   have Z10 := Aside0.mk (blk_far Z9.out (p := ⟨gb, 1, none⟩) GZ.out (.slice A8 (q + 1) c8))
   have G10 := Aside0.mk (show (w9.setCell ⟨gb, 1, none⟩ (.slice A8 (q + 1) c8)).heap[gb]? = some (.cells #[.slice A3 l0.length c3, .slice A8 (q + 1) c8] 51 (0, 0)) from blk_put (cs := #[.slice A3 l0.length c3, .slice A9 q c9]) G9.out 1 _ rfl)
   have S10 := Aside0.mk (Kd.S_far (p := ⟨gb, 1, none⟩) S9.out (fun k hk => hk.1) (.slice A8 (q + 1) c8))
   have R10 := Aside0.mk (show KS (w9.setCell ⟨gb, 1, none⟩ (.slice A8 (q + 1) c8)) w.heap.size (fun k => k ≠ gb) (.slice A3 l0.length c3) l0 from Kd.R_far (p := ⟨gb, 1, none⟩) (Kd.R_mono R9.out (fun k hk => (N1.out k hk.symm).2)) (fun k hk => hk) _)
   have B10 := Aside0.mk (below_set B9.out GE.out : Below w.heap.size w (w9.setCell ⟨gb, 1, none⟩ (.slice A8 (q + 1) c8)))
   clear X9 Z9 G9 S9 R9 B9
   rw [hxq] at S10
   generalize w9.setCell ⟨gb, 1, none⟩ (.slice A8 (q + 1) c8) = wE at X10 Z10 G10 S10 R10 B10 ⊢
   try go_wp2
   go_roundw
   case rel => exact ⟨q + 1, A8, c8, hql, by go_num, X10, Z10, G10, S10, R10, B10⟩
   case measure => simp [intOf]; omega
  ·have hqq : ((q : Int) < (l1.length : Int)) = False := eq_false (by omega)
   have e : l1.take q = l1 := List.take_of_length_le (by omega)
   rw [e] at S3
   have k0 : wr.cell? ⟨gb, 0, none⟩ = some (.slice A3 l0.length c3) := (blk_cell G3.out 0).trans rfl
   have k1 : wr.cell? ⟨gb, 1, none⟩ = some (.slice A9 q c9) := (blk_cell G3.out 1).trans rfl
   have z0 : wr.cell? ⟨gz, 0, none⟩ = some (.slice none 0 0) := (blk_cell Z3.out 0).trans rfl
   have z1 : wr.cell? ⟨gz, 1, none⟩ = some (.slice none 0 0) := (blk_cell Z3.out 1).trans rfl
   have y0 := blk_frozen Z3.out 0
   have y1 := blk_frozen Z3.out 1
   clear hql
   go_wp2
   refine bodyPost_ret (results_cell_row rfl _ _ gz 51 #[.slice A3 l0.length c3, .slice A9 q c9] (0, 0) _ rfl (put2 Z3.out _ _) Try.underlying51 rfl (by kernel_rfl)) rfl ?_
   obtain ⟨r1_, r2_, r3_⟩ := ret_vault (x := .slice A3 l0.length c3) (y := .slice A9 q c9) Z3.out ZG.out R3.out S3.out B3.out
   exact ⟨_, _, rfl, r1_, r2_, r3_⟩
end Go.Proofs.Ytjepecinpgjgdaa.PVau
