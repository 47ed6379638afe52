import Derived.Test.YtelblhkbogljnaaXSysRow
import Derived.Test.YtelblhkbogljnaaXSysSort1
import Derived.Test.YtelblhkbogljnaaYSyssmall
/-! NewSystem of the program; walked by hand (the drawn region's steps told by wip/sysnew.py). -/
namespace Go.Proofs.Ytelblhkbogljnaa.PSys
open Go.RowKit Go.Proofs.YtelblhkbogljnaaW.PrintWords Go.Proofs.YtelblhkbogljnaaW.PrintLast Go.Proofs.YtelblhkbogljnaaW.PrintMore Go.Proofs.Ytelblhkbogljnaa.E
set_option linter.unusedSimpArgs false
set_option linter.unusedVariables false
/-- The blocks ahead of q, from h on. -/
def newL (q h : Nat) : List EL := if h < q then [⟨(h : Int), (q : Int) - h⟩] else []
theorem newL_no {q h : Nat} (hq : q ≤ h) : newL q h = [] := if_neg (by omega)
theorem newL_yes {q h : Nat} (hq : h < q) : newL q h = [⟨(h : Int), (q : Int) - h⟩] := if_pos hq
theorem newL_len (q h : Nat) : (newL q h).length ≤ 1 := by unfold newL; split <;> simp
set_option maxHeartbeats 8000000 in
set_option maxRecDepth 100000 in
theorem merged_calls (b h B : Nat) (hb : b ≤ 400) (hh : h ≤ b) (w : World) (hB : w.heap[B]? = some (.cells #[.int .i64 h] 3 (0, 0))) :
  Calls Try.prog 36 #[.int .i64 b, .func (.func 37) #[] #[.pointer (some ⟨B, 0, none⟩)]] w fun e w' => ∃ v0_ : Value, e = .returned v0_ ∧ ES w' w.heap.size (fun _ => True) v0_ (newL b h) ∧ Below w.heap.size w w' := by
 have hu := Try.underlying35
 have hu2 := Try.underlying22
 have HB := Aside0.mk hB
 have HH := Aside0.mk hh
 clear hB hh
 go_enter Try.func36, Try.ntmps36
 go_wp2_with ((with_reducible refine gate_dst (N := 8) rfl ?_); refine Kd.R_lit k35 w.heap.size 35 ?hg (N := 8) ?hd (xs := ([] : List EL)) (inner := []) (ok := fun _ => True) (okp := fun _ => True) ?hr ?hp (fun _ hk => hk) trivial (Below.refl w.heap.size w) (Nat.le_refl _) (by simp) ?_; (case hd => rfl); (case hg => rfl); (case hr => first | (go_simp; done) | (go_simp; rfl)); (case hp => exact (Reps.none _ _)); intro v1 w1 ho1 hb1 hg_ hnew_; clear hg_ hnew_; have HO1 := Aside0.mk ho1; have HB1 := Aside0.mk hb1; clear ho1 hb1; obtain ⟨A1, c1, rfl⟩ : ∃ A1 c1, v1 = .slice A1 0 c1 := (by obtain ⟨A1, c1, e_⟩ := Kd.R_slice HO1.out; exact ⟨A1, c1, e_⟩))
 go_loopw [5, 10] (fun v5 v10 wr => ∃ (q : Nat) (A : Option Addr) (n c : Nat), q ≤ b ∧ v10 = .int .i64 q ∧ v5 = .slice A n c ∧ Aside0 (n = (newL q h).length) ∧ Aside0 (ES wr w.heap.size (fun _ => True) (.slice A n c) (newL q h)) ∧ Aside0 (Below w.heap.size w wr)) (fun _ v10 _ => b - (intOf v10).toNat)
 case atStart => exact ⟨0, A1, 0, c1, Nat.zero_le _, rfl, rfl, ⟨by rw [newL_no (Nat.zero_le _)]; rfl⟩, ⟨by rw [newL_no (Nat.zero_le _)]; exact HO1.out⟩, HB1⟩
 case round =>
  clear HO1 HB1
  obtain ⟨q, A, n, c, hq, rfl, rfl, HN, HR, HW⟩ := hrel
  by_cases hqb : q < b
  ·have hqq : ((q : Int) < (b : Int)) = True := eq_true (by omega)
   have hb0 : wr.cell? ⟨B, 0, none⟩ = some (.int .i64 h) := (blk_cell (blk_below HB.out HW.out) 0).trans rfl
   by_cases hc : q < h
   ·have hd1 : decide ((h : Int) ≤ (q : Int)) = false := decide_eq_false (by omega)
    have hd2 : ((h : Int) ≤ (q : Int)) = False := eq_false (by omega)
    have e1 : newL (q + 1) h = newL q h := by rw [newL_no (by omega), newL_no (by omega)]
    have HE := Aside0.mk e1
    clear e1 hc
    go_wp2
    go_roundw
    case rel => exact ⟨q + 1, A, n, c, hqb, by go_num, rfl, ⟨by rw [HE.out]; exact HN.out⟩, ⟨by rw [HE.out]; exact HR.out⟩, HW⟩
    case measure => simp [intOf]; omega
   ·have hd1 : decide ((h : Int) ≤ (q : Int)) = true := decide_eq_true (by omega)
    have hd2 : ((h : Int) ≤ (q : Int)) = True := eq_true (by omega)
    by_cases hqh : q = h
    ·have hn0 := HN.out
     have hr0 := HR.out
     rw [newL_no (by omega)] at hn0 hr0
     replace hn0 : n = 0 := hn0
     subst hn0
     have hE : newL (q + 1) h = [⟨(q : Int), 1⟩] := by rw [newL_yes (by omega), ← hqh]; congr 2; omega
     have HE := Aside0.mk hE
     have R0 := Aside0.mk hr0
     clear HN HR hr0 hqh hc hE
     go_wp2
     go_quiet (fail)
     have R1 := Aside0.mk (Kd.R_drewN R0.out nq)
     have W1 := Aside0.mk (pw_below_drewN HW.out nq)
     clear R0 HW hb0
     go_wp2_with ((with_reducible refine gate_builtin (b := .append) (xs := #[.tmp 45, .tmp 48]) rfl ?_); at_builtin; refine Kd.R_append k35 (w0 := w) (W := wr.drewN nq) w.heap.size rfl (.tmp 45) (.tmp 48) 22 35 (.agg #[.int .i64 0, .int .i64 0]) 16 rfl Try.underlying22 info35 rfl (by decide) (by omega) (.slice A 0 c) [] (⟨(q : Int), 1⟩ : EL) [.int .i64 q, .int .i64 1] (fun _ => True) (fun _ => False) rfl rfl ?aP (fun _ h_ => h_.elim) (fun _ _ => trivial) R1.out W1.out W1.out.size (by simp) ?_; (case aP => exact el_M.2 rfl); intro v4 w4 ho hb4 hg hat; obtain ⟨A4, c4, rfl⟩ : ∃ A4 c4, v4 = .slice A4 1 c4 := (by obtain ⟨A4, c4, e_⟩ := Kd.R_slice ho; exact ⟨A4, c4, e_⟩); have R4 := Aside0.mk ho; have W4 := Aside0.mk hb4; clear ho hb4 hg hat)
     go_roundw
     case rel => exact ⟨q + 1, A4, 1, c4, hqb, by go_num, rfl, ⟨by rw [HE.out]; rfl⟩, ⟨by rw [HE.out]; exact R4.out⟩, W4⟩
     case measure => simp [intOf]; omega
    ·have hn0 := HN.out
     have hr0 := HR.out
     rw [newL_yes (by omega)] at hn0 hr0
     replace hn0 : n = 1 := hn0
     subst hn0
     obtain ⟨L, hL⟩ : ∃ L : Int, (q : Int) - h = L := ⟨_, rfl⟩
     rw [hL] at hr0
     have hE : newL (q + 1) h = [⟨(h : Int), L + 1⟩] := by rw [newL_yes (by omega)]; congr 2; omega
     have HE := Aside0.mk hE
     obtain ⟨g, cap, e6, _⟩ := Kd.R_form hr0 (by simp)
     injection e6 with eA en ec
     subst eA
     clear en ec
     obtain ⟨k0, k1, k2⟩ := es_elem hr0 (0 : Int) (by omega) (by omega)
     replace k0 : wr.cell? ⟨g, 0, none⟩ = some (.int .i64 h) := k0
     replace k1 : wr.cell? ⟨g, 1, none⟩ = some (.int .i64 L) := k1
     replace k2 : wr.frozen? ⟨g, 1, none⟩ = false := k2 1
     have hs1 : (h : Int) + L = (q : Int) := by omega
     have hs2 : 0 ≤ L ∧ L ≤ 400 := by omega
     have R0 := Aside0.mk hr0
     clear HN HR hr0 hqh hc hE hL
     have hl0 := hs2.1
     have hl1 := hs2.2
     clear hs2
     go_wp2
     have hs3 : IntKind.i64.wrap ((h : Int) + L) = (q : Int) := by rw [hs1]; exact IntWalk.i64_in _ (by omega)
     go_quiet (fail)
     clear hs3
     have R1 := Aside0.mk (Kd.R_drewN R0.out nq)
     have W1 := Aside0.mk (pw_below_drewN HW.out nq)
     have R2 := Aside0.mk (show ES ((wr.drewN nq).setCell ⟨g, 1, none⟩ (.int .i64 (L + 1))) w.heap.size (fun _ => True) (.slice (some ⟨g, 0, none⟩) 1 c) [⟨(h : Int), L + 1⟩] from es_put1 R1.out (0 : Int) (by omega) (by omega) (L + 1))
     have W2 := Aside0.mk (below_set W1.out (Kd.R_base R1.out g rfl) : Below w.heap.size w ((wr.drewN nq).setCell ⟨g, 1, none⟩ (.int .i64 (L + 1))))
     clear R0 HW hb0
     go_wp2
     go_roundw
     case rel => exact ⟨q + 1, some ⟨g, 0, none⟩, 1, c, hqb, by go_num, rfl, ⟨by rw [HE.out]; rfl⟩, ⟨by rw [HE.out]; exact R2.out⟩, W2⟩
     case measure => simp [intOf]; omega
  ·have hqq : ((q : Int) < (b : Int)) = False := eq_false (by omega)
   have hqe : q = b := by omega
   subst hqe
   clear hqb
   go_wp2
   go_ret
   exact ⟨_, rfl, HR.out, HW.out⟩
theorem within_is (a b c : Int) : impl_within.f a b c = some (decide (b ≤ a ∧ a ≤ c)) := by
 unfold impl_within.f
 by_cases h : a ≥ b
 ·by_cases h2 : a ≤ c
  ·simp [h, h2] <;> omega
  ·simp [h, h2]
 ·simp [h] <;> omega
theorem put3f {W : World} {g : Nat} {a b c : Value} (h : W.heap[g]? = some (.cells #[a, b, c] 24 (0, 0))) (x y z : Value) : (((W.setCell ⟨g, 0, none⟩ x).setCell ⟨g, 1, none⟩ y).setCell ⟨g, 2, none⟩ z).heap[g]? = some (.cells #[x, y, z] 24 (0, 0)) :=
 blk_put (cs := #[x, y, c]) (blk_put (cs := #[x, b, c]) (blk_put (cs := #[a, b, c]) h 0 x rfl) 1 y rfl) 2 z rfl
theorem es_set3 {W : World} {g : Nat} {a b c : Value} {base : Nat} {ok : Nat → Prop} {v : Value} {xs : List EL} (h : W.heap[g]? = some (.cells #[a, b, c] 24 (0, 0))) (hr : ES W base ok v xs) (x y z : Value) : ES (((W.setCell ⟨g, 0, none⟩ x).setCell ⟨g, 1, none⟩ y).setCell ⟨g, 2, none⟩ z) base ok v xs :=
 Kd.R_set (Kd.R_set (Kd.R_set hr h (by decide) 0 x) (blk_put (cs := #[a, b, c]) h 0 x rfl) (by decide) 1 y) (blk_put (cs := #[x, b, c]) (blk_put (cs := #[a, b, c]) h 0 x rfl) 1 y rfl) (by decide) 2 z
theorem put5s {W : World} {g : Nat} {a b c d e : Value} (h : W.heap[g]? = some (.cells #[a, b, c, d, e] 27 (0, 0))) (x y z u v : Value) : (((((W.setCell ⟨g, 0, none⟩ x).setCell ⟨g, 1, none⟩ y).setCell ⟨g, 2, none⟩ z).setCell ⟨g, 3, none⟩ u).setCell ⟨g, 4, none⟩ v).heap[g]? = some (.cells #[x, y, z, u, v] 27 (0, 0)) :=
 blk_put (cs := #[x, y, z, u, e]) (blk_put (cs := #[x, y, z, d, e]) (blk_put (cs := #[x, y, c, d, e]) (blk_put (cs := #[x, b, c, d, e]) (blk_put (cs := #[a, b, c, d, e]) h 0 x rfl) 1 y rfl) 2 z rfl) 3 u rfl) 4 v rfl
theorem es_set5 {W : World} {g : Nat} {a b c d e : Value} {base : Nat} {ok : Nat → Prop} {v0 : Value} {xs : List EL} (h : W.heap[g]? = some (.cells #[a, b, c, d, e] 27 (0, 0))) (hr : ES W base ok v0 xs) (x y z u v : Value) : ES (((((W.setCell ⟨g, 0, none⟩ x).setCell ⟨g, 1, none⟩ y).setCell ⟨g, 2, none⟩ z).setCell ⟨g, 3, none⟩ u).setCell ⟨g, 4, none⟩ v) base ok v0 xs := by
 have h1 := blk_put (cs := #[a, b, c, d, e]) h 0 x rfl
 have h2 := blk_put (cs := #[x, b, c, d, e]) h1 1 y rfl
 have h3 := blk_put (cs := #[x, y, c, d, e]) h2 2 z rfl
 have h4 := blk_put (cs := #[x, y, z, d, e]) h3 3 u rfl
 exact Kd.R_set (Kd.R_set (Kd.R_set (Kd.R_set (Kd.R_set hr h (by decide) 0 x) h1 (by decide) 1 y) h2 (by decide) 2 z) h3 (by decide) 3 u) h4 (by decide) 4 v
theorem below_set5 {w W : World} {g : Nat} (hb : Below w.heap.size w W) (hg : w.heap.size ≤ g) (x y z u v : Value) : Below w.heap.size w (((((W.setCell ⟨g, 0, none⟩ x).setCell ⟨g, 1, none⟩ y).setCell ⟨g, 2, none⟩ z).setCell ⟨g, 3, none⟩ u).setCell ⟨g, 4, none⟩ v) :=
 below_set (below_set (below_set (below_set (below_set hb hg) hg) hg) hg) hg
set_option maxHeartbeats 4000000 in
set_option maxRecDepth 100000 in
theorem freeOf_calls (b : Int) (A : Option Addr) (c : Nat) (l : List EL) (hl : l.length ≤ 1) (w : World) (hr : Kd.C k35 w A l.length l) (hc : l.length ≤ c) :
  Calls Try.prog 35 #[.int .i64 b, .slice A l.length c] w fun e w' => ∃ v2_ : Value, e = .returned (.agg #[.int .i64 b, .slice A l.length c, v2_]) ∧ ES w' w.heap.size (fun _ => True) v2_ l ∧ Below w.heap.size w w' := by
 have hu := Try.underlying24
 obtain ⟨W1, hW1⟩ : ∃ W, w.alloc (.cells #[.int .i64 0, .slice none 0 0, .slice none 0 0] 24) = W := ⟨_, rfl⟩
 have hb1 : Below w.heap.size w W1 := by rw [← hW1]; exact below_alloc (Below.refl _ _) _
 have Z1 := Aside0.mk (show W1.heap[w.heap.size]? = some (.cells #[.int .i64 0, .slice none 0 0, .slice none 0 0] 24 (0, 0)) by rw [← hW1]; exact heap_alloc_new w _)
 have TT := Aside0.mk (slices_Clone_E.calls A c l l W1 (Kd.C_below hr hb1) hc (by unfold slices_Clone_E.f; rw [if_pos (by omega)]))
 have HB1 := Aside0.mk hb1
 have HL := Aside0.mk hl
 clear hb1 hr hc hl
 go_enter Try.func35, Try.ntmps35
 go_wp2_with (go_at_call 62; refine TT.out.mono ?_)
 rintro e w2 ⟨v2, rfl, hr2, hb2⟩
 clear TT hW1
 obtain ⟨A2, c2, rfl⟩ := Kd.R_slice hr2
 have Z2 := Aside0.mk (blk_below Z1.out hb2)
 have B2 := Aside0.mk (below_step HB1.out hb2)
 have R2 := Aside0.mk (Kd.R_lower hr2 HB1.out.size)
 clear hr2 hb2
 have z0 : w2.cell? ⟨w.heap.size, 0, none⟩ = some (.int .i64 0) := (blk_cell Z2.out 0).trans rfl
 have z1 : w2.cell? ⟨w.heap.size, 1, none⟩ = some (.slice none 0 0) := (blk_cell Z2.out 1).trans rfl
 have z2 : w2.cell? ⟨w.heap.size, 2, none⟩ = some (.slice none 0 0) := (blk_cell Z2.out 2).trans rfl
 have y0 := blk_frozen Z2.out 0
 have y1 := blk_frozen Z2.out 1
 have y2 := blk_frozen Z2.out 2
 go_wp2_with (go_at_call 63; refine (sortFunc_one A2 l.length c2 HL.out _ _).mono ?_; rintro e w3 ⟨rfl, rfl⟩)
 refine bodyPost_ret (results_cell_row rfl _ _ w.heap.size 24 #[.int .i64 b, .slice A l.length c, .slice A2 l.length c2] (0, 0) _ rfl (put3f Z2.out _ _ _) Try.underlying24 rfl (by kernel_rfl)) rfl ?_
 exact ⟨_, rfl, es_set3 Z2.out R2.out _ _ _, below_set (below_set (below_set B2.out (Nat.le_refl _)) (Nat.le_refl _)) (Nat.le_refl _)⟩
def impl_NewSystem.f (a0 a1 : Int) : Option (Int × Int × List EL × List EL × List S88 × Bool) :=
 if (1 ≤ a0 ∧ a0 ≤ 400) ∧ (0 ≤ a1 ∧ a1 ≤ a0) then some (a1, a0, newL a0.toNat a1.toNat, newL a0.toNat a1.toNat, [], true) else some (0, 0, [], [], [], false)
set_option maxHeartbeats 8000000 in
set_option maxRecDepth 100000 in
theorem impl_NewSystem.calls (a0 a1 : Int) (r1 r2 : Int) (r3 r4 : List EL) (r5 : List S88) (r6 : Bool) (w : World) (h : impl_NewSystem.f a0 a1 = some (r1, r2, r3, r4, r5, r6)) :
  Calls Try.prog 8 #[.int .i64 a0, .int .i64 a1] w fun e w' => ∃ v2_ v3_ v4_ : Value, e = .returned (.tuple #[.agg #[.int .i64 r1, .int .i64 r2, v2_, v3_, v4_], .bool r6]) ∧ Kd.R k35 35 w' w.heap.size (fun k_ => some k_ ≠ (v3_ : Value).ownBlock) v2_ r3 ∧ Kd.R k35 35 w' w.heap.size (fun k_ => some k_ ≠ (v2_ : Value).ownBlock) v3_ r4 ∧ Kd.S k88 88 w' w.heap.size (fun _ => True) v4_ r5 ∧ Below w.heap.size w w' := by
 have hu := Try.underlying27
 have hu2 := Try.underlying24
 obtain ⟨W1, hW1⟩ : ∃ W, w.alloc (.cells #[.int .i64 a1] 3) = W := ⟨_, rfl⟩
 obtain ⟨W2, hW2⟩ : ∃ W, W1.alloc (.cells #[.int .i64 0, .int .i64 0, .slice none 0 0, .slice none 0 0, .slice none 0 0] 27) = W := ⟨_, rfl⟩
 have hb1 : Below w.heap.size w W1 := by rw [← hW1]; exact below_alloc (Below.refl _ _) _
 have hb2 : Below W1.heap.size W1 W2 := by rw [← hW2]; exact below_alloc (Below.refl _ _) _
 have X1 : W1.heap[w.heap.size]? = some (.cells #[.int .i64 a1] 3 (0, 0)) := by rw [← hW1]; exact heap_alloc_new w _
 have Z2 := Aside0.mk (show W2.heap[W1.heap.size]? = some (.cells #[.int .i64 0, .int .i64 0, .slice none 0 0, .slice none 0 0, .slice none 0 0] 27 (0, 0)) by rw [← hW2]; exact heap_alloc_new W1 _)
 have B2 := Aside0.mk (below_step hb1 hb2)
 have X2 := Aside0.mk (blk_below X1 hb2)
 have ZG := Aside0.mk (show w.heap.size ≤ W1.heap.size from hb1.size)
 clear hb1 hb2 X1
 unfold impl_NewSystem.f at h
 obtain ⟨t, ht⟩ : ∃ t, decide (1 ≤ a0 ∧ a0 ≤ 400) = t := ⟨_, rfl⟩
 have TT := Aside0.mk (impl_within.calls a0 1 400 t W2 (by rw [within_is, ht]))
 have HH := Aside0.mk h
 have HT := Aside0.mk ht
 clear h ht
 go_enter Try.func8, Try.ntmps8
 go_wp2_with (go_at_call 34; refine TT.out.mono ?_)
 (first | rintro e w3 rfl hd | rintro e w3 ⟨rfl, hd⟩)
 have hb := hd.below
 clear TT hW1
 generalize hgz : W1.heap.size = gz at *
 clear hgz hW2
 have B3 := Aside0.mk (below_step B2.out hb)
 have X3 := Aside0.mk (blk_below X2.out hb)
 have Z3 := Aside0.mk (blk_below Z2.out hb)
 clear hb hd B2 X2 Z2
 have d0 : w3.cell? ⟨w.heap.size, 0, none⟩ = some (.int .i64 a1) := (blk_cell X3.out 0).trans rfl
 cases t with
 | false =>
  have h := HH.out
  rw [if_neg (fun h_ => by have h2 := of_decide_eq_false HT.out; exact h2 h_.1)] at h
  clear HH
  have z0 : w3.cell? ⟨gz, 0, none⟩ = some (.int .i64 0) := (blk_cell Z3.out 0).trans rfl
  have z1 : w3.cell? ⟨gz, 1, none⟩ = some (.int .i64 0) := (blk_cell Z3.out 1).trans rfl
  have z2 : w3.cell? ⟨gz, 2, none⟩ = some (.slice none 0 0) := (blk_cell Z3.out 2).trans rfl
  have z3 : w3.cell? ⟨gz, 3, none⟩ = some (.slice none 0 0) := (blk_cell Z3.out 3).trans rfl
  have z4 : w3.cell? ⟨gz, 4, none⟩ = some (.slice none 0 0) := (blk_cell Z3.out 4).trans rfl
  have y0 := blk_frozen Z3.out 0
  have y1 := blk_frozen Z3.out 1
  have y2 := blk_frozen Z3.out 2
  have y3 := blk_frozen Z3.out 3
  have y4 := blk_frozen Z3.out 4
  simp only [Option.some.injEq, Prod.mk.injEq] at h
  obtain ⟨rfl, rfl, rfl, rfl, rfl, rfl⟩ := h
  go_wp2
  refine bodyPost_ret (results_ct rfl _ _ gz 27 #[.int .i64 0, .int .i64 0, .slice none 0 0, .slice none 0 0, .slice none 0 0] (0, 0) _ rfl (put5s Z3.out _ _ _ _ _) Try.underlying27 rfl (by kernel_rfl)) rfl ?_
  exact ⟨_, _, _, rfl, Kd.R_nil _ _ _ _ _, Kd.R_nil _ _ _ _ _, Kd.S_nil _ _ _ _ _, below_set5 B3.out ZG.out _ _ _ _ _⟩
 | true =>
  have ht := of_decide_eq_true HT.out
  obtain ⟨b, rfl⟩ : ∃ b : Nat, a0 = (b : Int) := ⟨a0.toNat, by omega⟩
  obtain ⟨t2, ht2⟩ : ∃ t, decide (0 ≤ a1 ∧ a1 ≤ (b : Int)) = t := ⟨_, rfl⟩
  have TT := Aside0.mk (impl_within.calls a1 0 b t2 w3 (by rw [within_is, ht2]))
  have HT2 := Aside0.mk ht2
  have HT1 := Aside0.mk ht
  clear HT ht ht2
  go_wp2_with (go_at_call 34; refine TT.out.mono ?_)
  (first | rintro e w4 rfl hd | rintro e w4 ⟨rfl, hd⟩)
  have hb := hd.below
  clear TT d0
  have B4 := Aside0.mk (below_step B3.out hb)
  have X4 := Aside0.mk (blk_below X3.out hb)
  have Z4 := Aside0.mk (blk_below Z3.out hb)
  clear hb hd B3 X3 Z3
  cases t2 with
  | false =>
   have h := HH.out
   rw [if_neg (fun h_ => by have h2 := of_decide_eq_false HT2.out; exact h2 h_.2)] at h
   clear HH
   have z0 : w4.cell? ⟨gz, 0, none⟩ = some (.int .i64 0) := (blk_cell Z4.out 0).trans rfl
   have z1 : w4.cell? ⟨gz, 1, none⟩ = some (.int .i64 0) := (blk_cell Z4.out 1).trans rfl
   have z2 : w4.cell? ⟨gz, 2, none⟩ = some (.slice none 0 0) := (blk_cell Z4.out 2).trans rfl
   have z3 : w4.cell? ⟨gz, 3, none⟩ = some (.slice none 0 0) := (blk_cell Z4.out 3).trans rfl
   have z4 : w4.cell? ⟨gz, 4, none⟩ = some (.slice none 0 0) := (blk_cell Z4.out 4).trans rfl
   have y0 := blk_frozen Z4.out 0
   have y1 := blk_frozen Z4.out 1
   have y2 := blk_frozen Z4.out 2
   have y3 := blk_frozen Z4.out 3
   have y4 := blk_frozen Z4.out 4
   simp only [Option.some.injEq, Prod.mk.injEq] at h
   obtain ⟨rfl, rfl, rfl, rfl, rfl, rfl⟩ := h
   go_wp2
   refine bodyPost_ret (results_ct rfl _ _ gz 27 #[.int .i64 0, .int .i64 0, .slice none 0 0, .slice none 0 0, .slice none 0 0] (0, 0) _ rfl (put5s Z4.out _ _ _ _ _) Try.underlying27 rfl (by kernel_rfl)) rfl ?_
   exact ⟨_, _, _, rfl, Kd.R_nil _ _ _ _ _, Kd.R_nil _ _ _ _ _, Kd.S_nil _ _ _ _ _, below_set5 B4.out ZG.out _ _ _ _ _⟩
  | true =>
   have ht2 := of_decide_eq_true HT2.out
   have ht1 := HT1.out
   obtain ⟨h0, rfl⟩ : ∃ h0 : Nat, a1 = (h0 : Int) := ⟨a1.toNat, by omega⟩
   have h := HH.out
   rw [if_pos ⟨ht1, ht2⟩, Int.toNat_natCast, Int.toNat_natCast] at h
   obtain ⟨M, hM⟩ : ∃ M, newL b h0 = M := ⟨_, rfl⟩
   rw [hM] at h
   simp only [Option.some.injEq, Prod.mk.injEq] at h
   obtain ⟨rfl, rfl, rfl, rfl, rfl, rfl⟩ := h
   have HM := Aside0.mk hM
   have HML := Aside0.mk (show M.length ≤ 1 by rw [← hM]; exact newL_len b h0)
   have HR1 := Aside0.mk (show b ≤ 400 ∧ h0 ≤ b by omega)
   clear HH ht1 ht2 HT1 HT2 hM
   go_wp2
   refine start_ (n := 9) (S := fun w' => w'.cell? ⟨w.heap.size, 0, none⟩ = some (.int .i64 h0) ∧ w'.cell? ⟨w.heap.size, 0, none⟩ = some (.int .i64 h0)) (ds := [7]) #[false, false, false, false, false, false, false, false, false] (by kernel_rfl) rfl rfl ⟨(blk_cell X4.out 0).trans rfl, (blk_cell X4.out 0).trans rfl⟩ (fun hHeld => ?_)
   replace B4 := Aside0.mk (below_drew1 B4.out)
   replace X4 := Aside0.mk (blk_drew X4.out)
   replace Z4 := Aside0.mk (blk_drew Z4.out)
   generalize w4.drew = w5 at B4 X4 Z4 hHeld ⊢
   refine take_ (i := 0) (N := some 16) (v := ?_) (a' := ?_) #[true, false, false, false, false, false, false, false, false] rfl rfl (by kernel_rfl) (fun _ _ _ h => h) (Or.inl ⟨by rfl, ?_⟩) hHeld ?_ ?_
   rotate_left
   ·rintro w' ⟨s0, s1⟩
    go_simp
    with_reducible rfl
   rotate_left
   ·simp only [Act.put, List.setIfInBounds_toArray, List.set_cons_zero, List.set_cons_succ, i64_w, i32_w]
    rfl
   refine take_ (i := 1) (N := some 17) (v := ?_) (a' := ?_) #[true, true, false, false, false, false, false, false, false] rfl rfl (by kernel_rfl) (fun _ _ _ h => h) (Or.inl ⟨by rfl, ?_⟩) hHeld ?_ ?_
   rotate_left
   ·rintro w' ⟨s0, s1⟩
    go_simp
    with_reducible rfl
   rotate_left
   ·simp only [Act.put, List.setIfInBounds_toArray, List.set_cons_zero, List.set_cons_succ, i64_w, i32_w]
    rfl
   refine take_ (i := 2) (N := some 18) (v := ?_) (a' := ?_) #[true, true, true, false, false, false, false, false, false] rfl rfl (by kernel_rfl) (fun _ _ _ h => h) (Or.inl ⟨by rfl, ?_⟩) hHeld ?_ ?_
   rotate_left
   ·rintro w' ⟨s0, s1⟩
    go_simp
    with_reducible rfl
   rotate_left
   ·simp only [Act.put, List.setIfInBounds_toArray, List.set_cons_zero, List.set_cons_succ, i64_w, i32_w]
    rfl
   refine take_ (i := 3) (N := some 19) (v := ?_) (a' := ?_) #[true, true, true, true, false, false, false, false, false] rfl rfl (by kernel_rfl) (fun _ _ _ h => h) (Or.inl ⟨by rfl, ?_⟩) hHeld ?_ ?_
   rotate_left
   ·rintro w' ⟨s0, s1⟩
    go_simp
    with_reducible rfl
   rotate_left
   ·simp only [Act.put, List.setIfInBounds_toArray, List.set_cons_zero, List.set_cons_succ, i64_w, i32_w]
    rfl
   refine one_ (i := 4) (N := some 20) #[true, true, true, true, true, false, false, false, false] rfl rfl (by kernel_rfl) (by decide) (fun K hK => ?_)
   refine goes_ Try.func36 (by kernel_rfl) rfl #[.int .i64 b, .func (.func 37) #[] #[.pointer (some ⟨w.heap.size, 0, none⟩)]] (by rfl) rfl rfl (by (try simp only [List.map_toArray, List.map_cons, List.map_nil]); first | done | rfl | (simp only [List.length_drop, List.length_take]; rfl)) ?_
   refine (merged_calls b h0 w.heap.size HR1.out.1 HR1.out.2 w5 X4.out).mono ?_
   rintro e w6 ⟨v0, rfl, hr, hb⟩
   refine ⟨_, rfl, ?_⟩
   rw [HM.out] at hr
   obtain ⟨A6, c6, rfl⟩ := Kd.R_slice hr
   have B6 := Aside0.mk (below_step B4.out hb)
   have X6 := Aside0.mk (blk_below X4.out hb)
   have Z6 := Aside0.mk (blk_below Z4.out hb)
   have R6 := Aside0.mk (Kd.R_lower hr B4.out.size)
   clear hr hb B4 X4 Z4
   refine hK.out _ _ ⟨(blk_cell X6.out 0).trans rfl, (blk_cell X6.out 0).trans rfl⟩ (fun hHeld => ?_)
   clear hK K
   refine norm_ (a' := ?_) ?_ ?_
   rotate_left
   ·show Act.put _ (some 20) _ = _
    simp only [Act.put, List.setIfInBounds_toArray, List.set_cons_zero, List.set_cons_succ, i64_w, i32_w]
    rfl
   refine one_ (i := 5) (N := some 21) #[true, true, true, true, true, true, false, false, false] rfl rfl (by kernel_rfl) (by decide) (fun K hK => ?_)
   refine goes_ Try.func35 (by kernel_rfl) rfl #[.int .i64 b, .slice A6 M.length c6] (by rfl) rfl rfl (by (try simp only [List.map_toArray, List.map_cons, List.map_nil]); first | done | rfl | (simp only [List.length_drop, List.length_take]; rfl)) ?_
   refine (freeOf_calls b A6 c6 M HML.out w6 (Kd.R_reads' R6.out).2.2 (Kd.R_reads' R6.out).2.1).mono ?_
   rintro e w7 ⟨v2, rfl, hr, hb⟩
   refine ⟨_, rfl, ?_⟩
   obtain ⟨A7, c7, rfl⟩ := Kd.R_slice hr
   have B7 := Aside0.mk (below_step B6.out hb)
   have X7 := Aside0.mk (blk_below X6.out hb)
   have Z7 := Aside0.mk (blk_below Z6.out hb)
   have R8 := Aside0.mk (show ES w7 w.heap.size (fun k_ => some k_ ≠ (Value.slice A6 M.length c6).ownBlock) (.slice A7 M.length c7) M from Kd.R_lower (Kd.R_mono (Kd.R_bound hr) (fun k_ h_ e_ => by have := Kd.R_lt R6.out _ e_.symm; have := h_.2.1; omega)) B6.out.size)
   have R7 := Aside0.mk (show ES w7 w.heap.size (fun k_ => some k_ ≠ (Value.slice A7 M.length c7).ownBlock) (.slice A6 M.length c6) M from Kd.R_mono (Kd.R_below (Kd.R_bound R6.out) hb) (fun k_ h_ e_ => by have := Kd.R_base hr _ e_.symm; have := h_.2.2.1; omega))
   clear hr hb B6 X6 Z6 R6
   refine hK.out _ _ ⟨(blk_cell X7.out 0).trans rfl, (blk_cell X7.out 0).trans rfl⟩ (fun hHeld => ?_)
   clear hK K
   refine norm_ (a' := ?_) ?_ ?_
   rotate_left
   ·show Act.put _ (some 21) _ = _
    simp only [Act.put, List.setIfInBounds_toArray, List.set_cons_zero, List.set_cons_succ, i64_w, i32_w]
    rfl
   refine pure_ (i := 6) (N := some 22) (v := ?_) (a' := ?_) #[true, true, true, true, true, true, true, false, false] rfl rfl (by kernel_rfl) (fun _ _ _ h => h) (Or.inl ⟨by rfl, ?_⟩) ?_ ?_
   rotate_left
   ·intro w'
    go_simp
    with_reducible rfl
   rotate_left
   ·simp only [Act.put, List.setIfInBounds_toArray, List.set_cons_zero, List.set_cons_succ, i64_w, i32_w]
    rfl
   have z0 : w7.cell? ⟨gz, 0, none⟩ = some (.int .i64 0) := (blk_cell Z7.out 0).trans rfl
   have z1 : w7.cell? ⟨gz, 1, none⟩ = some (.int .i64 0) := (blk_cell Z7.out 1).trans rfl
   have z2 : w7.cell? ⟨gz, 2, none⟩ = some (.slice none 0 0) := (blk_cell Z7.out 2).trans rfl
   have z3 : w7.cell? ⟨gz, 3, none⟩ = some (.slice none 0 0) := (blk_cell Z7.out 3).trans rfl
   have z4 : w7.cell? ⟨gz, 4, none⟩ = some (.slice none 0 0) := (blk_cell Z7.out 4).trans rfl
   have y0 := blk_frozen Z7.out 0
   have y1 := blk_frozen Z7.out 1
   have y2 := blk_frozen Z7.out 2
   have y3 := blk_frozen Z7.out 3
   have y4 := blk_frozen Z7.out 4
   refine last_ (i := 7) (N := none) #[true, true, true, true, true, true, true, true, false] rfl rfl (by kernel_rfl) (by decide) (fun K hK => ?_)
   refine skip_ (w1 := ((((w7.setCell ⟨gz, 0, none⟩ (.int .i64 h0)).setCell ⟨gz, 1, none⟩ (.int .i64 b)).setCell ⟨gz, 2, none⟩ (.slice A6 M.length c6)).setCell ⟨gz, 3, none⟩ (.slice A7 M.length c7)).setCell ⟨gz, 4, none⟩ (.slice none 0 0)) (by rfl) rfl ?_ ?_
   ·first | (go_simp; done) | (go_simp; rfl)
   refine hK.out _ _ ?_
   clear hK K z0 z1 z2 z3 z4 y0 y1 y2 y3 y4
   refine pure_ (i := 8) (N := some 5) (v := ?_) (a' := ?_) #[true, true, true, true, true, true, true, true, true] rfl rfl (by kernel_rfl) (fun _ _ _ h => h) (Or.inl ⟨by rfl, ?_⟩) ?_ ?_
   rotate_left
   ·intro w'
    go_simp
    with_reducible rfl
   rotate_left
   ·simp only [Act.put, List.setIfInBounds_toArray, List.set_cons_zero, List.set_cons_succ, i64_w, i32_w]
    rfl
   refine done_ (by kernel_rfl) ?_
   clear hHeld
   have Z8 := Aside0.mk (put5s Z7.out (.int .i64 h0) (.int .i64 b) (.slice A6 M.length c6) (.slice A7 M.length c7) (.slice none 0 0))
   have R9 := Aside0.mk (es_set5 Z7.out R7.out (.int .i64 h0) (.int .i64 b) (.slice A6 M.length c6) (.slice A7 M.length c7) (.slice none 0 0))
   have R10 := Aside0.mk (es_set5 Z7.out R8.out (.int .i64 h0) (.int .i64 b) (.slice A6 M.length c6) (.slice A7 M.length c7) (.slice none 0 0))
   have B9 := Aside0.mk (below_set5 B7.out ZG.out (.int .i64 h0) (.int .i64 b) (.slice A6 M.length c6) (.slice A7 M.length c7) (.slice none 0 0))
   generalize ((((w7.setCell ⟨gz, 0, none⟩ (.int .i64 h0)).setCell ⟨gz, 1, none⟩ (.int .i64 b)).setCell ⟨gz, 2, none⟩ (.slice A6 M.length c6)).setCell ⟨gz, 3, none⟩ (.slice A7 M.length c7)).setCell ⟨gz, 4, none⟩ (.slice none 0 0) = wE at Z8 R9 R10 B9 ⊢
   go_wp2
   refine bodyPost_ret (results_ct rfl _ _ gz 27 #[.int .i64 h0, .int .i64 b, .slice A6 M.length c6, .slice A7 M.length c7, .slice none 0 0] (0, 0) _ rfl Z8.out Try.underlying27 rfl (by kernel_rfl)) rfl ?_
   exact ⟨_, _, _, rfl, R9.out, R10.out, Kd.S_nil _ _ _ _ _, B9.out⟩
end Go.Proofs.Ytelblhkbogljnaa.PSys
