import Derived.Test.YtacfalpgmibfnaaFPut5
namespace Go.Proofs.Ytacfalpgmibfnaa.PCow
open Go.RowKit Go.Proofs.YtacfalpgmibfnaaW.PrintWords Go.Proofs.YtacfalpgmibfnaaW.PrintLast Go.Proofs.YtacfalpgmibfnaaW.PrintMore
attribute [local go_sem] max2_int min2_int max_two min_two max_three min_three max_four min_four
set_option linter.unusedVariables false
set_option linter.unusedSimpArgs false
mutual
def spec_GoodCow.j0 : Nat → Bool → List (S68) → List Int → Int → Option (Bool)
 | 0, _, _, _, _ => none
 | k + 1, x27, x151000, x151001, x151002 => if x27 = true then (some false) else (if 0 ≤ (x151000.length : Int) then (if ((x151000.length : Int) : Int).toNat ≤ 35184372088832 then (spec_GoodCow.l0 k (List.replicate ((x151000.length : Int) : Int).toNat 0) x151001 (x151001.length : Int) 0 x151000 x151001 x151002) else (none)) else (none))
def spec_GoodCow.l0 : Nat → List Int → List Int → Int → Int → List (S68) → List Int → Int → Option (Bool)
 | 0, _, _, _, _, _, _, _ => none
 | k + 1, x3, x33, x34, x35, x151000, x151001, x151002 => if x35 < x34 then (if 0 ≤ x35 then (if x35 < (x33.length : Int) then ((spec_l14Deep.f x151000 x151001 x151002 (rd x33 x35) x151002 x3).bind fun bt157 => (if bt157.1 = true then (spec_GoodCow.l0 k bt157.2 x33 x34 (wrap64 (x35 + 1)) x151000 x151001 x151002) else (some false))) else (none)) else (none)) else (if 0 ≤ (x151000.length : Int) then (if ((x151000.length : Int) : Int).toNat ≤ 35184372088832 then (spec_GoodCow.l1 k x3 (List.replicate ((x151000.length : Int) : Int).toNat 0) x151001 (x151001.length : Int) 0 x151000 x151001 x151002) else (none)) else (none))
def spec_GoodCow.l1 : Nat → List Int → List Int → List Int → Int → Int → List (S68) → List Int → Int → Option (Bool)
 | 0, _, _, _, _, _, _, _, _ => none
 | k + 1, x3, x6, x52, x53, x54, x151000, x151001, x151002 => if x54 < x53 then (if 0 ≤ x54 then (if x54 < (x52.length : Int) then ((spec_l14Levels.f x151000 x151001 x151002 (rd x52 x54) x151002 x6).bind fun bt163 => (if bt163.1 = true then (spec_GoodCow.l1 k x3 bt163.2 x52 x53 (wrap64 (x54 + 1)) x151000 x151001 x151002) else (some false))) else (none)) else (none)) else (spec_GoodCow.l2 k x3 x151000 (x151000.length : Int) 0)
def spec_GoodCow.l2 : Nat → List Int → List (S68) → Int → Int → Option (Bool)
 | 0, _, _, _, _ => none
 | k + 1, x3, x67, x68, x69 => if x69 < x68 then (if 0 ≤ x69 then (if x69 < (x67.length : Int) then (if x69 < (x3.length : Int) then (if ((rd_T68 x67 x69).f0) = (rd x3 x69) then (if ((rd_T68 x67 x69).f0) = 0 then (if ((rd_T68 x67 x69).f1).toList = ([] : List UInt8) then (if (((rd_T68 x67 x69).f2).length : Int) > 0 then (some false) else (spec_GoodCow.l2 k x3 x67 x68 (wrap64 (x69 + 1)))) else (some false)) else (spec_GoodCow.l2 k x3 x67 x68 (wrap64 (x69 + 1)))) else (some false)) else (none)) else (none)) else (none)) else (some true)
end
def spec_GoodCow.f (k : Nat) (l0_0 : List (S68)) (l0_1 : List Int) (a0_2 : Int) : Option (Bool) := (spec_l1In.f a0_2 1 3).bind fun t151 => (if t151 = true then (if (l0_0.length : Int) > 80 then (spec_GoodCow.j0 k true l0_0 l0_1 a0_2) else ((spec_l1In.f (l0_1.length : Int) 1 8).bind fun t152 => (spec_GoodCow.j0 k (!t152) l0_0 l0_1 a0_2))) else (spec_GoodCow.j0 k true l0_0 l0_1 a0_2))
set_option maxHeartbeats 8000000 in
set_option maxRecDepth 100000 in
theorem spec_GoodCow.calls (k : Nat) (A0_0 : Option Addr) (c0_0 : Nat) (l0_0 : List (S68)) (A0_1 : Option Addr) (c0_1 : Nat) (l0_1 : List Int) (a0_2 : Int) (r : Bool) (w : World) (hr0_0 : Kd.C k68 w A0_0 l0_0.length l0_0) (hc0_0 : l0_0.length ≤ c0_0) (hr0_1 : Kd.C (Kd.int .i64) w A0_1 l0_1.length l0_1) (hc0_1 : l0_1.length ≤ c0_1) (h : spec_GoodCow.f k l0_0 l0_1 a0_2 = some r) :
  Calls Try.prog 20 #[.agg #[.slice A0_0 l0_0.length c0_0, .slice A0_1 l0_1.length c0_1, .int .i64 a0_2]] w fun e w' => e = .returned (.bool r) ∧ Below w.heap.size w w' := by
 have hu25 := Try.underlying25
 have hu68 := Try.underlying68
 have HR0_0 := Aside0.mk hr0_0
 have HC0_0 := Aside0.mk hc0_0
 clear hr0_0 hc0_0
 have HR0_1 := Aside0.mk hr0_1
 have HC0_1 := Aside0.mk hc0_1
 clear hr0_1 hc0_1
 have HB := Aside0.mk (Below.refl w.heap.size w)
 have H : ((spec_l1In.f a0_2 1 3).bind fun t151 => (if t151 = true then (if (l0_0.length : Int) > 80 then (spec_GoodCow.j0 k true l0_0 l0_1 a0_2) else ((spec_l1In.f (l0_1.length : Int) 1 8).bind fun t152 => (spec_GoodCow.j0 k (!t152) l0_0 l0_1 a0_2))) else (spec_GoodCow.j0 k true l0_0 l0_1 a0_2))) = some r := h
 clear h
 have HC2 := Aside0.mk H
 clear H
 go_enter Try.func20, Try.ntmps20
 go_upto_region 1 with (first | ((with_reducible refine gate_dst (N := 1) rfl ?_); (try (refine gate_guard (by rfl) ?_; dsimp only)); refine box_event ?hg (N := 1) ?hd (cs := #[.slice A0_0 l0_0.length c0_0, .slice A0_1 l0_1.length c0_1, .int .i64 a0_2]) (t := 25) ?hr ?_; (case hd => rfl); (case hg => rfl); (case hr => first | (go_simp; done) | (go_simp; rfl)); intro gb150 hg w3 hbox hb; have BK150 := Aside0.mk (hbox); have GW150 := Aside0.mk ((by rw [hg]; exact (below_size (by with_reducible repeat (first | exact HB.out | apply below_alloc | apply pw_below_drewN | apply below_drew1))) : w.heap.size ≤ gb150)); have GE150 := Aside0.mk ((by rw [hg]; exact (below_size (by with_reducible repeat (first | exact HB.out | apply below_alloc | apply pw_below_drewN | apply below_drew1))) : w.heap.size ≤ gb150)); replace HB := Aside0.mk (below_step (by with_reducible repeat (first | exact HB.out | apply below_alloc | apply pw_below_drewN | apply below_drew1)) hb); clear hb hbox hg))
 repeat (go_quiet (first | ((with_reducible refine gate_dst (N := 1) rfl ?_); (try (refine gate_guard (by rfl) ?_; dsimp only)); refine box_event ?hg (N := 1) ?hd (cs := #[.slice A0_0 l0_0.length c0_0, .slice A0_1 l0_1.length c0_1, .int .i64 a0_2]) (t := 25) ?hr ?_; (case hd => rfl); (case hg => rfl); (case hr => first | (go_simp; done) | (go_simp; rfl)); intro gb150 hg w3 hbox hb; have BK150 := Aside0.mk (hbox); have GW150 := Aside0.mk ((by rw [hg]; exact (below_size (by with_reducible repeat (first | exact HB.out | apply below_alloc | apply pw_below_drewN | apply below_drew1))) : w.heap.size ≤ gb150)); have GE150 := Aside0.mk ((by rw [hg]; exact (below_size (by with_reducible repeat (first | exact HB.out | apply below_alloc | apply pw_below_drewN | apply below_drew1))) : w.heap.size ≤ gb150)); replace HB := Aside0.mk (below_step (by with_reducible repeat (first | exact HB.out | apply below_alloc | apply pw_below_drewN | apply below_drew1)) hb); clear hb hbox hg)); go_upto_region 1 with (first | ((with_reducible refine gate_dst (N := 1) rfl ?_); (try (refine gate_guard (by rfl) ?_; dsimp only)); refine box_event ?hg (N := 1) ?hd (cs := #[.slice A0_0 l0_0.length c0_0, .slice A0_1 l0_1.length c0_1, .int .i64 a0_2]) (t := 25) ?hr ?_; (case hd => rfl); (case hg => rfl); (case hr => first | (go_simp; done) | (go_simp; rfl)); intro gb150 hg w3 hbox hb; have BK150 := Aside0.mk (hbox); have GW150 := Aside0.mk ((by rw [hg]; exact (below_size (by with_reducible repeat (first | exact HB.out | apply below_alloc | apply pw_below_drewN | apply below_drew1))) : w.heap.size ≤ gb150)); have GE150 := Aside0.mk ((by rw [hg]; exact (below_size (by with_reducible repeat (first | exact HB.out | apply below_alloc | apply pw_below_drewN | apply below_drew1))) : w.heap.size ≤ gb150)); replace HB := Aside0.mk (below_step (by with_reducible repeat (first | exact HB.out | apply below_alloc | apply pw_below_drewN | apply below_drew1)) hb); clear hb hbox hg)))
 (try simp only [Act.put, List.setIfInBounds_toArray, List.set_cons_zero, List.set_cons_succ])
 go_cut [27] (fun v27 wc => ∃ (kq : Nat) (x27_1 : Bool), v27 = .bool x27_1 ∧ Aside0 (spec_GoodCow.j0 kq x27_1 l0_0 l0_1 a0_2 = some r) ∧ Aside0 (kq ≤ k) ∧ Aside0 (wc.heap[gb150]? = some (.cells #[(.slice A0_0 l0_0.length c0_0), (.slice A0_1 l0_1.length c0_1), .int .i64 a0_2] 25 (0, 0))) ∧ Aside0 (Below w.heap.size w wc))
 case first =>
  have H := HC2.out
  clear HC2
  replace H := Option.bind_eq_some_iff.mp H
  obtain ⟨t151, A40, H⟩ := H
  replace H : (if t151 = true then (if (l0_0.length : Int) > 80 then (spec_GoodCow.j0 k true l0_0 l0_1 a0_2) else ((spec_l1In.f (l0_1.length : Int) 1 8).bind fun t152 => (spec_GoodCow.j0 k (!t152) l0_0 l0_1 a0_2))) else (spec_GoodCow.j0 k true l0_0 l0_1 a0_2)) = some r := H
  have A4 := Aside0.mk A40
  clear A40
  by_cases c5 : t151 = true
  ·subst c5
   have H1 : (if (l0_0.length : Int) > 80 then (spec_GoodCow.j0 k true l0_0 l0_1 a0_2) else ((spec_l1In.f (l0_1.length : Int) 1 8).bind fun t152 => (spec_GoodCow.j0 k (!t152) l0_0 l0_1 a0_2))) = some r := by rw [if_pos rfl] at H; exact H
   clear H
   have H := H1
   clear H1
   by_cases c6 : (l0_0.length : Int) > 80
   ·rw [if_pos c6] at H
    have c6b0 : decide (80 < (l0_0.length : Int)) = true := decide_eq_true c6
    have c6b1 : decide (80 < l0_0.length) = true := decide_eq_true (by omega)
    clear c6
    (first | rw [c6b0] | (simp only [i64_w, i32_w]; rw [c6b0]) | skip)
    have H' := Aside0.mk H
    clear H
    have hcz7_0 : w3.cell? ⟨gb150, 0, none⟩ = some (.slice A0_0 l0_0.length c0_0) := (blk_cell BK150.out 0).trans rfl
    have hcz7_1 : w3.cell? ⟨gb150, 1, none⟩ = some (.slice A0_1 l0_1.length c0_1) := (blk_cell BK150.out 1).trans rfl
    have hcz7_2 : w3.cell? ⟨gb150, 2, none⟩ = some (.int .i64 a0_2) := (blk_cell BK150.out 2).trans rfl
    have hfz7_0 := blk_frozen BK150.out 0
    have hfz7_1 := blk_frozen BK150.out 1
    have hfz7_2 := blk_frozen BK150.out 2
    go_wp2_with (first | (go_at_call 44; (with_reducible refine (spec_l1In.calls a0_2 1 3 true _ A4.out).mono ?_); rintro e w' ⟨rfl, ⟨nd, rfl⟩⟩; (try first | exact ⟨rfl, _, World.drewN_drewN _ _ _⟩ | exact ⟨rfl, _, Eq.trans (World.drewN_drewN _ _ _) (congrArg (World.drewN _) (Nat.add_assoc _ _ _))⟩)))
    repeat (go_quiet (first | (go_at_call 44; (with_reducible refine (spec_l1In.calls a0_2 1 3 true _ A4.out).mono ?_); rintro e w' ⟨rfl, ⟨nd, rfl⟩⟩; (try first | exact ⟨rfl, _, World.drewN_drewN _ _ _⟩ | exact ⟨rfl, _, Eq.trans (World.drewN_drewN _ _ _) (congrArg (World.drewN _) (Nat.add_assoc _ _ _))⟩))); try go_wp2_with (first | (go_at_call 44; (with_reducible refine (spec_l1In.calls a0_2 1 3 true _ A4.out).mono ?_); rintro e w' ⟨rfl, ⟨nd, rfl⟩⟩; (try first | exact ⟨rfl, _, World.drewN_drewN _ _ _⟩ | exact ⟨rfl, _, Eq.trans (World.drewN_drewN _ _ _) (congrArg (World.drewN _) (Nat.add_assoc _ _ _))⟩))))
    go_meet
    case rel => exact ⟨_, (true), (by first | rfl | (simp; done) | (simp [*]; done)), H', ⟨by first | omega | exact Nat.le_refl _⟩, ⟨by (with_reducible repeat (first | refine blk_drewN ?_ _ | refine blk_drew ?_ | refine blk_alloc ?_ _)); exact BK150.out⟩, ⟨by with_reducible repeat (first | exact HB.out | apply below_alloc | apply pw_below_drewN | apply below_drew1 | refine below_set ?_ GE150.out)⟩⟩
   ·rw [if_neg c6] at H
    have c6b0 : decide (80 < (l0_0.length : Int)) = false := decide_eq_false c6
    have c6b1 : decide (80 < l0_0.length) = false := decide_eq_false (by omega)
    clear c6
    (first | rw [c6b0] | (simp only [i64_w, i32_w]; rw [c6b0]) | skip)
    replace H := Option.bind_eq_some_iff.mp H
    obtain ⟨t152, A80, H⟩ := H
    replace H : (spec_GoodCow.j0 k (!t152) l0_0 l0_1 a0_2) = some r := H
    have A8 := Aside0.mk A80
    clear A80
    have H' := Aside0.mk H
    clear H
    have hcz9_0 : w3.cell? ⟨gb150, 0, none⟩ = some (.slice A0_0 l0_0.length c0_0) := (blk_cell BK150.out 0).trans rfl
    have hcz9_1 : w3.cell? ⟨gb150, 1, none⟩ = some (.slice A0_1 l0_1.length c0_1) := (blk_cell BK150.out 1).trans rfl
    have hcz9_2 : w3.cell? ⟨gb150, 2, none⟩ = some (.int .i64 a0_2) := (blk_cell BK150.out 2).trans rfl
    have hfz9_0 := blk_frozen BK150.out 0
    have hfz9_1 := blk_frozen BK150.out 1
    have hfz9_2 := blk_frozen BK150.out 2
    go_wp2_with (first | (go_at_call 44; (with_reducible refine (spec_l1In.calls a0_2 1 3 true _ A4.out).mono ?_); rintro e w' ⟨rfl, ⟨nd, rfl⟩⟩; (try first | exact ⟨rfl, _, World.drewN_drewN _ _ _⟩ | exact ⟨rfl, _, Eq.trans (World.drewN_drewN _ _ _) (congrArg (World.drewN _) (Nat.add_assoc _ _ _))⟩)) | (go_at_call 44; (with_reducible refine (spec_l1In.calls (l0_1.length : Int) 1 8 t152 _ A8.out).mono ?_); rintro e w' ⟨rfl, ⟨nd, rfl⟩⟩; (try first | exact ⟨rfl, _, World.drewN_drewN _ _ _⟩ | exact ⟨rfl, _, Eq.trans (World.drewN_drewN _ _ _) (congrArg (World.drewN _) (Nat.add_assoc _ _ _))⟩)))
    repeat (go_quiet (first | (go_at_call 44; (with_reducible refine (spec_l1In.calls a0_2 1 3 true _ A4.out).mono ?_); rintro e w' ⟨rfl, ⟨nd, rfl⟩⟩; (try first | exact ⟨rfl, _, World.drewN_drewN _ _ _⟩ | exact ⟨rfl, _, Eq.trans (World.drewN_drewN _ _ _) (congrArg (World.drewN _) (Nat.add_assoc _ _ _))⟩)) | (go_at_call 44; (with_reducible refine (spec_l1In.calls (l0_1.length : Int) 1 8 t152 _ A8.out).mono ?_); rintro e w' ⟨rfl, ⟨nd, rfl⟩⟩; (try first | exact ⟨rfl, _, World.drewN_drewN _ _ _⟩ | exact ⟨rfl, _, Eq.trans (World.drewN_drewN _ _ _) (congrArg (World.drewN _) (Nat.add_assoc _ _ _))⟩))); try go_wp2_with (first | (go_at_call 44; (with_reducible refine (spec_l1In.calls a0_2 1 3 true _ A4.out).mono ?_); rintro e w' ⟨rfl, ⟨nd, rfl⟩⟩; (try first | exact ⟨rfl, _, World.drewN_drewN _ _ _⟩ | exact ⟨rfl, _, Eq.trans (World.drewN_drewN _ _ _) (congrArg (World.drewN _) (Nat.add_assoc _ _ _))⟩)) | (go_at_call 44; (with_reducible refine (spec_l1In.calls (l0_1.length : Int) 1 8 t152 _ A8.out).mono ?_); rintro e w' ⟨rfl, ⟨nd, rfl⟩⟩; (try first | exact ⟨rfl, _, World.drewN_drewN _ _ _⟩ | exact ⟨rfl, _, Eq.trans (World.drewN_drewN _ _ _) (congrArg (World.drewN _) (Nat.add_assoc _ _ _))⟩))))
    go_meet
    case rel => exact ⟨_, (!t152), (by first | rfl | (simp; done) | (simp [*]; done)), H', ⟨by first | omega | exact Nat.le_refl _⟩, ⟨by (with_reducible repeat (first | refine blk_drewN ?_ _ | refine blk_drew ?_ | refine blk_alloc ?_ _)); exact BK150.out⟩, ⟨by with_reducible repeat (first | exact HB.out | apply below_alloc | apply pw_below_drewN | apply below_drew1 | refine below_set ?_ GE150.out)⟩⟩
  ·replace c5 := Bool.eq_false_iff.mpr c5
   subst c5
   have H1 : (spec_GoodCow.j0 k true l0_0 l0_1 a0_2) = some r := by rw [if_neg (show ¬ (false = true) by decide)] at H; exact H
   clear H
   have H := H1
   clear H1
   have H' := Aside0.mk H
   clear H
   have hcz10_0 : w3.cell? ⟨gb150, 0, none⟩ = some (.slice A0_0 l0_0.length c0_0) := (blk_cell BK150.out 0).trans rfl
   have hcz10_1 : w3.cell? ⟨gb150, 1, none⟩ = some (.slice A0_1 l0_1.length c0_1) := (blk_cell BK150.out 1).trans rfl
   have hcz10_2 : w3.cell? ⟨gb150, 2, none⟩ = some (.int .i64 a0_2) := (blk_cell BK150.out 2).trans rfl
   have hfz10_0 := blk_frozen BK150.out 0
   have hfz10_1 := blk_frozen BK150.out 1
   have hfz10_2 := blk_frozen BK150.out 2
   go_wp2_with (first | (go_at_call 44; (with_reducible refine (spec_l1In.calls a0_2 1 3 false _ A4.out).mono ?_); rintro e w' ⟨rfl, ⟨nd, rfl⟩⟩; (try first | exact ⟨rfl, _, World.drewN_drewN _ _ _⟩ | exact ⟨rfl, _, Eq.trans (World.drewN_drewN _ _ _) (congrArg (World.drewN _) (Nat.add_assoc _ _ _))⟩)))
   repeat (go_quiet (first | (go_at_call 44; (with_reducible refine (spec_l1In.calls a0_2 1 3 false _ A4.out).mono ?_); rintro e w' ⟨rfl, ⟨nd, rfl⟩⟩; (try first | exact ⟨rfl, _, World.drewN_drewN _ _ _⟩ | exact ⟨rfl, _, Eq.trans (World.drewN_drewN _ _ _) (congrArg (World.drewN _) (Nat.add_assoc _ _ _))⟩))); try go_wp2_with (first | (go_at_call 44; (with_reducible refine (spec_l1In.calls a0_2 1 3 false _ A4.out).mono ?_); rintro e w' ⟨rfl, ⟨nd, rfl⟩⟩; (try first | exact ⟨rfl, _, World.drewN_drewN _ _ _⟩ | exact ⟨rfl, _, Eq.trans (World.drewN_drewN _ _ _) (congrArg (World.drewN _) (Nat.add_assoc _ _ _))⟩))))
   go_meet
   case rel => exact ⟨_, (true), (by first | rfl | (simp; done) | (simp [*]; done)), H', ⟨by first | omega | exact Nat.le_refl _⟩, ⟨by (with_reducible repeat (first | refine blk_drewN ?_ _ | refine blk_drew ?_ | refine blk_alloc ?_ _)); exact BK150.out⟩, ⟨by with_reducible repeat (first | exact HB.out | apply below_alloc | apply pw_below_drewN | apply below_drew1 | refine below_set ?_ GE150.out)⟩⟩
 case rest =>
  clear HC2
  try clear c2
  try clear p2
  try clear c5
  try clear c6
  try clear c6b0
  try clear c6b1
  try clear hcz10_0
  try clear hcz10_1
  try clear hcz10_2
  try clear hcz7_0
  try clear hcz7_1
  try clear hcz7_2
  try clear hcz9_0
  try clear hcz9_1
  try clear hcz9_2
  try clear hfz10_0
  try clear hfz10_1
  try clear hfz10_2
  try clear hfz7_0
  try clear hfz7_1
  try clear hfz7_2
  try clear hfz9_0
  try clear hfz9_1
  try clear hfz9_2
  obtain ⟨kq, x27_1, rfl, HA, HJ1, BK150, HB⟩ := hcut
  cases kq with
  | zero => exact absurd HA.out (by simp [spec_GoodCow.j0])
  | succ kj1 =>
   have H := HA.out
   clear HA
   simp only [spec_GoodCow.j0] at H
   by_cases c11 : x27_1 = true
   ·subst c11
    have H1 : (some false) = some r := by rw [if_pos rfl] at H; exact H
    clear H
    have H := H1
    clear H1
    obtain rfl := Option.some.inj H
    go_wp2
    repeat (go_quiet (fail); try go_wp2)
    go_ret
    exact ⟨by first | rfl | (simp [errW_none, errW_some] <;> rfl) | (simp [*, errW_none, errW_some] <;> rfl) | (simp [E.isEmpty_bne]; done) | (rw [E.bne_empty]), by with_reducible repeat (first | exact HB.out | apply below_alloc | apply pw_below_drewN | apply below_drew1 | refine below_set ?_ GE150.out)⟩
   ·replace c11 := Bool.eq_false_iff.mpr c11
    subst c11
    have H1 : (if 0 ≤ (l0_0.length : Int) then (if ((l0_0.length : Int) : Int).toNat ≤ 35184372088832 then (spec_GoodCow.l0 kj1 (List.replicate ((l0_0.length : Int) : Int).toNat 0) l0_1 (l0_1.length : Int) 0 l0_0 l0_1 a0_2) else (none)) else (none)) = some r := by rw [if_neg (show ¬ (false = true) by decide)] at H; exact H
    clear H
    have H := H1
    clear H1
    by_cases c12 : 0 ≤ (l0_0.length : Int)
    ·rw [if_pos c12] at H
     have c12b0 := eq_true c12
     have c12b1 : decide (0 ≤ (l0_0.length : Int)) = true := decide_eq_true c12
     clear c12
     by_cases c13 : ((l0_0.length : Int) : Int).toNat ≤ 35184372088832
     ·rw [if_pos c13] at H
      have c13b0 := eq_true c13
      have c13b1 : decide (((l0_0.length : Int) : Int).toNat ≤ 35184372088832) = true := decide_eq_true c13
      clear c13
      obtain ⟨y153, hy153⟩ : ∃ y_ : List Int, y_ = (List.replicate ((l0_0.length : Int) : Int).toNat 0) := ⟨_, rfl⟩
      replace H : (spec_GoodCow.l0 kj1 y153 l0_1 (l0_1.length : Int) 0 l0_0 l0_1 a0_2) = some r := by first | (rw [hy153]; with_reducible exact H) | (have H2_ := (Option.bind_some _ _).symm.trans H; rw [hy153]; with_reducible exact H2_) | (have H2_ := (Option.bind_some _ _).symm.trans H; with_reducible exact H2_) | with_reducible exact H | (rw [hy153]; exact H) | exact H
      have Ny153 := Aside0.mk hy153
      clear hy153
      have H' := Aside0.mk H
      clear H
      have hcz14_0 : wc.cell? ⟨gb150, 0, none⟩ = some (.slice A0_0 l0_0.length c0_0) := (blk_cell BK150.out 0).trans rfl
      have hcz14_1 : wc.cell? ⟨gb150, 1, none⟩ = some (.slice A0_1 l0_1.length c0_1) := (blk_cell BK150.out 1).trans rfl
      have hcz14_2 : wc.cell? ⟨gb150, 2, none⟩ = some (.int .i64 a0_2) := (blk_cell BK150.out 2).trans rfl
      have hfz14_0 := blk_frozen BK150.out 0
      have hfz14_1 := blk_frozen BK150.out 1
      have hfz14_2 := blk_frozen BK150.out 2
      go_wp2_with (first | ((with_reducible refine gate_dst (N := 31) rfl ?_); (try (refine gate_guard (by rfl) ?_; dsimp only)); refine Kd.R_make (Kd.int .i64) _ 3 rfl (N := 31) rfl 23 _ _ rfl (l0_0.length : Int) rfl rfl Try.underlying23 (.int .i64 0) 8 info3 rfl (by decide) (by omega) 0 (ok := fun _ => True) (okp := fun _ => True) rfl (fun _ hk => hk) trivial (of_decide_eq_true (by assumption)) (Nat.le_trans (Nat.mul_le_mul_right _ (of_decide_eq_true (by assumption) : (l0_0.length : Int).toNat ≤ 35184372088832)) (by omega)) (Below.refl _ _) (Nat.le_refl _) ?_; intro v154 w15 ho16 hb hg_ hnew_; clear hg_ hnew_; (first | rw [← Ny153.out] at ho16 | (simp only [Int.reduceToNat] at ho16; rw [← Ny153.out] at ho16)); have HO155 := Aside0.mk (Kd.R_lower ho16 (below_size (by with_reducible repeat (first | exact HB.out | apply below_alloc | apply pw_below_drewN | apply below_drew1 | refine below_set ?_ GE150.out)))); replace BK150 := Aside0.mk (blk_below (g := gb150) (o := .cells #[.slice A0_0 l0_0.length c0_0, .slice A0_1 l0_1.length c0_1, .int .i64 a0_2] 25 (0, 0)) (by (with_reducible repeat (first | refine blk_drewN ?_ _ | refine blk_drew ?_ | refine blk_alloc ?_ _)); exact BK150.out) hb); replace HB := Aside0.mk (below_step (by with_reducible repeat (first | exact HB.out | apply below_alloc | apply pw_below_drewN | apply below_drew1 | refine below_set ?_ GE150.out)) hb); clear hb ho16; have hcz17_0 : w15.cell? ⟨gb150, 0, none⟩ = some (.slice A0_0 l0_0.length c0_0) := (blk_cell BK150.out 0).trans rfl; have hcz17_1 : w15.cell? ⟨gb150, 1, none⟩ = some (.slice A0_1 l0_1.length c0_1) := (blk_cell BK150.out 1).trans rfl; have hcz17_2 : w15.cell? ⟨gb150, 2, none⟩ = some (.int .i64 a0_2) := (blk_cell BK150.out 2).trans rfl; have hfz17_0 := blk_frozen BK150.out 0; have hfz17_1 := blk_frozen BK150.out 1; have hfz17_2 := blk_frozen BK150.out 2))
      repeat (go_quiet (first | ((with_reducible refine gate_dst (N := 31) rfl ?_); (try (refine gate_guard (by rfl) ?_; dsimp only)); refine Kd.R_make (Kd.int .i64) _ 3 rfl (N := 31) rfl 23 _ _ rfl (l0_0.length : Int) rfl rfl Try.underlying23 (.int .i64 0) 8 info3 rfl (by decide) (by omega) 0 (ok := fun _ => True) (okp := fun _ => True) rfl (fun _ hk => hk) trivial (of_decide_eq_true (by assumption)) (Nat.le_trans (Nat.mul_le_mul_right _ (of_decide_eq_true (by assumption) : (l0_0.length : Int).toNat ≤ 35184372088832)) (by omega)) (Below.refl _ _) (Nat.le_refl _) ?_; intro v154 w15 ho16 hb hg_ hnew_; clear hg_ hnew_; (first | rw [← Ny153.out] at ho16 | (simp only [Int.reduceToNat] at ho16; rw [← Ny153.out] at ho16)); have HO155 := Aside0.mk (Kd.R_lower ho16 (below_size (by with_reducible repeat (first | exact HB.out | apply below_alloc | apply pw_below_drewN | apply below_drew1 | refine below_set ?_ GE150.out)))); replace BK150 := Aside0.mk (blk_below (g := gb150) (o := .cells #[.slice A0_0 l0_0.length c0_0, .slice A0_1 l0_1.length c0_1, .int .i64 a0_2] 25 (0, 0)) (by (with_reducible repeat (first | refine blk_drewN ?_ _ | refine blk_drew ?_ | refine blk_alloc ?_ _)); exact BK150.out) hb); replace HB := Aside0.mk (below_step (by with_reducible repeat (first | exact HB.out | apply below_alloc | apply pw_below_drewN | apply below_drew1 | refine below_set ?_ GE150.out)) hb); clear hb ho16; have hcz17_0 : w15.cell? ⟨gb150, 0, none⟩ = some (.slice A0_0 l0_0.length c0_0) := (blk_cell BK150.out 0).trans rfl; have hcz17_1 : w15.cell? ⟨gb150, 1, none⟩ = some (.slice A0_1 l0_1.length c0_1) := (blk_cell BK150.out 1).trans rfl; have hcz17_2 : w15.cell? ⟨gb150, 2, none⟩ = some (.int .i64 a0_2) := (blk_cell BK150.out 2).trans rfl; have hfz17_0 := blk_frozen BK150.out 0; have hfz17_1 := blk_frozen BK150.out 1; have hfz17_2 := blk_frozen BK150.out 2)); try go_wp2_with (first | ((with_reducible refine gate_dst (N := 31) rfl ?_); (try (refine gate_guard (by rfl) ?_; dsimp only)); refine Kd.R_make (Kd.int .i64) _ 3 rfl (N := 31) rfl 23 _ _ rfl (l0_0.length : Int) rfl rfl Try.underlying23 (.int .i64 0) 8 info3 rfl (by decide) (by omega) 0 (ok := fun _ => True) (okp := fun _ => True) rfl (fun _ hk => hk) trivial (of_decide_eq_true (by assumption)) (Nat.le_trans (Nat.mul_le_mul_right _ (of_decide_eq_true (by assumption) : (l0_0.length : Int).toNat ≤ 35184372088832)) (by omega)) (Below.refl _ _) (Nat.le_refl _) ?_; intro v154 w15 ho16 hb hg_ hnew_; clear hg_ hnew_; (first | rw [← Ny153.out] at ho16 | (simp only [Int.reduceToNat] at ho16; rw [← Ny153.out] at ho16)); have HO155 := Aside0.mk (Kd.R_lower ho16 (below_size (by with_reducible repeat (first | exact HB.out | apply below_alloc | apply pw_below_drewN | apply below_drew1 | refine below_set ?_ GE150.out)))); replace BK150 := Aside0.mk (blk_below (g := gb150) (o := .cells #[.slice A0_0 l0_0.length c0_0, .slice A0_1 l0_1.length c0_1, .int .i64 a0_2] 25 (0, 0)) (by (with_reducible repeat (first | refine blk_drewN ?_ _ | refine blk_drew ?_ | refine blk_alloc ?_ _)); exact BK150.out) hb); replace HB := Aside0.mk (below_step (by with_reducible repeat (first | exact HB.out | apply below_alloc | apply pw_below_drewN | apply below_drew1 | refine below_set ?_ GE150.out)) hb); clear hb ho16; have hcz17_0 : w15.cell? ⟨gb150, 0, none⟩ = some (.slice A0_0 l0_0.length c0_0) := (blk_cell BK150.out 0).trans rfl; have hcz17_1 : w15.cell? ⟨gb150, 1, none⟩ = some (.slice A0_1 l0_1.length c0_1) := (blk_cell BK150.out 1).trans rfl; have hcz17_2 : w15.cell? ⟨gb150, 2, none⟩ = some (.int .i64 a0_2) := (blk_cell BK150.out 2).trans rfl; have hfz17_0 := blk_frozen BK150.out 0; have hfz17_1 := blk_frozen BK150.out 1; have hfz17_2 := blk_frozen BK150.out 2)))
      go_loopg [35] kj1 (fun kq v35 w' => ∃ (x3_2 : List Int) (x35_2 : Int), v35 = .int .i64 x35_2 ∧ Aside0 (spec_GoodCow.l0 kq x3_2 l0_1 (l0_1.length : Int) x35_2 l0_0 l0_1 a0_2 = some r) ∧ Aside0 (kq ≤ kj1) ∧ Aside0 (Kd.R (Kd.int .i64) 3 w' w.heap.size (fun _ => True) v154 x3_2) ∧ Aside0 (w'.heap[gb150]? = some (.cells #[(.slice A0_0 l0_0.length c0_0), (.slice A0_1 l0_1.length c0_1), .int .i64 a0_2] 25 (0, 0))) ∧ Aside0 (Below w.heap.size w w'))
      case atStart => exact ⟨(y153), (0), (by first | rfl | (simp; done) | (simp [*]; done)), H', ⟨Nat.le_refl _⟩, ⟨by (with_reducible repeat (first | apply Kd.R_alloc | apply Kd.R_drewN | apply Kd.R_drew)); exact HO155.out⟩, ⟨by (with_reducible repeat (first | refine blk_drewN ?_ _ | refine blk_drew ?_ | refine blk_alloc ?_ _)); exact BK150.out⟩, ⟨by with_reducible repeat (first | exact HB.out | apply below_alloc | apply pw_below_drewN | apply below_drew1 | refine below_set ?_ GE150.out)⟩⟩
      case round =>
       clear H'
       try clear c1
       try clear c2
       try clear p2
       try clear c5
       try clear c6
       try clear c6b0
       try clear c6b1
       try clear c11
       try clear c12
       try clear c12b0
       try clear c12b1
       try clear c13
       try clear c13b0
       try clear c13b1
       try clear hcz10_0
       try clear hcz10_1
       try clear hcz10_2
       try clear hcz14_0
       try clear hcz14_1
       try clear hcz14_2
       try clear hcz17_0
       try clear hcz17_1
       try clear hcz17_2
       try clear hcz7_0
       try clear hcz7_1
       try clear hcz7_2
       try clear hcz9_0
       try clear hcz9_1
       try clear hcz9_2
       try clear hfz10_0
       try clear hfz10_1
       try clear hfz10_2
       try clear hfz14_0
       try clear hfz14_1
       try clear hfz14_2
       try clear hfz17_0
       try clear hfz17_1
       try clear hfz17_2
       try clear hfz7_0
       try clear hfz7_1
       try clear hfz7_2
       try clear hfz9_0
       try clear hfz9_1
       try clear hfz9_2
       try clear p2
       obtain ⟨x3_2, x35_2, rfl, HA, HK2, HO_3, BK150, HB⟩ := hrel
       cases gk with
       | zero => exact absurd HA.out (by simp [spec_GoodCow.l0])
       | succ k2 =>
        have H := HA.out
        clear HA
        simp only [spec_GoodCow.l0] at H
        by_cases c18 : x35_2 < (l0_1.length : Int)
        ·rw [if_pos c18] at H
         have c18b0 : decide (x35_2 < (l0_1.length : Int)) = true := decide_eq_true c18
         clear c18
         by_cases c19 : 0 ≤ x35_2
         ·rw [if_pos c19] at H
          have c19b0 : decide (0 ≤ x35_2) = true := decide_eq_true c19
          clear c19
          by_cases c20 : x35_2 < (l0_1.length : Int)
          ·rw [if_pos c20] at H
           have c20b0 : decide (x35_2 < (l0_1.length : Int)) = true := decide_eq_true c20
           clear c20
           replace H := Option.bind_eq_some_iff.mp H
           obtain ⟨⟨t157, t158⟩, A210, H⟩ := H
           replace H : (if t157 = true then (spec_GoodCow.l0 k2 t158 l0_1 (l0_1.length : Int) (wrap64 (x35_2 + 1)) l0_0 l0_1 a0_2) else (some false)) = some r := H
           have A21 := Aside0.mk A210
           clear A210
           by_cases c22 : t157 = true
           ·subst c22
            have H1 : (spec_GoodCow.l0 k2 t158 l0_1 (l0_1.length : Int) (wrap64 (x35_2 + 1)) l0_0 l0_1 a0_2) = some r := by rw [if_pos rfl] at H; exact H
            clear H
            have H := H1
            clear H1
            have H' := Aside0.mk H
            clear H
            have p156 : 0 ≤ (x35_2 : Int) := of_decide_eq_true (by assumption)
            have q156 : x35_2 < (l0_1.length : Int) := of_decide_eq_true (by assumption)
            obtain ⟨ad156, e156, hx156_0⟩ := Kd.at_int HR0_1.out x35_2 p156 q156
            cases e156
            replace hx156_0 := (HB.out.cell (World.block_lt_of_cell? w _ hx156_0)).trans hx156_0
            replace p156 := eq_true p156
            replace q156 := eq_true q156
            have hcz23_0 : wr.cell? ⟨gb150, 0, none⟩ = some (.slice A0_0 l0_0.length c0_0) := (blk_cell BK150.out 0).trans rfl
            have hcz23_1 : wr.cell? ⟨gb150, 1, none⟩ = some (.slice (some ad156) l0_1.length c0_1) := (blk_cell BK150.out 1).trans rfl
            have hcz23_2 : wr.cell? ⟨gb150, 2, none⟩ = some (.int .i64 a0_2) := (blk_cell BK150.out 2).trans rfl
            have hfz23_0 := blk_frozen BK150.out 0
            have hfz23_1 := blk_frozen BK150.out 1
            have hfz23_2 := blk_frozen BK150.out 2
            obtain ⟨Ao24, co24, eo24⟩ := Kd.R_slice HO_3.out
            subst eo24
            go_wp2_with (first | (go_at_call 54; (with_reducible refine (spec_l14Deep.calls _ _ l0_0 _ _ l0_1 a0_2 (rd l0_1 x35_2) a0_2 (fun k_ => some k_ = (.slice Ao24 x3_2.length co24 : Value).ownBlock) (.slice Ao24 x3_2.length co24) x3_2 true t158 w _ ?side1 ?side2 ?side3 ?side4 ?side5 ?side6 A21.out).mono ?_); (case side1 => with_reducible repeat (first | exact HB.out | apply below_alloc | apply pw_below_drewN | apply below_drew1 | refine below_set ?_ GE150.out)); (case side2 => exact Kd.C_kept_came k68_heap HR0_0.out (by with_reducible repeat (first | exact HB.out | apply below_alloc | apply pw_below_drewN | apply below_drew1 | refine below_set ?_ GE150.out)) (fun k_ hs_ => (fun e_ => Kd.R_base HO_3.out k_ e_.symm) hs_)); (case side3 => exact HC0_0.out); (case side4 => exact Kd.C_kept_came (Kd.heap_int .i64) HR0_1.out (by with_reducible repeat (first | exact HB.out | apply below_alloc | apply pw_below_drewN | apply below_drew1 | refine below_set ?_ GE150.out)) (fun k_ hs_ => (fun e_ => Kd.R_base HO_3.out k_ e_.symm) hs_)); (case side5 => exact HC0_1.out); (case side6 => exact Kd.R_tight rfl HO_3.out); rintro e w25 ⟨rfl, hy0, hb, hkp⟩; replace BK150 := Aside0.mk (blk_kept (by (with_reducible repeat (first | refine blk_drewN ?_ _ | refine blk_drew ?_ | refine blk_alloc ?_ _)); exact BK150.out) hkp (fun hs_ => (fun e_ => (Kd.R_ne HO_3.out BK150.out (by decide)) e_) hs_)); replace HO_3 := Aside0.mk (Kd.R_reok rfl hy0 (fun k_ e_ => HO_3.out.1 k_ e_)); replace HB := Aside0.mk (hb); (try clear hb); (try clear hkp); (try clear hy0)))
            repeat (go_quiet (first | (go_at_call 54; (with_reducible refine (spec_l14Deep.calls _ _ l0_0 _ _ l0_1 a0_2 (rd l0_1 x35_2) a0_2 (fun k_ => some k_ = (.slice Ao24 x3_2.length co24 : Value).ownBlock) (.slice Ao24 x3_2.length co24) x3_2 true t158 w _ ?side1 ?side2 ?side3 ?side4 ?side5 ?side6 A21.out).mono ?_); (case side1 => with_reducible repeat (first | exact HB.out | apply below_alloc | apply pw_below_drewN | apply below_drew1 | refine below_set ?_ GE150.out)); (case side2 => exact Kd.C_kept_came k68_heap HR0_0.out (by with_reducible repeat (first | exact HB.out | apply below_alloc | apply pw_below_drewN | apply below_drew1 | refine below_set ?_ GE150.out)) (fun k_ hs_ => (fun e_ => Kd.R_base HO_3.out k_ e_.symm) hs_)); (case side3 => exact HC0_0.out); (case side4 => exact Kd.C_kept_came (Kd.heap_int .i64) HR0_1.out (by with_reducible repeat (first | exact HB.out | apply below_alloc | apply pw_below_drewN | apply below_drew1 | refine below_set ?_ GE150.out)) (fun k_ hs_ => (fun e_ => Kd.R_base HO_3.out k_ e_.symm) hs_)); (case side5 => exact HC0_1.out); (case side6 => exact Kd.R_tight rfl HO_3.out); rintro e w25 ⟨rfl, hy0, hb, hkp⟩; replace BK150 := Aside0.mk (blk_kept (by (with_reducible repeat (first | refine blk_drewN ?_ _ | refine blk_drew ?_ | refine blk_alloc ?_ _)); exact BK150.out) hkp (fun hs_ => (fun e_ => (Kd.R_ne HO_3.out BK150.out (by decide)) e_) hs_)); replace HO_3 := Aside0.mk (Kd.R_reok rfl hy0 (fun k_ e_ => HO_3.out.1 k_ e_)); replace HB := Aside0.mk (hb); (try clear hb); (try clear hkp); (try clear hy0))); try go_wp2_with (first | (go_at_call 54; (with_reducible refine (spec_l14Deep.calls _ _ l0_0 _ _ l0_1 a0_2 (rd l0_1 x35_2) a0_2 (fun k_ => some k_ = (.slice Ao24 x3_2.length co24 : Value).ownBlock) (.slice Ao24 x3_2.length co24) x3_2 true t158 w _ ?side1 ?side2 ?side3 ?side4 ?side5 ?side6 A21.out).mono ?_); (case side1 => with_reducible repeat (first | exact HB.out | apply below_alloc | apply pw_below_drewN | apply below_drew1 | refine below_set ?_ GE150.out)); (case side2 => exact Kd.C_kept_came k68_heap HR0_0.out (by with_reducible repeat (first | exact HB.out | apply below_alloc | apply pw_below_drewN | apply below_drew1 | refine below_set ?_ GE150.out)) (fun k_ hs_ => (fun e_ => Kd.R_base HO_3.out k_ e_.symm) hs_)); (case side3 => exact HC0_0.out); (case side4 => exact Kd.C_kept_came (Kd.heap_int .i64) HR0_1.out (by with_reducible repeat (first | exact HB.out | apply below_alloc | apply pw_below_drewN | apply below_drew1 | refine below_set ?_ GE150.out)) (fun k_ hs_ => (fun e_ => Kd.R_base HO_3.out k_ e_.symm) hs_)); (case side5 => exact HC0_1.out); (case side6 => exact Kd.R_tight rfl HO_3.out); rintro e w25 ⟨rfl, hy0, hb, hkp⟩; replace BK150 := Aside0.mk (blk_kept (by (with_reducible repeat (first | refine blk_drewN ?_ _ | refine blk_drew ?_ | refine blk_alloc ?_ _)); exact BK150.out) hkp (fun hs_ => (fun e_ => (Kd.R_ne HO_3.out BK150.out (by decide)) e_) hs_)); replace HO_3 := Aside0.mk (Kd.R_reok rfl hy0 (fun k_ e_ => HO_3.out.1 k_ e_)); replace HB := Aside0.mk (hb); (try clear hb); (try clear hkp); (try clear hy0))))
            go_roundg k2
            case measure => have := HJ1.out; have := HK2.out; omega
            case rel => exact ⟨(t158), (wrap64 (x35_2 + 1)), (by first | rfl | (simp; done) | (simp [*]; done)), H', ⟨by have := HJ1.out; have := HK2.out; omega⟩, ⟨by (with_reducible repeat (first | apply Kd.R_alloc | apply Kd.R_drewN | apply Kd.R_drew)); exact HO_3.out⟩, ⟨by (with_reducible repeat (first | refine blk_drewN ?_ _ | refine blk_drew ?_ | refine blk_alloc ?_ _)); exact BK150.out⟩, ⟨by with_reducible repeat (first | exact HB.out | apply below_alloc | apply pw_below_drewN | apply below_drew1 | refine below_set ?_ GE150.out)⟩⟩
           ·replace c22 := Bool.eq_false_iff.mpr c22
            subst c22
            have H1 : (some false) = some r := by rw [if_neg (show ¬ (false = true) by decide)] at H; exact H
            clear H
            have H := H1
            clear H1
            obtain rfl := Option.some.inj H
            have p156 : 0 ≤ (x35_2 : Int) := of_decide_eq_true (by assumption)
            have q156 : x35_2 < (l0_1.length : Int) := of_decide_eq_true (by assumption)
            obtain ⟨ad156, e156, hx156_0⟩ := Kd.at_int HR0_1.out x35_2 p156 q156
            cases e156
            replace hx156_0 := (HB.out.cell (World.block_lt_of_cell? w _ hx156_0)).trans hx156_0
            replace p156 := eq_true p156
            replace q156 := eq_true q156
            have hcz26_0 : wr.cell? ⟨gb150, 0, none⟩ = some (.slice A0_0 l0_0.length c0_0) := (blk_cell BK150.out 0).trans rfl
            have hcz26_1 : wr.cell? ⟨gb150, 1, none⟩ = some (.slice (some ad156) l0_1.length c0_1) := (blk_cell BK150.out 1).trans rfl
            have hcz26_2 : wr.cell? ⟨gb150, 2, none⟩ = some (.int .i64 a0_2) := (blk_cell BK150.out 2).trans rfl
            have hfz26_0 := blk_frozen BK150.out 0
            have hfz26_1 := blk_frozen BK150.out 1
            have hfz26_2 := blk_frozen BK150.out 2
            obtain ⟨Ao27, co27, eo27⟩ := Kd.R_slice HO_3.out
            subst eo27
            go_wp2_with (first | (go_at_call 54; (with_reducible refine (spec_l14Deep.calls _ _ l0_0 _ _ l0_1 a0_2 (rd l0_1 x35_2) a0_2 (fun k_ => some k_ = (.slice Ao27 x3_2.length co27 : Value).ownBlock) (.slice Ao27 x3_2.length co27) x3_2 false t158 w _ ?side1 ?side2 ?side3 ?side4 ?side5 ?side6 A21.out).mono ?_); (case side1 => with_reducible repeat (first | exact HB.out | apply below_alloc | apply pw_below_drewN | apply below_drew1 | refine below_set ?_ GE150.out)); (case side2 => exact Kd.C_kept_came k68_heap HR0_0.out (by with_reducible repeat (first | exact HB.out | apply below_alloc | apply pw_below_drewN | apply below_drew1 | refine below_set ?_ GE150.out)) (fun k_ hs_ => (fun e_ => Kd.R_base HO_3.out k_ e_.symm) hs_)); (case side3 => exact HC0_0.out); (case side4 => exact Kd.C_kept_came (Kd.heap_int .i64) HR0_1.out (by with_reducible repeat (first | exact HB.out | apply below_alloc | apply pw_below_drewN | apply below_drew1 | refine below_set ?_ GE150.out)) (fun k_ hs_ => (fun e_ => Kd.R_base HO_3.out k_ e_.symm) hs_)); (case side5 => exact HC0_1.out); (case side6 => exact Kd.R_tight rfl HO_3.out); rintro e w28 ⟨rfl, hy0, hb, hkp⟩; replace BK150 := Aside0.mk (blk_kept (by (with_reducible repeat (first | refine blk_drewN ?_ _ | refine blk_drew ?_ | refine blk_alloc ?_ _)); exact BK150.out) hkp (fun hs_ => (fun e_ => (Kd.R_ne HO_3.out BK150.out (by decide)) e_) hs_)); replace HO_3 := Aside0.mk (Kd.R_reok rfl hy0 (fun k_ e_ => HO_3.out.1 k_ e_)); replace HB := Aside0.mk (hb); (try clear hb); (try clear hkp); (try clear hy0)))
            repeat (go_quiet (first | (go_at_call 54; (with_reducible refine (spec_l14Deep.calls _ _ l0_0 _ _ l0_1 a0_2 (rd l0_1 x35_2) a0_2 (fun k_ => some k_ = (.slice Ao27 x3_2.length co27 : Value).ownBlock) (.slice Ao27 x3_2.length co27) x3_2 false t158 w _ ?side1 ?side2 ?side3 ?side4 ?side5 ?side6 A21.out).mono ?_); (case side1 => with_reducible repeat (first | exact HB.out | apply below_alloc | apply pw_below_drewN | apply below_drew1 | refine below_set ?_ GE150.out)); (case side2 => exact Kd.C_kept_came k68_heap HR0_0.out (by with_reducible repeat (first | exact HB.out | apply below_alloc | apply pw_below_drewN | apply below_drew1 | refine below_set ?_ GE150.out)) (fun k_ hs_ => (fun e_ => Kd.R_base HO_3.out k_ e_.symm) hs_)); (case side3 => exact HC0_0.out); (case side4 => exact Kd.C_kept_came (Kd.heap_int .i64) HR0_1.out (by with_reducible repeat (first | exact HB.out | apply below_alloc | apply pw_below_drewN | apply below_drew1 | refine below_set ?_ GE150.out)) (fun k_ hs_ => (fun e_ => Kd.R_base HO_3.out k_ e_.symm) hs_)); (case side5 => exact HC0_1.out); (case side6 => exact Kd.R_tight rfl HO_3.out); rintro e w28 ⟨rfl, hy0, hb, hkp⟩; replace BK150 := Aside0.mk (blk_kept (by (with_reducible repeat (first | refine blk_drewN ?_ _ | refine blk_drew ?_ | refine blk_alloc ?_ _)); exact BK150.out) hkp (fun hs_ => (fun e_ => (Kd.R_ne HO_3.out BK150.out (by decide)) e_) hs_)); replace HO_3 := Aside0.mk (Kd.R_reok rfl hy0 (fun k_ e_ => HO_3.out.1 k_ e_)); replace HB := Aside0.mk (hb); (try clear hb); (try clear hkp); (try clear hy0))); try go_wp2_with (first | (go_at_call 54; (with_reducible refine (spec_l14Deep.calls _ _ l0_0 _ _ l0_1 a0_2 (rd l0_1 x35_2) a0_2 (fun k_ => some k_ = (.slice Ao27 x3_2.length co27 : Value).ownBlock) (.slice Ao27 x3_2.length co27) x3_2 false t158 w _ ?side1 ?side2 ?side3 ?side4 ?side5 ?side6 A21.out).mono ?_); (case side1 => with_reducible repeat (first | exact HB.out | apply below_alloc | apply pw_below_drewN | apply below_drew1 | refine below_set ?_ GE150.out)); (case side2 => exact Kd.C_kept_came k68_heap HR0_0.out (by with_reducible repeat (first | exact HB.out | apply below_alloc | apply pw_below_drewN | apply below_drew1 | refine below_set ?_ GE150.out)) (fun k_ hs_ => (fun e_ => Kd.R_base HO_3.out k_ e_.symm) hs_)); (case side3 => exact HC0_0.out); (case side4 => exact Kd.C_kept_came (Kd.heap_int .i64) HR0_1.out (by with_reducible repeat (first | exact HB.out | apply below_alloc | apply pw_below_drewN | apply below_drew1 | refine below_set ?_ GE150.out)) (fun k_ hs_ => (fun e_ => Kd.R_base HO_3.out k_ e_.symm) hs_)); (case side5 => exact HC0_1.out); (case side6 => exact Kd.R_tight rfl HO_3.out); rintro e w28 ⟨rfl, hy0, hb, hkp⟩; replace BK150 := Aside0.mk (blk_kept (by (with_reducible repeat (first | refine blk_drewN ?_ _ | refine blk_drew ?_ | refine blk_alloc ?_ _)); exact BK150.out) hkp (fun hs_ => (fun e_ => (Kd.R_ne HO_3.out BK150.out (by decide)) e_) hs_)); replace HO_3 := Aside0.mk (Kd.R_reok rfl hy0 (fun k_ e_ => HO_3.out.1 k_ e_)); replace HB := Aside0.mk (hb); (try clear hb); (try clear hkp); (try clear hy0))))
            go_ret
            exact ⟨by first | rfl | (simp [errW_none, errW_some] <;> rfl) | (simp [*, errW_none, errW_some] <;> rfl) | (simp [E.isEmpty_bne]; done) | (rw [E.bne_empty]), by with_reducible repeat (first | exact HB.out | apply below_alloc | apply pw_below_drewN | apply below_drew1 | refine below_set ?_ GE150.out)⟩
          ·rw [if_neg c20] at H
           exact absurd H (by simp)
         ·rw [if_neg c19] at H
          exact absurd H (by simp)
        ·rw [if_neg c18] at H
         have c18b0 : decide (x35_2 < (l0_1.length : Int)) = false := decide_eq_false c18
         clear c18
         by_cases c29 : 0 ≤ (l0_0.length : Int)
         ·rw [if_pos c29] at H
          have c29b0 := eq_true c29
          have c29b1 : decide (0 ≤ (l0_0.length : Int)) = true := decide_eq_true c29
          clear c29
          by_cases c30 : ((l0_0.length : Int) : Int).toNat ≤ 35184372088832
          ·rw [if_pos c30] at H
           have c30b0 := eq_true c30
           have c30b1 : decide (((l0_0.length : Int) : Int).toNat ≤ 35184372088832) = true := decide_eq_true c30
           clear c30
           obtain ⟨y159, hy159⟩ : ∃ y_ : List Int, y_ = (List.replicate ((l0_0.length : Int) : Int).toNat 0) := ⟨_, rfl⟩
           replace H : (spec_GoodCow.l1 k2 x3_2 y159 l0_1 (l0_1.length : Int) 0 l0_0 l0_1 a0_2) = some r := by first | (rw [hy159]; with_reducible exact H) | (have H2_ := (Option.bind_some _ _).symm.trans H; rw [hy159]; with_reducible exact H2_) | (have H2_ := (Option.bind_some _ _).symm.trans H; with_reducible exact H2_) | with_reducible exact H | (rw [hy159]; exact H) | exact H
           have Ny159 := Aside0.mk hy159
           clear hy159
           have H' := Aside0.mk H
           clear H
           have hcz31_0 : wr.cell? ⟨gb150, 0, none⟩ = some (.slice A0_0 l0_0.length c0_0) := (blk_cell BK150.out 0).trans rfl
           have hcz31_1 : wr.cell? ⟨gb150, 1, none⟩ = some (.slice A0_1 l0_1.length c0_1) := (blk_cell BK150.out 1).trans rfl
           have hcz31_2 : wr.cell? ⟨gb150, 2, none⟩ = some (.int .i64 a0_2) := (blk_cell BK150.out 2).trans rfl
           have hfz31_0 := blk_frozen BK150.out 0
           have hfz31_1 := blk_frozen BK150.out 1
           have hfz31_2 := blk_frozen BK150.out 2
           go_wp2_with (first | ((with_reducible refine gate_dst (N := 50) rfl ?_); (try (refine gate_guard (by rfl) ?_; dsimp only)); refine Kd.R_make (Kd.int .i64) _ 3 rfl (N := 50) rfl 23 _ _ rfl (l0_0.length : Int) rfl rfl Try.underlying23 (.int .i64 0) 8 info3 rfl (by decide) (by omega) 0 (ok := fun _ => True) (okp := fun _ => True) rfl (fun _ hk => hk) trivial (of_decide_eq_true (by assumption)) (Nat.le_trans (Nat.mul_le_mul_right _ (of_decide_eq_true (by assumption) : (l0_0.length : Int).toNat ≤ 35184372088832)) (by omega)) (Below.refl _ _) (Nat.le_refl _) ?_; intro v160 w32 ho33 hb hg_ hnew_; clear hg_ hnew_; (first | rw [← Ny159.out] at ho33 | (simp only [Int.reduceToNat] at ho33; rw [← Ny159.out] at ho33)); have HO161 := Aside0.mk (Kd.R_lower (Kd.R_new' ho33 (Kd.R_lt (by (with_reducible repeat (first | apply Kd.R_alloc | apply Kd.R_drewN | apply Kd.R_drew)); exact HO_3.out))) (below_size (by with_reducible repeat (first | exact HB.out | apply below_alloc | apply pw_below_drewN | apply below_drew1 | refine below_set ?_ GE150.out)))); replace HO_3 := Aside0.mk (Kd.R_elder' (by (with_reducible repeat (first | apply Kd.R_alloc | apply Kd.R_drewN | apply Kd.R_drew)); exact HO_3.out) (Kd.R_base ho33) hb); replace BK150 := Aside0.mk (blk_below (g := gb150) (o := .cells #[.slice A0_0 l0_0.length c0_0, .slice A0_1 l0_1.length c0_1, .int .i64 a0_2] 25 (0, 0)) (by (with_reducible repeat (first | refine blk_drewN ?_ _ | refine blk_drew ?_ | refine blk_alloc ?_ _)); exact BK150.out) hb); replace HB := Aside0.mk (below_step (by with_reducible repeat (first | exact HB.out | apply below_alloc | apply pw_below_drewN | apply below_drew1 | refine below_set ?_ GE150.out)) hb); clear hb ho33; have hcz34_0 : w32.cell? ⟨gb150, 0, none⟩ = some (.slice A0_0 l0_0.length c0_0) := (blk_cell BK150.out 0).trans rfl; have hcz34_1 : w32.cell? ⟨gb150, 1, none⟩ = some (.slice A0_1 l0_1.length c0_1) := (blk_cell BK150.out 1).trans rfl; have hcz34_2 : w32.cell? ⟨gb150, 2, none⟩ = some (.int .i64 a0_2) := (blk_cell BK150.out 2).trans rfl; have hfz34_0 := blk_frozen BK150.out 0; have hfz34_1 := blk_frozen BK150.out 1; have hfz34_2 := blk_frozen BK150.out 2))
           repeat (go_quiet (first | ((with_reducible refine gate_dst (N := 50) rfl ?_); (try (refine gate_guard (by rfl) ?_; dsimp only)); refine Kd.R_make (Kd.int .i64) _ 3 rfl (N := 50) rfl 23 _ _ rfl (l0_0.length : Int) rfl rfl Try.underlying23 (.int .i64 0) 8 info3 rfl (by decide) (by omega) 0 (ok := fun _ => True) (okp := fun _ => True) rfl (fun _ hk => hk) trivial (of_decide_eq_true (by assumption)) (Nat.le_trans (Nat.mul_le_mul_right _ (of_decide_eq_true (by assumption) : (l0_0.length : Int).toNat ≤ 35184372088832)) (by omega)) (Below.refl _ _) (Nat.le_refl _) ?_; intro v160 w32 ho33 hb hg_ hnew_; clear hg_ hnew_; (first | rw [← Ny159.out] at ho33 | (simp only [Int.reduceToNat] at ho33; rw [← Ny159.out] at ho33)); have HO161 := Aside0.mk (Kd.R_lower (Kd.R_new' ho33 (Kd.R_lt (by (with_reducible repeat (first | apply Kd.R_alloc | apply Kd.R_drewN | apply Kd.R_drew)); exact HO_3.out))) (below_size (by with_reducible repeat (first | exact HB.out | apply below_alloc | apply pw_below_drewN | apply below_drew1 | refine below_set ?_ GE150.out)))); replace HO_3 := Aside0.mk (Kd.R_elder' (by (with_reducible repeat (first | apply Kd.R_alloc | apply Kd.R_drewN | apply Kd.R_drew)); exact HO_3.out) (Kd.R_base ho33) hb); replace BK150 := Aside0.mk (blk_below (g := gb150) (o := .cells #[.slice A0_0 l0_0.length c0_0, .slice A0_1 l0_1.length c0_1, .int .i64 a0_2] 25 (0, 0)) (by (with_reducible repeat (first | refine blk_drewN ?_ _ | refine blk_drew ?_ | refine blk_alloc ?_ _)); exact BK150.out) hb); replace HB := Aside0.mk (below_step (by with_reducible repeat (first | exact HB.out | apply below_alloc | apply pw_below_drewN | apply below_drew1 | refine below_set ?_ GE150.out)) hb); clear hb ho33; have hcz34_0 : w32.cell? ⟨gb150, 0, none⟩ = some (.slice A0_0 l0_0.length c0_0) := (blk_cell BK150.out 0).trans rfl; have hcz34_1 : w32.cell? ⟨gb150, 1, none⟩ = some (.slice A0_1 l0_1.length c0_1) := (blk_cell BK150.out 1).trans rfl; have hcz34_2 : w32.cell? ⟨gb150, 2, none⟩ = some (.int .i64 a0_2) := (blk_cell BK150.out 2).trans rfl; have hfz34_0 := blk_frozen BK150.out 0; have hfz34_1 := blk_frozen BK150.out 1; have hfz34_2 := blk_frozen BK150.out 2)); try go_wp2_with (first | ((with_reducible refine gate_dst (N := 50) rfl ?_); (try (refine gate_guard (by rfl) ?_; dsimp only)); refine Kd.R_make (Kd.int .i64) _ 3 rfl (N := 50) rfl 23 _ _ rfl (l0_0.length : Int) rfl rfl Try.underlying23 (.int .i64 0) 8 info3 rfl (by decide) (by omega) 0 (ok := fun _ => True) (okp := fun _ => True) rfl (fun _ hk => hk) trivial (of_decide_eq_true (by assumption)) (Nat.le_trans (Nat.mul_le_mul_right _ (of_decide_eq_true (by assumption) : (l0_0.length : Int).toNat ≤ 35184372088832)) (by omega)) (Below.refl _ _) (Nat.le_refl _) ?_; intro v160 w32 ho33 hb hg_ hnew_; clear hg_ hnew_; (first | rw [← Ny159.out] at ho33 | (simp only [Int.reduceToNat] at ho33; rw [← Ny159.out] at ho33)); have HO161 := Aside0.mk (Kd.R_lower (Kd.R_new' ho33 (Kd.R_lt (by (with_reducible repeat (first | apply Kd.R_alloc | apply Kd.R_drewN | apply Kd.R_drew)); exact HO_3.out))) (below_size (by with_reducible repeat (first | exact HB.out | apply below_alloc | apply pw_below_drewN | apply below_drew1 | refine below_set ?_ GE150.out)))); replace HO_3 := Aside0.mk (Kd.R_elder' (by (with_reducible repeat (first | apply Kd.R_alloc | apply Kd.R_drewN | apply Kd.R_drew)); exact HO_3.out) (Kd.R_base ho33) hb); replace BK150 := Aside0.mk (blk_below (g := gb150) (o := .cells #[.slice A0_0 l0_0.length c0_0, .slice A0_1 l0_1.length c0_1, .int .i64 a0_2] 25 (0, 0)) (by (with_reducible repeat (first | refine blk_drewN ?_ _ | refine blk_drew ?_ | refine blk_alloc ?_ _)); exact BK150.out) hb); replace HB := Aside0.mk (below_step (by with_reducible repeat (first | exact HB.out | apply below_alloc | apply pw_below_drewN | apply below_drew1 | refine below_set ?_ GE150.out)) hb); clear hb ho33; have hcz34_0 : w32.cell? ⟨gb150, 0, none⟩ = some (.slice A0_0 l0_0.length c0_0) := (blk_cell BK150.out 0).trans rfl; have hcz34_1 : w32.cell? ⟨gb150, 1, none⟩ = some (.slice A0_1 l0_1.length c0_1) := (blk_cell BK150.out 1).trans rfl; have hcz34_2 : w32.cell? ⟨gb150, 2, none⟩ = some (.int .i64 a0_2) := (blk_cell BK150.out 2).trans rfl; have hfz34_0 := blk_frozen BK150.out 0; have hfz34_1 := blk_frozen BK150.out 1; have hfz34_2 := blk_frozen BK150.out 2)))
           go_loopg [54] k2 (fun kq v54 w' => ∃ (x6_3 : List Int) (x54_3 : Int), v54 = .int .i64 x54_3 ∧ Aside0 (spec_GoodCow.l1 kq x3_2 x6_3 l0_1 (l0_1.length : Int) x54_3 l0_0 l0_1 a0_2 = some r) ∧ Aside0 (kq ≤ k2) ∧ Aside0 (Kd.R (Kd.int .i64) 3 w' w.heap.size (fun k_ => some k_ ≠ (v160 : Value).ownBlock) v154 x3_2) ∧ Aside0 (Kd.R (Kd.int .i64) 3 w' w.heap.size (fun k_ => some k_ ≠ (v154 : Value).ownBlock) v160 x6_3) ∧ Aside0 (w'.heap[gb150]? = some (.cells #[(.slice A0_0 l0_0.length c0_0), (.slice A0_1 l0_1.length c0_1), .int .i64 a0_2] 25 (0, 0))) ∧ Aside0 (Below w.heap.size w w'))
           case atStart => exact ⟨(y159), (0), (by first | rfl | (simp; done) | (simp [*]; done)), H', ⟨Nat.le_refl _⟩, ⟨by (with_reducible repeat (first | apply Kd.R_alloc | apply Kd.R_drewN | apply Kd.R_drew)); exact Kd.R_mono HO_3.out (fun _ hk => hk.2)⟩, ⟨by (with_reducible repeat (first | apply Kd.R_alloc | apply Kd.R_drewN | apply Kd.R_drew)); exact Kd.R_mono HO161.out (fun _ hk => hk.2)⟩, ⟨by (with_reducible repeat (first | refine blk_drewN ?_ _ | refine blk_drew ?_ | refine blk_alloc ?_ _)); exact BK150.out⟩, ⟨by with_reducible repeat (first | exact HB.out | apply below_alloc | apply pw_below_drewN | apply below_drew1 | refine below_set ?_ GE150.out)⟩⟩
           case round =>
            clear H'
            try clear c1
            try clear p1
            try clear q1
            try clear hx1
            try clear c2
            try clear p2
            try clear c3
            try clear c5
            try clear c6
            try clear c6b0
            try clear c6b1
            try clear p6
            try clear c11
            try clear c12
            try clear c12b0
            try clear c12b1
            try clear c13
            try clear c13b0
            try clear c13b1
            try clear p15
            try clear q15
            try clear hx15
            try clear c18
            try clear c18b0
            try clear c19
            try clear c19b0
            try clear c20
            try clear c20b0
            try clear c22
            try clear c29
            try clear c29b0
            try clear c29b1
            try clear c30
            try clear c30b0
            try clear c30b1
            try clear hcz10_0
            try clear hcz10_1
            try clear hcz10_2
            try clear hcz14_0
            try clear hcz14_1
            try clear hcz14_2
            try clear hcz17_0
            try clear hcz17_1
            try clear hcz17_2
            try clear hcz23_0
            try clear hcz23_1
            try clear hcz23_2
            try clear hcz26_0
            try clear hcz26_1
            try clear hcz26_2
            try clear hcz31_0
            try clear hcz31_1
            try clear hcz31_2
            try clear hcz34_0
            try clear hcz34_1
            try clear hcz34_2
            try clear hcz7_0
            try clear hcz7_1
            try clear hcz7_2
            try clear hcz9_0
            try clear hcz9_1
            try clear hcz9_2
            try clear hfz10_0
            try clear hfz10_1
            try clear hfz10_2
            try clear hfz14_0
            try clear hfz14_1
            try clear hfz14_2
            try clear hfz17_0
            try clear hfz17_1
            try clear hfz17_2
            try clear hfz23_0
            try clear hfz23_1
            try clear hfz23_2
            try clear hfz26_0
            try clear hfz26_1
            try clear hfz26_2
            try clear hfz31_0
            try clear hfz31_1
            try clear hfz31_2
            try clear hfz34_0
            try clear hfz34_1
            try clear hfz34_2
            try clear hfz7_0
            try clear hfz7_1
            try clear hfz7_2
            try clear hfz9_0
            try clear hfz9_1
            try clear hfz9_2
            try clear hx156_0
            try clear p156
            try clear p2
            try clear q156
            obtain ⟨x6_3, x54_3, rfl, HA, HK3, HO_3, HO_6, BK150, HB⟩ := hrel
            cases gk with
            | zero => exact absurd HA.out (by simp [spec_GoodCow.l1])
            | succ k3 =>
             have H := HA.out
             clear HA
             simp only [spec_GoodCow.l1] at H
             by_cases c35 : x54_3 < (l0_1.length : Int)
             ·rw [if_pos c35] at H
              have c35b0 : decide (x54_3 < (l0_1.length : Int)) = true := decide_eq_true c35
              clear c35
              by_cases c36 : 0 ≤ x54_3
              ·rw [if_pos c36] at H
               have c36b0 : decide (0 ≤ x54_3) = true := decide_eq_true c36
               clear c36
               by_cases c37 : x54_3 < (l0_1.length : Int)
               ·rw [if_pos c37] at H
                have c37b0 : decide (x54_3 < (l0_1.length : Int)) = true := decide_eq_true c37
                clear c37
                replace H := Option.bind_eq_some_iff.mp H
                obtain ⟨⟨t163, t164⟩, A380, H⟩ := H
                replace H : (if t163 = true then (spec_GoodCow.l1 k3 x3_2 t164 l0_1 (l0_1.length : Int) (wrap64 (x54_3 + 1)) l0_0 l0_1 a0_2) else (some false)) = some r := H
                have A38 := Aside0.mk A380
                clear A380
                by_cases c39 : t163 = true
                ·subst c39
                 have H1 : (spec_GoodCow.l1 k3 x3_2 t164 l0_1 (l0_1.length : Int) (wrap64 (x54_3 + 1)) l0_0 l0_1 a0_2) = some r := by rw [if_pos rfl] at H; exact H
                 clear H
                 have H := H1
                 clear H1
                 have H' := Aside0.mk H
                 clear H
                 have p162 : 0 ≤ (x54_3 : Int) := of_decide_eq_true (by assumption)
                 have q162 : x54_3 < (l0_1.length : Int) := of_decide_eq_true (by assumption)
                 obtain ⟨ad162, e162, hx162_0⟩ := Kd.at_int HR0_1.out x54_3 p162 q162
                 cases e162
                 replace hx162_0 := (HB.out.cell (World.block_lt_of_cell? w _ hx162_0)).trans hx162_0
                 replace p162 := eq_true p162
                 replace q162 := eq_true q162
                 have hcz40_0 : wr.cell? ⟨gb150, 0, none⟩ = some (.slice A0_0 l0_0.length c0_0) := (blk_cell BK150.out 0).trans rfl
                 have hcz40_1 : wr.cell? ⟨gb150, 1, none⟩ = some (.slice (some ad162) l0_1.length c0_1) := (blk_cell BK150.out 1).trans rfl
                 have hcz40_2 : wr.cell? ⟨gb150, 2, none⟩ = some (.int .i64 a0_2) := (blk_cell BK150.out 2).trans rfl
                 have hfz40_0 := blk_frozen BK150.out 0
                 have hfz40_1 := blk_frozen BK150.out 1
                 have hfz40_2 := blk_frozen BK150.out 2
                 obtain ⟨Ao41, co41, eo41⟩ := Kd.R_slice HO_6.out
                 subst eo41
                 go_wp2_with (first | (go_at_call 55; (with_reducible refine (spec_l14Levels.calls _ _ l0_0 _ _ l0_1 a0_2 (rd l0_1 x54_3) a0_2 (fun k_ => some k_ = (.slice Ao41 x6_3.length co41 : Value).ownBlock) (.slice Ao41 x6_3.length co41) x6_3 true t164 w _ ?side1 ?side2 ?side3 ?side4 ?side5 ?side6 A38.out).mono ?_); (case side1 => with_reducible repeat (first | exact HB.out | apply below_alloc | apply pw_below_drewN | apply below_drew1 | refine below_set ?_ GE150.out)); (case side2 => exact Kd.C_kept_came k68_heap HR0_0.out (by with_reducible repeat (first | exact HB.out | apply below_alloc | apply pw_below_drewN | apply below_drew1 | refine below_set ?_ GE150.out)) (fun k_ hs_ => (fun e_ => Kd.R_base HO_6.out k_ e_.symm) hs_)); (case side3 => exact HC0_0.out); (case side4 => exact Kd.C_kept_came (Kd.heap_int .i64) HR0_1.out (by with_reducible repeat (first | exact HB.out | apply below_alloc | apply pw_below_drewN | apply below_drew1 | refine below_set ?_ GE150.out)) (fun k_ hs_ => (fun e_ => Kd.R_base HO_6.out k_ e_.symm) hs_)); (case side5 => exact HC0_1.out); (case side6 => exact Kd.R_tight rfl HO_6.out); rintro e w42 ⟨rfl, hy0, hb, hkp⟩; replace HO_3 := Aside0.mk (Kd.R_mono (ok' := fun k_ => some k_ ≠ (.slice Ao41 x6_3.length co41 : Value).ownBlock) (Kd.R_keptB (HO_3.out) hkp (fun k_ hk_ hs_ => (hk_) hs_)) (fun k_ hk_ => hk_.1)); replace BK150 := Aside0.mk (blk_kept (by (with_reducible repeat (first | refine blk_drewN ?_ _ | refine blk_drew ?_ | refine blk_alloc ?_ _)); exact BK150.out) hkp (fun hs_ => (fun e_ => (Kd.R_ne HO_6.out BK150.out (by decide)) e_) hs_)); replace HO_6 := Aside0.mk (Kd.R_reok rfl hy0 (fun k_ e_ => HO_6.out.1 k_ e_)); replace HB := Aside0.mk (hb); (try clear hb); (try clear hkp); (try clear hy0)))
                 repeat (go_quiet (first | (go_at_call 55; (with_reducible refine (spec_l14Levels.calls _ _ l0_0 _ _ l0_1 a0_2 (rd l0_1 x54_3) a0_2 (fun k_ => some k_ = (.slice Ao41 x6_3.length co41 : Value).ownBlock) (.slice Ao41 x6_3.length co41) x6_3 true t164 w _ ?side1 ?side2 ?side3 ?side4 ?side5 ?side6 A38.out).mono ?_); (case side1 => with_reducible repeat (first | exact HB.out | apply below_alloc | apply pw_below_drewN | apply below_drew1 | refine below_set ?_ GE150.out)); (case side2 => exact Kd.C_kept_came k68_heap HR0_0.out (by with_reducible repeat (first | exact HB.out | apply below_alloc | apply pw_below_drewN | apply below_drew1 | refine below_set ?_ GE150.out)) (fun k_ hs_ => (fun e_ => Kd.R_base HO_6.out k_ e_.symm) hs_)); (case side3 => exact HC0_0.out); (case side4 => exact Kd.C_kept_came (Kd.heap_int .i64) HR0_1.out (by with_reducible repeat (first | exact HB.out | apply below_alloc | apply pw_below_drewN | apply below_drew1 | refine below_set ?_ GE150.out)) (fun k_ hs_ => (fun e_ => Kd.R_base HO_6.out k_ e_.symm) hs_)); (case side5 => exact HC0_1.out); (case side6 => exact Kd.R_tight rfl HO_6.out); rintro e w42 ⟨rfl, hy0, hb, hkp⟩; replace HO_3 := Aside0.mk (Kd.R_mono (ok' := fun k_ => some k_ ≠ (.slice Ao41 x6_3.length co41 : Value).ownBlock) (Kd.R_keptB (HO_3.out) hkp (fun k_ hk_ hs_ => (hk_) hs_)) (fun k_ hk_ => hk_.1)); replace BK150 := Aside0.mk (blk_kept (by (with_reducible repeat (first | refine blk_drewN ?_ _ | refine blk_drew ?_ | refine blk_alloc ?_ _)); exact BK150.out) hkp (fun hs_ => (fun e_ => (Kd.R_ne HO_6.out BK150.out (by decide)) e_) hs_)); replace HO_6 := Aside0.mk (Kd.R_reok rfl hy0 (fun k_ e_ => HO_6.out.1 k_ e_)); replace HB := Aside0.mk (hb); (try clear hb); (try clear hkp); (try clear hy0))); try go_wp2_with (first | (go_at_call 55; (with_reducible refine (spec_l14Levels.calls _ _ l0_0 _ _ l0_1 a0_2 (rd l0_1 x54_3) a0_2 (fun k_ => some k_ = (.slice Ao41 x6_3.length co41 : Value).ownBlock) (.slice Ao41 x6_3.length co41) x6_3 true t164 w _ ?side1 ?side2 ?side3 ?side4 ?side5 ?side6 A38.out).mono ?_); (case side1 => with_reducible repeat (first | exact HB.out | apply below_alloc | apply pw_below_drewN | apply below_drew1 | refine below_set ?_ GE150.out)); (case side2 => exact Kd.C_kept_came k68_heap HR0_0.out (by with_reducible repeat (first | exact HB.out | apply below_alloc | apply pw_below_drewN | apply below_drew1 | refine below_set ?_ GE150.out)) (fun k_ hs_ => (fun e_ => Kd.R_base HO_6.out k_ e_.symm) hs_)); (case side3 => exact HC0_0.out); (case side4 => exact Kd.C_kept_came (Kd.heap_int .i64) HR0_1.out (by with_reducible repeat (first | exact HB.out | apply below_alloc | apply pw_below_drewN | apply below_drew1 | refine below_set ?_ GE150.out)) (fun k_ hs_ => (fun e_ => Kd.R_base HO_6.out k_ e_.symm) hs_)); (case side5 => exact HC0_1.out); (case side6 => exact Kd.R_tight rfl HO_6.out); rintro e w42 ⟨rfl, hy0, hb, hkp⟩; replace HO_3 := Aside0.mk (Kd.R_mono (ok' := fun k_ => some k_ ≠ (.slice Ao41 x6_3.length co41 : Value).ownBlock) (Kd.R_keptB (HO_3.out) hkp (fun k_ hk_ hs_ => (hk_) hs_)) (fun k_ hk_ => hk_.1)); replace BK150 := Aside0.mk (blk_kept (by (with_reducible repeat (first | refine blk_drewN ?_ _ | refine blk_drew ?_ | refine blk_alloc ?_ _)); exact BK150.out) hkp (fun hs_ => (fun e_ => (Kd.R_ne HO_6.out BK150.out (by decide)) e_) hs_)); replace HO_6 := Aside0.mk (Kd.R_reok rfl hy0 (fun k_ e_ => HO_6.out.1 k_ e_)); replace HB := Aside0.mk (hb); (try clear hb); (try clear hkp); (try clear hy0))))
                 go_roundg k3
                 case measure => have := HJ1.out; have := HK2.out; have := HK3.out; omega
                 case rel => exact ⟨(t164), (wrap64 (x54_3 + 1)), (by first | rfl | (simp; done) | (simp [*]; done)), H', ⟨by have := HJ1.out; have := HK2.out; have := HK3.out; omega⟩, ⟨by (with_reducible repeat (first | apply Kd.R_alloc | apply Kd.R_drewN | apply Kd.R_drew)); exact HO_3.out⟩, ⟨by (with_reducible repeat (first | apply Kd.R_alloc | apply Kd.R_drewN | apply Kd.R_drew)); exact HO_6.out⟩, ⟨by (with_reducible repeat (first | refine blk_drewN ?_ _ | refine blk_drew ?_ | refine blk_alloc ?_ _)); exact BK150.out⟩, ⟨by with_reducible repeat (first | exact HB.out | apply below_alloc | apply pw_below_drewN | apply below_drew1 | refine below_set ?_ GE150.out)⟩⟩
                ·replace c39 := Bool.eq_false_iff.mpr c39
                 subst c39
                 have H1 : (some false) = some r := by rw [if_neg (show ¬ (false = true) by decide)] at H; exact H
                 clear H
                 have H := H1
                 clear H1
                 obtain rfl := Option.some.inj H
                 have p162 : 0 ≤ (x54_3 : Int) := of_decide_eq_true (by assumption)
                 have q162 : x54_3 < (l0_1.length : Int) := of_decide_eq_true (by assumption)
                 obtain ⟨ad162, e162, hx162_0⟩ := Kd.at_int HR0_1.out x54_3 p162 q162
                 cases e162
                 replace hx162_0 := (HB.out.cell (World.block_lt_of_cell? w _ hx162_0)).trans hx162_0
                 replace p162 := eq_true p162
                 replace q162 := eq_true q162
                 have hcz43_0 : wr.cell? ⟨gb150, 0, none⟩ = some (.slice A0_0 l0_0.length c0_0) := (blk_cell BK150.out 0).trans rfl
                 have hcz43_1 : wr.cell? ⟨gb150, 1, none⟩ = some (.slice (some ad162) l0_1.length c0_1) := (blk_cell BK150.out 1).trans rfl
                 have hcz43_2 : wr.cell? ⟨gb150, 2, none⟩ = some (.int .i64 a0_2) := (blk_cell BK150.out 2).trans rfl
                 have hfz43_0 := blk_frozen BK150.out 0
                 have hfz43_1 := blk_frozen BK150.out 1
                 have hfz43_2 := blk_frozen BK150.out 2
                 obtain ⟨Ao44, co44, eo44⟩ := Kd.R_slice HO_6.out
                 subst eo44
                 go_wp2_with (first | (go_at_call 55; (with_reducible refine (spec_l14Levels.calls _ _ l0_0 _ _ l0_1 a0_2 (rd l0_1 x54_3) a0_2 (fun k_ => some k_ = (.slice Ao44 x6_3.length co44 : Value).ownBlock) (.slice Ao44 x6_3.length co44) x6_3 false t164 w _ ?side1 ?side2 ?side3 ?side4 ?side5 ?side6 A38.out).mono ?_); (case side1 => with_reducible repeat (first | exact HB.out | apply below_alloc | apply pw_below_drewN | apply below_drew1 | refine below_set ?_ GE150.out)); (case side2 => exact Kd.C_kept_came k68_heap HR0_0.out (by with_reducible repeat (first | exact HB.out | apply below_alloc | apply pw_below_drewN | apply below_drew1 | refine below_set ?_ GE150.out)) (fun k_ hs_ => (fun e_ => Kd.R_base HO_6.out k_ e_.symm) hs_)); (case side3 => exact HC0_0.out); (case side4 => exact Kd.C_kept_came (Kd.heap_int .i64) HR0_1.out (by with_reducible repeat (first | exact HB.out | apply below_alloc | apply pw_below_drewN | apply below_drew1 | refine below_set ?_ GE150.out)) (fun k_ hs_ => (fun e_ => Kd.R_base HO_6.out k_ e_.symm) hs_)); (case side5 => exact HC0_1.out); (case side6 => exact Kd.R_tight rfl HO_6.out); rintro e w45 ⟨rfl, hy0, hb, hkp⟩; replace HO_3 := Aside0.mk (Kd.R_mono (ok' := fun k_ => some k_ ≠ (.slice Ao44 x6_3.length co44 : Value).ownBlock) (Kd.R_keptB (HO_3.out) hkp (fun k_ hk_ hs_ => (hk_) hs_)) (fun k_ hk_ => hk_.1)); replace BK150 := Aside0.mk (blk_kept (by (with_reducible repeat (first | refine blk_drewN ?_ _ | refine blk_drew ?_ | refine blk_alloc ?_ _)); exact BK150.out) hkp (fun hs_ => (fun e_ => (Kd.R_ne HO_6.out BK150.out (by decide)) e_) hs_)); replace HO_6 := Aside0.mk (Kd.R_reok rfl hy0 (fun k_ e_ => HO_6.out.1 k_ e_)); replace HB := Aside0.mk (hb); (try clear hb); (try clear hkp); (try clear hy0)))
                 repeat (go_quiet (first | (go_at_call 55; (with_reducible refine (spec_l14Levels.calls _ _ l0_0 _ _ l0_1 a0_2 (rd l0_1 x54_3) a0_2 (fun k_ => some k_ = (.slice Ao44 x6_3.length co44 : Value).ownBlock) (.slice Ao44 x6_3.length co44) x6_3 false t164 w _ ?side1 ?side2 ?side3 ?side4 ?side5 ?side6 A38.out).mono ?_); (case side1 => with_reducible repeat (first | exact HB.out | apply below_alloc | apply pw_below_drewN | apply below_drew1 | refine below_set ?_ GE150.out)); (case side2 => exact Kd.C_kept_came k68_heap HR0_0.out (by with_reducible repeat (first | exact HB.out | apply below_alloc | apply pw_below_drewN | apply below_drew1 | refine below_set ?_ GE150.out)) (fun k_ hs_ => (fun e_ => Kd.R_base HO_6.out k_ e_.symm) hs_)); (case side3 => exact HC0_0.out); (case side4 => exact Kd.C_kept_came (Kd.heap_int .i64) HR0_1.out (by with_reducible repeat (first | exact HB.out | apply below_alloc | apply pw_below_drewN | apply below_drew1 | refine below_set ?_ GE150.out)) (fun k_ hs_ => (fun e_ => Kd.R_base HO_6.out k_ e_.symm) hs_)); (case side5 => exact HC0_1.out); (case side6 => exact Kd.R_tight rfl HO_6.out); rintro e w45 ⟨rfl, hy0, hb, hkp⟩; replace HO_3 := Aside0.mk (Kd.R_mono (ok' := fun k_ => some k_ ≠ (.slice Ao44 x6_3.length co44 : Value).ownBlock) (Kd.R_keptB (HO_3.out) hkp (fun k_ hk_ hs_ => (hk_) hs_)) (fun k_ hk_ => hk_.1)); replace BK150 := Aside0.mk (blk_kept (by (with_reducible repeat (first | refine blk_drewN ?_ _ | refine blk_drew ?_ | refine blk_alloc ?_ _)); exact BK150.out) hkp (fun hs_ => (fun e_ => (Kd.R_ne HO_6.out BK150.out (by decide)) e_) hs_)); replace HO_6 := Aside0.mk (Kd.R_reok rfl hy0 (fun k_ e_ => HO_6.out.1 k_ e_)); replace HB := Aside0.mk (hb); (try clear hb); (try clear hkp); (try clear hy0))); try go_wp2_with (first | (go_at_call 55; (with_reducible refine (spec_l14Levels.calls _ _ l0_0 _ _ l0_1 a0_2 (rd l0_1 x54_3) a0_2 (fun k_ => some k_ = (.slice Ao44 x6_3.length co44 : Value).ownBlock) (.slice Ao44 x6_3.length co44) x6_3 false t164 w _ ?side1 ?side2 ?side3 ?side4 ?side5 ?side6 A38.out).mono ?_); (case side1 => with_reducible repeat (first | exact HB.out | apply below_alloc | apply pw_below_drewN | apply below_drew1 | refine below_set ?_ GE150.out)); (case side2 => exact Kd.C_kept_came k68_heap HR0_0.out (by with_reducible repeat (first | exact HB.out | apply below_alloc | apply pw_below_drewN | apply below_drew1 | refine below_set ?_ GE150.out)) (fun k_ hs_ => (fun e_ => Kd.R_base HO_6.out k_ e_.symm) hs_)); (case side3 => exact HC0_0.out); (case side4 => exact Kd.C_kept_came (Kd.heap_int .i64) HR0_1.out (by with_reducible repeat (first | exact HB.out | apply below_alloc | apply pw_below_drewN | apply below_drew1 | refine below_set ?_ GE150.out)) (fun k_ hs_ => (fun e_ => Kd.R_base HO_6.out k_ e_.symm) hs_)); (case side5 => exact HC0_1.out); (case side6 => exact Kd.R_tight rfl HO_6.out); rintro e w45 ⟨rfl, hy0, hb, hkp⟩; replace HO_3 := Aside0.mk (Kd.R_mono (ok' := fun k_ => some k_ ≠ (.slice Ao44 x6_3.length co44 : Value).ownBlock) (Kd.R_keptB (HO_3.out) hkp (fun k_ hk_ hs_ => (hk_) hs_)) (fun k_ hk_ => hk_.1)); replace BK150 := Aside0.mk (blk_kept (by (with_reducible repeat (first | refine blk_drewN ?_ _ | refine blk_drew ?_ | refine blk_alloc ?_ _)); exact BK150.out) hkp (fun hs_ => (fun e_ => (Kd.R_ne HO_6.out BK150.out (by decide)) e_) hs_)); replace HO_6 := Aside0.mk (Kd.R_reok rfl hy0 (fun k_ e_ => HO_6.out.1 k_ e_)); replace HB := Aside0.mk (hb); (try clear hb); (try clear hkp); (try clear hy0))))
                 go_ret
                 exact ⟨by first | rfl | (simp [errW_none, errW_some] <;> rfl) | (simp [*, errW_none, errW_some] <;> rfl) | (simp [E.isEmpty_bne]; done) | (rw [E.bne_empty]), by with_reducible repeat (first | exact HB.out | apply below_alloc | apply pw_below_drewN | apply below_drew1 | refine below_set ?_ GE150.out)⟩
               ·rw [if_neg c37] at H
                exact absurd H (by simp)
              ·rw [if_neg c36] at H
               exact absurd H (by simp)
             ·rw [if_neg c35] at H
              have c35b0 : decide (x54_3 < (l0_1.length : Int)) = false := decide_eq_false c35
              clear c35
              have H' := Aside0.mk H
              clear H
              have hcz46_0 : wr.cell? ⟨gb150, 0, none⟩ = some (.slice A0_0 l0_0.length c0_0) := (blk_cell BK150.out 0).trans rfl
              have hcz46_1 : wr.cell? ⟨gb150, 1, none⟩ = some (.slice A0_1 l0_1.length c0_1) := (blk_cell BK150.out 1).trans rfl
              have hcz46_2 : wr.cell? ⟨gb150, 2, none⟩ = some (.int .i64 a0_2) := (blk_cell BK150.out 2).trans rfl
              have hfz46_0 := blk_frozen BK150.out 0
              have hfz46_1 := blk_frozen BK150.out 1
              have hfz46_2 := blk_frozen BK150.out 2
              go_wp2
              repeat (go_quiet (fail); try go_wp2)
              go_loopg [69] k3 (fun kq v69 w' => ∃ (x69_4 : Int), v69 = .int .i64 x69_4 ∧ Aside0 (spec_GoodCow.l2 kq x3_2 l0_0 (l0_0.length : Int) x69_4 = some r) ∧ Aside0 (kq ≤ k3) ∧ Aside0 (Kd.R (Kd.int .i64) 3 w' w.heap.size (fun _ => True) v154 x3_2) ∧ Aside0 (w'.heap[gb150]? = some (.cells #[(.slice A0_0 l0_0.length c0_0), (.slice A0_1 l0_1.length c0_1), .int .i64 a0_2] 25 (0, 0))) ∧ Aside0 (Below w.heap.size w w'))
              case atStart => exact ⟨(0), (by first | rfl | (simp; done) | (simp [*]; done)), H', ⟨Nat.le_refl _⟩, ⟨by (with_reducible repeat (first | apply Kd.R_alloc | apply Kd.R_drewN | apply Kd.R_drew)); exact Kd.R_mono HO_3.out (fun _ hk => trivial)⟩, ⟨by (with_reducible repeat (first | refine blk_drewN ?_ _ | refine blk_drew ?_ | refine blk_alloc ?_ _)); exact BK150.out⟩, ⟨by with_reducible repeat (first | exact HB.out | apply below_alloc | apply pw_below_drewN | apply below_drew1 | refine below_set ?_ GE150.out)⟩⟩
              case round =>
               clear H'
               try clear c1
               try clear p1
               try clear q1
               try clear hx1
               try clear c2
               try clear p2
               try clear c3
               try clear c5
               try clear c6
               try clear c6b0
               try clear c6b1
               try clear p6
               try clear c11
               try clear c12
               try clear c12b0
               try clear c12b1
               try clear c13
               try clear c13b0
               try clear c13b1
               try clear p15
               try clear q15
               try clear hx15
               try clear p16
               try clear q16
               try clear hx16
               try clear c18
               try clear c18b0
               try clear c19
               try clear c19b0
               try clear c20
               try clear c20b0
               try clear c22
               try clear c29
               try clear c29b0
               try clear c29b1
               try clear c30
               try clear c30b0
               try clear c30b1
               try clear c35
               try clear c35b0
               try clear c36
               try clear c36b0
               try clear c37
               try clear c37b0
               try clear c39
               try clear hcz10_0
               try clear hcz10_1
               try clear hcz10_2
               try clear hcz14_0
               try clear hcz14_1
               try clear hcz14_2
               try clear hcz17_0
               try clear hcz17_1
               try clear hcz17_2
               try clear hcz23_0
               try clear hcz23_1
               try clear hcz23_2
               try clear hcz26_0
               try clear hcz26_1
               try clear hcz26_2
               try clear hcz31_0
               try clear hcz31_1
               try clear hcz31_2
               try clear hcz34_0
               try clear hcz34_1
               try clear hcz34_2
               try clear hcz40_0
               try clear hcz40_1
               try clear hcz40_2
               try clear hcz43_0
               try clear hcz43_1
               try clear hcz43_2
               try clear hcz46_0
               try clear hcz46_1
               try clear hcz46_2
               try clear hcz7_0
               try clear hcz7_1
               try clear hcz7_2
               try clear hcz9_0
               try clear hcz9_1
               try clear hcz9_2
               try clear hfz10_0
               try clear hfz10_1
               try clear hfz10_2
               try clear hfz14_0
               try clear hfz14_1
               try clear hfz14_2
               try clear hfz17_0
               try clear hfz17_1
               try clear hfz17_2
               try clear hfz23_0
               try clear hfz23_1
               try clear hfz23_2
               try clear hfz26_0
               try clear hfz26_1
               try clear hfz26_2
               try clear hfz31_0
               try clear hfz31_1
               try clear hfz31_2
               try clear hfz34_0
               try clear hfz34_1
               try clear hfz34_2
               try clear hfz40_0
               try clear hfz40_1
               try clear hfz40_2
               try clear hfz43_0
               try clear hfz43_1
               try clear hfz43_2
               try clear hfz46_0
               try clear hfz46_1
               try clear hfz46_2
               try clear hfz7_0
               try clear hfz7_1
               try clear hfz7_2
               try clear hfz9_0
               try clear hfz9_1
               try clear hfz9_2
               try clear hx156_0
               try clear hx162_0
               try clear p1
               try clear p15
               try clear p156
               try clear p162
               try clear p2
               try clear p6
               try clear q1
               try clear q15
               try clear q156
               try clear q162
               obtain ⟨x69_4, rfl, HA, HK4, HO_3, BK150, HB⟩ := hrel
               cases gk with
               | zero => exact absurd HA.out (by simp [spec_GoodCow.l2])
               | succ k4 =>
                have H := HA.out
                clear HA
                simp only [spec_GoodCow.l2] at H
                by_cases c47 : x69_4 < (l0_0.length : Int)
                ·rw [if_pos c47] at H
                 have c47b0 : decide (x69_4 < (l0_0.length : Int)) = true := decide_eq_true c47
                 clear c47
                 by_cases c48 : 0 ≤ x69_4
                 ·rw [if_pos c48] at H
                  have c48b0 : decide (0 ≤ x69_4) = true := decide_eq_true c48
                  clear c48
                  by_cases c49 : x69_4 < (l0_0.length : Int)
                  ·rw [if_pos c49] at H
                   have c49b0 : decide (x69_4 < (l0_0.length : Int)) = true := decide_eq_true c49
                   clear c49
                   by_cases c50 : x69_4 < (x3_2.length : Int)
                   ·rw [if_pos c50] at H
                    have c50b0 : decide (x69_4 < (x3_2.length : Int)) = true := decide_eq_true c50
                    clear c50
                    by_cases c51 : ((rd_T68 l0_0 x69_4).f0) = (rd x3_2 x69_4)
                    ·rw [if_pos c51] at H
                     have c51b0 : (((rd_T68 l0_0 x69_4).f0) == (rd x3_2 x69_4)) = true := beq_iff_eq.mpr c51
                     have c51b1 : (((rd_T68 l0_0 x69_4).f0) != (rd x3_2 x69_4)) = false := bne_eq_false_iff_eq.mpr c51
                     clear c51
                     by_cases c52 : ((rd_T68 l0_0 x69_4).f0) = 0
                     ·rw [if_pos c52] at H
                      have c52b0 : (((rd_T68 l0_0 x69_4).f0) == 0) = true := beq_iff_eq.mpr c52
                      have c52b1 : (((rd_T68 l0_0 x69_4).f0) != 0) = false := bne_eq_false_iff_eq.mpr c52
                      clear c52
                      by_cases c53 : ((rd_T68 l0_0 x69_4).f1).toList = ([] : List UInt8)
                      ·rw [if_pos c53] at H
                       have c53b0 : (((rd_T68 l0_0 x69_4).f1).toList == ([] : List UInt8)) = true := beq_iff_eq.mpr c53
                       have c53b1 : (((rd_T68 l0_0 x69_4).f1).toList != ([] : List UInt8)) = false := bne_eq_false_iff_eq.mpr c53
                       clear c53
                       by_cases c54 : (((rd_T68 l0_0 x69_4).f2).length : Int) > 0
                       ·rw [if_pos c54] at H
                        have c54b0 : decide (0 < (((rd_T68 l0_0 x69_4).f2).length : Int)) = true := decide_eq_true c54
                        have c54b1 : decide (0 < ((rd_T68 l0_0 x69_4).f2).length) = true := decide_eq_true (by omega)
                        clear c54
                        obtain rfl := Option.some.inj H
                        have p165 : 0 ≤ (x69_4 : Int) := of_decide_eq_true (by assumption)
                        have q165 : x69_4 < (l0_0.length : Int) := of_decide_eq_true (by assumption)
                        obtain ⟨ad165, A165_2, c165_2, e165, hx165_0, hx165_1, hx165_2, hl165_2, hi165_2⟩ := at_T68 HR0_0.out x69_4 p165 q165
                        cases e165
                        replace hx165_0 := (HB.out.cell (World.block_lt_of_cell? w _ hx165_0)).trans hx165_0
                        replace hx165_1 := (HB.out.cell (World.block_lt_of_cell? w _ hx165_1)).trans hx165_1
                        replace hx165_2 := (HB.out.cell (World.block_lt_of_cell? w _ hx165_2)).trans hx165_2
                        have HR165_2 := Aside0.mk hi165_2
                        have HC165_2 := Aside0.mk hl165_2
                        clear hi165_2 hl165_2
                        replace p165 := eq_true p165
                        replace q165 := eq_true q165
                        go_wp2_with (first | ((with_reducible refine gate_dst (N := 10) rfl ?_); (try (refine gate_guard (by rfl) ?_; dsimp only)); refine box_event ?hg (N := 10) ?hd (cs := #[.int .i64 0, .string (⟨#[]⟩ : ByteArray), .slice none 0 0]) (t := 68) ?hr ?_; (case hd => rfl); (case hg => rfl); (case hr => first | (go_simp; done) | (go_simp; rfl)); intro gb166 hg w55 hbox hb; replace HO_3 := Aside0.mk (Kd.R_below (by (with_reducible repeat (first | apply Kd.R_alloc | apply Kd.R_drewN | apply Kd.R_drew)); exact HO_3.out) hb); have BK166 := Aside0.mk (hbox); have GW166 := Aside0.mk ((by rw [hg]; exact (below_size (by with_reducible repeat (first | exact HB.out | apply below_alloc | apply pw_below_drewN | apply below_drew1 | refine below_set ?_ GE150.out))) : w.heap.size ≤ gb166)); have GE166 := Aside0.mk ((by rw [hg]; exact (below_size (by with_reducible repeat (first | exact HB.out | apply below_alloc | apply pw_below_drewN | apply below_drew1 | refine below_set ?_ GE150.out))) : w.heap.size ≤ gb166)); replace HB := Aside0.mk (below_step (by with_reducible repeat (first | exact HB.out | apply below_alloc | apply pw_below_drewN | apply below_drew1 | refine below_set ?_ GE150.out)) hb); have NB150_166 := Aside0.mk ((by rw [hg]; exact Nat.ne_of_lt (blk_lt (g := gb150) (o := .cells #[.slice (some ad165) l0_0.length c0_0, .slice A0_1 l0_1.length c0_1, .int .i64 a0_2] 25 (0, 0)) (by (with_reducible repeat (first | refine blk_drewN ?_ _ | refine blk_drew ?_ | refine blk_alloc ?_ _)); exact BK150.out)) : gb150 ≠ gb166)); have NB166_150 := Aside0.mk ((by rw [hg]; exact Nat.ne_of_gt (blk_lt (g := gb150) (o := .cells #[.slice (some ad165) l0_0.length c0_0, .slice A0_1 l0_1.length c0_1, .int .i64 a0_2] 25 (0, 0)) (by (with_reducible repeat (first | refine blk_drewN ?_ _ | refine blk_drew ?_ | refine blk_alloc ?_ _)); exact BK150.out)) : gb166 ≠ gb150)); replace BK150 := Aside0.mk (blk_below (g := gb150) (o := .cells #[.slice (some ad165) l0_0.length c0_0, .slice A0_1 l0_1.length c0_1, .int .i64 a0_2] 25 (0, 0)) (by (with_reducible repeat (first | refine blk_drewN ?_ _ | refine blk_drew ?_ | refine blk_alloc ?_ _)); exact BK150.out) hb); clear hb hbox hg; have hnb56 := NB166_150.out; have hnc56 := NB150_166.out; have hcz57_0 : w55.cell? ⟨gb166, 0, none⟩ = some (.int .i64 0) := (blk_cell BK166.out 0).trans rfl; have hcz57_1 : w55.cell? ⟨gb166, 1, none⟩ = some (.string (⟨#[]⟩ : ByteArray)) := (blk_cell BK166.out 1).trans rfl; have hcz57_2 : w55.cell? ⟨gb166, 2, none⟩ = some (.slice none 0 0) := (blk_cell BK166.out 2).trans rfl; have hfz57_0 := blk_frozen BK166.out 0; have hfz57_1 := blk_frozen BK166.out 1; have hfz57_2 := blk_frozen BK166.out 2; obtain ⟨Ao58, co58, eo58⟩ := Kd.R_slice HO_3.out; subst eo58; have p167 : 0 ≤ (x69_4 : Int) := of_decide_eq_true (by assumption); have q167 : x69_4 < (x3_2.length : Int) := of_decide_eq_true (by assumption); obtain ⟨ad167, e167, hx167_0⟩ := Kd.at_int (Kd.R_reads' HO_3.out).2.2 x69_4 p167 q167; cases e167; have hn167_0 : ad167.block ≠ gb166 := Kd.own_blk (Kd.R_ne HO_3.out BK166.out (by decide)); have hn167_1 : ad167.block ≠ gb166 := Kd.own_blk (Kd.R_ne HO_3.out BK166.out (by decide)); have hn167_2 : ad167.block ≠ gb166 := Kd.own_blk (Kd.R_ne HO_3.out BK166.out (by decide)); replace hx167_0 := (cell_far (p := ⟨gb166, 0, none⟩) (by first | (rw [add_block]; exact hn167_0) | (show (Addr.add _ _).block ≠ _; rw [add_block]; exact hn167_0) | exact hn167_0) (.int .i64 ((rd_T68 l0_0 x69_4).f0))).trans hx167_0; replace hx167_0 := (cell_far (p := ⟨gb166, 1, none⟩) (by first | (rw [add_block]; exact hn167_1) | (show (Addr.add _ _).block ≠ _; rw [add_block]; exact hn167_1) | exact hn167_1) (.string ((rd_T68 l0_0 x69_4).f1))).trans hx167_0; replace hx167_0 := (cell_far (p := ⟨gb166, 2, none⟩) (by first | (rw [add_block]; exact hn167_2) | (show (Addr.add _ _).block ≠ _; rw [add_block]; exact hn167_2) | exact hn167_2) (.slice A165_2 ((rd_T68 l0_0 x69_4).f2).length c165_2)).trans hx167_0; (try have hy167_0 := fun (n_ : Nat) => (show (((((w55.drewN n_).setCell ⟨gb166, 0, none⟩ (.int .i64 ((rd_T68 l0_0 x69_4).f0))).setCell ⟨gb166, 1, none⟩ (.string ((rd_T68 l0_0 x69_4).f1))).setCell ⟨gb166, 2, none⟩ (.slice A165_2 ((rd_T68 l0_0 x69_4).f2).length c165_2))).cell? _ = some _ from hx167_0)); clear hn167_0; clear hn167_1; clear hn167_2; replace p167 := eq_true p167; replace q167 := eq_true q167))
                        repeat (go_quiet (first | ((with_reducible refine gate_dst (N := 10) rfl ?_); (try (refine gate_guard (by rfl) ?_; dsimp only)); refine box_event ?hg (N := 10) ?hd (cs := #[.int .i64 0, .string (⟨#[]⟩ : ByteArray), .slice none 0 0]) (t := 68) ?hr ?_; (case hd => rfl); (case hg => rfl); (case hr => first | (go_simp; done) | (go_simp; rfl)); intro gb166 hg w55 hbox hb; replace HO_3 := Aside0.mk (Kd.R_below (by (with_reducible repeat (first | apply Kd.R_alloc | apply Kd.R_drewN | apply Kd.R_drew)); exact HO_3.out) hb); have BK166 := Aside0.mk (hbox); have GW166 := Aside0.mk ((by rw [hg]; exact (below_size (by with_reducible repeat (first | exact HB.out | apply below_alloc | apply pw_below_drewN | apply below_drew1 | refine below_set ?_ GE150.out))) : w.heap.size ≤ gb166)); have GE166 := Aside0.mk ((by rw [hg]; exact (below_size (by with_reducible repeat (first | exact HB.out | apply below_alloc | apply pw_below_drewN | apply below_drew1 | refine below_set ?_ GE150.out))) : w.heap.size ≤ gb166)); replace HB := Aside0.mk (below_step (by with_reducible repeat (first | exact HB.out | apply below_alloc | apply pw_below_drewN | apply below_drew1 | refine below_set ?_ GE150.out)) hb); have NB150_166 := Aside0.mk ((by rw [hg]; exact Nat.ne_of_lt (blk_lt (g := gb150) (o := .cells #[.slice (some ad165) l0_0.length c0_0, .slice A0_1 l0_1.length c0_1, .int .i64 a0_2] 25 (0, 0)) (by (with_reducible repeat (first | refine blk_drewN ?_ _ | refine blk_drew ?_ | refine blk_alloc ?_ _)); exact BK150.out)) : gb150 ≠ gb166)); have NB166_150 := Aside0.mk ((by rw [hg]; exact Nat.ne_of_gt (blk_lt (g := gb150) (o := .cells #[.slice (some ad165) l0_0.length c0_0, .slice A0_1 l0_1.length c0_1, .int .i64 a0_2] 25 (0, 0)) (by (with_reducible repeat (first | refine blk_drewN ?_ _ | refine blk_drew ?_ | refine blk_alloc ?_ _)); exact BK150.out)) : gb166 ≠ gb150)); replace BK150 := Aside0.mk (blk_below (g := gb150) (o := .cells #[.slice (some ad165) l0_0.length c0_0, .slice A0_1 l0_1.length c0_1, .int .i64 a0_2] 25 (0, 0)) (by (with_reducible repeat (first | refine blk_drewN ?_ _ | refine blk_drew ?_ | refine blk_alloc ?_ _)); exact BK150.out) hb); clear hb hbox hg; have hnb56 := NB166_150.out; have hnc56 := NB150_166.out; have hcz57_0 : w55.cell? ⟨gb166, 0, none⟩ = some (.int .i64 0) := (blk_cell BK166.out 0).trans rfl; have hcz57_1 : w55.cell? ⟨gb166, 1, none⟩ = some (.string (⟨#[]⟩ : ByteArray)) := (blk_cell BK166.out 1).trans rfl; have hcz57_2 : w55.cell? ⟨gb166, 2, none⟩ = some (.slice none 0 0) := (blk_cell BK166.out 2).trans rfl; have hfz57_0 := blk_frozen BK166.out 0; have hfz57_1 := blk_frozen BK166.out 1; have hfz57_2 := blk_frozen BK166.out 2; obtain ⟨Ao58, co58, eo58⟩ := Kd.R_slice HO_3.out; subst eo58; have p167 : 0 ≤ (x69_4 : Int) := of_decide_eq_true (by assumption); have q167 : x69_4 < (x3_2.length : Int) := of_decide_eq_true (by assumption); obtain ⟨ad167, e167, hx167_0⟩ := Kd.at_int (Kd.R_reads' HO_3.out).2.2 x69_4 p167 q167; cases e167; have hn167_0 : ad167.block ≠ gb166 := Kd.own_blk (Kd.R_ne HO_3.out BK166.out (by decide)); have hn167_1 : ad167.block ≠ gb166 := Kd.own_blk (Kd.R_ne HO_3.out BK166.out (by decide)); have hn167_2 : ad167.block ≠ gb166 := Kd.own_blk (Kd.R_ne HO_3.out BK166.out (by decide)); replace hx167_0 := (cell_far (p := ⟨gb166, 0, none⟩) (by first | (rw [add_block]; exact hn167_0) | (show (Addr.add _ _).block ≠ _; rw [add_block]; exact hn167_0) | exact hn167_0) (.int .i64 ((rd_T68 l0_0 x69_4).f0))).trans hx167_0; replace hx167_0 := (cell_far (p := ⟨gb166, 1, none⟩) (by first | (rw [add_block]; exact hn167_1) | (show (Addr.add _ _).block ≠ _; rw [add_block]; exact hn167_1) | exact hn167_1) (.string ((rd_T68 l0_0 x69_4).f1))).trans hx167_0; replace hx167_0 := (cell_far (p := ⟨gb166, 2, none⟩) (by first | (rw [add_block]; exact hn167_2) | (show (Addr.add _ _).block ≠ _; rw [add_block]; exact hn167_2) | exact hn167_2) (.slice A165_2 ((rd_T68 l0_0 x69_4).f2).length c165_2)).trans hx167_0; (try have hy167_0 := fun (n_ : Nat) => (show (((((w55.drewN n_).setCell ⟨gb166, 0, none⟩ (.int .i64 ((rd_T68 l0_0 x69_4).f0))).setCell ⟨gb166, 1, none⟩ (.string ((rd_T68 l0_0 x69_4).f1))).setCell ⟨gb166, 2, none⟩ (.slice A165_2 ((rd_T68 l0_0 x69_4).f2).length c165_2))).cell? _ = some _ from hx167_0)); clear hn167_0; clear hn167_1; clear hn167_2; replace p167 := eq_true p167; replace q167 := eq_true q167)); try go_wp2_with (first | ((with_reducible refine gate_dst (N := 10) rfl ?_); (try (refine gate_guard (by rfl) ?_; dsimp only)); refine box_event ?hg (N := 10) ?hd (cs := #[.int .i64 0, .string (⟨#[]⟩ : ByteArray), .slice none 0 0]) (t := 68) ?hr ?_; (case hd => rfl); (case hg => rfl); (case hr => first | (go_simp; done) | (go_simp; rfl)); intro gb166 hg w55 hbox hb; replace HO_3 := Aside0.mk (Kd.R_below (by (with_reducible repeat (first | apply Kd.R_alloc | apply Kd.R_drewN | apply Kd.R_drew)); exact HO_3.out) hb); have BK166 := Aside0.mk (hbox); have GW166 := Aside0.mk ((by rw [hg]; exact (below_size (by with_reducible repeat (first | exact HB.out | apply below_alloc | apply pw_below_drewN | apply below_drew1 | refine below_set ?_ GE150.out))) : w.heap.size ≤ gb166)); have GE166 := Aside0.mk ((by rw [hg]; exact (below_size (by with_reducible repeat (first | exact HB.out | apply below_alloc | apply pw_below_drewN | apply below_drew1 | refine below_set ?_ GE150.out))) : w.heap.size ≤ gb166)); replace HB := Aside0.mk (below_step (by with_reducible repeat (first | exact HB.out | apply below_alloc | apply pw_below_drewN | apply below_drew1 | refine below_set ?_ GE150.out)) hb); have NB150_166 := Aside0.mk ((by rw [hg]; exact Nat.ne_of_lt (blk_lt (g := gb150) (o := .cells #[.slice (some ad165) l0_0.length c0_0, .slice A0_1 l0_1.length c0_1, .int .i64 a0_2] 25 (0, 0)) (by (with_reducible repeat (first | refine blk_drewN ?_ _ | refine blk_drew ?_ | refine blk_alloc ?_ _)); exact BK150.out)) : gb150 ≠ gb166)); have NB166_150 := Aside0.mk ((by rw [hg]; exact Nat.ne_of_gt (blk_lt (g := gb150) (o := .cells #[.slice (some ad165) l0_0.length c0_0, .slice A0_1 l0_1.length c0_1, .int .i64 a0_2] 25 (0, 0)) (by (with_reducible repeat (first | refine blk_drewN ?_ _ | refine blk_drew ?_ | refine blk_alloc ?_ _)); exact BK150.out)) : gb166 ≠ gb150)); replace BK150 := Aside0.mk (blk_below (g := gb150) (o := .cells #[.slice (some ad165) l0_0.length c0_0, .slice A0_1 l0_1.length c0_1, .int .i64 a0_2] 25 (0, 0)) (by (with_reducible repeat (first | refine blk_drewN ?_ _ | refine blk_drew ?_ | refine blk_alloc ?_ _)); exact BK150.out) hb); clear hb hbox hg; have hnb56 := NB166_150.out; have hnc56 := NB150_166.out; have hcz57_0 : w55.cell? ⟨gb166, 0, none⟩ = some (.int .i64 0) := (blk_cell BK166.out 0).trans rfl; have hcz57_1 : w55.cell? ⟨gb166, 1, none⟩ = some (.string (⟨#[]⟩ : ByteArray)) := (blk_cell BK166.out 1).trans rfl; have hcz57_2 : w55.cell? ⟨gb166, 2, none⟩ = some (.slice none 0 0) := (blk_cell BK166.out 2).trans rfl; have hfz57_0 := blk_frozen BK166.out 0; have hfz57_1 := blk_frozen BK166.out 1; have hfz57_2 := blk_frozen BK166.out 2; obtain ⟨Ao58, co58, eo58⟩ := Kd.R_slice HO_3.out; subst eo58; have p167 : 0 ≤ (x69_4 : Int) := of_decide_eq_true (by assumption); have q167 : x69_4 < (x3_2.length : Int) := of_decide_eq_true (by assumption); obtain ⟨ad167, e167, hx167_0⟩ := Kd.at_int (Kd.R_reads' HO_3.out).2.2 x69_4 p167 q167; cases e167; have hn167_0 : ad167.block ≠ gb166 := Kd.own_blk (Kd.R_ne HO_3.out BK166.out (by decide)); have hn167_1 : ad167.block ≠ gb166 := Kd.own_blk (Kd.R_ne HO_3.out BK166.out (by decide)); have hn167_2 : ad167.block ≠ gb166 := Kd.own_blk (Kd.R_ne HO_3.out BK166.out (by decide)); replace hx167_0 := (cell_far (p := ⟨gb166, 0, none⟩) (by first | (rw [add_block]; exact hn167_0) | (show (Addr.add _ _).block ≠ _; rw [add_block]; exact hn167_0) | exact hn167_0) (.int .i64 ((rd_T68 l0_0 x69_4).f0))).trans hx167_0; replace hx167_0 := (cell_far (p := ⟨gb166, 1, none⟩) (by first | (rw [add_block]; exact hn167_1) | (show (Addr.add _ _).block ≠ _; rw [add_block]; exact hn167_1) | exact hn167_1) (.string ((rd_T68 l0_0 x69_4).f1))).trans hx167_0; replace hx167_0 := (cell_far (p := ⟨gb166, 2, none⟩) (by first | (rw [add_block]; exact hn167_2) | (show (Addr.add _ _).block ≠ _; rw [add_block]; exact hn167_2) | exact hn167_2) (.slice A165_2 ((rd_T68 l0_0 x69_4).f2).length c165_2)).trans hx167_0; (try have hy167_0 := fun (n_ : Nat) => (show (((((w55.drewN n_).setCell ⟨gb166, 0, none⟩ (.int .i64 ((rd_T68 l0_0 x69_4).f0))).setCell ⟨gb166, 1, none⟩ (.string ((rd_T68 l0_0 x69_4).f1))).setCell ⟨gb166, 2, none⟩ (.slice A165_2 ((rd_T68 l0_0 x69_4).f2).length c165_2))).cell? _ = some _ from hx167_0)); clear hn167_0; clear hn167_1; clear hn167_2; replace p167 := eq_true p167; replace q167 := eq_true q167)))
                        go_ret
                        exact ⟨by first | rfl | (simp [errW_none, errW_some] <;> rfl) | (simp [*, errW_none, errW_some] <;> rfl) | (simp [E.isEmpty_bne]; done) | (rw [E.bne_empty]), by with_reducible repeat (first | exact HB.out | apply below_alloc | apply pw_below_drewN | apply below_drew1 | refine below_set ?_ GE150.out | refine below_set ?_ GE166.out)⟩
                       ·rw [if_neg c54] at H
                        have c54b0 : decide (0 < (((rd_T68 l0_0 x69_4).f2).length : Int)) = false := decide_eq_false c54
                        have c54b1 : decide (0 < ((rd_T68 l0_0 x69_4).f2).length) = false := decide_eq_false (by omega)
                        clear c54
                        have H' := Aside0.mk H
                        clear H
                        have p165 : 0 ≤ (x69_4 : Int) := of_decide_eq_true (by assumption)
                        have q165 : x69_4 < (l0_0.length : Int) := of_decide_eq_true (by assumption)
                        obtain ⟨ad165, A165_2, c165_2, e165, hx165_0, hx165_1, hx165_2, hl165_2, hi165_2⟩ := at_T68 HR0_0.out x69_4 p165 q165
                        cases e165
                        replace hx165_0 := (HB.out.cell (World.block_lt_of_cell? w _ hx165_0)).trans hx165_0
                        replace hx165_1 := (HB.out.cell (World.block_lt_of_cell? w _ hx165_1)).trans hx165_1
                        replace hx165_2 := (HB.out.cell (World.block_lt_of_cell? w _ hx165_2)).trans hx165_2
                        have HR165_2 := Aside0.mk hi165_2
                        have HC165_2 := Aside0.mk hl165_2
                        clear hi165_2 hl165_2
                        replace p165 := eq_true p165
                        replace q165 := eq_true q165
                        go_wp2_with (first | ((with_reducible refine gate_dst (N := 10) rfl ?_); (try (refine gate_guard (by rfl) ?_; dsimp only)); refine box_event ?hg (N := 10) ?hd (cs := #[.int .i64 0, .string (⟨#[]⟩ : ByteArray), .slice none 0 0]) (t := 68) ?hr ?_; (case hd => rfl); (case hg => rfl); (case hr => first | (go_simp; done) | (go_simp; rfl)); intro gb166 hg w59 hbox hb; replace HO_3 := Aside0.mk (Kd.R_below (by (with_reducible repeat (first | apply Kd.R_alloc | apply Kd.R_drewN | apply Kd.R_drew)); exact HO_3.out) hb); have BK166 := Aside0.mk (hbox); have GW166 := Aside0.mk ((by rw [hg]; exact (below_size (by with_reducible repeat (first | exact HB.out | apply below_alloc | apply pw_below_drewN | apply below_drew1 | refine below_set ?_ GE150.out))) : w.heap.size ≤ gb166)); have GE166 := Aside0.mk ((by rw [hg]; exact (below_size (by with_reducible repeat (first | exact HB.out | apply below_alloc | apply pw_below_drewN | apply below_drew1 | refine below_set ?_ GE150.out))) : w.heap.size ≤ gb166)); replace HB := Aside0.mk (below_step (by with_reducible repeat (first | exact HB.out | apply below_alloc | apply pw_below_drewN | apply below_drew1 | refine below_set ?_ GE150.out)) hb); have NB150_166 := Aside0.mk ((by rw [hg]; exact Nat.ne_of_lt (blk_lt (g := gb150) (o := .cells #[.slice (some ad165) l0_0.length c0_0, .slice A0_1 l0_1.length c0_1, .int .i64 a0_2] 25 (0, 0)) (by (with_reducible repeat (first | refine blk_drewN ?_ _ | refine blk_drew ?_ | refine blk_alloc ?_ _)); exact BK150.out)) : gb150 ≠ gb166)); have NB166_150 := Aside0.mk ((by rw [hg]; exact Nat.ne_of_gt (blk_lt (g := gb150) (o := .cells #[.slice (some ad165) l0_0.length c0_0, .slice A0_1 l0_1.length c0_1, .int .i64 a0_2] 25 (0, 0)) (by (with_reducible repeat (first | refine blk_drewN ?_ _ | refine blk_drew ?_ | refine blk_alloc ?_ _)); exact BK150.out)) : gb166 ≠ gb150)); replace BK150 := Aside0.mk (blk_below (g := gb150) (o := .cells #[.slice (some ad165) l0_0.length c0_0, .slice A0_1 l0_1.length c0_1, .int .i64 a0_2] 25 (0, 0)) (by (with_reducible repeat (first | refine blk_drewN ?_ _ | refine blk_drew ?_ | refine blk_alloc ?_ _)); exact BK150.out) hb); clear hb hbox hg; have hnb60 := NB166_150.out; have hnc60 := NB150_166.out; have hcz61_0 : w59.cell? ⟨gb166, 0, none⟩ = some (.int .i64 0) := (blk_cell BK166.out 0).trans rfl; have hcz61_1 : w59.cell? ⟨gb166, 1, none⟩ = some (.string (⟨#[]⟩ : ByteArray)) := (blk_cell BK166.out 1).trans rfl; have hcz61_2 : w59.cell? ⟨gb166, 2, none⟩ = some (.slice none 0 0) := (blk_cell BK166.out 2).trans rfl; have hfz61_0 := blk_frozen BK166.out 0; have hfz61_1 := blk_frozen BK166.out 1; have hfz61_2 := blk_frozen BK166.out 2; obtain ⟨Ao62, co62, eo62⟩ := Kd.R_slice HO_3.out; subst eo62; have p167 : 0 ≤ (x69_4 : Int) := of_decide_eq_true (by assumption); have q167 : x69_4 < (x3_2.length : Int) := of_decide_eq_true (by assumption); obtain ⟨ad167, e167, hx167_0⟩ := Kd.at_int (Kd.R_reads' HO_3.out).2.2 x69_4 p167 q167; cases e167; have hn167_0 : ad167.block ≠ gb166 := Kd.own_blk (Kd.R_ne HO_3.out BK166.out (by decide)); have hn167_1 : ad167.block ≠ gb166 := Kd.own_blk (Kd.R_ne HO_3.out BK166.out (by decide)); have hn167_2 : ad167.block ≠ gb166 := Kd.own_blk (Kd.R_ne HO_3.out BK166.out (by decide)); replace hx167_0 := (cell_far (p := ⟨gb166, 0, none⟩) (by first | (rw [add_block]; exact hn167_0) | (show (Addr.add _ _).block ≠ _; rw [add_block]; exact hn167_0) | exact hn167_0) (.int .i64 ((rd_T68 l0_0 x69_4).f0))).trans hx167_0; replace hx167_0 := (cell_far (p := ⟨gb166, 1, none⟩) (by first | (rw [add_block]; exact hn167_1) | (show (Addr.add _ _).block ≠ _; rw [add_block]; exact hn167_1) | exact hn167_1) (.string ((rd_T68 l0_0 x69_4).f1))).trans hx167_0; replace hx167_0 := (cell_far (p := ⟨gb166, 2, none⟩) (by first | (rw [add_block]; exact hn167_2) | (show (Addr.add _ _).block ≠ _; rw [add_block]; exact hn167_2) | exact hn167_2) (.slice A165_2 ((rd_T68 l0_0 x69_4).f2).length c165_2)).trans hx167_0; (try have hy167_0 := fun (n_ : Nat) => (show (((((w59.drewN n_).setCell ⟨gb166, 0, none⟩ (.int .i64 ((rd_T68 l0_0 x69_4).f0))).setCell ⟨gb166, 1, none⟩ (.string ((rd_T68 l0_0 x69_4).f1))).setCell ⟨gb166, 2, none⟩ (.slice A165_2 ((rd_T68 l0_0 x69_4).f2).length c165_2))).cell? _ = some _ from hx167_0)); clear hn167_0; clear hn167_1; clear hn167_2; replace p167 := eq_true p167; replace q167 := eq_true q167))
                        repeat (go_quiet (first | ((with_reducible refine gate_dst (N := 10) rfl ?_); (try (refine gate_guard (by rfl) ?_; dsimp only)); refine box_event ?hg (N := 10) ?hd (cs := #[.int .i64 0, .string (⟨#[]⟩ : ByteArray), .slice none 0 0]) (t := 68) ?hr ?_; (case hd => rfl); (case hg => rfl); (case hr => first | (go_simp; done) | (go_simp; rfl)); intro gb166 hg w59 hbox hb; replace HO_3 := Aside0.mk (Kd.R_below (by (with_reducible repeat (first | apply Kd.R_alloc | apply Kd.R_drewN | apply Kd.R_drew)); exact HO_3.out) hb); have BK166 := Aside0.mk (hbox); have GW166 := Aside0.mk ((by rw [hg]; exact (below_size (by with_reducible repeat (first | exact HB.out | apply below_alloc | apply pw_below_drewN | apply below_drew1 | refine below_set ?_ GE150.out))) : w.heap.size ≤ gb166)); have GE166 := Aside0.mk ((by rw [hg]; exact (below_size (by with_reducible repeat (first | exact HB.out | apply below_alloc | apply pw_below_drewN | apply below_drew1 | refine below_set ?_ GE150.out))) : w.heap.size ≤ gb166)); replace HB := Aside0.mk (below_step (by with_reducible repeat (first | exact HB.out | apply below_alloc | apply pw_below_drewN | apply below_drew1 | refine below_set ?_ GE150.out)) hb); have NB150_166 := Aside0.mk ((by rw [hg]; exact Nat.ne_of_lt (blk_lt (g := gb150) (o := .cells #[.slice (some ad165) l0_0.length c0_0, .slice A0_1 l0_1.length c0_1, .int .i64 a0_2] 25 (0, 0)) (by (with_reducible repeat (first | refine blk_drewN ?_ _ | refine blk_drew ?_ | refine blk_alloc ?_ _)); exact BK150.out)) : gb150 ≠ gb166)); have NB166_150 := Aside0.mk ((by rw [hg]; exact Nat.ne_of_gt (blk_lt (g := gb150) (o := .cells #[.slice (some ad165) l0_0.length c0_0, .slice A0_1 l0_1.length c0_1, .int .i64 a0_2] 25 (0, 0)) (by (with_reducible repeat (first | refine blk_drewN ?_ _ | refine blk_drew ?_ | refine blk_alloc ?_ _)); exact BK150.out)) : gb166 ≠ gb150)); replace BK150 := Aside0.mk (blk_below (g := gb150) (o := .cells #[.slice (some ad165) l0_0.length c0_0, .slice A0_1 l0_1.length c0_1, .int .i64 a0_2] 25 (0, 0)) (by (with_reducible repeat (first | refine blk_drewN ?_ _ | refine blk_drew ?_ | refine blk_alloc ?_ _)); exact BK150.out) hb); clear hb hbox hg; have hnb60 := NB166_150.out; have hnc60 := NB150_166.out; have hcz61_0 : w59.cell? ⟨gb166, 0, none⟩ = some (.int .i64 0) := (blk_cell BK166.out 0).trans rfl; have hcz61_1 : w59.cell? ⟨gb166, 1, none⟩ = some (.string (⟨#[]⟩ : ByteArray)) := (blk_cell BK166.out 1).trans rfl; have hcz61_2 : w59.cell? ⟨gb166, 2, none⟩ = some (.slice none 0 0) := (blk_cell BK166.out 2).trans rfl; have hfz61_0 := blk_frozen BK166.out 0; have hfz61_1 := blk_frozen BK166.out 1; have hfz61_2 := blk_frozen BK166.out 2; obtain ⟨Ao62, co62, eo62⟩ := Kd.R_slice HO_3.out; subst eo62; have p167 : 0 ≤ (x69_4 : Int) := of_decide_eq_true (by assumption); have q167 : x69_4 < (x3_2.length : Int) := of_decide_eq_true (by assumption); obtain ⟨ad167, e167, hx167_0⟩ := Kd.at_int (Kd.R_reads' HO_3.out).2.2 x69_4 p167 q167; cases e167; have hn167_0 : ad167.block ≠ gb166 := Kd.own_blk (Kd.R_ne HO_3.out BK166.out (by decide)); have hn167_1 : ad167.block ≠ gb166 := Kd.own_blk (Kd.R_ne HO_3.out BK166.out (by decide)); have hn167_2 : ad167.block ≠ gb166 := Kd.own_blk (Kd.R_ne HO_3.out BK166.out (by decide)); replace hx167_0 := (cell_far (p := ⟨gb166, 0, none⟩) (by first | (rw [add_block]; exact hn167_0) | (show (Addr.add _ _).block ≠ _; rw [add_block]; exact hn167_0) | exact hn167_0) (.int .i64 ((rd_T68 l0_0 x69_4).f0))).trans hx167_0; replace hx167_0 := (cell_far (p := ⟨gb166, 1, none⟩) (by first | (rw [add_block]; exact hn167_1) | (show (Addr.add _ _).block ≠ _; rw [add_block]; exact hn167_1) | exact hn167_1) (.string ((rd_T68 l0_0 x69_4).f1))).trans hx167_0; replace hx167_0 := (cell_far (p := ⟨gb166, 2, none⟩) (by first | (rw [add_block]; exact hn167_2) | (show (Addr.add _ _).block ≠ _; rw [add_block]; exact hn167_2) | exact hn167_2) (.slice A165_2 ((rd_T68 l0_0 x69_4).f2).length c165_2)).trans hx167_0; (try have hy167_0 := fun (n_ : Nat) => (show (((((w59.drewN n_).setCell ⟨gb166, 0, none⟩ (.int .i64 ((rd_T68 l0_0 x69_4).f0))).setCell ⟨gb166, 1, none⟩ (.string ((rd_T68 l0_0 x69_4).f1))).setCell ⟨gb166, 2, none⟩ (.slice A165_2 ((rd_T68 l0_0 x69_4).f2).length c165_2))).cell? _ = some _ from hx167_0)); clear hn167_0; clear hn167_1; clear hn167_2; replace p167 := eq_true p167; replace q167 := eq_true q167)); try go_wp2_with (first | ((with_reducible refine gate_dst (N := 10) rfl ?_); (try (refine gate_guard (by rfl) ?_; dsimp only)); refine box_event ?hg (N := 10) ?hd (cs := #[.int .i64 0, .string (⟨#[]⟩ : ByteArray), .slice none 0 0]) (t := 68) ?hr ?_; (case hd => rfl); (case hg => rfl); (case hr => first | (go_simp; done) | (go_simp; rfl)); intro gb166 hg w59 hbox hb; replace HO_3 := Aside0.mk (Kd.R_below (by (with_reducible repeat (first | apply Kd.R_alloc | apply Kd.R_drewN | apply Kd.R_drew)); exact HO_3.out) hb); have BK166 := Aside0.mk (hbox); have GW166 := Aside0.mk ((by rw [hg]; exact (below_size (by with_reducible repeat (first | exact HB.out | apply below_alloc | apply pw_below_drewN | apply below_drew1 | refine below_set ?_ GE150.out))) : w.heap.size ≤ gb166)); have GE166 := Aside0.mk ((by rw [hg]; exact (below_size (by with_reducible repeat (first | exact HB.out | apply below_alloc | apply pw_below_drewN | apply below_drew1 | refine below_set ?_ GE150.out))) : w.heap.size ≤ gb166)); replace HB := Aside0.mk (below_step (by with_reducible repeat (first | exact HB.out | apply below_alloc | apply pw_below_drewN | apply below_drew1 | refine below_set ?_ GE150.out)) hb); have NB150_166 := Aside0.mk ((by rw [hg]; exact Nat.ne_of_lt (blk_lt (g := gb150) (o := .cells #[.slice (some ad165) l0_0.length c0_0, .slice A0_1 l0_1.length c0_1, .int .i64 a0_2] 25 (0, 0)) (by (with_reducible repeat (first | refine blk_drewN ?_ _ | refine blk_drew ?_ | refine blk_alloc ?_ _)); exact BK150.out)) : gb150 ≠ gb166)); have NB166_150 := Aside0.mk ((by rw [hg]; exact Nat.ne_of_gt (blk_lt (g := gb150) (o := .cells #[.slice (some ad165) l0_0.length c0_0, .slice A0_1 l0_1.length c0_1, .int .i64 a0_2] 25 (0, 0)) (by (with_reducible repeat (first | refine blk_drewN ?_ _ | refine blk_drew ?_ | refine blk_alloc ?_ _)); exact BK150.out)) : gb166 ≠ gb150)); replace BK150 := Aside0.mk (blk_below (g := gb150) (o := .cells #[.slice (some ad165) l0_0.length c0_0, .slice A0_1 l0_1.length c0_1, .int .i64 a0_2] 25 (0, 0)) (by (with_reducible repeat (first | refine blk_drewN ?_ _ | refine blk_drew ?_ | refine blk_alloc ?_ _)); exact BK150.out) hb); clear hb hbox hg; have hnb60 := NB166_150.out; have hnc60 := NB150_166.out; have hcz61_0 : w59.cell? ⟨gb166, 0, none⟩ = some (.int .i64 0) := (blk_cell BK166.out 0).trans rfl; have hcz61_1 : w59.cell? ⟨gb166, 1, none⟩ = some (.string (⟨#[]⟩ : ByteArray)) := (blk_cell BK166.out 1).trans rfl; have hcz61_2 : w59.cell? ⟨gb166, 2, none⟩ = some (.slice none 0 0) := (blk_cell BK166.out 2).trans rfl; have hfz61_0 := blk_frozen BK166.out 0; have hfz61_1 := blk_frozen BK166.out 1; have hfz61_2 := blk_frozen BK166.out 2; obtain ⟨Ao62, co62, eo62⟩ := Kd.R_slice HO_3.out; subst eo62; have p167 : 0 ≤ (x69_4 : Int) := of_decide_eq_true (by assumption); have q167 : x69_4 < (x3_2.length : Int) := of_decide_eq_true (by assumption); obtain ⟨ad167, e167, hx167_0⟩ := Kd.at_int (Kd.R_reads' HO_3.out).2.2 x69_4 p167 q167; cases e167; have hn167_0 : ad167.block ≠ gb166 := Kd.own_blk (Kd.R_ne HO_3.out BK166.out (by decide)); have hn167_1 : ad167.block ≠ gb166 := Kd.own_blk (Kd.R_ne HO_3.out BK166.out (by decide)); have hn167_2 : ad167.block ≠ gb166 := Kd.own_blk (Kd.R_ne HO_3.out BK166.out (by decide)); replace hx167_0 := (cell_far (p := ⟨gb166, 0, none⟩) (by first | (rw [add_block]; exact hn167_0) | (show (Addr.add _ _).block ≠ _; rw [add_block]; exact hn167_0) | exact hn167_0) (.int .i64 ((rd_T68 l0_0 x69_4).f0))).trans hx167_0; replace hx167_0 := (cell_far (p := ⟨gb166, 1, none⟩) (by first | (rw [add_block]; exact hn167_1) | (show (Addr.add _ _).block ≠ _; rw [add_block]; exact hn167_1) | exact hn167_1) (.string ((rd_T68 l0_0 x69_4).f1))).trans hx167_0; replace hx167_0 := (cell_far (p := ⟨gb166, 2, none⟩) (by first | (rw [add_block]; exact hn167_2) | (show (Addr.add _ _).block ≠ _; rw [add_block]; exact hn167_2) | exact hn167_2) (.slice A165_2 ((rd_T68 l0_0 x69_4).f2).length c165_2)).trans hx167_0; (try have hy167_0 := fun (n_ : Nat) => (show (((((w59.drewN n_).setCell ⟨gb166, 0, none⟩ (.int .i64 ((rd_T68 l0_0 x69_4).f0))).setCell ⟨gb166, 1, none⟩ (.string ((rd_T68 l0_0 x69_4).f1))).setCell ⟨gb166, 2, none⟩ (.slice A165_2 ((rd_T68 l0_0 x69_4).f2).length c165_2))).cell? _ = some _ from hx167_0)); clear hn167_0; clear hn167_1; clear hn167_2; replace p167 := eq_true p167; replace q167 := eq_true q167)))
                        go_roundg k4
                        case measure => have := HJ1.out; have := HK2.out; have := HK3.out; have := HK4.out; omega
                        case rel => exact ⟨(wrap64 (x69_4 + 1)), (by first | rfl | (simp; done) | (simp [*]; done)), H', ⟨by have := HJ1.out; have := HK2.out; have := HK3.out; have := HK4.out; omega⟩, ⟨by (with_reducible repeat (first | apply Kd.R_alloc | apply Kd.R_drewN | apply Kd.R_drew)); exact Kd.R_mono (Kd.R_far (p := ⟨gb166, 2, none⟩) (Kd.R_far (p := ⟨gb166, 1, none⟩) (Kd.R_far (p := ⟨gb166, 0, none⟩) (Kd.R_types HO_3.out BK166.out (by decide)) (fun _ hk => hk.2) (.int .i64 ((rd_T68 l0_0 x69_4).f0))) (fun _ hk => hk.2) (.string ((rd_T68 l0_0 x69_4).f1))) (fun _ hk => hk.2) (.slice A165_2 ((rd_T68 l0_0 x69_4).f2).length c165_2)) (fun _ hk => trivial)⟩, ⟨by (with_reducible repeat (first | refine blk_drewN ?_ _ | refine blk_drew ?_ | refine blk_alloc ?_ _)); refine blk_far ?_ NB150_166.out _; (with_reducible repeat (first | refine blk_drewN ?_ _ | refine blk_drew ?_ | refine blk_alloc ?_ _)); refine blk_far ?_ NB150_166.out _; (with_reducible repeat (first | refine blk_drewN ?_ _ | refine blk_drew ?_ | refine blk_alloc ?_ _)); refine blk_far ?_ NB150_166.out _; (with_reducible repeat (first | refine blk_drewN ?_ _ | refine blk_drew ?_ | refine blk_alloc ?_ _)); exact BK150.out⟩, ⟨by with_reducible repeat (first | exact HB.out | apply below_alloc | apply pw_below_drewN | apply below_drew1 | refine below_set ?_ GE150.out | refine below_set ?_ GE166.out)⟩⟩
                      ·rw [if_neg c53] at H
                       have c53b0 : (((rd_T68 l0_0 x69_4).f1).toList == ([] : List UInt8)) = false := beq_eq_false_iff_ne.mpr c53
                       have c53b1 : (((rd_T68 l0_0 x69_4).f1).toList != ([] : List UInt8)) = true := bne_iff_ne.mpr c53
                       obtain rfl := Option.some.inj H
                       have p165 : 0 ≤ (x69_4 : Int) := of_decide_eq_true (by assumption)
                       have q165 : x69_4 < (l0_0.length : Int) := of_decide_eq_true (by assumption)
                       obtain ⟨ad165, A165_2, c165_2, e165, hx165_0, hx165_1, hx165_2, hl165_2, hi165_2⟩ := at_T68 HR0_0.out x69_4 p165 q165
                       cases e165
                       replace hx165_0 := (HB.out.cell (World.block_lt_of_cell? w _ hx165_0)).trans hx165_0
                       replace hx165_1 := (HB.out.cell (World.block_lt_of_cell? w _ hx165_1)).trans hx165_1
                       replace hx165_2 := (HB.out.cell (World.block_lt_of_cell? w _ hx165_2)).trans hx165_2
                       have HR165_2 := Aside0.mk hi165_2
                       have HC165_2 := Aside0.mk hl165_2
                       clear hi165_2 hl165_2
                       replace p165 := eq_true p165
                       replace q165 := eq_true q165
                       go_wp2_with (first | ((with_reducible refine gate_dst (N := 10) rfl ?_); (try (refine gate_guard (by rfl) ?_; dsimp only)); refine box_event ?hg (N := 10) ?hd (cs := #[.int .i64 0, .string (⟨#[]⟩ : ByteArray), .slice none 0 0]) (t := 68) ?hr ?_; (case hd => rfl); (case hg => rfl); (case hr => first | (go_simp; done) | (go_simp; rfl)); intro gb166 hg w63 hbox hb; replace HO_3 := Aside0.mk (Kd.R_below (by (with_reducible repeat (first | apply Kd.R_alloc | apply Kd.R_drewN | apply Kd.R_drew)); exact HO_3.out) hb); have BK166 := Aside0.mk (hbox); have GW166 := Aside0.mk ((by rw [hg]; exact (below_size (by with_reducible repeat (first | exact HB.out | apply below_alloc | apply pw_below_drewN | apply below_drew1 | refine below_set ?_ GE150.out))) : w.heap.size ≤ gb166)); have GE166 := Aside0.mk ((by rw [hg]; exact (below_size (by with_reducible repeat (first | exact HB.out | apply below_alloc | apply pw_below_drewN | apply below_drew1 | refine below_set ?_ GE150.out))) : w.heap.size ≤ gb166)); replace HB := Aside0.mk (below_step (by with_reducible repeat (first | exact HB.out | apply below_alloc | apply pw_below_drewN | apply below_drew1 | refine below_set ?_ GE150.out)) hb); have NB150_166 := Aside0.mk ((by rw [hg]; exact Nat.ne_of_lt (blk_lt (g := gb150) (o := .cells #[.slice (some ad165) l0_0.length c0_0, .slice A0_1 l0_1.length c0_1, .int .i64 a0_2] 25 (0, 0)) (by (with_reducible repeat (first | refine blk_drewN ?_ _ | refine blk_drew ?_ | refine blk_alloc ?_ _)); exact BK150.out)) : gb150 ≠ gb166)); have NB166_150 := Aside0.mk ((by rw [hg]; exact Nat.ne_of_gt (blk_lt (g := gb150) (o := .cells #[.slice (some ad165) l0_0.length c0_0, .slice A0_1 l0_1.length c0_1, .int .i64 a0_2] 25 (0, 0)) (by (with_reducible repeat (first | refine blk_drewN ?_ _ | refine blk_drew ?_ | refine blk_alloc ?_ _)); exact BK150.out)) : gb166 ≠ gb150)); replace BK150 := Aside0.mk (blk_below (g := gb150) (o := .cells #[.slice (some ad165) l0_0.length c0_0, .slice A0_1 l0_1.length c0_1, .int .i64 a0_2] 25 (0, 0)) (by (with_reducible repeat (first | refine blk_drewN ?_ _ | refine blk_drew ?_ | refine blk_alloc ?_ _)); exact BK150.out) hb); clear hb hbox hg; have hnb64 := NB166_150.out; have hnc64 := NB150_166.out; have hcz65_0 : w63.cell? ⟨gb166, 0, none⟩ = some (.int .i64 0) := (blk_cell BK166.out 0).trans rfl; have hcz65_1 : w63.cell? ⟨gb166, 1, none⟩ = some (.string (⟨#[]⟩ : ByteArray)) := (blk_cell BK166.out 1).trans rfl; have hcz65_2 : w63.cell? ⟨gb166, 2, none⟩ = some (.slice none 0 0) := (blk_cell BK166.out 2).trans rfl; have hfz65_0 := blk_frozen BK166.out 0; have hfz65_1 := blk_frozen BK166.out 1; have hfz65_2 := blk_frozen BK166.out 2; obtain ⟨Ao66, co66, eo66⟩ := Kd.R_slice HO_3.out; subst eo66; have p167 : 0 ≤ (x69_4 : Int) := of_decide_eq_true (by assumption); have q167 : x69_4 < (x3_2.length : Int) := of_decide_eq_true (by assumption); obtain ⟨ad167, e167, hx167_0⟩ := Kd.at_int (Kd.R_reads' HO_3.out).2.2 x69_4 p167 q167; cases e167; have hn167_0 : ad167.block ≠ gb166 := Kd.own_blk (Kd.R_ne HO_3.out BK166.out (by decide)); have hn167_1 : ad167.block ≠ gb166 := Kd.own_blk (Kd.R_ne HO_3.out BK166.out (by decide)); have hn167_2 : ad167.block ≠ gb166 := Kd.own_blk (Kd.R_ne HO_3.out BK166.out (by decide)); replace hx167_0 := (cell_far (p := ⟨gb166, 0, none⟩) (by first | (rw [add_block]; exact hn167_0) | (show (Addr.add _ _).block ≠ _; rw [add_block]; exact hn167_0) | exact hn167_0) (.int .i64 ((rd_T68 l0_0 x69_4).f0))).trans hx167_0; replace hx167_0 := (cell_far (p := ⟨gb166, 1, none⟩) (by first | (rw [add_block]; exact hn167_1) | (show (Addr.add _ _).block ≠ _; rw [add_block]; exact hn167_1) | exact hn167_1) (.string ((rd_T68 l0_0 x69_4).f1))).trans hx167_0; replace hx167_0 := (cell_far (p := ⟨gb166, 2, none⟩) (by first | (rw [add_block]; exact hn167_2) | (show (Addr.add _ _).block ≠ _; rw [add_block]; exact hn167_2) | exact hn167_2) (.slice A165_2 ((rd_T68 l0_0 x69_4).f2).length c165_2)).trans hx167_0; (try have hy167_0 := fun (n_ : Nat) => (show (((((w63.drewN n_).setCell ⟨gb166, 0, none⟩ (.int .i64 ((rd_T68 l0_0 x69_4).f0))).setCell ⟨gb166, 1, none⟩ (.string ((rd_T68 l0_0 x69_4).f1))).setCell ⟨gb166, 2, none⟩ (.slice A165_2 ((rd_T68 l0_0 x69_4).f2).length c165_2))).cell? _ = some _ from hx167_0)); clear hn167_0; clear hn167_1; clear hn167_2; replace p167 := eq_true p167; replace q167 := eq_true q167))
                       repeat (go_quiet (first | ((with_reducible refine gate_dst (N := 10) rfl ?_); (try (refine gate_guard (by rfl) ?_; dsimp only)); refine box_event ?hg (N := 10) ?hd (cs := #[.int .i64 0, .string (⟨#[]⟩ : ByteArray), .slice none 0 0]) (t := 68) ?hr ?_; (case hd => rfl); (case hg => rfl); (case hr => first | (go_simp; done) | (go_simp; rfl)); intro gb166 hg w63 hbox hb; replace HO_3 := Aside0.mk (Kd.R_below (by (with_reducible repeat (first | apply Kd.R_alloc | apply Kd.R_drewN | apply Kd.R_drew)); exact HO_3.out) hb); have BK166 := Aside0.mk (hbox); have GW166 := Aside0.mk ((by rw [hg]; exact (below_size (by with_reducible repeat (first | exact HB.out | apply below_alloc | apply pw_below_drewN | apply below_drew1 | refine below_set ?_ GE150.out))) : w.heap.size ≤ gb166)); have GE166 := Aside0.mk ((by rw [hg]; exact (below_size (by with_reducible repeat (first | exact HB.out | apply below_alloc | apply pw_below_drewN | apply below_drew1 | refine below_set ?_ GE150.out))) : w.heap.size ≤ gb166)); replace HB := Aside0.mk (below_step (by with_reducible repeat (first | exact HB.out | apply below_alloc | apply pw_below_drewN | apply below_drew1 | refine below_set ?_ GE150.out)) hb); have NB150_166 := Aside0.mk ((by rw [hg]; exact Nat.ne_of_lt (blk_lt (g := gb150) (o := .cells #[.slice (some ad165) l0_0.length c0_0, .slice A0_1 l0_1.length c0_1, .int .i64 a0_2] 25 (0, 0)) (by (with_reducible repeat (first | refine blk_drewN ?_ _ | refine blk_drew ?_ | refine blk_alloc ?_ _)); exact BK150.out)) : gb150 ≠ gb166)); have NB166_150 := Aside0.mk ((by rw [hg]; exact Nat.ne_of_gt (blk_lt (g := gb150) (o := .cells #[.slice (some ad165) l0_0.length c0_0, .slice A0_1 l0_1.length c0_1, .int .i64 a0_2] 25 (0, 0)) (by (with_reducible repeat (first | refine blk_drewN ?_ _ | refine blk_drew ?_ | refine blk_alloc ?_ _)); exact BK150.out)) : gb166 ≠ gb150)); replace BK150 := Aside0.mk (blk_below (g := gb150) (o := .cells #[.slice (some ad165) l0_0.length c0_0, .slice A0_1 l0_1.length c0_1, .int .i64 a0_2] 25 (0, 0)) (by (with_reducible repeat (first | refine blk_drewN ?_ _ | refine blk_drew ?_ | refine blk_alloc ?_ _)); exact BK150.out) hb); clear hb hbox hg; have hnb64 := NB166_150.out; have hnc64 := NB150_166.out; have hcz65_0 : w63.cell? ⟨gb166, 0, none⟩ = some (.int .i64 0) := (blk_cell BK166.out 0).trans rfl; have hcz65_1 : w63.cell? ⟨gb166, 1, none⟩ = some (.string (⟨#[]⟩ : ByteArray)) := (blk_cell BK166.out 1).trans rfl; have hcz65_2 : w63.cell? ⟨gb166, 2, none⟩ = some (.slice none 0 0) := (blk_cell BK166.out 2).trans rfl; have hfz65_0 := blk_frozen BK166.out 0; have hfz65_1 := blk_frozen BK166.out 1; have hfz65_2 := blk_frozen BK166.out 2; obtain ⟨Ao66, co66, eo66⟩ := Kd.R_slice HO_3.out; subst eo66; have p167 : 0 ≤ (x69_4 : Int) := of_decide_eq_true (by assumption); have q167 : x69_4 < (x3_2.length : Int) := of_decide_eq_true (by assumption); obtain ⟨ad167, e167, hx167_0⟩ := Kd.at_int (Kd.R_reads' HO_3.out).2.2 x69_4 p167 q167; cases e167; have hn167_0 : ad167.block ≠ gb166 := Kd.own_blk (Kd.R_ne HO_3.out BK166.out (by decide)); have hn167_1 : ad167.block ≠ gb166 := Kd.own_blk (Kd.R_ne HO_3.out BK166.out (by decide)); have hn167_2 : ad167.block ≠ gb166 := Kd.own_blk (Kd.R_ne HO_3.out BK166.out (by decide)); replace hx167_0 := (cell_far (p := ⟨gb166, 0, none⟩) (by first | (rw [add_block]; exact hn167_0) | (show (Addr.add _ _).block ≠ _; rw [add_block]; exact hn167_0) | exact hn167_0) (.int .i64 ((rd_T68 l0_0 x69_4).f0))).trans hx167_0; replace hx167_0 := (cell_far (p := ⟨gb166, 1, none⟩) (by first | (rw [add_block]; exact hn167_1) | (show (Addr.add _ _).block ≠ _; rw [add_block]; exact hn167_1) | exact hn167_1) (.string ((rd_T68 l0_0 x69_4).f1))).trans hx167_0; replace hx167_0 := (cell_far (p := ⟨gb166, 2, none⟩) (by first | (rw [add_block]; exact hn167_2) | (show (Addr.add _ _).block ≠ _; rw [add_block]; exact hn167_2) | exact hn167_2) (.slice A165_2 ((rd_T68 l0_0 x69_4).f2).length c165_2)).trans hx167_0; (try have hy167_0 := fun (n_ : Nat) => (show (((((w63.drewN n_).setCell ⟨gb166, 0, none⟩ (.int .i64 ((rd_T68 l0_0 x69_4).f0))).setCell ⟨gb166, 1, none⟩ (.string ((rd_T68 l0_0 x69_4).f1))).setCell ⟨gb166, 2, none⟩ (.slice A165_2 ((rd_T68 l0_0 x69_4).f2).length c165_2))).cell? _ = some _ from hx167_0)); clear hn167_0; clear hn167_1; clear hn167_2; replace p167 := eq_true p167; replace q167 := eq_true q167)); try go_wp2_with (first | ((with_reducible refine gate_dst (N := 10) rfl ?_); (try (refine gate_guard (by rfl) ?_; dsimp only)); refine box_event ?hg (N := 10) ?hd (cs := #[.int .i64 0, .string (⟨#[]⟩ : ByteArray), .slice none 0 0]) (t := 68) ?hr ?_; (case hd => rfl); (case hg => rfl); (case hr => first | (go_simp; done) | (go_simp; rfl)); intro gb166 hg w63 hbox hb; replace HO_3 := Aside0.mk (Kd.R_below (by (with_reducible repeat (first | apply Kd.R_alloc | apply Kd.R_drewN | apply Kd.R_drew)); exact HO_3.out) hb); have BK166 := Aside0.mk (hbox); have GW166 := Aside0.mk ((by rw [hg]; exact (below_size (by with_reducible repeat (first | exact HB.out | apply below_alloc | apply pw_below_drewN | apply below_drew1 | refine below_set ?_ GE150.out))) : w.heap.size ≤ gb166)); have GE166 := Aside0.mk ((by rw [hg]; exact (below_size (by with_reducible repeat (first | exact HB.out | apply below_alloc | apply pw_below_drewN | apply below_drew1 | refine below_set ?_ GE150.out))) : w.heap.size ≤ gb166)); replace HB := Aside0.mk (below_step (by with_reducible repeat (first | exact HB.out | apply below_alloc | apply pw_below_drewN | apply below_drew1 | refine below_set ?_ GE150.out)) hb); have NB150_166 := Aside0.mk ((by rw [hg]; exact Nat.ne_of_lt (blk_lt (g := gb150) (o := .cells #[.slice (some ad165) l0_0.length c0_0, .slice A0_1 l0_1.length c0_1, .int .i64 a0_2] 25 (0, 0)) (by (with_reducible repeat (first | refine blk_drewN ?_ _ | refine blk_drew ?_ | refine blk_alloc ?_ _)); exact BK150.out)) : gb150 ≠ gb166)); have NB166_150 := Aside0.mk ((by rw [hg]; exact Nat.ne_of_gt (blk_lt (g := gb150) (o := .cells #[.slice (some ad165) l0_0.length c0_0, .slice A0_1 l0_1.length c0_1, .int .i64 a0_2] 25 (0, 0)) (by (with_reducible repeat (first | refine blk_drewN ?_ _ | refine blk_drew ?_ | refine blk_alloc ?_ _)); exact BK150.out)) : gb166 ≠ gb150)); replace BK150 := Aside0.mk (blk_below (g := gb150) (o := .cells #[.slice (some ad165) l0_0.length c0_0, .slice A0_1 l0_1.length c0_1, .int .i64 a0_2] 25 (0, 0)) (by (with_reducible repeat (first | refine blk_drewN ?_ _ | refine blk_drew ?_ | refine blk_alloc ?_ _)); exact BK150.out) hb); clear hb hbox hg; have hnb64 := NB166_150.out; have hnc64 := NB150_166.out; have hcz65_0 : w63.cell? ⟨gb166, 0, none⟩ = some (.int .i64 0) := (blk_cell BK166.out 0).trans rfl; have hcz65_1 : w63.cell? ⟨gb166, 1, none⟩ = some (.string (⟨#[]⟩ : ByteArray)) := (blk_cell BK166.out 1).trans rfl; have hcz65_2 : w63.cell? ⟨gb166, 2, none⟩ = some (.slice none 0 0) := (blk_cell BK166.out 2).trans rfl; have hfz65_0 := blk_frozen BK166.out 0; have hfz65_1 := blk_frozen BK166.out 1; have hfz65_2 := blk_frozen BK166.out 2; obtain ⟨Ao66, co66, eo66⟩ := Kd.R_slice HO_3.out; subst eo66; have p167 : 0 ≤ (x69_4 : Int) := of_decide_eq_true (by assumption); have q167 : x69_4 < (x3_2.length : Int) := of_decide_eq_true (by assumption); obtain ⟨ad167, e167, hx167_0⟩ := Kd.at_int (Kd.R_reads' HO_3.out).2.2 x69_4 p167 q167; cases e167; have hn167_0 : ad167.block ≠ gb166 := Kd.own_blk (Kd.R_ne HO_3.out BK166.out (by decide)); have hn167_1 : ad167.block ≠ gb166 := Kd.own_blk (Kd.R_ne HO_3.out BK166.out (by decide)); have hn167_2 : ad167.block ≠ gb166 := Kd.own_blk (Kd.R_ne HO_3.out BK166.out (by decide)); replace hx167_0 := (cell_far (p := ⟨gb166, 0, none⟩) (by first | (rw [add_block]; exact hn167_0) | (show (Addr.add _ _).block ≠ _; rw [add_block]; exact hn167_0) | exact hn167_0) (.int .i64 ((rd_T68 l0_0 x69_4).f0))).trans hx167_0; replace hx167_0 := (cell_far (p := ⟨gb166, 1, none⟩) (by first | (rw [add_block]; exact hn167_1) | (show (Addr.add _ _).block ≠ _; rw [add_block]; exact hn167_1) | exact hn167_1) (.string ((rd_T68 l0_0 x69_4).f1))).trans hx167_0; replace hx167_0 := (cell_far (p := ⟨gb166, 2, none⟩) (by first | (rw [add_block]; exact hn167_2) | (show (Addr.add _ _).block ≠ _; rw [add_block]; exact hn167_2) | exact hn167_2) (.slice A165_2 ((rd_T68 l0_0 x69_4).f2).length c165_2)).trans hx167_0; (try have hy167_0 := fun (n_ : Nat) => (show (((((w63.drewN n_).setCell ⟨gb166, 0, none⟩ (.int .i64 ((rd_T68 l0_0 x69_4).f0))).setCell ⟨gb166, 1, none⟩ (.string ((rd_T68 l0_0 x69_4).f1))).setCell ⟨gb166, 2, none⟩ (.slice A165_2 ((rd_T68 l0_0 x69_4).f2).length c165_2))).cell? _ = some _ from hx167_0)); clear hn167_0; clear hn167_1; clear hn167_2; replace p167 := eq_true p167; replace q167 := eq_true q167)))
                       go_ret
                       exact ⟨by first | rfl | (simp [errW_none, errW_some] <;> rfl) | (simp [*, errW_none, errW_some] <;> rfl) | (simp [E.isEmpty_bne]; done) | (rw [E.bne_empty]), by with_reducible repeat (first | exact HB.out | apply below_alloc | apply pw_below_drewN | apply below_drew1 | refine below_set ?_ GE150.out | refine below_set ?_ GE166.out)⟩
                     ·rw [if_neg c52] at H
                      have c52b0 : (((rd_T68 l0_0 x69_4).f0) == 0) = false := beq_eq_false_iff_ne.mpr c52
                      have c52b1 : (((rd_T68 l0_0 x69_4).f0) != 0) = true := bne_iff_ne.mpr c52
                      have H' := Aside0.mk H
                      clear H
                      have p165 : 0 ≤ (x69_4 : Int) := of_decide_eq_true (by assumption)
                      have q165 : x69_4 < (l0_0.length : Int) := of_decide_eq_true (by assumption)
                      obtain ⟨ad165, A165_2, c165_2, e165, hx165_0, hx165_1, hx165_2, hl165_2, hi165_2⟩ := at_T68 HR0_0.out x69_4 p165 q165
                      cases e165
                      replace hx165_0 := (HB.out.cell (World.block_lt_of_cell? w _ hx165_0)).trans hx165_0
                      replace hx165_1 := (HB.out.cell (World.block_lt_of_cell? w _ hx165_1)).trans hx165_1
                      replace hx165_2 := (HB.out.cell (World.block_lt_of_cell? w _ hx165_2)).trans hx165_2
                      have HR165_2 := Aside0.mk hi165_2
                      have HC165_2 := Aside0.mk hl165_2
                      clear hi165_2 hl165_2
                      replace p165 := eq_true p165
                      replace q165 := eq_true q165
                      go_wp2_with (first | ((with_reducible refine gate_dst (N := 10) rfl ?_); (try (refine gate_guard (by rfl) ?_; dsimp only)); refine box_event ?hg (N := 10) ?hd (cs := #[.int .i64 0, .string (⟨#[]⟩ : ByteArray), .slice none 0 0]) (t := 68) ?hr ?_; (case hd => rfl); (case hg => rfl); (case hr => first | (go_simp; done) | (go_simp; rfl)); intro gb166 hg w67 hbox hb; replace HO_3 := Aside0.mk (Kd.R_below (by (with_reducible repeat (first | apply Kd.R_alloc | apply Kd.R_drewN | apply Kd.R_drew)); exact HO_3.out) hb); have BK166 := Aside0.mk (hbox); have GW166 := Aside0.mk ((by rw [hg]; exact (below_size (by with_reducible repeat (first | exact HB.out | apply below_alloc | apply pw_below_drewN | apply below_drew1 | refine below_set ?_ GE150.out))) : w.heap.size ≤ gb166)); have GE166 := Aside0.mk ((by rw [hg]; exact (below_size (by with_reducible repeat (first | exact HB.out | apply below_alloc | apply pw_below_drewN | apply below_drew1 | refine below_set ?_ GE150.out))) : w.heap.size ≤ gb166)); replace HB := Aside0.mk (below_step (by with_reducible repeat (first | exact HB.out | apply below_alloc | apply pw_below_drewN | apply below_drew1 | refine below_set ?_ GE150.out)) hb); have NB150_166 := Aside0.mk ((by rw [hg]; exact Nat.ne_of_lt (blk_lt (g := gb150) (o := .cells #[.slice (some ad165) l0_0.length c0_0, .slice A0_1 l0_1.length c0_1, .int .i64 a0_2] 25 (0, 0)) (by (with_reducible repeat (first | refine blk_drewN ?_ _ | refine blk_drew ?_ | refine blk_alloc ?_ _)); exact BK150.out)) : gb150 ≠ gb166)); have NB166_150 := Aside0.mk ((by rw [hg]; exact Nat.ne_of_gt (blk_lt (g := gb150) (o := .cells #[.slice (some ad165) l0_0.length c0_0, .slice A0_1 l0_1.length c0_1, .int .i64 a0_2] 25 (0, 0)) (by (with_reducible repeat (first | refine blk_drewN ?_ _ | refine blk_drew ?_ | refine blk_alloc ?_ _)); exact BK150.out)) : gb166 ≠ gb150)); replace BK150 := Aside0.mk (blk_below (g := gb150) (o := .cells #[.slice (some ad165) l0_0.length c0_0, .slice A0_1 l0_1.length c0_1, .int .i64 a0_2] 25 (0, 0)) (by (with_reducible repeat (first | refine blk_drewN ?_ _ | refine blk_drew ?_ | refine blk_alloc ?_ _)); exact BK150.out) hb); clear hb hbox hg; have hnb68 := NB166_150.out; have hnc68 := NB150_166.out; have hcz69_0 : w67.cell? ⟨gb166, 0, none⟩ = some (.int .i64 0) := (blk_cell BK166.out 0).trans rfl; have hcz69_1 : w67.cell? ⟨gb166, 1, none⟩ = some (.string (⟨#[]⟩ : ByteArray)) := (blk_cell BK166.out 1).trans rfl; have hcz69_2 : w67.cell? ⟨gb166, 2, none⟩ = some (.slice none 0 0) := (blk_cell BK166.out 2).trans rfl; have hfz69_0 := blk_frozen BK166.out 0; have hfz69_1 := blk_frozen BK166.out 1; have hfz69_2 := blk_frozen BK166.out 2; obtain ⟨Ao70, co70, eo70⟩ := Kd.R_slice HO_3.out; subst eo70; have p167 : 0 ≤ (x69_4 : Int) := of_decide_eq_true (by assumption); have q167 : x69_4 < (x3_2.length : Int) := of_decide_eq_true (by assumption); obtain ⟨ad167, e167, hx167_0⟩ := Kd.at_int (Kd.R_reads' HO_3.out).2.2 x69_4 p167 q167; cases e167; have hn167_0 : ad167.block ≠ gb166 := Kd.own_blk (Kd.R_ne HO_3.out BK166.out (by decide)); have hn167_1 : ad167.block ≠ gb166 := Kd.own_blk (Kd.R_ne HO_3.out BK166.out (by decide)); have hn167_2 : ad167.block ≠ gb166 := Kd.own_blk (Kd.R_ne HO_3.out BK166.out (by decide)); replace hx167_0 := (cell_far (p := ⟨gb166, 0, none⟩) (by first | (rw [add_block]; exact hn167_0) | (show (Addr.add _ _).block ≠ _; rw [add_block]; exact hn167_0) | exact hn167_0) (.int .i64 ((rd_T68 l0_0 x69_4).f0))).trans hx167_0; replace hx167_0 := (cell_far (p := ⟨gb166, 1, none⟩) (by first | (rw [add_block]; exact hn167_1) | (show (Addr.add _ _).block ≠ _; rw [add_block]; exact hn167_1) | exact hn167_1) (.string ((rd_T68 l0_0 x69_4).f1))).trans hx167_0; replace hx167_0 := (cell_far (p := ⟨gb166, 2, none⟩) (by first | (rw [add_block]; exact hn167_2) | (show (Addr.add _ _).block ≠ _; rw [add_block]; exact hn167_2) | exact hn167_2) (.slice A165_2 ((rd_T68 l0_0 x69_4).f2).length c165_2)).trans hx167_0; (try have hy167_0 := fun (n_ : Nat) => (show (((((w67.drewN n_).setCell ⟨gb166, 0, none⟩ (.int .i64 ((rd_T68 l0_0 x69_4).f0))).setCell ⟨gb166, 1, none⟩ (.string ((rd_T68 l0_0 x69_4).f1))).setCell ⟨gb166, 2, none⟩ (.slice A165_2 ((rd_T68 l0_0 x69_4).f2).length c165_2))).cell? _ = some _ from hx167_0)); clear hn167_0; clear hn167_1; clear hn167_2; replace p167 := eq_true p167; replace q167 := eq_true q167))
                      repeat (go_quiet (first | ((with_reducible refine gate_dst (N := 10) rfl ?_); (try (refine gate_guard (by rfl) ?_; dsimp only)); refine box_event ?hg (N := 10) ?hd (cs := #[.int .i64 0, .string (⟨#[]⟩ : ByteArray), .slice none 0 0]) (t := 68) ?hr ?_; (case hd => rfl); (case hg => rfl); (case hr => first | (go_simp; done) | (go_simp; rfl)); intro gb166 hg w67 hbox hb; replace HO_3 := Aside0.mk (Kd.R_below (by (with_reducible repeat (first | apply Kd.R_alloc | apply Kd.R_drewN | apply Kd.R_drew)); exact HO_3.out) hb); have BK166 := Aside0.mk (hbox); have GW166 := Aside0.mk ((by rw [hg]; exact (below_size (by with_reducible repeat (first | exact HB.out | apply below_alloc | apply pw_below_drewN | apply below_drew1 | refine below_set ?_ GE150.out))) : w.heap.size ≤ gb166)); have GE166 := Aside0.mk ((by rw [hg]; exact (below_size (by with_reducible repeat (first | exact HB.out | apply below_alloc | apply pw_below_drewN | apply below_drew1 | refine below_set ?_ GE150.out))) : w.heap.size ≤ gb166)); replace HB := Aside0.mk (below_step (by with_reducible repeat (first | exact HB.out | apply below_alloc | apply pw_below_drewN | apply below_drew1 | refine below_set ?_ GE150.out)) hb); have NB150_166 := Aside0.mk ((by rw [hg]; exact Nat.ne_of_lt (blk_lt (g := gb150) (o := .cells #[.slice (some ad165) l0_0.length c0_0, .slice A0_1 l0_1.length c0_1, .int .i64 a0_2] 25 (0, 0)) (by (with_reducible repeat (first | refine blk_drewN ?_ _ | refine blk_drew ?_ | refine blk_alloc ?_ _)); exact BK150.out)) : gb150 ≠ gb166)); have NB166_150 := Aside0.mk ((by rw [hg]; exact Nat.ne_of_gt (blk_lt (g := gb150) (o := .cells #[.slice (some ad165) l0_0.length c0_0, .slice A0_1 l0_1.length c0_1, .int .i64 a0_2] 25 (0, 0)) (by (with_reducible repeat (first | refine blk_drewN ?_ _ | refine blk_drew ?_ | refine blk_alloc ?_ _)); exact BK150.out)) : gb166 ≠ gb150)); replace BK150 := Aside0.mk (blk_below (g := gb150) (o := .cells #[.slice (some ad165) l0_0.length c0_0, .slice A0_1 l0_1.length c0_1, .int .i64 a0_2] 25 (0, 0)) (by (with_reducible repeat (first | refine blk_drewN ?_ _ | refine blk_drew ?_ | refine blk_alloc ?_ _)); exact BK150.out) hb); clear hb hbox hg; have hnb68 := NB166_150.out; have hnc68 := NB150_166.out; have hcz69_0 : w67.cell? ⟨gb166, 0, none⟩ = some (.int .i64 0) := (blk_cell BK166.out 0).trans rfl; have hcz69_1 : w67.cell? ⟨gb166, 1, none⟩ = some (.string (⟨#[]⟩ : ByteArray)) := (blk_cell BK166.out 1).trans rfl; have hcz69_2 : w67.cell? ⟨gb166, 2, none⟩ = some (.slice none 0 0) := (blk_cell BK166.out 2).trans rfl; have hfz69_0 := blk_frozen BK166.out 0; have hfz69_1 := blk_frozen BK166.out 1; have hfz69_2 := blk_frozen BK166.out 2; obtain ⟨Ao70, co70, eo70⟩ := Kd.R_slice HO_3.out; subst eo70; have p167 : 0 ≤ (x69_4 : Int) := of_decide_eq_true (by assumption); have q167 : x69_4 < (x3_2.length : Int) := of_decide_eq_true (by assumption); obtain ⟨ad167, e167, hx167_0⟩ := Kd.at_int (Kd.R_reads' HO_3.out).2.2 x69_4 p167 q167; cases e167; have hn167_0 : ad167.block ≠ gb166 := Kd.own_blk (Kd.R_ne HO_3.out BK166.out (by decide)); have hn167_1 : ad167.block ≠ gb166 := Kd.own_blk (Kd.R_ne HO_3.out BK166.out (by decide)); have hn167_2 : ad167.block ≠ gb166 := Kd.own_blk (Kd.R_ne HO_3.out BK166.out (by decide)); replace hx167_0 := (cell_far (p := ⟨gb166, 0, none⟩) (by first | (rw [add_block]; exact hn167_0) | (show (Addr.add _ _).block ≠ _; rw [add_block]; exact hn167_0) | exact hn167_0) (.int .i64 ((rd_T68 l0_0 x69_4).f0))).trans hx167_0; replace hx167_0 := (cell_far (p := ⟨gb166, 1, none⟩) (by first | (rw [add_block]; exact hn167_1) | (show (Addr.add _ _).block ≠ _; rw [add_block]; exact hn167_1) | exact hn167_1) (.string ((rd_T68 l0_0 x69_4).f1))).trans hx167_0; replace hx167_0 := (cell_far (p := ⟨gb166, 2, none⟩) (by first | (rw [add_block]; exact hn167_2) | (show (Addr.add _ _).block ≠ _; rw [add_block]; exact hn167_2) | exact hn167_2) (.slice A165_2 ((rd_T68 l0_0 x69_4).f2).length c165_2)).trans hx167_0; (try have hy167_0 := fun (n_ : Nat) => (show (((((w67.drewN n_).setCell ⟨gb166, 0, none⟩ (.int .i64 ((rd_T68 l0_0 x69_4).f0))).setCell ⟨gb166, 1, none⟩ (.string ((rd_T68 l0_0 x69_4).f1))).setCell ⟨gb166, 2, none⟩ (.slice A165_2 ((rd_T68 l0_0 x69_4).f2).length c165_2))).cell? _ = some _ from hx167_0)); clear hn167_0; clear hn167_1; clear hn167_2; replace p167 := eq_true p167; replace q167 := eq_true q167)); try go_wp2_with (first | ((with_reducible refine gate_dst (N := 10) rfl ?_); (try (refine gate_guard (by rfl) ?_; dsimp only)); refine box_event ?hg (N := 10) ?hd (cs := #[.int .i64 0, .string (⟨#[]⟩ : ByteArray), .slice none 0 0]) (t := 68) ?hr ?_; (case hd => rfl); (case hg => rfl); (case hr => first | (go_simp; done) | (go_simp; rfl)); intro gb166 hg w67 hbox hb; replace HO_3 := Aside0.mk (Kd.R_below (by (with_reducible repeat (first | apply Kd.R_alloc | apply Kd.R_drewN | apply Kd.R_drew)); exact HO_3.out) hb); have BK166 := Aside0.mk (hbox); have GW166 := Aside0.mk ((by rw [hg]; exact (below_size (by with_reducible repeat (first | exact HB.out | apply below_alloc | apply pw_below_drewN | apply below_drew1 | refine below_set ?_ GE150.out))) : w.heap.size ≤ gb166)); have GE166 := Aside0.mk ((by rw [hg]; exact (below_size (by with_reducible repeat (first | exact HB.out | apply below_alloc | apply pw_below_drewN | apply below_drew1 | refine below_set ?_ GE150.out))) : w.heap.size ≤ gb166)); replace HB := Aside0.mk (below_step (by with_reducible repeat (first | exact HB.out | apply below_alloc | apply pw_below_drewN | apply below_drew1 | refine below_set ?_ GE150.out)) hb); have NB150_166 := Aside0.mk ((by rw [hg]; exact Nat.ne_of_lt (blk_lt (g := gb150) (o := .cells #[.slice (some ad165) l0_0.length c0_0, .slice A0_1 l0_1.length c0_1, .int .i64 a0_2] 25 (0, 0)) (by (with_reducible repeat (first | refine blk_drewN ?_ _ | refine blk_drew ?_ | refine blk_alloc ?_ _)); exact BK150.out)) : gb150 ≠ gb166)); have NB166_150 := Aside0.mk ((by rw [hg]; exact Nat.ne_of_gt (blk_lt (g := gb150) (o := .cells #[.slice (some ad165) l0_0.length c0_0, .slice A0_1 l0_1.length c0_1, .int .i64 a0_2] 25 (0, 0)) (by (with_reducible repeat (first | refine blk_drewN ?_ _ | refine blk_drew ?_ | refine blk_alloc ?_ _)); exact BK150.out)) : gb166 ≠ gb150)); replace BK150 := Aside0.mk (blk_below (g := gb150) (o := .cells #[.slice (some ad165) l0_0.length c0_0, .slice A0_1 l0_1.length c0_1, .int .i64 a0_2] 25 (0, 0)) (by (with_reducible repeat (first | refine blk_drewN ?_ _ | refine blk_drew ?_ | refine blk_alloc ?_ _)); exact BK150.out) hb); clear hb hbox hg; have hnb68 := NB166_150.out; have hnc68 := NB150_166.out; have hcz69_0 : w67.cell? ⟨gb166, 0, none⟩ = some (.int .i64 0) := (blk_cell BK166.out 0).trans rfl; have hcz69_1 : w67.cell? ⟨gb166, 1, none⟩ = some (.string (⟨#[]⟩ : ByteArray)) := (blk_cell BK166.out 1).trans rfl; have hcz69_2 : w67.cell? ⟨gb166, 2, none⟩ = some (.slice none 0 0) := (blk_cell BK166.out 2).trans rfl; have hfz69_0 := blk_frozen BK166.out 0; have hfz69_1 := blk_frozen BK166.out 1; have hfz69_2 := blk_frozen BK166.out 2; obtain ⟨Ao70, co70, eo70⟩ := Kd.R_slice HO_3.out; subst eo70; have p167 : 0 ≤ (x69_4 : Int) := of_decide_eq_true (by assumption); have q167 : x69_4 < (x3_2.length : Int) := of_decide_eq_true (by assumption); obtain ⟨ad167, e167, hx167_0⟩ := Kd.at_int (Kd.R_reads' HO_3.out).2.2 x69_4 p167 q167; cases e167; have hn167_0 : ad167.block ≠ gb166 := Kd.own_blk (Kd.R_ne HO_3.out BK166.out (by decide)); have hn167_1 : ad167.block ≠ gb166 := Kd.own_blk (Kd.R_ne HO_3.out BK166.out (by decide)); have hn167_2 : ad167.block ≠ gb166 := Kd.own_blk (Kd.R_ne HO_3.out BK166.out (by decide)); replace hx167_0 := (cell_far (p := ⟨gb166, 0, none⟩) (by first | (rw [add_block]; exact hn167_0) | (show (Addr.add _ _).block ≠ _; rw [add_block]; exact hn167_0) | exact hn167_0) (.int .i64 ((rd_T68 l0_0 x69_4).f0))).trans hx167_0; replace hx167_0 := (cell_far (p := ⟨gb166, 1, none⟩) (by first | (rw [add_block]; exact hn167_1) | (show (Addr.add _ _).block ≠ _; rw [add_block]; exact hn167_1) | exact hn167_1) (.string ((rd_T68 l0_0 x69_4).f1))).trans hx167_0; replace hx167_0 := (cell_far (p := ⟨gb166, 2, none⟩) (by first | (rw [add_block]; exact hn167_2) | (show (Addr.add _ _).block ≠ _; rw [add_block]; exact hn167_2) | exact hn167_2) (.slice A165_2 ((rd_T68 l0_0 x69_4).f2).length c165_2)).trans hx167_0; (try have hy167_0 := fun (n_ : Nat) => (show (((((w67.drewN n_).setCell ⟨gb166, 0, none⟩ (.int .i64 ((rd_T68 l0_0 x69_4).f0))).setCell ⟨gb166, 1, none⟩ (.string ((rd_T68 l0_0 x69_4).f1))).setCell ⟨gb166, 2, none⟩ (.slice A165_2 ((rd_T68 l0_0 x69_4).f2).length c165_2))).cell? _ = some _ from hx167_0)); clear hn167_0; clear hn167_1; clear hn167_2; replace p167 := eq_true p167; replace q167 := eq_true q167)))
                      go_roundg k4
                      case measure => have := HJ1.out; have := HK2.out; have := HK3.out; have := HK4.out; omega
                      case rel => exact ⟨(wrap64 (x69_4 + 1)), (by first | rfl | (simp; done) | (simp [*]; done)), H', ⟨by have := HJ1.out; have := HK2.out; have := HK3.out; have := HK4.out; omega⟩, ⟨by (with_reducible repeat (first | apply Kd.R_alloc | apply Kd.R_drewN | apply Kd.R_drew)); exact Kd.R_mono (Kd.R_far (p := ⟨gb166, 2, none⟩) (Kd.R_far (p := ⟨gb166, 1, none⟩) (Kd.R_far (p := ⟨gb166, 0, none⟩) (Kd.R_types HO_3.out BK166.out (by decide)) (fun _ hk => hk.2) (.int .i64 ((rd_T68 l0_0 x69_4).f0))) (fun _ hk => hk.2) (.string ((rd_T68 l0_0 x69_4).f1))) (fun _ hk => hk.2) (.slice A165_2 ((rd_T68 l0_0 x69_4).f2).length c165_2)) (fun _ hk => trivial)⟩, ⟨by (with_reducible repeat (first | refine blk_drewN ?_ _ | refine blk_drew ?_ | refine blk_alloc ?_ _)); refine blk_far ?_ NB150_166.out _; (with_reducible repeat (first | refine blk_drewN ?_ _ | refine blk_drew ?_ | refine blk_alloc ?_ _)); refine blk_far ?_ NB150_166.out _; (with_reducible repeat (first | refine blk_drewN ?_ _ | refine blk_drew ?_ | refine blk_alloc ?_ _)); refine blk_far ?_ NB150_166.out _; (with_reducible repeat (first | refine blk_drewN ?_ _ | refine blk_drew ?_ | refine blk_alloc ?_ _)); exact BK150.out⟩, ⟨by with_reducible repeat (first | exact HB.out | apply below_alloc | apply pw_below_drewN | apply below_drew1 | refine below_set ?_ GE150.out | refine below_set ?_ GE166.out)⟩⟩
                    ·rw [if_neg c51] at H
                     have c51b0 : (((rd_T68 l0_0 x69_4).f0) == (rd x3_2 x69_4)) = false := beq_eq_false_iff_ne.mpr c51
                     have c51b1 : (((rd_T68 l0_0 x69_4).f0) != (rd x3_2 x69_4)) = true := bne_iff_ne.mpr c51
                     obtain rfl := Option.some.inj H
                     have p165 : 0 ≤ (x69_4 : Int) := of_decide_eq_true (by assumption)
                     have q165 : x69_4 < (l0_0.length : Int) := of_decide_eq_true (by assumption)
                     obtain ⟨ad165, A165_2, c165_2, e165, hx165_0, hx165_1, hx165_2, hl165_2, hi165_2⟩ := at_T68 HR0_0.out x69_4 p165 q165
                     cases e165
                     replace hx165_0 := (HB.out.cell (World.block_lt_of_cell? w _ hx165_0)).trans hx165_0
                     replace hx165_1 := (HB.out.cell (World.block_lt_of_cell? w _ hx165_1)).trans hx165_1
                     replace hx165_2 := (HB.out.cell (World.block_lt_of_cell? w _ hx165_2)).trans hx165_2
                     have HR165_2 := Aside0.mk hi165_2
                     have HC165_2 := Aside0.mk hl165_2
                     clear hi165_2 hl165_2
                     replace p165 := eq_true p165
                     replace q165 := eq_true q165
                     go_wp2_with (first | ((with_reducible refine gate_dst (N := 10) rfl ?_); (try (refine gate_guard (by rfl) ?_; dsimp only)); refine box_event ?hg (N := 10) ?hd (cs := #[.int .i64 0, .string (⟨#[]⟩ : ByteArray), .slice none 0 0]) (t := 68) ?hr ?_; (case hd => rfl); (case hg => rfl); (case hr => first | (go_simp; done) | (go_simp; rfl)); intro gb166 hg w71 hbox hb; replace HO_3 := Aside0.mk (Kd.R_below (by (with_reducible repeat (first | apply Kd.R_alloc | apply Kd.R_drewN | apply Kd.R_drew)); exact HO_3.out) hb); have BK166 := Aside0.mk (hbox); have GW166 := Aside0.mk ((by rw [hg]; exact (below_size (by with_reducible repeat (first | exact HB.out | apply below_alloc | apply pw_below_drewN | apply below_drew1 | refine below_set ?_ GE150.out))) : w.heap.size ≤ gb166)); have GE166 := Aside0.mk ((by rw [hg]; exact (below_size (by with_reducible repeat (first | exact HB.out | apply below_alloc | apply pw_below_drewN | apply below_drew1 | refine below_set ?_ GE150.out))) : w.heap.size ≤ gb166)); replace HB := Aside0.mk (below_step (by with_reducible repeat (first | exact HB.out | apply below_alloc | apply pw_below_drewN | apply below_drew1 | refine below_set ?_ GE150.out)) hb); have NB150_166 := Aside0.mk ((by rw [hg]; exact Nat.ne_of_lt (blk_lt (g := gb150) (o := .cells #[.slice (some ad165) l0_0.length c0_0, .slice A0_1 l0_1.length c0_1, .int .i64 a0_2] 25 (0, 0)) (by (with_reducible repeat (first | refine blk_drewN ?_ _ | refine blk_drew ?_ | refine blk_alloc ?_ _)); exact BK150.out)) : gb150 ≠ gb166)); have NB166_150 := Aside0.mk ((by rw [hg]; exact Nat.ne_of_gt (blk_lt (g := gb150) (o := .cells #[.slice (some ad165) l0_0.length c0_0, .slice A0_1 l0_1.length c0_1, .int .i64 a0_2] 25 (0, 0)) (by (with_reducible repeat (first | refine blk_drewN ?_ _ | refine blk_drew ?_ | refine blk_alloc ?_ _)); exact BK150.out)) : gb166 ≠ gb150)); replace BK150 := Aside0.mk (blk_below (g := gb150) (o := .cells #[.slice (some ad165) l0_0.length c0_0, .slice A0_1 l0_1.length c0_1, .int .i64 a0_2] 25 (0, 0)) (by (with_reducible repeat (first | refine blk_drewN ?_ _ | refine blk_drew ?_ | refine blk_alloc ?_ _)); exact BK150.out) hb); clear hb hbox hg; have hnb72 := NB166_150.out; have hnc72 := NB150_166.out; have hcz73_0 : w71.cell? ⟨gb166, 0, none⟩ = some (.int .i64 0) := (blk_cell BK166.out 0).trans rfl; have hcz73_1 : w71.cell? ⟨gb166, 1, none⟩ = some (.string (⟨#[]⟩ : ByteArray)) := (blk_cell BK166.out 1).trans rfl; have hcz73_2 : w71.cell? ⟨gb166, 2, none⟩ = some (.slice none 0 0) := (blk_cell BK166.out 2).trans rfl; have hfz73_0 := blk_frozen BK166.out 0; have hfz73_1 := blk_frozen BK166.out 1; have hfz73_2 := blk_frozen BK166.out 2; obtain ⟨Ao74, co74, eo74⟩ := Kd.R_slice HO_3.out; subst eo74; have p167 : 0 ≤ (x69_4 : Int) := of_decide_eq_true (by assumption); have q167 : x69_4 < (x3_2.length : Int) := of_decide_eq_true (by assumption); obtain ⟨ad167, e167, hx167_0⟩ := Kd.at_int (Kd.R_reads' HO_3.out).2.2 x69_4 p167 q167; cases e167; have hn167_0 : ad167.block ≠ gb166 := Kd.own_blk (Kd.R_ne HO_3.out BK166.out (by decide)); have hn167_1 : ad167.block ≠ gb166 := Kd.own_blk (Kd.R_ne HO_3.out BK166.out (by decide)); have hn167_2 : ad167.block ≠ gb166 := Kd.own_blk (Kd.R_ne HO_3.out BK166.out (by decide)); replace hx167_0 := (cell_far (p := ⟨gb166, 0, none⟩) (by first | (rw [add_block]; exact hn167_0) | (show (Addr.add _ _).block ≠ _; rw [add_block]; exact hn167_0) | exact hn167_0) (.int .i64 ((rd_T68 l0_0 x69_4).f0))).trans hx167_0; replace hx167_0 := (cell_far (p := ⟨gb166, 1, none⟩) (by first | (rw [add_block]; exact hn167_1) | (show (Addr.add _ _).block ≠ _; rw [add_block]; exact hn167_1) | exact hn167_1) (.string ((rd_T68 l0_0 x69_4).f1))).trans hx167_0; replace hx167_0 := (cell_far (p := ⟨gb166, 2, none⟩) (by first | (rw [add_block]; exact hn167_2) | (show (Addr.add _ _).block ≠ _; rw [add_block]; exact hn167_2) | exact hn167_2) (.slice A165_2 ((rd_T68 l0_0 x69_4).f2).length c165_2)).trans hx167_0; (try have hy167_0 := fun (n_ : Nat) => (show (((((w71.drewN n_).setCell ⟨gb166, 0, none⟩ (.int .i64 ((rd_T68 l0_0 x69_4).f0))).setCell ⟨gb166, 1, none⟩ (.string ((rd_T68 l0_0 x69_4).f1))).setCell ⟨gb166, 2, none⟩ (.slice A165_2 ((rd_T68 l0_0 x69_4).f2).length c165_2))).cell? _ = some _ from hx167_0)); clear hn167_0; clear hn167_1; clear hn167_2; replace p167 := eq_true p167; replace q167 := eq_true q167))
                     repeat (go_quiet (first | ((with_reducible refine gate_dst (N := 10) rfl ?_); (try (refine gate_guard (by rfl) ?_; dsimp only)); refine box_event ?hg (N := 10) ?hd (cs := #[.int .i64 0, .string (⟨#[]⟩ : ByteArray), .slice none 0 0]) (t := 68) ?hr ?_; (case hd => rfl); (case hg => rfl); (case hr => first | (go_simp; done) | (go_simp; rfl)); intro gb166 hg w71 hbox hb; replace HO_3 := Aside0.mk (Kd.R_below (by (with_reducible repeat (first | apply Kd.R_alloc | apply Kd.R_drewN | apply Kd.R_drew)); exact HO_3.out) hb); have BK166 := Aside0.mk (hbox); have GW166 := Aside0.mk ((by rw [hg]; exact (below_size (by with_reducible repeat (first | exact HB.out | apply below_alloc | apply pw_below_drewN | apply below_drew1 | refine below_set ?_ GE150.out))) : w.heap.size ≤ gb166)); have GE166 := Aside0.mk ((by rw [hg]; exact (below_size (by with_reducible repeat (first | exact HB.out | apply below_alloc | apply pw_below_drewN | apply below_drew1 | refine below_set ?_ GE150.out))) : w.heap.size ≤ gb166)); replace HB := Aside0.mk (below_step (by with_reducible repeat (first | exact HB.out | apply below_alloc | apply pw_below_drewN | apply below_drew1 | refine below_set ?_ GE150.out)) hb); have NB150_166 := Aside0.mk ((by rw [hg]; exact Nat.ne_of_lt (blk_lt (g := gb150) (o := .cells #[.slice (some ad165) l0_0.length c0_0, .slice A0_1 l0_1.length c0_1, .int .i64 a0_2] 25 (0, 0)) (by (with_reducible repeat (first | refine blk_drewN ?_ _ | refine blk_drew ?_ | refine blk_alloc ?_ _)); exact BK150.out)) : gb150 ≠ gb166)); have NB166_150 := Aside0.mk ((by rw [hg]; exact Nat.ne_of_gt (blk_lt (g := gb150) (o := .cells #[.slice (some ad165) l0_0.length c0_0, .slice A0_1 l0_1.length c0_1, .int .i64 a0_2] 25 (0, 0)) (by (with_reducible repeat (first | refine blk_drewN ?_ _ | refine blk_drew ?_ | refine blk_alloc ?_ _)); exact BK150.out)) : gb166 ≠ gb150)); replace BK150 := Aside0.mk (blk_below (g := gb150) (o := .cells #[.slice (some ad165) l0_0.length c0_0, .slice A0_1 l0_1.length c0_1, .int .i64 a0_2] 25 (0, 0)) (by (with_reducible repeat (first | refine blk_drewN ?_ _ | refine blk_drew ?_ | refine blk_alloc ?_ _)); exact BK150.out) hb); clear hb hbox hg; have hnb72 := NB166_150.out; have hnc72 := NB150_166.out; have hcz73_0 : w71.cell? ⟨gb166, 0, none⟩ = some (.int .i64 0) := (blk_cell BK166.out 0).trans rfl; have hcz73_1 : w71.cell? ⟨gb166, 1, none⟩ = some (.string (⟨#[]⟩ : ByteArray)) := (blk_cell BK166.out 1).trans rfl; have hcz73_2 : w71.cell? ⟨gb166, 2, none⟩ = some (.slice none 0 0) := (blk_cell BK166.out 2).trans rfl; have hfz73_0 := blk_frozen BK166.out 0; have hfz73_1 := blk_frozen BK166.out 1; have hfz73_2 := blk_frozen BK166.out 2; obtain ⟨Ao74, co74, eo74⟩ := Kd.R_slice HO_3.out; subst eo74; have p167 : 0 ≤ (x69_4 : Int) := of_decide_eq_true (by assumption); have q167 : x69_4 < (x3_2.length : Int) := of_decide_eq_true (by assumption); obtain ⟨ad167, e167, hx167_0⟩ := Kd.at_int (Kd.R_reads' HO_3.out).2.2 x69_4 p167 q167; cases e167; have hn167_0 : ad167.block ≠ gb166 := Kd.own_blk (Kd.R_ne HO_3.out BK166.out (by decide)); have hn167_1 : ad167.block ≠ gb166 := Kd.own_blk (Kd.R_ne HO_3.out BK166.out (by decide)); have hn167_2 : ad167.block ≠ gb166 := Kd.own_blk (Kd.R_ne HO_3.out BK166.out (by decide)); replace hx167_0 := (cell_far (p := ⟨gb166, 0, none⟩) (by first | (rw [add_block]; exact hn167_0) | (show (Addr.add _ _).block ≠ _; rw [add_block]; exact hn167_0) | exact hn167_0) (.int .i64 ((rd_T68 l0_0 x69_4).f0))).trans hx167_0; replace hx167_0 := (cell_far (p := ⟨gb166, 1, none⟩) (by first | (rw [add_block]; exact hn167_1) | (show (Addr.add _ _).block ≠ _; rw [add_block]; exact hn167_1) | exact hn167_1) (.string ((rd_T68 l0_0 x69_4).f1))).trans hx167_0; replace hx167_0 := (cell_far (p := ⟨gb166, 2, none⟩) (by first | (rw [add_block]; exact hn167_2) | (show (Addr.add _ _).block ≠ _; rw [add_block]; exact hn167_2) | exact hn167_2) (.slice A165_2 ((rd_T68 l0_0 x69_4).f2).length c165_2)).trans hx167_0; (try have hy167_0 := fun (n_ : Nat) => (show (((((w71.drewN n_).setCell ⟨gb166, 0, none⟩ (.int .i64 ((rd_T68 l0_0 x69_4).f0))).setCell ⟨gb166, 1, none⟩ (.string ((rd_T68 l0_0 x69_4).f1))).setCell ⟨gb166, 2, none⟩ (.slice A165_2 ((rd_T68 l0_0 x69_4).f2).length c165_2))).cell? _ = some _ from hx167_0)); clear hn167_0; clear hn167_1; clear hn167_2; replace p167 := eq_true p167; replace q167 := eq_true q167)); try go_wp2_with (first | ((with_reducible refine gate_dst (N := 10) rfl ?_); (try (refine gate_guard (by rfl) ?_; dsimp only)); refine box_event ?hg (N := 10) ?hd (cs := #[.int .i64 0, .string (⟨#[]⟩ : ByteArray), .slice none 0 0]) (t := 68) ?hr ?_; (case hd => rfl); (case hg => rfl); (case hr => first | (go_simp; done) | (go_simp; rfl)); intro gb166 hg w71 hbox hb; replace HO_3 := Aside0.mk (Kd.R_below (by (with_reducible repeat (first | apply Kd.R_alloc | apply Kd.R_drewN | apply Kd.R_drew)); exact HO_3.out) hb); have BK166 := Aside0.mk (hbox); have GW166 := Aside0.mk ((by rw [hg]; exact (below_size (by with_reducible repeat (first | exact HB.out | apply below_alloc | apply pw_below_drewN | apply below_drew1 | refine below_set ?_ GE150.out))) : w.heap.size ≤ gb166)); have GE166 := Aside0.mk ((by rw [hg]; exact (below_size (by with_reducible repeat (first | exact HB.out | apply below_alloc | apply pw_below_drewN | apply below_drew1 | refine below_set ?_ GE150.out))) : w.heap.size ≤ gb166)); replace HB := Aside0.mk (below_step (by with_reducible repeat (first | exact HB.out | apply below_alloc | apply pw_below_drewN | apply below_drew1 | refine below_set ?_ GE150.out)) hb); have NB150_166 := Aside0.mk ((by rw [hg]; exact Nat.ne_of_lt (blk_lt (g := gb150) (o := .cells #[.slice (some ad165) l0_0.length c0_0, .slice A0_1 l0_1.length c0_1, .int .i64 a0_2] 25 (0, 0)) (by (with_reducible repeat (first | refine blk_drewN ?_ _ | refine blk_drew ?_ | refine blk_alloc ?_ _)); exact BK150.out)) : gb150 ≠ gb166)); have NB166_150 := Aside0.mk ((by rw [hg]; exact Nat.ne_of_gt (blk_lt (g := gb150) (o := .cells #[.slice (some ad165) l0_0.length c0_0, .slice A0_1 l0_1.length c0_1, .int .i64 a0_2] 25 (0, 0)) (by (with_reducible repeat (first | refine blk_drewN ?_ _ | refine blk_drew ?_ | refine blk_alloc ?_ _)); exact BK150.out)) : gb166 ≠ gb150)); replace BK150 := Aside0.mk (blk_below (g := gb150) (o := .cells #[.slice (some ad165) l0_0.length c0_0, .slice A0_1 l0_1.length c0_1, .int .i64 a0_2] 25 (0, 0)) (by (with_reducible repeat (first | refine blk_drewN ?_ _ | refine blk_drew ?_ | refine blk_alloc ?_ _)); exact BK150.out) hb); clear hb hbox hg; have hnb72 := NB166_150.out; have hnc72 := NB150_166.out; have hcz73_0 : w71.cell? ⟨gb166, 0, none⟩ = some (.int .i64 0) := (blk_cell BK166.out 0).trans rfl; have hcz73_1 : w71.cell? ⟨gb166, 1, none⟩ = some (.string (⟨#[]⟩ : ByteArray)) := (blk_cell BK166.out 1).trans rfl; have hcz73_2 : w71.cell? ⟨gb166, 2, none⟩ = some (.slice none 0 0) := (blk_cell BK166.out 2).trans rfl; have hfz73_0 := blk_frozen BK166.out 0; have hfz73_1 := blk_frozen BK166.out 1; have hfz73_2 := blk_frozen BK166.out 2; obtain ⟨Ao74, co74, eo74⟩ := Kd.R_slice HO_3.out; subst eo74; have p167 : 0 ≤ (x69_4 : Int) := of_decide_eq_true (by assumption); have q167 : x69_4 < (x3_2.length : Int) := of_decide_eq_true (by assumption); obtain ⟨ad167, e167, hx167_0⟩ := Kd.at_int (Kd.R_reads' HO_3.out).2.2 x69_4 p167 q167; cases e167; have hn167_0 : ad167.block ≠ gb166 := Kd.own_blk (Kd.R_ne HO_3.out BK166.out (by decide)); have hn167_1 : ad167.block ≠ gb166 := Kd.own_blk (Kd.R_ne HO_3.out BK166.out (by decide)); have hn167_2 : ad167.block ≠ gb166 := Kd.own_blk (Kd.R_ne HO_3.out BK166.out (by decide)); replace hx167_0 := (cell_far (p := ⟨gb166, 0, none⟩) (by first | (rw [add_block]; exact hn167_0) | (show (Addr.add _ _).block ≠ _; rw [add_block]; exact hn167_0) | exact hn167_0) (.int .i64 ((rd_T68 l0_0 x69_4).f0))).trans hx167_0; replace hx167_0 := (cell_far (p := ⟨gb166, 1, none⟩) (by first | (rw [add_block]; exact hn167_1) | (show (Addr.add _ _).block ≠ _; rw [add_block]; exact hn167_1) | exact hn167_1) (.string ((rd_T68 l0_0 x69_4).f1))).trans hx167_0; replace hx167_0 := (cell_far (p := ⟨gb166, 2, none⟩) (by first | (rw [add_block]; exact hn167_2) | (show (Addr.add _ _).block ≠ _; rw [add_block]; exact hn167_2) | exact hn167_2) (.slice A165_2 ((rd_T68 l0_0 x69_4).f2).length c165_2)).trans hx167_0; (try have hy167_0 := fun (n_ : Nat) => (show (((((w71.drewN n_).setCell ⟨gb166, 0, none⟩ (.int .i64 ((rd_T68 l0_0 x69_4).f0))).setCell ⟨gb166, 1, none⟩ (.string ((rd_T68 l0_0 x69_4).f1))).setCell ⟨gb166, 2, none⟩ (.slice A165_2 ((rd_T68 l0_0 x69_4).f2).length c165_2))).cell? _ = some _ from hx167_0)); clear hn167_0; clear hn167_1; clear hn167_2; replace p167 := eq_true p167; replace q167 := eq_true q167)))
                     go_ret
                     exact ⟨by first | rfl | (simp [errW_none, errW_some] <;> rfl) | (simp [*, errW_none, errW_some] <;> rfl) | (simp [E.isEmpty_bne]; done) | (rw [E.bne_empty]), by with_reducible repeat (first | exact HB.out | apply below_alloc | apply pw_below_drewN | apply below_drew1 | refine below_set ?_ GE150.out | refine below_set ?_ GE166.out)⟩
                   ·rw [if_neg c50] at H
                    exact absurd H (by simp)
                  ·rw [if_neg c49] at H
                   exact absurd H (by simp)
                 ·rw [if_neg c48] at H
                  exact absurd H (by simp)
                ·rw [if_neg c47] at H
                 have c47b0 : decide (x69_4 < (l0_0.length : Int)) = false := decide_eq_false c47
                 clear c47
                 obtain rfl := Option.some.inj H
                 go_wp2
                 repeat (go_quiet (fail); try go_wp2)
                 go_ret
                 exact ⟨by first | rfl | (simp [errW_none, errW_some] <;> rfl) | (simp [*, errW_none, errW_some] <;> rfl) | (simp [E.isEmpty_bne]; done) | (rw [E.bne_empty]), by with_reducible repeat (first | exact HB.out | apply below_alloc | apply pw_below_drewN | apply below_drew1 | refine below_set ?_ GE150.out)⟩
          ·rw [if_neg c30] at H
           exact absurd H (by simp)
         ·rw [if_neg c29] at H
          exact absurd H (by simp)
     ·rw [if_neg c13] at H
      exact absurd H (by simp)
    ·rw [if_neg c12] at H
     exact absurd H (by simp)
end Go.Proofs.Ytacfalpgmibfnaa.PCow
namespace Go.Proofs.Ytacfalpgmibfnaa.PCow
open Go.RowKit Go.Proofs.YtacfalpgmibfnaaW.PrintWords Go.Proofs.YtacfalpgmibfnaaW.PrintLast Go.Proofs.YtacfalpgmibfnaaW.PrintMore
attribute [local go_sem] max2_int min2_int max_two min_two max_three min_three max_four min_four
set_option linter.unusedVariables false
set_option linter.unusedSimpArgs false
def spec_LeafAt.f (k : Nat) (l0_0 : List (S68)) (l0_1 : List Int) (a0_2 : Int) (a1 : Int) (a2 : Int) : Option (ByteArray × Bool) := (spec_GoodCow.f k l0_0 l0_1 a0_2).bind fun t214 => (if t214 = true then ((spec_l1In.f a1 0 (wrap64 ((l0_1.length : Int) - 1))).bind fun t215 => (if t215 = true then ((spec_l14Places.f k l0_0 l0_1 a0_2).bind fun t216 => ((spec_l1In.f a2 0 (wrap64 (t216 - 1))).bind fun t217 => (if t217 = true then (if 0 ≤ a1 then (if a1 < (l0_1.length : Int) then ((spec_l14Leaf.f k l0_0 l0_1 a0_2 (rd l0_1 a1) a2).bind fun t219 => (some (t219, true))) else (none)) else (none)) else (some ((⟨#[]⟩ : ByteArray), false))))) else (some ((⟨#[]⟩ : ByteArray), false)))) else (some ((⟨#[]⟩ : ByteArray), false)))
def spec_LeafAt.T3 : Bool × List (List Nat × List Nat) := (true, [([], []), ([], []), ([1], [1]), ([], []), ([2, 3], [2, 3]), ([4], [4]), ([], []), ([0, 5, 6], [0, 5, 6]), ([7, 7, 0, 1, 2, 3, 4, 5, 6, 7], [7]), ([8, 0, 1, 2, 3, 4, 5, 6, 7, 8], [])])
def spec_LeafAt.B3 : List Nat := [0, 0, 2, 0, 14, 30, 0, 127, 255, 511]
def impl_LeafAt.f (k : Nat) (l0_0 : List (S68)) (l0_1 : List Int) (a0_2 : Int) (a1 : Int) (a2 : Int) : Option (ByteArray × Bool) := (impl_isRoot.f l0_0 l0_1 a0_2 a1).bind fun t232 => (if t232 = true then ((impl_Cow_places.f l0_0 l0_1 a0_2).bind fun t233 => ((impl_within.f a2 0 (wrap64 (t233 - 1))).bind fun t234 => (if t234 = true then ((impl_Cow_leafAt.f k l0_0 l0_1 a0_2 a1 a2).bind fun t235 => (some (t235, true))) else (some ((⟨#[]⟩ : ByteArray), false))))) else (some ((⟨#[]⟩ : ByteArray), false)))
end Go.Proofs.Ytacfalpgmibfnaa.PCow
namespace Go.Proofs.Ytacfalpgmibfnaa.PCow
open Go.RowKit Go.Proofs.YtacfalpgmibfnaaW.PrintWords Go.Proofs.YtacfalpgmibfnaaW.PrintLast Go.Proofs.YtacfalpgmibfnaaW.PrintMore Go.Proofs.Ytacfalpgmibfnaa.E
set_option linter.unusedSimpArgs false
set_option linter.unusedVariables false
def dgI (a : Int) (j : Nat) : Int := (impl_digit.f a (j : Int)).getD 0
theorem dgI_some (a : Int) (j : Nat) (h2 : 2 ≤ j) (h : j ≤ 1000) : impl_digit.f a (j : Int) = some (dgI a j) := by
 unfold dgI
 have e : ∃ r, impl_digit.f a (j : Int) = some r := by
  unfold impl_digit.f
  rw [if_pos (by rw [w64 (x := (j : Int) - 2) (by omega) (by omega), w64 (by omega) (by omega)]; omega)]
  exact ⟨_, rfl⟩
 obtain ⟨r, e⟩ := e
 rw [e]
 rfl
def putR (at_ : Int) (leaf lf : ByteArray) (C : List CL) (R : List Int) (L root : Int) : Option (List CL × List Int) :=
 if lf = leaf then some (C, R) else (if 0 ≤ root ∧ root < (R.length : Int) then (putM (dgI at_) leaf L.toNat C (rd R root)).bind fun q => some (q.1, R.set root.toNat q.2) else none)
def putI (k : Nat) (C : List CL) (R : List Int) (L root at_ : Int) (leaf : ByteArray) : Option (List CL × List Int × Int × Bool) :=
 if ownB C R = true ∧ 0 ≤ L ∧ L ≤ 1000 then ((impl_Cow_leafAt.f k C R L root at_).bind fun lf => (putR at_ leaf lf C R L root).bind fun o => (impl_GoodCow.f o.1 o.2 L).bind fun g => if g = true then some (o.1, o.2, L, true) else some ([], [], 0, false)) else none
def impl_PutLeaf.f (k : Nat) (C : List CL) (R : List Int) (L root at_ : Int) (leaf : ByteArray) : Option (List CL × List Int × Int × Bool) :=
 (impl_isRoot.f C R L root).bind fun b => if b = true then ((impl_Cow_places.f C R L).bind fun p => (impl_within.f at_ 0 (wrap64 (p - 1))).bind fun t => if t = true then (if (leaf.size : Int) > 8 then some ([], [], 0, false) else putI k C R L root at_ leaf) else some ([], [], 0, false)) else some ([], [], 0, false)
set_option maxHeartbeats 16000000 in
set_option maxRecDepth 100000 in
theorem impl_PutLeaf.calls (k_ : Nat) (A0 : Option Addr) (c0 : Nat) (C : List CL) (A1 : Option Addr) (c1 : Nat) (R : List Int) (L root at_ : Int) (leaf : ByteArray) (r1 : List CL) (r2 : List Int) (r3 : Int) (r4 : Bool) (w : World) (hr0 : Kd.C k68 w A0 C.length C) (hc0 : C.length ≤ c0) (hr1 : Kd.C (Kd.int .i64) w A1 R.length R) (hc1 : R.length ≤ c1) (h : impl_PutLeaf.f k_ C R L root at_ leaf = some (r1, r2, r3, r4)) :
  Calls Try.prog 39 #[.agg #[.slice A0 C.length c0, .slice A1 R.length c1, .int .i64 L], .int .i64 root, .int .i64 at_, .string leaf] w fun e w' => ∃ v0_ v1_ : Value, e = .returned (.tuple #[.agg #[v0_, v1_, .int .i64 r3], .bool r4]) ∧ Kd.S k68 68 w' w.heap.size (fun k_ => some k_ ≠ (v1_ : Value).ownBlock) v0_ r1 ∧ Kd.R (Kd.int .i64) 3 w' w.heap.size (fun _ => True) v1_ r2 ∧ Below w.heap.size w w' := by
 have hu25 := Try.underlying25
 have hu68 := Try.underlying68
 have hu22 := Try.underlying22
 have HR0 := Aside0.mk hr0
 have HR1 := Aside0.mk hr1
 have HC0 := Aside0.mk hc0
 have HC1 := Aside0.mk hc1
 have hl : R.length ≤ 9223372036854775807 := hr1.2.1
 have hlc : C.length ≤ 9223372036854775807 := hr0.2.1
 clear hr0 hr1 hc0 hc1
 obtain ⟨b, hb, h⟩ := Option.bind_eq_some_iff.1 h
 have HBB := Aside0.mk hb
 clear hb
 obtain ⟨W1, hW1⟩ : ∃ W, w.alloc (.cells #[.slice A0 C.length c0, .slice A1 R.length c1, .int .i64 L] 25) = W := ⟨_, rfl⟩
 obtain ⟨W2, hW2⟩ : ∃ W, W1.alloc (.cells #[.slice none 0 0, .slice none 0 0, .int .i64 0] 25) = W := ⟨_, rfl⟩
 have hb1 : Below w.heap.size w W1 := by rw [← hW1]; exact below_alloc (Below.refl _ _) _
 have hb2 : Below W1.heap.size W1 W2 := by rw [← hW2]; exact below_alloc (Below.refl _ _) _
 have X1 : W1.heap[w.heap.size]? = some (.cells #[.slice A0 C.length c0, .slice A1 R.length c1, .int .i64 L] 25 (0, 0)) := by rw [← hW1]; exact heap_alloc_new w _
 have Z1 : W2.heap[W1.heap.size]? = some (.cells #[.slice none 0 0, .slice none 0 0, .int .i64 0] 25 (0, 0)) := by rw [← hW2]; exact heap_alloc_new W1 _
 have B2 := Aside0.mk (below_step hb1 hb2)
 have X2 := Aside0.mk (blk_below X1 hb2)
 have Z2 := Aside0.mk Z1
 have ZG := Aside0.mk (show w.heap.size ≤ W1.heap.size from hb1.size)
 have ZN := Aside0.mk (show w.heap.size ≠ W1.heap.size by have := blk_lt X1; omega)
 clear hb1 hb2 X1 Z1
 have d0 : W2.cell? ⟨w.heap.size, 0, none⟩ = some (.slice A0 C.length c0) := (blk_cell X2.out 0).trans rfl
 have d1 : W2.cell? ⟨w.heap.size, 1, none⟩ = some (.slice A1 R.length c1) := (blk_cell X2.out 1).trans rfl
 have d2 : W2.cell? ⟨w.heap.size, 2, none⟩ = some (.int .i64 L) := (blk_cell X2.out 2).trans rfl
 have TT := Aside0.mk (impl_isRoot.calls A0 c0 C A1 c1 R L root b W2 (Kd.C_below HR0.out B2.out) HC0.out (Kd.C_below HR1.out B2.out) HC1.out HBB.out)
 have HH := Aside0.mk h
 clear h
 go_enter Try.func39, Try.ntmps39
 go_wp2_with (go_at_call 63; refine TT.out.mono ?_)
 (first | rintro e w3 rfl hb | rintro e w3 ⟨rfl, hb⟩)
 clear TT hW1 d0 d1 d2
 generalize hgz : W1.heap.size = gz at *
 clear hgz hW2
 have B3 := Aside0.mk (below_step B2.out hb)
 have X3 := Aside0.mk (blk_below X2.out hb)
 have Z3 := Aside0.mk (blk_below Z2.out hb)
 clear B2 X2 Z2 hb
 have d0 : w3.cell? ⟨w.heap.size, 0, none⟩ = some (.slice A0 C.length c0) := (blk_cell X3.out 0).trans rfl
 have d1 : w3.cell? ⟨w.heap.size, 1, none⟩ = some (.slice A1 R.length c1) := (blk_cell X3.out 1).trans rfl
 have d2 : w3.cell? ⟨w.heap.size, 2, none⟩ = some (.int .i64 L) := (blk_cell X3.out 2).trans rfl
 have z0 : w3.cell? ⟨gz, 0, none⟩ = some (.slice none 0 0) := (blk_cell Z3.out 0).trans rfl
 have z1 : w3.cell? ⟨gz, 1, none⟩ = some (.slice none 0 0) := (blk_cell Z3.out 1).trans rfl
 have z2 : w3.cell? ⟨gz, 2, none⟩ = some (.int .i64 0) := (blk_cell Z3.out 2).trans rfl
 have y0 := blk_frozen Z3.out 0
 have y1 := blk_frozen Z3.out 1
 have y2 := blk_frozen Z3.out 2
 cases b with
 | false =>
  have h : some (([] : List CL), ([] : List Int), (0 : Int), false) = some (r1, r2, r3, r4) := HH.out
  simp only [Option.some.injEq, Prod.mk.injEq] at h
  obtain ⟨rfl, rfl, rfl, rfl⟩ := h
  go_wp2
  refine bodyPost_ret (results_ct rfl _ _ gz 25 #[.slice none 0 0, .slice none 0 0, .int .i64 0] (0, 0) _ rfl (put3 Z3.out _ _ _) Try.underlying25 rfl (by kernel_rfl)) rfl ?_
  exact ⟨_, _, rfl, Kd.S_nil _ _ _ _ _, Kd.R_nil _ _ _ _ _, below_set (below_set (below_set B3.out ZG.out) ZG.out) ZG.out⟩
 | true =>
  have h : ((impl_Cow_places.f C R L).bind fun p => (impl_within.f at_ 0 (wrap64 (p - 1))).bind fun t => if t = true then (if (leaf.size : Int) > 8 then some (([] : List CL), ([] : List Int), (0 : Int), false) else putI k_ C R L root at_ leaf) else some (([] : List CL), ([] : List Int), (0 : Int), false)) = some (r1, r2, r3, r4) := HH.out
  obtain ⟨p, hp, h⟩ := Option.bind_eq_some_iff.1 h
  obtain ⟨t, ht, h⟩ := Option.bind_eq_some_iff.1 h
  have TT := Aside0.mk (impl_Cow_places.calls A0 c0 C A1 c1 R L p w3 (Kd.C_below HR0.out B3.out) HC0.out (Kd.C_below HR1.out B3.out) HC1.out hp)
  replace HH := Aside0.mk h
  have HT := Aside0.mk ht
  clear h hp ht
  go_wp2_with (go_at_call 64; refine TT.out.mono ?_)
  (first | rintro e w4 rfl hb | rintro e w4 ⟨rfl, hb⟩)
  have B4 := Aside0.mk (below_step B3.out hb)
  have X4 := Aside0.mk (blk_below X3.out hb)
  have Z4 := Aside0.mk (blk_below Z3.out hb)
  clear TT hb d0 d1 d2 z0 z1 z2 y0 y1 y2 B3 X3 Z3
  have TT := Aside0.mk (impl_within.calls at_ 0 (wrap64 (p - 1)) t w4 HT.out)
  go_wp2_with (go_at_call 45; refine TT.out.mono ?_)
  (first | rintro e w5 rfl hd | rintro e w5 ⟨rfl, hd⟩)
  have hb := hd.below
  have B5 := Aside0.mk (below_step B4.out hb)
  have X5 := Aside0.mk (blk_below X4.out hb)
  have Z5 := Aside0.mk (blk_below Z4.out hb)
  clear TT hb hd HT B4 X4 Z4
  have d0 : w5.cell? ⟨w.heap.size, 0, none⟩ = some (.slice A0 C.length c0) := (blk_cell X5.out 0).trans rfl
  have d1 : w5.cell? ⟨w.heap.size, 1, none⟩ = some (.slice A1 R.length c1) := (blk_cell X5.out 1).trans rfl
  have d2 : w5.cell? ⟨w.heap.size, 2, none⟩ = some (.int .i64 L) := (blk_cell X5.out 2).trans rfl
  have z0 : w5.cell? ⟨gz, 0, none⟩ = some (.slice none 0 0) := (blk_cell Z5.out 0).trans rfl
  have z1 : w5.cell? ⟨gz, 1, none⟩ = some (.slice none 0 0) := (blk_cell Z5.out 1).trans rfl
  have z2 : w5.cell? ⟨gz, 2, none⟩ = some (.int .i64 0) := (blk_cell Z5.out 2).trans rfl
  have y0 := blk_frozen Z5.out 0
  have y1 := blk_frozen Z5.out 1
  have y2 := blk_frozen Z5.out 2
  cases t with
  | false =>
   have h : some (([] : List CL), ([] : List Int), (0 : Int), false) = some (r1, r2, r3, r4) := HH.out
   simp only [Option.some.injEq, Prod.mk.injEq] at h
   obtain ⟨rfl, rfl, rfl, rfl⟩ := h
   go_wp2
   refine bodyPost_ret (results_ct rfl _ _ gz 25 #[.slice none 0 0, .slice none 0 0, .int .i64 0] (0, 0) _ rfl (put3 Z5.out _ _ _) Try.underlying25 rfl (by kernel_rfl)) rfl ?_
   exact ⟨_, _, rfl, Kd.S_nil _ _ _ _ _, Kd.R_nil _ _ _ _ _, below_set (below_set (below_set B5.out ZG.out) ZG.out) ZG.out⟩
  | true =>
   have h : (if (leaf.size : Int) > 8 then some (([] : List CL), ([] : List Int), (0 : Int), false) else putI k_ C R L root at_ leaf) = some (r1, r2, r3, r4) := HH.out
   by_cases h8 : (leaf.size : Int) > 8
   ·rw [if_pos h8] at h
    have q1 : ((leaf.size : Int) > 8) = True := eq_true h8
    have q2 : (8 < (leaf.size : Int)) = True := eq_true h8
    have q3 : (8 < leaf.size) = True := eq_true (by omega)
    clear h8 HH
    simp only [Option.some.injEq, Prod.mk.injEq] at h
    obtain ⟨rfl, rfl, rfl, rfl⟩ := h
    go_wp2
    refine bodyPost_ret (results_ct rfl _ _ gz 25 #[.slice none 0 0, .slice none 0 0, .int .i64 0] (0, 0) _ rfl (put3 Z5.out _ _ _) Try.underlying25 rfl (by kernel_rfl)) rfl ?_
    exact ⟨_, _, rfl, Kd.S_nil _ _ _ _ _, Kd.R_nil _ _ _ _ _, below_set (below_set (below_set B5.out ZG.out) ZG.out) ZG.out⟩
   ·rw [if_neg h8] at h
    have q1 : ((leaf.size : Int) > 8) = False := eq_false h8
    have q2 : (8 < (leaf.size : Int)) = False := eq_false h8
    have q3 : (8 < leaf.size) = False := eq_false (by omega)
    clear h8 HH
    unfold putI at h
    split at h
    ·rename_i hown
     obtain ⟨o1, o2, o3⟩ := ownB_out hown.1
     have TT := Aside0.mk (ownCow_calls A0 c0 C A1 c1 R L w5 (Kd.C_below HR0.out B5.out) HC0.out (Kd.C_below HR1.out B5.out) HC1.out o1 o3 o2)
     obtain ⟨lf, hlf, h⟩ := Option.bind_eq_some_iff.1 h
     obtain ⟨⟨C1, R1⟩, hpr, h⟩ := Option.bind_eq_some_iff.1 h
     obtain ⟨g, hg, h⟩ := Option.bind_eq_some_iff.1 h
     have HLF := Aside0.mk hlf
     have HPR := Aside0.mk hpr
     have HG := Aside0.mk hg
     have HH := Aside0.mk h
     have HOW := Aside0.mk hown
     clear hlf hpr hg h hown o1 o2 o3
     go_wp2_with (go_at_call 70; refine TT.out.mono ?_)
     (first | rintro e w6 ⟨gb, v0, v1, rfl, hO, hb⟩ | rintro e w6 rfl hO hb)
     clear d0 d1 d2 z0 z1 z2 y0 y1 y2
     clear TT
     obtain ⟨A5, c5, rfl⟩ := Kd.S_slice hO.cs
     obtain ⟨A6, c6, rfl⟩ := Kd.R_slice hO.rs
     have B6 := Aside0.mk (below_step B5.out hb)
     have X6 := Aside0.mk (blk_below X5.out hb)
     have Z6 := Aside0.mk (blk_below Z5.out hb)
     have G6 := Aside0.mk hO.box
     have LG := Aside0.mk (show w5.heap.size ≤ gb from hO.ge)
     have LX := Aside0.mk (show w.heap.size < w5.heap.size from blk_lt X5.out)
     have LZ := Aside0.mk (show gz < w5.heap.size from blk_lt Z5.out)
     have S6 := Aside0.mk (Kd.S_lower (Kd.S_mono (Kd.S_bound hO.cs) (fun k h_ => (⟨h_.1, h_.2.1⟩ : (k ≠ gb ∧ some k ≠ (Value.slice A6 R.length c6).ownBlock) ∧ w5.heap.size ≤ k))) B5.out.size)
     have R6 := Aside0.mk (Kd.R_lower (Kd.R_mono (Kd.R_bound hO.rs) (fun k h_ => (⟨h_.1, h_.2.1⟩ : k ≠ gb ∧ w5.heap.size ≤ k))) B5.out.size : IR w6 w.heap.size (fun k => k ≠ gb ∧ w5.heap.size ≤ k) (.slice A6 R.length c6) R)
     clear hO hb B5 X5 Z5
     have d0 : w6.cell? ⟨w.heap.size, 0, none⟩ = some (.slice A0 C.length c0) := (blk_cell X6.out 0).trans rfl
     have d1 : w6.cell? ⟨w.heap.size, 1, none⟩ = some (.slice A1 R.length c1) := (blk_cell X6.out 1).trans rfl
     have d2 : w6.cell? ⟨w.heap.size, 2, none⟩ = some (.int .i64 L) := (blk_cell X6.out 2).trans rfl
     have z0 : w6.cell? ⟨gz, 0, none⟩ = some (.slice none 0 0) := (blk_cell Z6.out 0).trans rfl
     have z1 : w6.cell? ⟨gz, 1, none⟩ = some (.slice none 0 0) := (blk_cell Z6.out 1).trans rfl
     have z2 : w6.cell? ⟨gz, 2, none⟩ = some (.int .i64 0) := (blk_cell Z6.out 2).trans rfl
     have y0 := blk_frozen Z6.out 0
     have y1 := blk_frozen Z6.out 1
     have y2 := blk_frozen Z6.out 2
     have TT := Aside0.mk (impl_Cow_leafAt.calls k_ A0 c0 C A1 c1 R L root at_ lf w6 (Kd.C_below HR0.out B6.out) HC0.out (Kd.C_below HR1.out B6.out) HC1.out HLF.out)
     go_wp2_with (go_at_call 65; refine TT.out.mono ?_)
     (first | rintro e w7 rfl hb | rintro e w7 ⟨rfl, hb⟩)
     clear d0 d1 d2 z0 z1 z2 y0 y1 y2
     have B7 := Aside0.mk (below_step B6.out hb)
     have X7 := Aside0.mk (blk_below X6.out hb)
     have Z7 := Aside0.mk (blk_below Z6.out hb)
     have G7 := Aside0.mk (blk_below G6.out hb)
     have S7 := Aside0.mk (Kd.S_below S6.out hb)
     have R7 := Aside0.mk (Kd.R_below R6.out hb)
     clear TT hb B6 X6 Z6 G6 S6 R6 HLF
     have h := HPR.out
     unfold putR at h
     by_cases hle : lf = leaf
     ·rw [if_pos hle] at h
      simp only [Option.some.injEq, Prod.mk.injEq] at h
      obtain ⟨rfl, rfl⟩ := h
      subst hle
      have n1 : (lf.toList == lf.toList) = true := by simp
      have g0 : w7.cell? ⟨gb, 0, none⟩ = some (.slice A5 C.length c5) := (blk_cell G7.out 0).trans rfl
      have g1 : w7.cell? ⟨gb, 1, none⟩ = some (.slice A6 R.length c6) := (blk_cell G7.out 1).trans rfl
      have g2 : w7.cell? ⟨gb, 2, none⟩ = some (.int .i64 L) := (blk_cell G7.out 2).trans rfl
      have z0 : w7.cell? ⟨gz, 0, none⟩ = some (.slice none 0 0) := (blk_cell Z7.out 0).trans rfl
      have z1 : w7.cell? ⟨gz, 1, none⟩ = some (.slice none 0 0) := (blk_cell Z7.out 1).trans rfl
      have z2 : w7.cell? ⟨gz, 2, none⟩ = some (.int .i64 0) := (blk_cell Z7.out 2).trans rfl
      have y0 := blk_frozen Z7.out 0
      have y1 := blk_frozen Z7.out 1
      have y2 := blk_frozen Z7.out 2
      have TT := Aside0.mk (impl_GoodCow.calls _ c5 C _ c6 R L g w7 (Kd.S_reads' S7.out).2.2 (Kd.S_reads' S7.out).2.1 (Kd.R_reads' R7.out).2.2 (by have h_ := (Kd.R_reads' R7.out).2.1; simpa using h_) HG.out)
      clear HG
      go_wp2_with (go_at_call 22; with_reducible refine TT.out.mono ?_)
      (first | rintro e w20 rfl hb | rintro e w20 ⟨rfl, hb⟩)
      clear g0 g1 g2 z0 z1 z2 y0 y1 y2 TT
      have B20 := Aside0.mk (below_step B7.out hb)
      have Z20 := Aside0.mk (blk_below Z7.out hb)
      have G20 := Aside0.mk (blk_below G7.out hb)
      have S20 := Aside0.mk (Kd.S_below S7.out hb)
      have R20 := Aside0.mk (Kd.R_below R7.out hb)
      clear hb B7 X7 Z7 G7 S7 R7
      have g0 : w20.cell? ⟨gb, 0, none⟩ = some (.slice A5 C.length c5) := (blk_cell G20.out 0).trans rfl
      have g1 : w20.cell? ⟨gb, 1, none⟩ = some (.slice A6 R.length c6) := (blk_cell G20.out 1).trans rfl
      have g2 : w20.cell? ⟨gb, 2, none⟩ = some (.int .i64 L) := (blk_cell G20.out 2).trans rfl
      have z0 : w20.cell? ⟨gz, 0, none⟩ = some (.slice none 0 0) := (blk_cell Z20.out 0).trans rfl
      have z1 : w20.cell? ⟨gz, 1, none⟩ = some (.slice none 0 0) := (blk_cell Z20.out 1).trans rfl
      have z2 : w20.cell? ⟨gz, 2, none⟩ = some (.int .i64 0) := (blk_cell Z20.out 2).trans rfl
      have y0 := blk_frozen Z20.out 0
      have y1 := blk_frozen Z20.out 1
      have y2 := blk_frozen Z20.out 2
      cases g with
      | false =>
       have h : some (([] : List CL), ([] : List Int), (0 : Int), false) = some (r1, r2, r3, r4) := HH.out
       simp only [Option.some.injEq, Prod.mk.injEq] at h
       obtain ⟨rfl, rfl, rfl, rfl⟩ := h
       go_wp2
       refine bodyPost_ret (results_ct rfl _ _ gz 25 #[.slice none 0 0, .slice none 0 0, .int .i64 0] (0, 0) _ rfl (put3 Z20.out _ _ _) Try.underlying25 rfl (by kernel_rfl)) rfl ?_
       exact ⟨_, _, rfl, Kd.S_nil _ _ _ _ _, Kd.R_nil _ _ _ _ _, below_set (below_set (below_set B20.out ZG.out) ZG.out) ZG.out⟩
      | true =>
       have h : some (C, R, L, true) = some (r1, r2, r3, r4) := HH.out
       simp only [Option.some.injEq, Prod.mk.injEq] at h
       obtain ⟨rfl, rfl, rfl, rfl⟩ := h
       go_wp2
       refine bodyPost_ret (results_ct rfl _ _ gz 25 #[.slice A5 C.length c5, .slice A6 R.length c6, .int .i64 L] (0, 0) _ rfl (put3 Z20.out _ _ _) Try.underlying25 rfl (by kernel_rfl)) rfl ?_
       obtain ⟨r1_, r2_, r3_⟩ := ret_cow (x := .slice A5 C.length c5) (y := .slice A6 R.length c6) (z := .int .i64 L) Z20.out ZG.out S20.out (fun k_ h_ => h_.1.2) R20.out B20.out
       exact ⟨_, _, rfl, r1_, r2_, r3_⟩
     ·rw [if_neg hle] at h
      have n0 : lf.toList ≠ leaf.toList := fun e_ => hle (ba_eq.1 e_)
      have n1 : (lf.toList == leaf.toList) = false := beq_eq_false_iff_ne.2 n0
      have n2 : (lf.toList = leaf.toList) = False := eq_false n0
      split at h
      ·rename_i hrt
       obtain ⟨⟨C2, zq⟩, hq, h⟩ := Option.bind_eq_some_iff.1 h
       simp only [Option.some.injEq, Prod.mk.injEq] at h
       obtain ⟨rfl, rfl⟩ := h
       have hq := Aside0.mk hq
       obtain ⟨ri, hri⟩ : ∃ ri : Nat, root = (ri : Int) := ⟨root.toNat, by omega⟩
       subst hri
       simp only [Int.toNat_natCast] at HG HH
       have HRT := Aside0.mk (show ri < R.length by omega)
       obtain ⟨gr, cap6, hv6, _, _, _⟩ := Kd.R_form R7.out (by omega)
       injection hv6 with hA6 hn6 hc6
       subst hA6 hc6
       clear hn6
       obtain ⟨k, hk⟩ : ∃ k, rd R (ri : Int) = k := ⟨_, rfl⟩
       rw [hk] at hq
       have RC := Aside0.mk (show ∀ W, IR W w.heap.size (fun k => k ≠ gb ∧ w5.heap.size ≤ k) (.slice (some ⟨gr, 0, none⟩) R.length c6) R → W.cell? ⟨gr, ri, none⟩ = some (.int .i64 k) from fun W hW => by
        obtain ⟨ad9, e9, hy9⟩ := Kd.at_int (Kd.R_reads' hW).2.2 (ri : Int) (by omega) (by have := HRT.out; omega)
        injection e9 with e9
        subst e9
        rw [show (⟨gr, 0, none⟩ : Addr).add ((ri : Int).toNat) = ⟨gr, ri, none⟩ by by_cases h : ri = 0 <;> simp [Addr.add, h], hk] at hy9
        exact hy9)
       have p1 : ((ri : Int) < (R.length : Int)) = True := eq_true (by omega)
       have LV := Aside0.mk (show L = ((L.toNat : Nat) : Int) by have := HOW.out.2.1; omega)
       clear hrt hle n0
       go_wp2
       clear n1 n2
       refine start_ (n := 20) (S := fun w' => w'.cell? ⟨gb, 1, none⟩ = some (.slice (some ⟨gr, 0, none⟩) R.length c6) ∧ w'.cell? ⟨gr, ri, none⟩ = some (.int .i64 k) ∧ w'.cell? ⟨w.heap.size, 2, none⟩ = some (.int .i64 L)) (ds := [19]) #[false, false, false, false, false, false, false, false, false, false, false, false, false, false, false, false, false, false, false, false] (by kernel_rfl) rfl rfl ⟨(blk_cell G7.out 1).trans rfl, RC.out w7 R7.out, (blk_cell X7.out 2).trans rfl⟩ (fun hHeld => ?_)
       replace B7 := Aside0.mk (below_drew1 B7.out)
       replace X7 := Aside0.mk (blk_drew X7.out)
       replace Z7 := Aside0.mk (blk_drew Z7.out)
       replace G7 := Aside0.mk (blk_drew G7.out)
       replace S7 := Aside0.mk (Kd.S_drew S7.out)
       replace R7 := Aside0.mk (Kd.R_drew R7.out)
       generalize w7.drew = w8 at B7 X7 Z7 G7 S7 R7 hHeld ⊢
       refine take_ (i := 0) (N := some 37) (v := ?_) (a' := ?_) #[true, false, false, false, false, false, false, false, false, false, false, false, false, false, false, false, false, false, false, false] rfl rfl (by kernel_rfl) (fun _ _ _ h => h) (Or.inl ⟨by rfl, ?_⟩) hHeld ?_ ?_
       rotate_left
       ·rintro w' ⟨s0, s1, s2⟩
        go_simp
        with_reducible rfl
       rotate_left
       ·simp only [Act.put, List.setIfInBounds_toArray, List.set_cons_zero, List.set_cons_succ, i64_w, i32_w]
        rfl
       refine take_ (i := 1) (N := some 38) (v := ?_) (a' := ?_) #[true, true, false, false, false, false, false, false, false, false, false, false, false, false, false, false, false, false, false, false] rfl rfl (by kernel_rfl) (fun _ _ _ h => h) (Or.inl ⟨by rfl, ?_⟩) hHeld ?_ ?_
       rotate_left
       ·rintro w' ⟨s0, s1, s2⟩
        go_simp
        with_reducible rfl
       rotate_left
       ·simp only [Act.put, List.setIfInBounds_toArray, List.set_cons_zero, List.set_cons_succ, i64_w, i32_w]
        rfl
       refine take_ (i := 2) (N := some 39) (v := ?_) (a' := ?_) #[true, true, true, false, false, false, false, false, false, false, false, false, false, false, false, false, false, false, false, false] rfl rfl (by kernel_rfl) (fun _ _ _ h => h) (Or.inl ⟨by rfl, ?_⟩) hHeld ?_ ?_
       rotate_left
       ·rintro w' ⟨s0, s1, s2⟩
        go_simp
        with_reducible rfl
       rotate_left
       ·simp only [Act.put, List.setIfInBounds_toArray, List.set_cons_zero, List.set_cons_succ, i64_w, i32_w]
        rfl
       refine take_ (i := 3) (N := some 40) (v := ?_) (a' := ?_) #[true, true, true, true, false, false, false, false, false, false, false, false, false, false, false, false, false, false, false, false] rfl rfl (by kernel_rfl) (fun _ _ _ h => h) (Or.inl ⟨by rfl, ?_⟩) hHeld ?_ ?_
       rotate_left
       ·rintro w' ⟨s0, s1, s2⟩
        go_simp
        with_reducible rfl
       rotate_left
       ·simp only [Act.put, List.setIfInBounds_toArray, List.set_cons_zero, List.set_cons_succ, i64_w, i32_w]
        rfl
       refine take_ (i := 4) (N := some 41) (v := ?_) (a' := ?_) #[true, true, true, true, true, false, false, false, false, false, false, false, false, false, false, false, false, false, false, false] rfl rfl (by kernel_rfl) (fun _ _ _ h => h) (Or.inl ⟨by rfl, ?_⟩) hHeld ?_ ?_
       rotate_left
       ·rintro w' ⟨s0, s1, s2⟩
        go_simp
        with_reducible rfl
       rotate_left
       ·simp only [Act.put, List.setIfInBounds_toArray, List.set_cons_zero, List.set_cons_succ, i64_w, i32_w]
        rfl
       refine take_ (i := 5) (N := some 42) (v := ?_) (a' := ?_) #[true, true, true, true, true, true, false, false, false, false, false, false, false, false, false, false, false, false, false, false] rfl rfl (by kernel_rfl) (fun _ _ _ h => h) (Or.inl ⟨by rfl, ?_⟩) hHeld ?_ ?_
       rotate_left
       ·rintro w' ⟨s0, s1, s2⟩
        go_simp
        with_reducible rfl
       rotate_left
       ·simp only [Act.put, List.setIfInBounds_toArray, List.set_cons_zero, List.set_cons_succ, i64_w, i32_w]
        rfl
       refine take_ (i := 6) (N := some 43) (v := ?_) (a' := ?_) #[true, true, true, true, true, true, true, false, false, false, false, false, false, false, false, false, false, false, false, false] rfl rfl (by kernel_rfl) (fun _ _ _ h => h) (Or.inl ⟨by rfl, ?_⟩) hHeld ?_ ?_
       rotate_left
       ·rintro w' ⟨s0, s1, s2⟩
        go_simp
        with_reducible rfl
       rotate_left
       ·simp only [Act.put, List.setIfInBounds_toArray, List.set_cons_zero, List.set_cons_succ, i64_w, i32_w]
        rfl
       refine take_ (i := 7) (N := some 44) (v := ?_) (a' := ?_) #[true, true, true, true, true, true, true, true, false, false, false, false, false, false, false, false, false, false, false, false] rfl rfl (by kernel_rfl) (fun _ _ _ h => h) (Or.inl ⟨by rfl, ?_⟩) hHeld ?_ ?_
       rotate_left
       ·rintro w' ⟨s0, s1, s2⟩
        go_simp
        with_reducible rfl
       rotate_left
       ·simp only [Act.put, List.setIfInBounds_toArray, List.set_cons_zero, List.set_cons_succ, i64_w, i32_w]
        rfl
       refine take_ (i := 8) (N := some 45) (v := ?_) (a' := ?_) #[true, true, true, true, true, true, true, true, true, false, false, false, false, false, false, false, false, false, false, false] rfl rfl (by kernel_rfl) (fun _ _ _ h => h) (Or.inl ⟨by rfl, ?_⟩) hHeld ?_ ?_
       rotate_left
       ·rintro w' ⟨s0, s1, s2⟩
        go_simp
        with_reducible rfl
       rotate_left
       ·simp only [Act.put, List.setIfInBounds_toArray, List.set_cons_zero, List.set_cons_succ, i64_w, i32_w]
        rfl
       refine take_ (i := 9) (N := some 46) (v := ?_) (a' := ?_) #[true, true, true, true, true, true, true, true, true, true, false, false, false, false, false, false, false, false, false, false] rfl rfl (by kernel_rfl) (fun _ _ _ h => h) (Or.inl ⟨by rfl, ?_⟩) hHeld ?_ ?_
       rotate_left
       ·rintro w' ⟨s0, s1, s2⟩
        go_simp
        with_reducible rfl
       rotate_left
       ·simp only [Act.put, List.setIfInBounds_toArray, List.set_cons_zero, List.set_cons_succ, i64_w, i32_w]
        rfl
       refine take_ (i := 10) (N := some 47) (v := ?_) (a' := ?_) #[true, true, true, true, true, true, true, true, true, true, true, false, false, false, false, false, false, false, false, false] rfl rfl (by kernel_rfl) (fun _ _ _ h => h) (Or.inl ⟨by rfl, ?_⟩) hHeld ?_ ?_
       rotate_left
       ·rintro w' ⟨s0, s1, s2⟩
        go_simp
        with_reducible rfl
       rotate_left
       ·simp only [Act.put, List.setIfInBounds_toArray, List.set_cons_zero, List.set_cons_succ, i64_w, i32_w]
        rfl
       refine take_ (i := 11) (N := some 48) (v := ?_) (a' := ?_) #[true, true, true, true, true, true, true, true, true, true, true, true, false, false, false, false, false, false, false, false] rfl rfl (by kernel_rfl) (fun _ _ _ h => h) (Or.inl ⟨by rfl, ?_⟩) hHeld ?_ ?_
       rotate_left
       ·rintro w' ⟨s0, s1, s2⟩
        go_simp
        with_reducible rfl
       rotate_left
       ·simp only [Act.put, List.setIfInBounds_toArray, List.set_cons_zero, List.set_cons_succ, i64_w, i32_w]
        rfl
       refine take_ (i := 12) (N := some 49) (v := ?_) (a' := ?_) #[true, true, true, true, true, true, true, true, true, true, true, true, true, false, false, false, false, false, false, false] rfl rfl (by kernel_rfl) (fun _ _ _ h => h) (Or.inl ⟨by rfl, ?_⟩) hHeld ?_ ?_
       rotate_left
       ·rintro w' ⟨s0, s1, s2⟩
        go_simp
        with_reducible rfl
       rotate_left
       ·simp only [Act.put, List.setIfInBounds_toArray, List.set_cons_zero, List.set_cons_succ, i64_w, i32_w]
        rfl
       refine take_ (i := 13) (N := some 50) (v := ?_) (a' := ?_) #[true, true, true, true, true, true, true, true, true, true, true, true, true, true, false, false, false, false, false, false] rfl rfl (by kernel_rfl) (fun _ _ _ h => h) (Or.inl ⟨by rfl, ?_⟩) hHeld ?_ ?_
       rotate_left
       ·rintro w' ⟨s0, s1, s2⟩
        go_simp
        with_reducible rfl
       rotate_left
       ·simp only [Act.put, List.setIfInBounds_toArray, List.set_cons_zero, List.set_cons_succ, i64_w, i32_w]
        rfl
       refine take_ (i := 14) (N := some 51) (v := ?_) (a' := ?_) #[true, true, true, true, true, true, true, true, true, true, true, true, true, true, true, false, false, false, false, false] rfl rfl (by kernel_rfl) (fun _ _ _ h => h) (Or.inl ⟨by rfl, ?_⟩) hHeld ?_ ?_
       rotate_left
       ·rintro w' ⟨s0, s1, s2⟩
        go_simp
        with_reducible rfl
       rotate_left
       ·simp only [Act.put, List.setIfInBounds_toArray, List.set_cons_zero, List.set_cons_succ, i64_w, i32_w]
        rfl
       refine take_ (i := 15) (N := some 52) (v := ?_) (a' := ?_) #[true, true, true, true, true, true, true, true, true, true, true, true, true, true, true, true, false, false, false, false] rfl rfl (by kernel_rfl) (fun _ _ _ h => h) (Or.inl ⟨by rfl, ?_⟩) hHeld ?_ ?_
       rotate_left
       ·rintro w' ⟨s0, s1, s2⟩
        go_simp
        with_reducible rfl
       rotate_left
       ·simp only [Act.put, List.setIfInBounds_toArray, List.set_cons_zero, List.set_cons_succ, i64_w, i32_w]
        rfl
       refine take_ (i := 16) (N := some 53) (v := ?_) (a' := ?_) #[true, true, true, true, true, true, true, true, true, true, true, true, true, true, true, true, true, false, false, false] rfl rfl (by kernel_rfl) (fun _ _ _ h => h) (Or.inl ⟨by rfl, ?_⟩) hHeld ?_ ?_
       rotate_left
       ·rintro w' ⟨s0, s1, s2⟩
        go_simp
        with_reducible rfl
       rotate_left
       ·simp only [Act.put, List.setIfInBounds_toArray, List.set_cons_zero, List.set_cons_succ, i64_w, i32_w]
        rfl
       refine one_ (i := 17) (N := some 54) #[true, true, true, true, true, true, true, true, true, true, true, true, true, true, true, true, true, true, false, false] rfl rfl (by kernel_rfl) (by decide) (fun K hK => ?_)
       refine goes_ Try.func75 (by kernel_rfl) rfl #[.pointer (some ⟨gb, 0, none⟩), .int .i64 k, .int .i64 L, .int .i64 at_, .string leaf] (by rfl) rfl rfl (by (try simp only [List.map_toArray, List.map_cons, List.map_nil]); first | done | rfl | (simp only [List.length_drop, List.length_take]; rfl)) ?_
       have hNR := fun k (hk : some k = (Value.slice (some ⟨gr, 0, none⟩) R.length c6).ownBlock) => (R7.out.1 k hk.symm)
       have hrw : gr < w8.heap.size := Kd.R_lt R7.out gr rfl
       have hgw := blk_lt G7.out
       refine (put_calls (.slice (some ⟨gr, 0, none⟩) R.length c6) L gb at_ (dgI at_) leaf (fun k => (k ≠ gb ∧ some k ≠ (Value.slice (some ⟨gr, 0, none⟩) R.length c6).ownBlock) ∧ w5.heap.size ≤ k) w (fun k h_ => h_.1.1) (by have := LG.out; have := LX.out; omega) L.toNat C k L (C2, zq) w8 LV.out (by have := HOW.out.2.2; omega) (fun j h1 h2 => dgI_some at_ j h1 (by have := HOW.out.2.2; omega)) B7.out ⟨_, _, G7.out, S7.out⟩ (fun k h_ => ⟨⟨by omega, fun e_ => absurd (show k = gr from Option.some.inj e_) (by omega)⟩, by have := LG.out; omega⟩) hq.out).mono ?_
       (first | rintro e w9 rfl hC hb hK | rintro e w9 ⟨rfl, hC, hb, hK⟩)
       refine ⟨_, rfl, ?_⟩
       obtain ⟨A8, c8, hG8, hS8⟩ := hC
       have hgr2 := R7.out.1 gr rfl
       have B9 := Aside0.mk hb
       have X9 := Aside0.mk (blk_kept X7.out hK (fun h_ => by have := LG.out; have := LX.out; rcases h_ with h_ | h_; omega; have := h_.2; omega))
       have Z9 := Aside0.mk (blk_kept Z7.out hK (fun h_ => by have := LG.out; have := LZ.out; rcases h_ with h_ | h_; omega; have := h_.2; omega))
       have G9 := Aside0.mk hG8
       have S9 := Aside0.mk hS8
       have R9 := Aside0.mk (Kd.R_mono (Kd.R_kept (Kd.R_of_own (Kd.own_of_R R7.out) (fun k_ h_ => h_.symm) : IR w8 w.heap.size (fun k_ => some k_ = (Value.slice (some ⟨gr, 0, none⟩) R.length c6).ownBlock) (.slice (some ⟨gr, 0, none⟩) R.length c6) R) hK (fun k_ h_ h2_ => by rcases h2_ with h2_ | h2_; exact (hNR k_ h_).1 h2_; exact h2_.1.2 h_)) (fun k_ h_ => hNR k_ h_) : IR w9 w.heap.size (fun k => k ≠ gb ∧ w5.heap.size ≤ k) (.slice (some ⟨gr, 0, none⟩) R.length c6) R)
       clear hG8 hS8 hb hK hNR hrw hgw hgr2 B7 X7 Z7 G7 S7 R7
       refine hK.out _ _ ⟨(blk_cell G9.out 1).trans rfl, RC.out w9 R9.out, (blk_cell X9.out 2).trans rfl⟩ (fun hHeld => ?_)
       clear hK K
       refine norm_ (a' := ?_) ?_ ?_
       rotate_left
       ·show Act.put _ (some 54) _ = _
        simp only [Act.put, List.setIfInBounds_toArray, List.set_cons_zero, List.set_cons_succ, i64_w, i32_w]
        rfl
       refine take_ (i := 18) (N := some 55) (v := ?_) (a' := ?_) #[true, true, true, true, true, true, true, true, true, true, true, true, true, true, true, true, true, true, true, false] rfl rfl (by kernel_rfl) (fun _ _ _ h => h) (Or.inl ⟨by rfl, ?_⟩) hHeld ?_ ?_
       rotate_left
       ·rintro w' ⟨s0, s1, s2⟩
        go_simp
        with_reducible rfl
       rotate_left
       ·simp only [Act.put, List.setIfInBounds_toArray, List.set_cons_zero, List.set_cons_succ, i64_w, i32_w]
        rfl
       have y9 := RC.out w9 R9.out
       obtain ⟨g_, c_, e_, _, _, cells9, hcl9⟩ := Kd.R_form R9.out (by have := HRT.out; omega)
       obtain rfl : gr = g_ := by injection e_ with e_ _ _; injection e_ with e_; injection e_
       have f9 := blk_frozen hcl9 ri
       clear e_ hcl9
       refine last_ (i := 19) (N := none) #[true, true, true, true, true, true, true, true, true, true, true, true, true, true, true, true, true, true, true, true] rfl rfl (by kernel_rfl) (by decide) (fun K hK => ?_)
       refine skip_ (w1 := w9.setCell ⟨gr, ri, none⟩ (.int .i64 zq)) (by rfl) rfl ?_ ?_
       ·first | (go_simp; done) | (go_simp; rfl)
       refine hK.out _ _ ?_
       clear hK K
       refine done_ (by kernel_rfl) ?_
       clear hHeld
       clear y9 f9
       have hgr2 := R9.out.1 gr rfl
       have RP := Kd.R_putn R9.out ri zq
       have BA := Aside0.mk (show Below w.heap.size w (w9.setCell ⟨gr, ri, none⟩ (.int .i64 zq)) from below_set B9.out (Kd.R_base R9.out gr rfl))
       have XA := Aside0.mk (blk_far X9.out (p := ⟨gr, ri, none⟩) (by have := hgr2.2; have := LX.out; show w.heap.size ≠ gr; omega) (.int .i64 zq))
       have ZA := Aside0.mk (blk_far Z9.out (p := ⟨gr, ri, none⟩) (by have := hgr2.2; have := LZ.out; show gz ≠ gr; omega) (.int .i64 zq))
       have GA := Aside0.mk (blk_far G9.out (p := ⟨gr, ri, none⟩) (Ne.symm hgr2.1) (.int .i64 zq))
       have SA := Aside0.mk (Kd.S_far (p := ⟨gr, ri, none⟩) S9.out (fun k_ h_ e_ => h_.1.2 (by rw [e_]; rfl)) (.int .i64 zq))
       have RA := Aside0.mk (show IR (w9.setCell ⟨gr, ri, none⟩ (.int .i64 zq)) w.heap.size (fun k => k ≠ gb ∧ w5.heap.size ≤ k) (.slice (some ⟨gr, 0, none⟩) R.length c6) (R.set ri zq) from RP)
       have hRl : R.length = (R.set ri zq).length := List.length_set.symm
       clear RP hgr2 B9 X9 Z9 G9 S9 R9 RC
       generalize w9.setCell ⟨gr, ri, none⟩ (.int .i64 zq) = wA at BA XA ZA GA SA RA ⊢
       have HRL := Aside0.mk hRl
       clear hRl
       have g0 : wA.cell? ⟨gb, 0, none⟩ = some (.slice A8 C2.length c8) := (blk_cell GA.out 0).trans rfl
       have g1 : wA.cell? ⟨gb, 1, none⟩ = some (.slice (some ⟨gr, 0, none⟩) R.length c6) := (blk_cell GA.out 1).trans rfl
       have g2 : wA.cell? ⟨gb, 2, none⟩ = some (.int .i64 L) := (blk_cell GA.out 2).trans rfl
       have z0 : wA.cell? ⟨gz, 0, none⟩ = some (.slice none 0 0) := (blk_cell ZA.out 0).trans rfl
       have z1 : wA.cell? ⟨gz, 1, none⟩ = some (.slice none 0 0) := (blk_cell ZA.out 1).trans rfl
       have z2 : wA.cell? ⟨gz, 2, none⟩ = some (.int .i64 0) := (blk_cell ZA.out 2).trans rfl
       have y0 := blk_frozen ZA.out 0
       have y1 := blk_frozen ZA.out 1
       have y2 := blk_frozen ZA.out 2
       have TT := Aside0.mk (impl_GoodCow.calls _ c8 C2 _ c6 (R.set ri zq) L g wA (Kd.S_reads' SA.out).2.2 (Kd.S_reads' SA.out).2.1 (Kd.R_reads' RA.out).2.2 (by have h_ := (Kd.R_reads' RA.out).2.1; simpa using h_) HG.out)
       clear HG
       rw [List.length_set] at TT
       go_wp2_with (go_at_call 22; with_reducible refine TT.out.mono ?_)
       (first | rintro e w20 rfl hb | rintro e w20 ⟨rfl, hb⟩)
       clear g0 g1 g2 z0 z1 z2 y0 y1 y2 TT
       have B20 := Aside0.mk (below_step BA.out hb)
       have Z20 := Aside0.mk (blk_below ZA.out hb)
       have G20 := Aside0.mk (blk_below GA.out hb)
       have S20 := Aside0.mk (Kd.S_below SA.out hb)
       have R20 := Aside0.mk (Kd.R_below RA.out hb)
       clear hb BA XA ZA GA SA RA
       have g0 : w20.cell? ⟨gb, 0, none⟩ = some (.slice A8 C2.length c8) := (blk_cell G20.out 0).trans rfl
       have g1 : w20.cell? ⟨gb, 1, none⟩ = some (.slice (some ⟨gr, 0, none⟩) R.length c6) := (blk_cell G20.out 1).trans rfl
       have g2 : w20.cell? ⟨gb, 2, none⟩ = some (.int .i64 L) := (blk_cell G20.out 2).trans rfl
       have z0 : w20.cell? ⟨gz, 0, none⟩ = some (.slice none 0 0) := (blk_cell Z20.out 0).trans rfl
       have z1 : w20.cell? ⟨gz, 1, none⟩ = some (.slice none 0 0) := (blk_cell Z20.out 1).trans rfl
       have z2 : w20.cell? ⟨gz, 2, none⟩ = some (.int .i64 0) := (blk_cell Z20.out 2).trans rfl
       have y0 := blk_frozen Z20.out 0
       have y1 := blk_frozen Z20.out 1
       have y2 := blk_frozen Z20.out 2
       cases g with
       | false =>
        have h : some (([] : List CL), ([] : List Int), (0 : Int), false) = some (r1, r2, r3, r4) := HH.out
        simp only [Option.some.injEq, Prod.mk.injEq] at h
        obtain ⟨rfl, rfl, rfl, rfl⟩ := h
        go_wp2
        refine bodyPost_ret (results_ct rfl _ _ gz 25 #[.slice none 0 0, .slice none 0 0, .int .i64 0] (0, 0) _ rfl (put3 Z20.out _ _ _) Try.underlying25 rfl (by kernel_rfl)) rfl ?_
        exact ⟨_, _, rfl, Kd.S_nil _ _ _ _ _, Kd.R_nil _ _ _ _ _, below_set (below_set (below_set B20.out ZG.out) ZG.out) ZG.out⟩
       | true =>
        have h : some (C2, (R.set ri zq), L, true) = some (r1, r2, r3, r4) := HH.out
        simp only [Option.some.injEq, Prod.mk.injEq] at h
        obtain ⟨rfl, rfl, rfl, rfl⟩ := h
        go_wp2
        refine bodyPost_ret (results_ct rfl _ _ gz 25 #[.slice A8 C2.length c8, .slice (some ⟨gr, 0, none⟩) R.length c6, .int .i64 L] (0, 0) _ rfl (put3 Z20.out _ _ _) Try.underlying25 rfl (by kernel_rfl)) rfl ?_
        obtain ⟨r1_, r2_, r3_⟩ := ret_cow (x := .slice A8 C2.length c8) (y := .slice (some ⟨gr, 0, none⟩) R.length c6) (z := .int .i64 L) Z20.out ZG.out S20.out (fun k_ h_ => h_.1.2) R20.out B20.out
        exact ⟨_, _, rfl, r1_, r2_, r3_⟩
      ·cases h
    ·cases h
end Go.Proofs.Ytacfalpgmibfnaa.PCow
namespace Go.Proofs.Ytacfalpgmibfnaa.PCow
open Go.RowKit Go.Proofs.YtacfalpgmibfnaaW.PrintWords Go.Proofs.YtacfalpgmibfnaaW.PrintLast Go.Proofs.YtacfalpgmibfnaaW.PrintMore
attribute [local go_sem] max2_int min2_int max_two min_two max_three min_three max_four min_four
set_option linter.unusedVariables false
set_option linter.unusedSimpArgs false
def spec_l14Own.l0 : Nat → List (S68) → List (S68) → Int → Int → List (S68) → List Int → Int → Option ((List (S68)) × List Int × Int)
 | 0, _, _, _, _, _, _, _ => none
 | k + 1, x3, x7, x8, x9, x399000, x399001, x399002 => if x9 < x8 then (if 0 ≤ x9 then (if x9 < (x7.length : Int) then ((some (([] : List Int) : List Int)).bind fun y402 => (if y402.length + ((rd_T68 x7 x9).f2).length < 17592186044416 then (if x3.length < 2932031007402 then (spec_l14Own.l0 k (x3 ++ [(⟨(rd_T68 x7 x9).f0, (rd_T68 x7 x9).f1, (y402 ++ ((rd_T68 x7 x9).f2))⟩ : S68)]) x7 x8 (wrap64 (x9 + 1)) x399000 x399001 x399002) else (none)) else (none))) else (none)) else (none)) else ((some (([] : List Int) : List Int)).bind fun y411 => (if y411.length + x399001.length < 17592186044416 then (some (x3, (y411 ++ x399001), x399002)) else (none)))
def spec_l14Own.f (k : Nat) (l0_0 : List (S68)) (l0_1 : List Int) (a0_2 : Int) : Option ((List (S68)) × List Int × Int) := spec_l14Own.l0 k ([] : List (S68)) l0_0 (l0_0.length : Int) 0 l0_0 l0_1 a0_2
set_option maxHeartbeats 8000000 in
set_option maxRecDepth 100000 in
theorem spec_l14Own.calls (k : Nat) (A0_0 : Option Addr) (c0_0 : Nat) (l0_0 : List (S68)) (A0_1 : Option Addr) (c0_1 : Nat) (l0_1 : List Int) (a0_2 : Int) (r1 : List (S68)) (r2 : List Int) (r3 : Int) (w : World) (hr0_0 : Kd.C k68 w A0_0 l0_0.length l0_0) (hc0_0 : l0_0.length ≤ c0_0) (hr0_1 : Kd.C (Kd.int .i64) w A0_1 l0_1.length l0_1) (hc0_1 : l0_1.length ≤ c0_1) (h : spec_l14Own.f k l0_0 l0_1 a0_2 = some (r1, r2, r3)) :
  Calls Try.prog 69 #[.agg #[.slice A0_0 l0_0.length c0_0, .slice A0_1 l0_1.length c0_1, .int .i64 a0_2]] w fun e w' => ∃ v0_ v1_ : Value, e = .returned (.agg #[v0_, v1_, .int .i64 r3]) ∧ Kd.S k68 68 w' w.heap.size (fun k_ => some k_ ≠ (v1_ : Value).ownBlock) v0_ r1 ∧ Kd.R (Kd.int .i64) 3 w' w.heap.size (fun _ => True) v1_ r2 ∧ Below w.heap.size w w' := by
 have hu25 := Try.underlying25
 have hu68 := Try.underlying68
 have HR0_0 := Aside0.mk hr0_0
 have HC0_0 := Aside0.mk hc0_0
 clear hr0_0 hc0_0
 have HR0_1 := Aside0.mk hr0_1
 have HC0_1 := Aside0.mk hc0_1
 clear hr0_1 hc0_1
 have HB := Aside0.mk (Below.refl w.heap.size w)
 have H : (spec_l14Own.l0 k ([] : List (S68)) l0_0 (l0_0.length : Int) 0 l0_0 l0_1 a0_2) = some (r1, r2, r3) := h
 clear h
 have H' := Aside0.mk H
 clear H
 go_enter Try.func69, Try.ntmps69
 go_wp2_with (first | ((with_reducible refine gate_dst (N := 1) rfl ?_); refine box_event ?hg (N := 1) ?hd (cs := #[.slice A0_0 l0_0.length c0_0, .slice A0_1 l0_1.length c0_1, .int .i64 a0_2]) (t := 25) ?hr ?_; (case hd => rfl); (case hg => rfl); (case hr => first | (go_simp; done) | (go_simp; rfl)); intro gb398 hg w2 hbox hb; have BK398 := Aside0.mk (hbox); have GW398 := Aside0.mk ((by rw [hg]; exact (below_size (by with_reducible repeat (first | exact HB.out | apply below_alloc | apply pw_below_drewN | apply below_drew1))) : w.heap.size ≤ gb398)); have GE398 := Aside0.mk ((by rw [hg]; exact (below_size (by with_reducible repeat (first | exact HB.out | apply below_alloc | apply pw_below_drewN | apply below_drew1))) : w.heap.size ≤ gb398)); replace HB := Aside0.mk (below_step (by with_reducible repeat (first | exact HB.out | apply below_alloc | apply pw_below_drewN | apply below_drew1)) hb); clear hb hbox hg) | ((with_reducible refine gate_dst (N := 2) rfl ?_); refine box_event ?hg (N := 2) ?hd (cs := #[.slice none 0 0, .slice none 0 0, .int .i64 0]) (t := 25) ?hr ?_; (case hd => rfl); (case hg => rfl); (case hr => first | (go_simp; done) | (go_simp; rfl)); intro gb399 hg w3 hbox hb; have BK399 := Aside0.mk (hbox); have GW399 := Aside0.mk ((by rw [hg]; exact (below_size (by with_reducible repeat (first | exact HB.out | apply below_alloc | apply pw_below_drewN | apply below_drew1 | refine below_set ?_ GE398.out))) : w.heap.size ≤ gb399)); have GE399 := Aside0.mk ((by rw [hg]; exact (below_size (by with_reducible repeat (first | exact HB.out | apply below_alloc | apply pw_below_drewN | apply below_drew1 | refine below_set ?_ GE398.out))) : w.heap.size ≤ gb399)); replace HB := Aside0.mk (below_step (by with_reducible repeat (first | exact HB.out | apply below_alloc | apply pw_below_drewN | apply below_drew1 | refine below_set ?_ GE398.out)) hb); have NB398_399 := Aside0.mk ((by rw [hg]; exact Nat.ne_of_lt (blk_lt (g := gb398) (o := .cells #[.slice A0_0 l0_0.length c0_0, .slice A0_1 l0_1.length c0_1, .int .i64 a0_2] 25 (0, 0)) (by (with_reducible repeat (first | refine blk_drewN ?_ _ | refine blk_drew ?_ | refine blk_alloc ?_ _)); exact BK398.out)) : gb398 ≠ gb399)); have NB399_398 := Aside0.mk ((by rw [hg]; exact Nat.ne_of_gt (blk_lt (g := gb398) (o := .cells #[.slice A0_0 l0_0.length c0_0, .slice A0_1 l0_1.length c0_1, .int .i64 a0_2] 25 (0, 0)) (by (with_reducible repeat (first | refine blk_drewN ?_ _ | refine blk_drew ?_ | refine blk_alloc ?_ _)); exact BK398.out)) : gb399 ≠ gb398)); replace BK398 := Aside0.mk (blk_below (g := gb398) (o := .cells #[.slice A0_0 l0_0.length c0_0, .slice A0_1 l0_1.length c0_1, .int .i64 a0_2] 25 (0, 0)) (by (with_reducible repeat (first | refine blk_drewN ?_ _ | refine blk_drew ?_ | refine blk_alloc ?_ _)); exact BK398.out) hb); clear hb hbox hg; have hnb4 := NB398_399.out; have hnc4 := NB399_398.out; have hcz5_0 : w3.cell? ⟨gb398, 0, none⟩ = some (.slice A0_0 l0_0.length c0_0) := (blk_cell BK398.out 0).trans rfl; have hcz5_1 : w3.cell? ⟨gb398, 1, none⟩ = some (.slice A0_1 l0_1.length c0_1) := (blk_cell BK398.out 1).trans rfl; have hcz5_2 : w3.cell? ⟨gb398, 2, none⟩ = some (.int .i64 a0_2) := (blk_cell BK398.out 2).trans rfl; have hfz5_0 := blk_frozen BK398.out 0; have hfz5_1 := blk_frozen BK398.out 1; have hfz5_2 := blk_frozen BK398.out 2))
 go_loopg [3, 9] k (fun kq v3 v9 w' => ∃ (x3_1 : List (S68)) (x9_1 : Int), v9 = .int .i64 x9_1 ∧ Aside0 (spec_l14Own.l0 kq x3_1 l0_0 (l0_0.length : Int) x9_1 l0_0 l0_1 a0_2 = some (r1, r2, r3)) ∧ Aside0 (kq ≤ k) ∧ Aside0 (Kd.S k68 68 w' w.heap.size (fun _ => True) v3 x3_1) ∧ Aside0 (w'.heap[gb398]? = some (.cells #[(.slice A0_0 l0_0.length c0_0), (.slice A0_1 l0_1.length c0_1), .int .i64 a0_2] 25 (0, 0))) ∧ Aside0 (w'.heap[gb399]? = some (.cells #[(.slice none 0 0), (.slice none 0 0), .int .i64 0] 25 (0, 0))) ∧ Aside0 (Below w.heap.size w w'))
 case atStart => exact ⟨(([] : List (S68))), (0), (by first | rfl | (simp; done) | (simp [*]; done)), H', ⟨Nat.le_refl _⟩, ⟨by first | exact Kd.S_nil _ _ _ _ _ | exact Kd.N_nil _ _ _ _ _ | exact Kd.V_nil _ _ _ _ _ | exact Kd.Q_nil _ _ _ _ _ | exact Kd.R_nil _ _ _ _ _⟩, ⟨by (with_reducible repeat (first | refine blk_drewN ?_ _ | refine blk_drew ?_ | refine blk_alloc ?_ _)); exact BK398.out⟩, ⟨by (with_reducible repeat (first | refine blk_drewN ?_ _ | refine blk_drew ?_ | refine blk_alloc ?_ _)); exact BK399.out⟩, ⟨by with_reducible repeat (first | exact HB.out | apply below_alloc | apply pw_below_drewN | apply below_drew1 | refine below_set ?_ GE398.out | refine below_set ?_ GE399.out)⟩⟩
 case round =>
  clear H'
  try clear p2
  try clear c4
  try clear hcz5_0
  try clear hcz5_1
  try clear hcz5_2
  try clear hfz5_0
  try clear hfz5_1
  try clear hfz5_2
  obtain ⟨x3_1, x9_1, rfl, HA, HK1, HO_3, BK398, BK399, HB⟩ := hrel
  cases gk with
  | zero => exact absurd HA.out (by simp [spec_l14Own.l0])
  | succ k1 =>
   have H := HA.out
   clear HA
   simp only [spec_l14Own.l0] at H
   by_cases c6 : x9_1 < (l0_0.length : Int)
   ·rw [if_pos c6] at H
    have c6b0 : decide (x9_1 < (l0_0.length : Int)) = true := decide_eq_true c6
    clear c6
    by_cases c7 : 0 ≤ x9_1
    ·rw [if_pos c7] at H
     have c7b0 : decide (0 ≤ x9_1) = true := decide_eq_true c7
     clear c7
     by_cases c8 : x9_1 < (l0_0.length : Int)
     ·rw [if_pos c8] at H
      have c8b0 : decide (x9_1 < (l0_0.length : Int)) = true := decide_eq_true c8
      clear c8
      obtain ⟨y402, hy402⟩ : ∃ y_ : List Int, y_ = (([] : List Int)) := ⟨_, rfl⟩
      replace H : (if y402.length + ((rd_T68 l0_0 x9_1).f2).length < 17592186044416 then (if x3_1.length < 2932031007402 then (spec_l14Own.l0 k1 (x3_1 ++ [(⟨(rd_T68 l0_0 x9_1).f0, (rd_T68 l0_0 x9_1).f1, (y402 ++ ((rd_T68 l0_0 x9_1).f2))⟩ : S68)]) l0_0 (l0_0.length : Int) (wrap64 (x9_1 + 1)) l0_0 l0_1 a0_2) else (none)) else (none)) = some (r1, r2, r3) := by first | (rw [hy402]; with_reducible exact H) | (have H2_ := (Option.bind_some _ _).symm.trans H; rw [hy402]; with_reducible exact H2_) | (have H2_ := (Option.bind_some _ _).symm.trans H; with_reducible exact H2_) | with_reducible exact H | (rw [hy402]; exact H) | exact H
      have Ny402 := Aside0.mk hy402
      clear hy402
      by_cases c9 : y402.length + ((rd_T68 l0_0 x9_1).f2).length < 17592186044416
      ·rw [if_pos c9] at H
       have LMc9 := Aside0.mk c9
       clear c9
       obtain ⟨y405, hy405⟩ : ∃ y_ : List Int, y_ = (y402 ++ ((rd_T68 l0_0 x9_1).f2)) := ⟨_, rfl⟩
       replace H : (if x3_1.length < 2932031007402 then (spec_l14Own.l0 k1 (x3_1 ++ [(⟨(rd_T68 l0_0 x9_1).f0, (rd_T68 l0_0 x9_1).f1, y405⟩ : S68)]) l0_0 (l0_0.length : Int) (wrap64 (x9_1 + 1)) l0_0 l0_1 a0_2) else (none)) = some (r1, r2, r3) := by first | (rw [hy405]; with_reducible exact H) | (have H2_ := (Option.bind_some _ _).symm.trans H; rw [hy405]; with_reducible exact H2_) | (have H2_ := (Option.bind_some _ _).symm.trans H; with_reducible exact H2_) | with_reducible exact H | (rw [hy405]; exact H) | exact H
       have Ny405 := Aside0.mk hy405
       clear hy405
       by_cases c10 : x3_1.length < 2932031007402
       ·rw [if_pos c10] at H
        have LMc10 := Aside0.mk c10
        clear c10
        obtain ⟨y408, hy408⟩ : ∃ y_ : List (S68), y_ = (x3_1 ++ [(⟨(rd_T68 l0_0 x9_1).f0, (rd_T68 l0_0 x9_1).f1, y405⟩ : S68)]) := ⟨_, rfl⟩
        replace H : (spec_l14Own.l0 k1 y408 l0_0 (l0_0.length : Int) (wrap64 (x9_1 + 1)) l0_0 l0_1 a0_2) = some (r1, r2, r3) := by first | (rw [hy408]; with_reducible exact H) | (have H2_ := (Option.bind_some _ _).symm.trans H; rw [hy408]; with_reducible exact H2_) | (have H2_ := (Option.bind_some _ _).symm.trans H; with_reducible exact H2_) | with_reducible exact H | (rw [hy408]; exact H) | exact H
        have Ny408 := Aside0.mk hy408
        clear hy408
        have H' := Aside0.mk H
        clear H
        have p400 : 0 ≤ (x9_1 : Int) := of_decide_eq_true (by assumption)
        have q400 : x9_1 < (l0_0.length : Int) := of_decide_eq_true (by assumption)
        obtain ⟨ad400, A400_2, c400_2, e400, hx400_0, hx400_1, hx400_2, hl400_2, hi400_2⟩ := at_T68 HR0_0.out x9_1 p400 q400
        cases e400
        replace hx400_0 := (HB.out.cell (World.block_lt_of_cell? w _ hx400_0)).trans hx400_0
        replace hx400_1 := (HB.out.cell (World.block_lt_of_cell? w _ hx400_1)).trans hx400_1
        replace hx400_2 := (HB.out.cell (World.block_lt_of_cell? w _ hx400_2)).trans hx400_2
        have HR400_2 := Aside0.mk hi400_2
        have HC400_2 := Aside0.mk hl400_2
        clear hi400_2 hl400_2
        replace p400 := eq_true p400
        replace q400 := eq_true q400
        go_wp2_with (first | ((with_reducible refine gate_dst (N := 5) rfl ?_); refine box_event ?hg (N := 5) ?hd (cs := #[.int .i64 0, .string (⟨#[]⟩ : ByteArray), .slice none 0 0]) (t := 68) ?hr ?_; (case hd => rfl); (case hg => rfl); (case hr => first | (go_simp; done) | (go_simp; rfl)); intro gb401 hg w11 hbox hb; replace HO_3 := Aside0.mk (Kd.S_below (Kd.S_elderB (by (with_reducible repeat (first | apply Kd.S_alloc | apply Kd.S_drewN | apply Kd.S_drew)); exact HO_3.out) gb401 (Nat.le_of_eq hg.symm)) hb); have BK401 := Aside0.mk (hbox); have GW401 := Aside0.mk ((by rw [hg]; exact (below_size (by with_reducible repeat (first | exact HB.out | apply below_alloc | apply pw_below_drewN | apply below_drew1 | refine below_set ?_ GE398.out | refine below_set ?_ GE399.out))) : w.heap.size ≤ gb401)); have GE401 := Aside0.mk ((by rw [hg]; exact (below_size (by with_reducible repeat (first | exact HB.out | apply below_alloc | apply pw_below_drewN | apply below_drew1 | refine below_set ?_ GE398.out | refine below_set ?_ GE399.out))) : w.heap.size ≤ gb401)); replace HB := Aside0.mk (below_step (by with_reducible repeat (first | exact HB.out | apply below_alloc | apply pw_below_drewN | apply below_drew1 | refine below_set ?_ GE398.out | refine below_set ?_ GE399.out)) hb); have NB398_401 := Aside0.mk ((by rw [hg]; exact Nat.ne_of_lt (blk_lt (g := gb398) (o := .cells #[.slice (some ad400) l0_0.length c0_0, .slice A0_1 l0_1.length c0_1, .int .i64 a0_2] 25 (0, 0)) (by (with_reducible repeat (first | refine blk_drewN ?_ _ | refine blk_drew ?_ | refine blk_alloc ?_ _)); exact BK398.out)) : gb398 ≠ gb401)); have NB401_398 := Aside0.mk ((by rw [hg]; exact Nat.ne_of_gt (blk_lt (g := gb398) (o := .cells #[.slice (some ad400) l0_0.length c0_0, .slice A0_1 l0_1.length c0_1, .int .i64 a0_2] 25 (0, 0)) (by (with_reducible repeat (first | refine blk_drewN ?_ _ | refine blk_drew ?_ | refine blk_alloc ?_ _)); exact BK398.out)) : gb401 ≠ gb398)); replace BK398 := Aside0.mk (blk_below (g := gb398) (o := .cells #[.slice (some ad400) l0_0.length c0_0, .slice A0_1 l0_1.length c0_1, .int .i64 a0_2] 25 (0, 0)) (by (with_reducible repeat (first | refine blk_drewN ?_ _ | refine blk_drew ?_ | refine blk_alloc ?_ _)); exact BK398.out) hb); have NB399_401 := Aside0.mk ((by rw [hg]; exact Nat.ne_of_lt (blk_lt (g := gb399) (o := .cells #[.slice none 0 0, .slice none 0 0, .int .i64 0] 25 (0, 0)) (by (with_reducible repeat (first | refine blk_drewN ?_ _ | refine blk_drew ?_ | refine blk_alloc ?_ _)); exact BK399.out)) : gb399 ≠ gb401)); have NB401_399 := Aside0.mk ((by rw [hg]; exact Nat.ne_of_gt (blk_lt (g := gb399) (o := .cells #[.slice none 0 0, .slice none 0 0, .int .i64 0] 25 (0, 0)) (by (with_reducible repeat (first | refine blk_drewN ?_ _ | refine blk_drew ?_ | refine blk_alloc ?_ _)); exact BK399.out)) : gb401 ≠ gb399)); replace BK399 := Aside0.mk (blk_below (g := gb399) (o := .cells #[.slice none 0 0, .slice none 0 0, .int .i64 0] 25 (0, 0)) (by (with_reducible repeat (first | refine blk_drewN ?_ _ | refine blk_drew ?_ | refine blk_alloc ?_ _)); exact BK399.out) hb); clear hb hbox hg; have hnb12 := NB401_398.out; have hnc12 := NB398_401.out; have hnb13 := NB401_399.out; have hnc13 := NB399_401.out; have hcz14_0 : w11.cell? ⟨gb401, 0, none⟩ = some (.int .i64 0) := (blk_cell BK401.out 0).trans rfl; have hcz14_1 : w11.cell? ⟨gb401, 1, none⟩ = some (.string (⟨#[]⟩ : ByteArray)) := (blk_cell BK401.out 1).trans rfl; have hcz14_2 : w11.cell? ⟨gb401, 2, none⟩ = some (.slice none 0 0) := (blk_cell BK401.out 2).trans rfl; have hfz14_0 := blk_frozen BK401.out 0; have hfz14_1 := blk_frozen BK401.out 1; have hfz14_2 := blk_frozen BK401.out 2) | ((with_reducible refine gate_dst (N := 13) rfl ?_); refine Kd.R_lit (Kd.int .i64) _ 3 ?hg (N := 13) ?hd (xs := ([] : List Int)) (inner := []) (ok := fun _ => True) (okp := fun _ => True) ?hr ?hp (fun _ hk => hk) trivial (Below.refl _ _) (Nat.le_refl _) (by simp) ?_; (case hd => rfl); (case hg => rfl); (case hr => first | (go_simp; done) | (go_simp; rfl)); (case hp => exact (Reps.none _ _)); intro v403 w15 ho16 hb hg_ hnew_; clear hg_ hnew_; (first | rw [← Ny402.out] at ho16 | (simp only [Int.reduceToNat] at ho16; rw [← Ny402.out] at ho16)); replace HO_3 := Aside0.mk (Kd.S_elder' (by (with_reducible repeat (first | apply Kd.S_alloc | apply Kd.S_drewN | apply Kd.S_drew)); exact (Kd.S_mono (Kd.S_far (p := ⟨gb401, 2, none⟩) (Kd.S_far (p := ⟨gb401, 1, none⟩) (Kd.S_far (p := ⟨gb401, 0, none⟩) (Kd.S_mono HO_3.out (fun k_ hk => (⟨hk, hk.2⟩ : _ ∧ k_ ≠ gb401))) (fun _ hk => hk.2) (.int .i64 ((rd_T68 l0_0 x9_1).f0))) (fun _ hk => hk.2) (.string ((rd_T68 l0_0 x9_1).f1))) (fun _ hk => hk.2) (.slice A400_2 ((rd_T68 l0_0 x9_1).f2).length c400_2)) (fun _ h_ => h_.1))) (Kd.R_base ho16) hb); have HO404 := Aside0.mk (Kd.R_lower ho16 (below_size (by with_reducible repeat (first | exact HB.out | apply below_alloc | apply pw_below_drewN | apply below_drew1 | refine below_set ?_ GE398.out | refine below_set ?_ GE399.out | refine below_set ?_ GE401.out)))); replace BK398 := Aside0.mk (blk_below (g := gb398) (o := .cells #[.slice (some ad400) l0_0.length c0_0, .slice A0_1 l0_1.length c0_1, .int .i64 a0_2] 25 (0, 0)) (by (with_reducible repeat (first | refine blk_drewN ?_ _ | refine blk_drew ?_ | refine blk_alloc ?_ _)); refine blk_far ?_ NB398_401.out _; (with_reducible repeat (first | refine blk_drewN ?_ _ | refine blk_drew ?_ | refine blk_alloc ?_ _)); refine blk_far ?_ NB398_401.out _; (with_reducible repeat (first | refine blk_drewN ?_ _ | refine blk_drew ?_ | refine blk_alloc ?_ _)); refine blk_far ?_ NB398_401.out _; (with_reducible repeat (first | refine blk_drewN ?_ _ | refine blk_drew ?_ | refine blk_alloc ?_ _)); exact BK398.out) hb); replace BK399 := Aside0.mk (blk_below (g := gb399) (o := .cells #[.slice none 0 0, .slice none 0 0, .int .i64 0] 25 (0, 0)) (by (with_reducible repeat (first | refine blk_drewN ?_ _ | refine blk_drew ?_ | refine blk_alloc ?_ _)); refine blk_far ?_ NB399_401.out _; (with_reducible repeat (first | refine blk_drewN ?_ _ | refine blk_drew ?_ | refine blk_alloc ?_ _)); refine blk_far ?_ NB399_401.out _; (with_reducible repeat (first | refine blk_drewN ?_ _ | refine blk_drew ?_ | refine blk_alloc ?_ _)); refine blk_far ?_ NB399_401.out _; (with_reducible repeat (first | refine blk_drewN ?_ _ | refine blk_drew ?_ | refine blk_alloc ?_ _)); exact BK399.out) hb); replace BK401 := Aside0.mk (blk_below (g := gb401) (o := .cells #[.int .i64 ((rd_T68 l0_0 x9_1).f0), .string ((rd_T68 l0_0 x9_1).f1), .slice A400_2 ((rd_T68 l0_0 x9_1).f2).length c400_2] 68 (0, 0)) (by (with_reducible repeat (first | refine blk_drewN ?_ _ | refine blk_drew ?_ | refine blk_alloc ?_ _)); refine blk_put (cs := #[.int .i64 ((rd_T68 l0_0 x9_1).f0), .string ((rd_T68 l0_0 x9_1).f1), .slice none 0 0]) ?_ 2 _ rfl; (with_reducible repeat (first | refine blk_drewN ?_ _ | refine blk_drew ?_ | refine blk_alloc ?_ _)); refine blk_put (cs := #[.int .i64 ((rd_T68 l0_0 x9_1).f0), .string (⟨#[]⟩ : ByteArray), .slice none 0 0]) ?_ 1 _ rfl; (with_reducible repeat (first | refine blk_drewN ?_ _ | refine blk_drew ?_ | refine blk_alloc ?_ _)); refine blk_put (cs := #[.int .i64 0, .string (⟨#[]⟩ : ByteArray), .slice none 0 0]) ?_ 0 _ rfl; (with_reducible repeat (first | refine blk_drewN ?_ _ | refine blk_drew ?_ | refine blk_alloc ?_ _)); exact BK401.out) hb); replace HB := Aside0.mk (below_step (by with_reducible repeat (first | exact HB.out | apply below_alloc | apply pw_below_drewN | apply below_drew1 | refine below_set ?_ GE398.out | refine below_set ?_ GE399.out | refine below_set ?_ GE401.out)) hb); clear hb ho16; have hcz17_0 : w15.cell? ⟨gb401, 0, none⟩ = some (.int .i64 ((rd_T68 l0_0 x9_1).f0)) := (blk_cell BK401.out 0).trans rfl; have hcz17_1 : w15.cell? ⟨gb401, 1, none⟩ = some (.string ((rd_T68 l0_0 x9_1).f1)) := (blk_cell BK401.out 1).trans rfl; have hcz17_2 : w15.cell? ⟨gb401, 2, none⟩ = some (.slice A400_2 ((rd_T68 l0_0 x9_1).f2).length c400_2) := (blk_cell BK401.out 2).trans rfl; have hfz17_0 := blk_frozen BK401.out 0; have hfz17_1 := blk_frozen BK401.out 1; have hfz17_2 := blk_frozen BK401.out 2) | ((with_reducible refine gate_builtin (b := .append) (xs := #[.tmp 13, .tmp 15]) rfl ?_); at_builtin; refine Kd.R_append_rows (Kd.int .i64) (w0 := w) w.heap.size rfl (.tmp 13) (.tmp 15) 23 3 (.int .i64 0) 8 rfl Try.underlying23 info3 rfl (by decide) (by omega) v403 y402 ((rd_T68 l0_0 x9_1).f2) _ _ _ (fun _ => True) (fun _ => False) rfl rfl ?aO ?aR (fun _ _ h => h) (fun _ h => h.elim) ?aF ?aB ?aS ?aL ?_; (case aR => repeat (first | exact (Kd.C_below HR400_2.out HB.out) | (with_reducible refine Kd.C_alloc ?_ _) | (with_reducible refine Kd.C_drewN ?_ _) | (with_reducible refine Kd.C_drew ?_))); (case aB => exact (by with_reducible repeat (first | exact HB.out | apply below_alloc | apply pw_below_drewN | apply below_drew1 | refine below_set ?_ GE398.out | refine below_set ?_ GE399.out | refine below_set ?_ GE401.out))); (case aF => exact (fun _ _ => trivial)); (case aO => exact (by (with_reducible repeat (first | apply Kd.R_alloc | apply Kd.R_drewN | apply Kd.R_drew)); exact HO404.out)); (case aS => exact (below_size (by with_reducible repeat (first | exact HB.out | apply below_alloc | apply pw_below_drewN | apply below_drew1 | refine below_set ?_ GE398.out | refine below_set ?_ GE399.out | refine below_set ?_ GE401.out)))); (case aL => have := LMc9.out; omega); intro v406 w18 ho hb hg hat; rw [← Ny405.out] at ho; replace HO_3 := Aside0.mk (Kd.S_after (ok := (fun k_ => k_ ≠ gb401)) (by (with_reducible repeat (first | apply Kd.S_alloc | apply Kd.S_drewN | apply Kd.S_drew)); exact Kd.S_mono HO_3.out (fun _ hk => ⟨hk.1.2, hk.2⟩)) hg hat); replace BK398 := Aside0.mk (blk_grown (g := gb398) (o := .cells #[.slice (some ad400) l0_0.length c0_0, .slice A0_1 l0_1.length c0_1, .int .i64 a0_2] 25 (0, 0)) (by (with_reducible repeat (first | refine blk_drewN ?_ _ | refine blk_drew ?_ | refine blk_alloc ?_ _)); exact BK398.out) hg (Kd.R_ne HO404.out BK398.out (by decide))); replace BK399 := Aside0.mk (blk_grown (g := gb399) (o := .cells #[.slice none 0 0, .slice none 0 0, .int .i64 0] 25 (0, 0)) (by (with_reducible repeat (first | refine blk_drewN ?_ _ | refine blk_drew ?_ | refine blk_alloc ?_ _)); exact BK399.out) hg (Kd.R_ne HO404.out BK399.out (by decide))); replace BK401 := Aside0.mk (blk_grown (g := gb401) (o := .cells #[.int .i64 ((rd_T68 l0_0 x9_1).f0), .string ((rd_T68 l0_0 x9_1).f1), .slice A400_2 ((rd_T68 l0_0 x9_1).f2).length c400_2] 68 (0, 0)) (by (with_reducible repeat (first | refine blk_drewN ?_ _ | refine blk_drew ?_ | refine blk_alloc ?_ _)); exact BK401.out) hg (Kd.R_ne HO404.out BK401.out (by decide))); replace HB := Aside0.mk (hb); have HO407 := Aside0.mk (ho); clear HO404; clear ho hb hg hat; obtain ⟨Ao19, co19, eo19⟩ := Kd.R_slice HO407.out; subst eo19; have hcz20_0 : w18.cell? ⟨gb401, 0, none⟩ = some (.int .i64 ((rd_T68 l0_0 x9_1).f0)) := (blk_cell BK401.out 0).trans rfl; have hcz20_1 : w18.cell? ⟨gb401, 1, none⟩ = some (.string ((rd_T68 l0_0 x9_1).f1)) := (blk_cell BK401.out 1).trans rfl; have hcz20_2 : w18.cell? ⟨gb401, 2, none⟩ = some (.slice A400_2 ((rd_T68 l0_0 x9_1).f2).length c400_2) := (blk_cell BK401.out 2).trans rfl; have hfz20_0 := blk_frozen BK401.out 0; have hfz20_1 := blk_frozen BK401.out 1; have hfz20_2 := blk_frozen BK401.out 2) | ((with_reducible refine gate_store (t := 23) (p := 17) rfl ?_); refine store_event (t := 23) (p := 17) (v := ?vo_w21) (w1 := (w18.setCell ⟨gb401, 2, none⟩ (.slice Ao19 y405.length co19))) ?hg ?ho ?hn ?hr ?_; (case ho => rfl); (case hg => rfl); (case hn => rfl); (case hr => first | (go_simp; done) | (go_simp; rfl)); intro w21 hw; have n0_ : Aside0 (Kd.S k68 68 w21 w.heap.size (fun k_ => some k_ ≠ (.slice Ao19 y405.length co19 : Value).ownBlock ∧ k_ ≠ gb401) u3 x3_1) := ⟨(by rw [hw]; exact (by (with_reducible repeat (first | apply Kd.S_alloc | apply Kd.S_drewN | apply Kd.S_drew)); exact Kd.S_mono (Kd.S_far (p := ⟨gb401, 2, none⟩) (Kd.S_mono HO_3.out (fun k_ hk => (⟨hk, hk.1⟩ : _ ∧ k_ ≠ gb401))) (fun _ hk => hk.2) (.slice Ao19 y405.length co19)) (fun _ hk => ⟨hk.1.2, hk.1.1⟩)))⟩; have n1_ : Aside0 (Kd.R (Kd.int .i64) 3 w21 w.heap.size (fun _ => True) (.slice Ao19 y405.length co19) y405) := ⟨(by rw [hw]; exact (by (with_reducible repeat (first | apply Kd.R_alloc | apply Kd.R_drewN | apply Kd.R_drew)); exact Kd.R_mono (Kd.R_far (p := ⟨gb401, 2, none⟩) (Kd.R_types HO407.out BK401.out (by decide)) (fun _ hk => hk.2) (.slice Ao19 y405.length co19)) (fun _ hk => trivial)))⟩; have n2_ : Aside0 (w21.heap[gb398]? = some (.cells #[.slice (some ad400) l0_0.length c0_0, .slice A0_1 l0_1.length c0_1, .int .i64 a0_2] 25 (0, 0))) := ⟨(by rw [hw]; exact (by (with_reducible repeat (first | refine blk_drewN ?_ _ | refine blk_drew ?_ | refine blk_alloc ?_ _)); refine blk_far ?_ NB398_401.out _; (with_reducible repeat (first | refine blk_drewN ?_ _ | refine blk_drew ?_ | refine blk_alloc ?_ _)); exact BK398.out))⟩; have n3_ : Aside0 (w21.heap[gb399]? = some (.cells #[.slice none 0 0, .slice none 0 0, .int .i64 0] 25 (0, 0))) := ⟨(by rw [hw]; exact (by (with_reducible repeat (first | refine blk_drewN ?_ _ | refine blk_drew ?_ | refine blk_alloc ?_ _)); refine blk_far ?_ NB399_401.out _; (with_reducible repeat (first | refine blk_drewN ?_ _ | refine blk_drew ?_ | refine blk_alloc ?_ _)); exact BK399.out))⟩; have n4_ : Aside0 (w21.heap[gb401]? = some (.cells #[.int .i64 ((rd_T68 l0_0 x9_1).f0), .string ((rd_T68 l0_0 x9_1).f1), .slice Ao19 y405.length co19] 68 (0, 0))) := ⟨(by rw [hw]; exact (by (with_reducible repeat (first | refine blk_drewN ?_ _ | refine blk_drew ?_ | refine blk_alloc ?_ _)); refine blk_put (cs := #[.int .i64 ((rd_T68 l0_0 x9_1).f0), .string ((rd_T68 l0_0 x9_1).f1), .slice A400_2 ((rd_T68 l0_0 x9_1).f2).length c400_2]) ?_ 2 _ rfl; (with_reducible repeat (first | refine blk_drewN ?_ _ | refine blk_drew ?_ | refine blk_alloc ?_ _)); exact BK401.out))⟩; have n5_ : Aside0 (Below w.heap.size w w21) := ⟨(by rw [hw]; exact (by with_reducible repeat (first | exact HB.out | apply below_alloc | apply pw_below_drewN | apply below_drew1 | refine below_set ?_ GE398.out | refine below_set ?_ GE399.out | refine below_set ?_ GE401.out)))⟩; clear hw; clear HO_3; clear HO407; clear BK398; clear BK399; clear BK401; clear HB; have HO_3 := n0_; have HO407 := n1_; have BK398 := n2_; have BK399 := n3_; have BK401 := n4_; have HB := n5_; clear n0_ n1_ n2_ n3_ n4_ n5_; have hcz22_0 : w21.cell? ⟨gb401, 0, none⟩ = some (.int .i64 ((rd_T68 l0_0 x9_1).f0)) := (blk_cell BK401.out 0).trans rfl; have hcz22_1 : w21.cell? ⟨gb401, 1, none⟩ = some (.string ((rd_T68 l0_0 x9_1).f1)) := (blk_cell BK401.out 1).trans rfl; have hcz22_2 : w21.cell? ⟨gb401, 2, none⟩ = some (.slice Ao19 y405.length co19) := (blk_cell BK401.out 2).trans rfl; have hfz22_0 := blk_frozen BK401.out 0; have hfz22_1 := blk_frozen BK401.out 1; have hfz22_2 := blk_frozen BK401.out 2) | ((with_reducible refine gate_builtin (b := .append) (xs := #[.tmp 18, .tmp 20]) rfl ?_); at_builtin; refine Kd.S_append k68 (w0 := w) w.heap.size rfl (.tmp 18) (.tmp 20) 22 68 (.agg #[(.int .i64 0), (.string ⟨#[]⟩), (.slice none 0 0)]) 48 rfl Try.underlying22 info68 rfl (by decide) (by omega) u3 x3_1 (⟨(rd_T68 l0_0 x9_1).f0, (rd_T68 l0_0 x9_1).f1, y405⟩ : S68) [.int .i64 ((rd_T68 l0_0 x9_1).f0), .string ((rd_T68 l0_0 x9_1).f1), .slice Ao19 y405.length co19] (fun k_ => k_ ≠ gb401) (fun k_ => some k_ = (.slice Ao19 y405.length co19 : Value).ownBlock) rfl rfl ?aP (fun k_ hk_ => ((Kd.R_mono (ok' := fun k_ => ((fun k_ => k_ ≠ gb401)) k_ ∧ some k_ ≠ (u3 : Value).ownBlock) (Kd.R_types (Kd.R_apart' (HO407.out) (Kd.S_typed HO_3.out) (by decide)) BK401.out (by decide)) (fun k_ hk => ⟨hk.2, hk.1.2⟩))).1 k_ hk_.symm) ?aF ?aO ?aB ?aS ?aL ?_; (case aP => exact k68_mkM _ _ _ (⟨(rd_T68 l0_0 x9_1).f0, (rd_T68 l0_0 x9_1).f1, y405⟩ : S68) (Kd.R_mono (Kd.R_tight rfl (Kd.R_mono (ok' := fun k_ => ((fun k_ => k_ ≠ gb401)) k_ ∧ some k_ ≠ (u3 : Value).ownBlock) (Kd.R_types (Kd.R_apart' (HO407.out) (Kd.S_typed HO_3.out) (by decide)) BK401.out (by decide)) (fun k_ hk => ⟨hk.2, hk.1.2⟩))) (fun _ h_ => h_))); (case aB => exact (by with_reducible repeat (first | exact HB.out | apply below_alloc | apply pw_below_drewN | apply below_drew1 | refine below_set ?_ GE398.out | refine below_set ?_ GE399.out | refine below_set ?_ GE401.out))); (case aF => exact (fun k_ hk => Kd.freshB (g := gb401) (o := .cells #[.int .i64 ((rd_T68 l0_0 x9_1).f0), .string ((rd_T68 l0_0 x9_1).f1), .slice Ao19 y405.length co19] 68 (0, 0)) (by (with_reducible repeat (first | refine blk_drewN ?_ _ | refine blk_drew ?_ | refine blk_alloc ?_ _)); exact BK401.out) k_ hk)); (case aO => exact (by (with_reducible repeat (first | apply Kd.S_alloc | apply Kd.S_drewN | apply Kd.S_drew)); exact Kd.S_mono HO_3.out (fun k_ hk => ⟨hk.2, fun e_ => hk.1 e_⟩))); (case aS => exact (below_size (by with_reducible repeat (first | exact HB.out | apply below_alloc | apply pw_below_drewN | apply below_drew1 | refine below_set ?_ GE398.out | refine below_set ?_ GE399.out | refine below_set ?_ GE401.out)))); (case aL => have := LMc10.out; omega); intro v409 w23 ho hb hg hat; rw [← Ny408.out] at ho; replace BK398 := Aside0.mk (blk_grown (g := gb398) (o := .cells #[.slice (some ad400) l0_0.length c0_0, .slice A0_1 l0_1.length c0_1, .int .i64 a0_2] 25 (0, 0)) (by (with_reducible repeat (first | refine blk_drewN ?_ _ | refine blk_drew ?_ | refine blk_alloc ?_ _)); exact BK398.out) hg (Kd.S_ne HO_3.out BK398.out (by decide))); replace BK399 := Aside0.mk (blk_grown (g := gb399) (o := .cells #[.slice none 0 0, .slice none 0 0, .int .i64 0] 25 (0, 0)) (by (with_reducible repeat (first | refine blk_drewN ?_ _ | refine blk_drew ?_ | refine blk_alloc ?_ _)); exact BK399.out) hg (Kd.S_ne HO_3.out BK399.out (by decide))); replace BK401 := Aside0.mk (blk_grown (g := gb401) (o := .cells #[.int .i64 ((rd_T68 l0_0 x9_1).f0), .string ((rd_T68 l0_0 x9_1).f1), .slice Ao19 y405.length co19] 68 (0, 0)) (by (with_reducible repeat (first | refine blk_drewN ?_ _ | refine blk_drew ?_ | refine blk_alloc ?_ _)); exact BK401.out) hg (Kd.S_away HO_3.out (fun _ hk => hk.2))); replace HB := Aside0.mk (hb); have HO410 := Aside0.mk (ho); clear HO_3; clear HO407; clear ho hb hg hat))
        go_roundg k1
        case measure => have := HK1.out; omega
        case rel => exact ⟨(y408), (wrap64 (x9_1 + 1)), (by first | rfl | (simp; done) | (simp [*]; done)), H', ⟨by have := HK1.out; omega⟩, ⟨by (with_reducible repeat (first | apply Kd.S_alloc | apply Kd.S_drewN | apply Kd.S_drew)); exact Kd.S_mono HO410.out (fun _ hk => trivial)⟩, ⟨by (with_reducible repeat (first | refine blk_drewN ?_ _ | refine blk_drew ?_ | refine blk_alloc ?_ _)); exact BK398.out⟩, ⟨by (with_reducible repeat (first | refine blk_drewN ?_ _ | refine blk_drew ?_ | refine blk_alloc ?_ _)); exact BK399.out⟩, ⟨by with_reducible repeat (first | exact HB.out | apply below_alloc | apply pw_below_drewN | apply below_drew1 | refine below_set ?_ GE398.out | refine below_set ?_ GE399.out | refine below_set ?_ GE401.out)⟩⟩
       ·rw [if_neg c10] at H
        exact absurd H (by simp)
      ·rw [if_neg c9] at H
       exact absurd H (by simp)
     ·rw [if_neg c8] at H
      exact absurd H (by simp)
    ·rw [if_neg c7] at H
     exact absurd H (by simp)
   ·rw [if_neg c6] at H
    have c6b0 : decide (x9_1 < (l0_0.length : Int)) = false := decide_eq_false c6
    clear c6
    obtain ⟨y411, hy411⟩ : ∃ y_ : List Int, y_ = (([] : List Int)) := ⟨_, rfl⟩
    replace H : (if y411.length + l0_1.length < 17592186044416 then (some (x3_1, (y411 ++ l0_1), a0_2)) else (none)) = some (r1, r2, r3) := by first | (rw [hy411]; with_reducible exact H) | (have H2_ := (Option.bind_some _ _).symm.trans H; rw [hy411]; with_reducible exact H2_) | (have H2_ := (Option.bind_some _ _).symm.trans H; with_reducible exact H2_) | with_reducible exact H | (rw [hy411]; exact H) | exact H
    have Ny411 := Aside0.mk hy411
    clear hy411
    by_cases c24 : y411.length + l0_1.length < 17592186044416
    ·rw [if_pos c24] at H
     have LMc24 := Aside0.mk c24
     clear c24
     obtain ⟨y414, hy414⟩ : ∃ y_ : List Int, y_ = (y411 ++ l0_1) := ⟨_, rfl⟩
     replace H : (some (x3_1, y414, a0_2)) = some (r1, r2, r3) := by first | (rw [hy414]; with_reducible exact H) | (have H2_ := (Option.bind_some _ _).symm.trans H; rw [hy414]; with_reducible exact H2_) | (have H2_ := (Option.bind_some _ _).symm.trans H; with_reducible exact H2_) | with_reducible exact H | (rw [hy414]; exact H) | exact H
     have Ny414 := Aside0.mk hy414
     clear hy414
     simp only [Option.some.injEq, Prod.mk.injEq] at H
     obtain ⟨rfl, rfl, rfl⟩ := H
     obtain ⟨Ao25, co25, eo25⟩ := Kd.S_slice HO_3.out
     subst eo25
     have hnb26 := NB398_399.out
     have hnc26 := NB399_398.out
     have hcz27_0 : wr.cell? ⟨gb398, 0, none⟩ = some (.slice A0_0 l0_0.length c0_0) := (blk_cell BK398.out 0).trans rfl
     have hcz27_1 : wr.cell? ⟨gb398, 1, none⟩ = some (.slice A0_1 l0_1.length c0_1) := (blk_cell BK398.out 1).trans rfl
     have hcz27_2 : wr.cell? ⟨gb398, 2, none⟩ = some (.int .i64 a0_2) := (blk_cell BK398.out 2).trans rfl
     have hfz27_0 := blk_frozen BK398.out 0
     have hfz27_1 := blk_frozen BK398.out 1
     have hfz27_2 := blk_frozen BK398.out 2
     go_wp2_with (first | ((with_reducible refine gate_dst (N := 25) rfl ?_); refine Kd.R_lit (Kd.int .i64) _ 3 ?hg (N := 25) ?hd (xs := ([] : List Int)) (inner := []) (ok := fun _ => True) (okp := fun _ => True) ?hr ?hp (fun _ hk => hk) trivial (Below.refl _ _) (Nat.le_refl _) (by simp) ?_; (case hd => rfl); (case hg => rfl); (case hr => first | (go_simp; done) | (go_simp; rfl)); (case hp => exact (Reps.none _ _)); intro v412 w28 ho29 hb hg_ hnew_; clear hg_ hnew_; (first | rw [← Ny411.out] at ho29 | (simp only [Int.reduceToNat] at ho29; rw [← Ny411.out] at ho29)); replace HO_3 := Aside0.mk (Kd.S_elder' (by (with_reducible repeat (first | apply Kd.S_alloc | apply Kd.S_drewN | apply Kd.S_drew)); exact (Kd.S_mono (Kd.S_far (p := ⟨gb398, 0, none⟩) (Kd.S_types HO_3.out BK398.out (by decide)) (fun _ hk => hk.2) (.slice Ao25 x3_1.length co25)) (fun _ h_ => h_.1))) (Kd.R_base ho29) hb); have HO413 := Aside0.mk (Kd.R_lower ho29 (below_size (by with_reducible repeat (first | exact HB.out | apply below_alloc | apply pw_below_drewN | apply below_drew1 | refine below_set ?_ GE398.out | refine below_set ?_ GE399.out)))); replace BK398 := Aside0.mk (blk_below (g := gb398) (o := .cells #[.slice Ao25 x3_1.length co25, .slice A0_1 l0_1.length c0_1, .int .i64 a0_2] 25 (0, 0)) (by (with_reducible repeat (first | refine blk_drewN ?_ _ | refine blk_drew ?_ | refine blk_alloc ?_ _)); refine blk_put (cs := #[.slice A0_0 l0_0.length c0_0, .slice A0_1 l0_1.length c0_1, .int .i64 a0_2]) ?_ 0 _ rfl; (with_reducible repeat (first | refine blk_drewN ?_ _ | refine blk_drew ?_ | refine blk_alloc ?_ _)); exact BK398.out) hb); replace BK399 := Aside0.mk (blk_below (g := gb399) (o := .cells #[.slice none 0 0, .slice none 0 0, .int .i64 0] 25 (0, 0)) (by (with_reducible repeat (first | refine blk_drewN ?_ _ | refine blk_drew ?_ | refine blk_alloc ?_ _)); refine blk_far ?_ NB399_398.out _; (with_reducible repeat (first | refine blk_drewN ?_ _ | refine blk_drew ?_ | refine blk_alloc ?_ _)); exact BK399.out) hb); replace HB := Aside0.mk (below_step (by with_reducible repeat (first | exact HB.out | apply below_alloc | apply pw_below_drewN | apply below_drew1 | refine below_set ?_ GE398.out | refine below_set ?_ GE399.out)) hb); clear hb ho29; have hcz30_0 : w28.cell? ⟨gb398, 0, none⟩ = some (.slice Ao25 x3_1.length co25) := (blk_cell BK398.out 0).trans rfl; have hcz30_1 : w28.cell? ⟨gb398, 1, none⟩ = some (.slice A0_1 l0_1.length c0_1) := (blk_cell BK398.out 1).trans rfl; have hcz30_2 : w28.cell? ⟨gb398, 2, none⟩ = some (.int .i64 a0_2) := (blk_cell BK398.out 2).trans rfl; have hfz30_0 := blk_frozen BK398.out 0; have hfz30_1 := blk_frozen BK398.out 1; have hfz30_2 := blk_frozen BK398.out 2) | ((with_reducible refine gate_builtin (b := .append) (xs := #[.tmp 25, .tmp 27]) rfl ?_); at_builtin; refine Kd.R_append_rows (Kd.int .i64) (w0 := w) w.heap.size rfl (.tmp 25) (.tmp 27) 23 3 (.int .i64 0) 8 rfl Try.underlying23 info3 rfl (by decide) (by omega) v412 y411 l0_1 _ _ _ (fun _ => True) (fun _ => False) rfl rfl ?aO ?aR (fun _ _ h => h) (fun _ h => h.elim) ?aF ?aB ?aS ?aL ?_; (case aR => repeat (first | exact (Kd.C_below HR0_1.out HB.out) | (with_reducible refine Kd.C_alloc ?_ _) | (with_reducible refine Kd.C_drewN ?_ _) | (with_reducible refine Kd.C_drew ?_))); (case aB => exact (by with_reducible repeat (first | exact HB.out | apply below_alloc | apply pw_below_drewN | apply below_drew1 | refine below_set ?_ GE398.out | refine below_set ?_ GE399.out))); (case aF => exact (fun _ _ => trivial)); (case aO => exact (by (with_reducible repeat (first | apply Kd.R_alloc | apply Kd.R_drewN | apply Kd.R_drew)); exact HO413.out)); (case aS => exact (below_size (by with_reducible repeat (first | exact HB.out | apply below_alloc | apply pw_below_drewN | apply below_drew1 | refine below_set ?_ GE398.out | refine below_set ?_ GE399.out)))); (case aL => have := LMc24.out; omega); intro v415 w31 ho hb hg hat; rw [← Ny414.out] at ho; replace HO_3 := Aside0.mk (Kd.S_after (ok := (fun _ => True)) (by (with_reducible repeat (first | apply Kd.S_alloc | apply Kd.S_drewN | apply Kd.S_drew)); exact HO_3.out) hg hat); replace BK398 := Aside0.mk (blk_grown (g := gb398) (o := .cells #[.slice Ao25 x3_1.length co25, .slice A0_1 l0_1.length c0_1, .int .i64 a0_2] 25 (0, 0)) (by (with_reducible repeat (first | refine blk_drewN ?_ _ | refine blk_drew ?_ | refine blk_alloc ?_ _)); exact BK398.out) hg (Kd.R_ne HO413.out BK398.out (by decide))); replace BK399 := Aside0.mk (blk_grown (g := gb399) (o := .cells #[.slice none 0 0, .slice none 0 0, .int .i64 0] 25 (0, 0)) (by (with_reducible repeat (first | refine blk_drewN ?_ _ | refine blk_drew ?_ | refine blk_alloc ?_ _)); exact BK399.out) hg (Kd.R_ne HO413.out BK399.out (by decide))); replace HB := Aside0.mk (hb); have HO416 := Aside0.mk (ho); clear HO413; clear ho hb hg hat; obtain ⟨Ao32, co32, eo32⟩ := Kd.R_slice HO416.out; subst eo32; have hcz33_0 : w31.cell? ⟨gb398, 0, none⟩ = some (.slice Ao25 x3_1.length co25) := (blk_cell BK398.out 0).trans rfl; have hcz33_1 : w31.cell? ⟨gb398, 1, none⟩ = some (.slice A0_1 l0_1.length c0_1) := (blk_cell BK398.out 1).trans rfl; have hcz33_2 : w31.cell? ⟨gb398, 2, none⟩ = some (.int .i64 a0_2) := (blk_cell BK398.out 2).trans rfl; have hfz33_0 := blk_frozen BK398.out 0; have hfz33_1 := blk_frozen BK398.out 1; have hfz33_2 := blk_frozen BK398.out 2; have hcz34_0 : w31.cell? ⟨gb399, 0, none⟩ = some (.slice none 0 0) := (blk_cell BK399.out 0).trans rfl; have hcz34_1 : w31.cell? ⟨gb399, 1, none⟩ = some (.slice none 0 0) := (blk_cell BK399.out 1).trans rfl; have hcz34_2 : w31.cell? ⟨gb399, 2, none⟩ = some (.int .i64 0) := (blk_cell BK399.out 2).trans rfl; have hfz34_0 := blk_frozen BK399.out 0; have hfz34_1 := blk_frozen BK399.out 1; have hfz34_2 := blk_frozen BK399.out 2))
     refine bodyPost_ret (results_cell_row rfl _ _ gb399 25 #[.slice Ao25 x3_1.length co25, .slice Ao32 y414.length co32, .int .i64 a0_2] (0, 0) _ rfl (by (with_reducible repeat (first | refine blk_drewN ?_ _ | refine blk_drew ?_ | refine blk_alloc ?_ _)); refine blk_put (cs := #[.slice Ao25 x3_1.length co25, .slice Ao32 y414.length co32, .int .i64 0]) ?_ 2 _ rfl; (with_reducible repeat (first | refine blk_drewN ?_ _ | refine blk_drew ?_ | refine blk_alloc ?_ _)); refine blk_put (cs := #[.slice Ao25 x3_1.length co25, .slice none 0 0, .int .i64 0]) ?_ 1 _ rfl; (with_reducible repeat (first | refine blk_drewN ?_ _ | refine blk_drew ?_ | refine blk_alloc ?_ _)); refine blk_put (cs := #[.slice none 0 0, .slice none 0 0, .int .i64 0]) ?_ 0 _ rfl; (with_reducible repeat (first | refine blk_drewN ?_ _ | refine blk_drew ?_ | refine blk_alloc ?_ _)); refine blk_far ?_ NB399_398.out _; (with_reducible repeat (first | refine blk_drewN ?_ _ | refine blk_drew ?_ | refine blk_alloc ?_ _)); exact BK399.out) Try.underlying25 rfl (by kernel_rfl)) rfl ?_
     exact ⟨_, _, by first | rfl | (simp [errW_none, errW_some] <;> rfl) | (simp [*, errW_none, errW_some] <;> rfl) | (simp [E.isEmpty_bne]; done) | (rw [E.bne_empty]), by (with_reducible repeat (first | apply Kd.S_alloc | apply Kd.S_drewN | apply Kd.S_drew)); exact Kd.S_mono (Kd.S_far (p := ⟨gb399, 2, none⟩) (Kd.S_far (p := ⟨gb399, 1, none⟩) (Kd.S_far (p := ⟨gb399, 0, none⟩) (Kd.S_far (p := ⟨gb398, 1, none⟩) (Kd.S_types (Kd.S_types HO_3.out BK398.out (by decide)) BK399.out (by decide)) (fun _ hk => hk.1.2) (.slice Ao32 y414.length co32)) (fun _ hk => hk.2) (.slice Ao25 x3_1.length co25)) (fun _ hk => hk.2) (.slice Ao32 y414.length co32)) (fun _ hk => hk.2) (.int .i64 a0_2)) (fun _ hk => hk.1.1.2), by (with_reducible repeat (first | apply Kd.R_alloc | apply Kd.R_drewN | apply Kd.R_drew)); exact Kd.R_mono (Kd.R_far (p := ⟨gb399, 2, none⟩) (Kd.R_far (p := ⟨gb399, 1, none⟩) (Kd.R_far (p := ⟨gb399, 0, none⟩) (Kd.R_far (p := ⟨gb398, 1, none⟩) (Kd.R_types (Kd.R_types HO416.out BK398.out (by decide)) BK399.out (by decide)) (fun _ hk => hk.1.2) (.slice Ao32 y414.length co32)) (fun _ hk => hk.2) (.slice Ao25 x3_1.length co25)) (fun _ hk => hk.2) (.slice Ao32 y414.length co32)) (fun _ hk => hk.2) (.int .i64 a0_2)) (fun _ hk => trivial), by with_reducible repeat (first | exact HB.out | apply below_alloc | apply pw_below_drewN | apply below_drew1 | refine below_set ?_ GE398.out | refine below_set ?_ GE399.out)⟩
    ·rw [if_neg c24] at H
     exact absurd H (by simp)
end Go.Proofs.Ytacfalpgmibfnaa.PCow
