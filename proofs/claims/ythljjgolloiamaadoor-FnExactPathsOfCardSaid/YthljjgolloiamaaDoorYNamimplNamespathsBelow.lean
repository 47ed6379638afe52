-- of this session: its walks are told by a program (wip/ext.py) out of the translation
import Derived.Test.YthljjgolloiamaaDoorYNamx0
import Derived.Test.YthljjgolloiamaaDoorXNamKept
namespace Go.Proofs.YthljjgolloiamaaDoor.PNam
open Go.RowKit Go.Proofs.YthljjgolloiamaaDoorW.PrintWords Go.Proofs.YthljjgolloiamaaDoorW.PrintLast Go.Proofs.YthljjgolloiamaaDoorW.PrintMore
attribute [local go_sem] max2_int min2_int max_two min_two max_three min_three max_four min_four   -- for this text's walks alone
set_option linter.unusedVariables false
set_option linter.unusedSimpArgs false

/-! ### impl_Names_pathsBelow: function 52 -/
mutual
def impl_Names_pathsBelow.l0 : Nat → ByteArray → List ByteArray → List (S60) → Int → Int → List (S76) → Option (List ByteArray)
 | 0, _, _, _, _, _, _ => none
 | k + 1, x2, x3, x17, x18, x19, x365000 => if x19 < x18 then (if 0 ≤ x19 then (if x19 < (x17.length : Int) then (if x2.size + 1 ≤ 9223372036854775807 then (if (x2 ++ (⟨#[47]⟩ : ByteArray)).size + ((rd_T60 x17 x19).f0).size ≤ 9223372036854775807 then (if x3.length < 8796093022208 then ((some (x3 ++ [(x2 ++ (⟨#[47]⟩ : ByteArray)) ++ ((rd_T60 x17 x19).f0)] : List ByteArray)).bind fun y368 => (if 0 ≤ ((rd_T60 x17 x19).f1) then (if ((rd_T60 x17 x19).f1) < (x365000.length : Int) then (if (rd_T76 x365000 ((rd_T60 x17 x19).f1)).f0 = true then ((impl_Names_pathsBelow.f k x365000 ((rd_T60 x17 x19).f1) ((x2 ++ (⟨#[47]⟩ : ByteArray)) ++ ((rd_T60 x17 x19).f0)) y368).bind fun t372 => (impl_Names_pathsBelow.l0 k x2 t372 x17 x18 (wrap64 (x19 + 1)) x365000)) else (impl_Names_pathsBelow.l0 k x2 y368 x17 x18 (wrap64 (x19 + 1)) x365000)) else (none)) else (none))) else (none)) else (none)) else (none)) else (none)) else (none)) else (some x3)
def impl_Names_pathsBelow.f : Nat → List (S76) → Int → ByteArray → List ByteArray → Option (List ByteArray)
 | 0, _, _, _, _ => none
 | k + 1, l0_0, a1, a2, l3 => if 0 ≤ a1 then (if a1 < (l0_0.length : Int) then (impl_Names_pathsBelow.l0 k a2 l3 ((rd_T76 l0_0 a1).f2) (((rd_T76 l0_0 a1).f2).length : Int) 0 l0_0) else (none)) else (none)
end
theorem impl_Names_pathsBelow.mono_l : ∀ k, (∀ y0 y1 y2 y3, LeO (impl_Names_pathsBelow.f k y0 y1 y2 y3) (impl_Names_pathsBelow.f (k + 1) y0 y1 y2 y3)) ∧ (∀ y0 y1 y2 y3 y4 y5, LeO (impl_Names_pathsBelow.l0 k y0 y1 y2 y3 y4 y5) (impl_Names_pathsBelow.l0 (k + 1) y0 y1 y2 y3 y4 y5))
 | 0 => ⟨fun _ _ _ _ r h => by simp [impl_Names_pathsBelow.f] at h, fun _ _ _ _ _ _ r h => by simp [impl_Names_pathsBelow.l0] at h⟩
 | k + 1 => by
  obtain ⟨ih0, ih1⟩ := impl_Names_pathsBelow.mono_l k
  refine ⟨?_, ?_⟩
  ·intro y0 y1 y2 y3
   unfold impl_Names_pathsBelow.f
   repeat' first
   | (with_reducible exact ih0 _ _ _ _)
   | (with_reducible exact ih1 _ _ _ _ _ _)
   | (with_reducible exact LeO.refl _)
   | (with_reducible exact LeO.none _)
   | (with_reducible refine LeO.ite ?_ ?_)
   | (with_reducible refine LeO.bind ?_ (fun _ => ?_))
   | exact ih0 _ _ _ _
   | exact ih1 _ _ _ _ _ _
   | exact LeO.none _
   | refine LeO.ite ?_ ?_
   | refine LeO.bind ?_ (fun _ => ?_)
  ·intro y0 y1 y2 y3 y4 y5
   unfold impl_Names_pathsBelow.l0
   repeat' first
   | (with_reducible exact ih0 _ _ _ _)
   | (with_reducible exact ih1 _ _ _ _ _ _)
   | (with_reducible exact LeO.refl _)
   | (with_reducible exact LeO.none _)
   | (with_reducible refine LeO.ite ?_ ?_)
   | (with_reducible refine LeO.bind ?_ (fun _ => ?_))
   | exact ih0 _ _ _ _
   | exact ih1 _ _ _ _ _ _
   | exact LeO.none _
   | refine LeO.ite ?_ ?_
   | refine LeO.bind ?_ (fun _ => ?_)
theorem impl_Names_pathsBelow.mono : ∀ a0 a1 a2 a3 k, LeO (impl_Names_pathsBelow.f k a0 a1 a2 a3) (impl_Names_pathsBelow.f (k + 1) a0 a1 a2 a3) := by
 intro a0 a1 a2 a3 k
 obtain ⟨ih0, ih1⟩ := impl_Names_pathsBelow.mono_l k
 exact ih0 a0 a1 a2 a3
set_option maxHeartbeats 8000000 in
set_option maxRecDepth 100000 in
theorem impl_Names_pathsBelow.calls (k : Nat) : ∀ (A0_0 : Option Addr) (c0_0 : Nat) (l0_0 : List (S76)) (a1 : Int) (a2 : ByteArray) (P3_ : Nat → Prop) (u9000_ : Value) (l3 : List ByteArray) (r : List ByteArray) (w0 w : World) (hB : Below w0.heap.size w0 w) (hr0_0 : ∀ W_, Kept w W_ (fun k_ => P3_ k_) → Kd.C k76 W_ A0_0 l0_0.length l0_0) (hc0_0 : l0_0.length ≤ c0_0) (ho3 : Kd.R Kd.string 9 w w0.heap.size P3_ u9000_ l3) (h : impl_Names_pathsBelow.f k l0_0 a1 a2 l3 = some r),
  Calls Tryd.prog 52 #[.agg #[.slice A0_0 l0_0.length c0_0], .int .i64 a1, .string a2, u9000_] w fun e w' => ∃ v0_ : Value, e = .returned (v0_) ∧ Kd.R Kd.string 9 w' w0.heap.size (fun k_ => (P3_ k_ ∨ w.heap.size ≤ k_)) v0_ r ∧ Below w0.heap.size w0 w' ∧ Kept w w' (fun k_ => P3_ k_) := by
 induction k using Nat.strongRecOn with
 | _ k ih =>
 intro A0_0 c0_0 l0_0 a1 a2 P3_ u9000_ l3 r w0 w hB hr0_0 hc0_0 ho3 h
 cases k with
 | zero => exact absurd h (by simp [impl_Names_pathsBelow.f])
 | succ k =>
 simp only [impl_Names_pathsBelow.f] at h
 have hu30 := Tryd.underlying30
 have hu60 := Tryd.underlying60
 have HR0_0 := Aside0.mk hr0_0
 have HC0_0 := Aside0.mk hc0_0
 clear hr0_0 hc0_0
 have HO3 := Aside0.mk (show Kd.R Kd.string 9 w w0.heap.size (fun k_ => (P3_ k_ ∨ w.heap.size ≤ k_)) u9000_ l3 from Kd.R_mono ho3 (fun k_ hk => (.inl hk)))
 have HK := Aside0.mk (Kept.refl w (fun k_ => P3_ k_))
 have HW0 := Aside0.mk hB.size
 have HB := Aside0.mk hB
 clear hB
 have H : (if 0 ≤ a1 then (if a1 < (l0_0.length : Int) then (impl_Names_pathsBelow.l0 k a2 l3 ((rd_T76 l0_0 a1).f2) (((rd_T76 l0_0 a1).f2).length : Int) 0 l0_0) else (none)) else (none)) = some r := h
 clear h
 by_cases c5 : 0 ≤ a1
 ·rw [if_pos c5] at H
  have c5b0 : decide (0 ≤ a1) = true := decide_eq_true c5
  clear c5
  by_cases c6 : a1 < (l0_0.length : Int)
  ·rw [if_pos c6] at H
   have c6b0 : decide (a1 < (l0_0.length : Int)) = true := decide_eq_true c6
   clear c6
   have H' := Aside0.mk H
   clear H
   go_enter Tryd.func52, Tryd.ntmps52
   go_wp2_with (first | ((with_reducible refine gate_dst (N := 4) rfl ?_); refine box_event ?hg (N := 4) ?hd (cs := #[.slice A0_0 l0_0.length c0_0]) (t := 30) ?hr ?_; (case hd => rfl); (case hg => rfl); (case hr => first | (go_simp; done) | (go_simp; rfl)); intro gb364 hg w7 hbox hb; replace HO3 := Aside0.mk (Kd.R_below (by (with_reducible repeat (first | apply Kd.R_alloc | apply Kd.R_drewN | apply Kd.R_drew)); exact HO3.out) hb); have BK364 := Aside0.mk (hbox); have GW364 := Aside0.mk ((by rw [hg]; exact (by first | exact HK.out.1 | exact (show Kept w _ (fun k_ => P3_ k_) from by with_reducible repeat (first | exact HK.out | apply Kept.alloc | apply Kept.drewN | apply Kept.drew)).1) : w.heap.size ≤ gb364)); replace HK := Aside0.mk (Kept.below (S := (fun k_ => P3_ k_)) (by with_reducible repeat (first | exact HK.out | apply Kept.alloc | apply Kept.drewN | apply Kept.drew)) hb); have GE364 := Aside0.mk ((by rw [hg]; exact (below_size (by with_reducible repeat (first | exact HB.out | apply below_alloc | apply pw_below_drewN | apply below_drew1))) : w0.heap.size ≤ gb364)); replace HB := Aside0.mk (below_step (by with_reducible repeat (first | exact HB.out | apply below_alloc | apply pw_below_drewN | apply below_drew1)) hb); clear hb hbox hg; have hcz8_0 : w7.cell? ⟨gb364, 0, none⟩ = some (.slice A0_0 l0_0.length c0_0) := (blk_cell BK364.out 0).trans rfl; have hfz8_0 := blk_frozen BK364.out 0; have p365 : 0 ≤ (a1 : Int) := of_decide_eq_true (by assumption); have q365 : a1 < (l0_0.length : Int) := of_decide_eq_true (by assumption); obtain ⟨ad365, A365_2, c365_2, e365, hx365_0, hx365_1, hx365_2, hl365_2, hi365_2⟩ := at_T76 (Kd.C_kept_now HR0_0.out HK.out) a1 p365 q365; cases e365; have HR365_2 := Aside0.mk (inode_kept HR0_0.out a1 p365 q365 HK.out hx365_2); have HC365_2 := Aside0.mk hl365_2; clear hi365_2 hl365_2; replace p365 := eq_true p365; replace q365 := eq_true q365))
   go_loopg [3, 19] k (fun kq v3 v19 w' => ∃ (x3_1 : List ByteArray) (x19_1 : Int), v19 = .int .i64 x19_1 ∧ Aside0 (impl_Names_pathsBelow.l0 kq a2 x3_1 ((rd_T76 l0_0 a1).f2) (((rd_T76 l0_0 a1).f2).length : Int) x19_1 l0_0 = some r) ∧ Aside0 (kq ≤ k) ∧ Aside0 (Kd.R Kd.string 9 w' w0.heap.size (fun k_ => (P3_ k_ ∨ w.heap.size ≤ k_)) v3 x3_1) ∧ Aside0 (w'.heap[gb364]? = some (.cells #[(.slice (some ad365) l0_0.length c0_0)] 30 (0, 0))) ∧ Aside0 (Kept w w' (fun k_ => P3_ k_)) ∧ Aside0 (Below w0.heap.size w0 w'))
   case atStart => exact ⟨(l3), (0), (by first | rfl | (simp; done) | (simp [*]; done)), H', ⟨Nat.le_refl _⟩, ⟨by (with_reducible repeat (first | apply Kd.R_alloc | apply Kd.R_drewN | apply Kd.R_drew)); exact HO3.out⟩, ⟨by (with_reducible repeat (first | refine blk_drewN ?_ _ | refine blk_drew ?_ | refine blk_alloc ?_ _)); exact BK364.out⟩, ⟨by with_reducible repeat (first | exact HK.out | apply Kept.alloc | apply Kept.drewN | apply Kept.drew | refine Kept.setCell ?_ (.inr GW364.out) _)⟩, ⟨by with_reducible repeat (first | exact HB.out | apply below_alloc | apply pw_below_drewN | apply below_drew1 | refine below_set ?_ GE364.out)⟩⟩
   case round =>
    clear H'
    try clear p2
    try clear c3
    try clear p3
    try clear q3
    try clear hx3
    try clear c5
    try clear c5b0
    try clear c6
    try clear c6b0
    try clear hcz8_0
    try clear hfz8_0
    try clear hx365_0
    try clear hx365_1
    try clear hx365_2
    try clear p365
    try clear q365
    obtain ⟨x3_1, x19_1, rfl, HA, HK1, HO_3, BK364, HK, HB⟩ := hrel
    cases gk with
    | zero => exact absurd HA.out (by simp [impl_Names_pathsBelow.l0])
    | succ k1 =>
     have H := HA.out
     clear HA
     simp only [impl_Names_pathsBelow.l0] at H
     by_cases c9 : x19_1 < (((rd_T76 l0_0 a1).f2).length : Int)
     ·rw [if_pos c9] at H
      have c9b0 : decide (x19_1 < (((rd_T76 l0_0 a1).f2).length : Int)) = true := decide_eq_true c9
      clear c9
      by_cases c10 : 0 ≤ x19_1
      ·rw [if_pos c10] at H
       have c10b0 : decide (0 ≤ x19_1) = true := decide_eq_true c10
       clear c10
       by_cases c11 : x19_1 < (((rd_T76 l0_0 a1).f2).length : Int)
       ·rw [if_pos c11] at H
        have c11b0 : decide (x19_1 < (((rd_T76 l0_0 a1).f2).length : Int)) = true := decide_eq_true c11
        clear c11
        by_cases c12 : a2.size + 1 ≤ 9223372036854775807
        ·rw [if_pos c12] at H
         have c12b0 := eq_true c12
         have c12b1 : decide (a2.size + 1 ≤ 9223372036854775807) = true := decide_eq_true c12
         try have c12b2 : (9223372036854775807 < a2.size + 1) = False := eq_false (Nat.not_lt.2 c12)
         by_cases c13 : (a2 ++ (⟨#[47]⟩ : ByteArray)).size + ((rd_T60 ((rd_T76 l0_0 a1).f2) x19_1).f0).size ≤ 9223372036854775807
         ·rw [if_pos c13] at H
          have c13b0 := eq_true c13
          have c13b1 : decide ((a2 ++ (⟨#[47]⟩ : ByteArray)).size + ((rd_T60 ((rd_T76 l0_0 a1).f2) x19_1).f0).size ≤ 9223372036854775807) = true := decide_eq_true c13
          try have c13b2 : (9223372036854775807 < (a2 ++ (⟨#[47]⟩ : ByteArray)).size + ((rd_T60 ((rd_T76 l0_0 a1).f2) x19_1).f0).size) = False := eq_false (Nat.not_lt.2 c13)
          by_cases c14 : x3_1.length < 8796093022208
          ·rw [if_pos c14] at H
           have LMc14 := Aside0.mk c14
           clear c14
           obtain ⟨y368, hy368⟩ : ∃ y_ : List ByteArray, y_ = (x3_1 ++ [(a2 ++ (⟨#[47]⟩ : ByteArray)) ++ ((rd_T60 ((rd_T76 l0_0 a1).f2) x19_1).f0)]) := ⟨_, rfl⟩
           replace H : (if 0 ≤ ((rd_T60 ((rd_T76 l0_0 a1).f2) x19_1).f1) then (if ((rd_T60 ((rd_T76 l0_0 a1).f2) x19_1).f1) < (l0_0.length : Int) then (if (rd_T76 l0_0 ((rd_T60 ((rd_T76 l0_0 a1).f2) x19_1).f1)).f0 = true then ((impl_Names_pathsBelow.f k1 l0_0 ((rd_T60 ((rd_T76 l0_0 a1).f2) x19_1).f1) ((a2 ++ (⟨#[47]⟩ : ByteArray)) ++ ((rd_T60 ((rd_T76 l0_0 a1).f2) x19_1).f0)) y368).bind fun t372 => (impl_Names_pathsBelow.l0 k1 a2 t372 ((rd_T76 l0_0 a1).f2) (((rd_T76 l0_0 a1).f2).length : Int) (wrap64 (x19_1 + 1)) l0_0)) else (impl_Names_pathsBelow.l0 k1 a2 y368 ((rd_T76 l0_0 a1).f2) (((rd_T76 l0_0 a1).f2).length : Int) (wrap64 (x19_1 + 1)) l0_0)) else (none)) else (none)) = some r := by first | (rw [hy368]; with_reducible exact H) | (have H2_ := (Option.bind_some _ _).symm.trans H; rw [hy368]; with_reducible exact H2_) | (have H2_ := (Option.bind_some _ _).symm.trans H; with_reducible exact H2_) | with_reducible exact H | (rw [hy368]; exact H) | exact H
           have Ny368 := Aside0.mk hy368
           clear hy368
           by_cases c15 : 0 ≤ ((rd_T60 ((rd_T76 l0_0 a1).f2) x19_1).f1)
           ·rw [if_pos c15] at H
            have c15b0 : decide (0 ≤ ((rd_T60 ((rd_T76 l0_0 a1).f2) x19_1).f1)) = true := decide_eq_true c15
            clear c15
            by_cases c16 : ((rd_T60 ((rd_T76 l0_0 a1).f2) x19_1).f1) < (l0_0.length : Int)
            ·rw [if_pos c16] at H
             have c16b0 : decide (((rd_T60 ((rd_T76 l0_0 a1).f2) x19_1).f1) < (l0_0.length : Int)) = true := decide_eq_true c16
             clear c16
             obtain ⟨bq17, hbq17⟩ : ∃ b_ : Bool, b_ = ((rd_T76 l0_0 ((rd_T60 ((rd_T76 l0_0 a1).f2) x19_1).f1)).f0) := ⟨_, rfl⟩
             replace H : (if bq17 = true then ((impl_Names_pathsBelow.f k1 l0_0 ((rd_T60 ((rd_T76 l0_0 a1).f2) x19_1).f1) ((a2 ++ (⟨#[47]⟩ : ByteArray)) ++ ((rd_T60 ((rd_T76 l0_0 a1).f2) x19_1).f0)) y368).bind fun t372 => (impl_Names_pathsBelow.l0 k1 a2 t372 ((rd_T76 l0_0 a1).f2) (((rd_T76 l0_0 a1).f2).length : Int) (wrap64 (x19_1 + 1)) l0_0)) else (impl_Names_pathsBelow.l0 k1 a2 y368 ((rd_T76 l0_0 a1).f2) (((rd_T76 l0_0 a1).f2).length : Int) (wrap64 (x19_1 + 1)) l0_0)) = some r := by rw [← hbq17] at H; exact H
             have Nbq17 := Aside0.mk hbq17
             clear hbq17
             by_cases c18 : bq17 = true
             ·subst c18
              have H1 : ((impl_Names_pathsBelow.f k1 l0_0 ((rd_T60 ((rd_T76 l0_0 a1).f2) x19_1).f1) ((a2 ++ (⟨#[47]⟩ : ByteArray)) ++ ((rd_T60 ((rd_T76 l0_0 a1).f2) x19_1).f0)) y368).bind fun t372 => (impl_Names_pathsBelow.l0 k1 a2 t372 ((rd_T76 l0_0 a1).f2) (((rd_T76 l0_0 a1).f2).length : Int) (wrap64 (x19_1 + 1)) l0_0)) = some r := by rw [if_pos rfl] at H; exact H
              clear H
              have H := H1
              clear H1
              replace H := Option.bind_eq_some_iff.mp H
              obtain ⟨t372, A190, H⟩ := H
              replace H : (impl_Names_pathsBelow.l0 k1 a2 t372 ((rd_T76 l0_0 a1).f2) (((rd_T76 l0_0 a1).f2).length : Int) (wrap64 (x19_1 + 1)) l0_0) = some r := H
              have A19 := Aside0.mk A190
              clear A190
              have H' := Aside0.mk H
              clear H
              have p366 : 0 ≤ (x19_1 : Int) := of_decide_eq_true (by assumption)
              have q366 : x19_1 < (((rd_T76 l0_0 a1).f2).length : Int) := of_decide_eq_true (by assumption)
              obtain ⟨ad366, e366, hx366_0, hx366_1⟩ := at_T60 (HR365_2.out _ HK.out) x19_1 p366 q366
              cases e366
              replace p366 := eq_true p366
              replace q366 := eq_true q366
              go_wp2_with (first | ((with_reducible refine gate_dst (N := 10) rfl ?_); refine box_event ?hg (N := 10) ?hd (cs := #[.string (⟨#[]⟩ : ByteArray), .int .i64 0]) (t := 60) ?hr ?_; (case hd => rfl); (case hg => rfl); (case hr => first | (go_simp; done) | (go_simp; rfl)); intro gb367 hg w20 hbox hb; replace HO_3 := Aside0.mk (Kd.R_below (by (with_reducible repeat (first | apply Kd.R_alloc | apply Kd.R_drewN | apply Kd.R_drew)); exact HO_3.out) hb); have BK367 := Aside0.mk (hbox); have GW367 := Aside0.mk ((by rw [hg]; exact (by first | exact HK.out.1 | exact (show Kept w _ (fun k_ => P3_ k_) from by with_reducible repeat (first | exact HK.out | apply Kept.alloc | apply Kept.drewN | apply Kept.drew | refine Kept.setCell ?_ (.inr GW364.out) _)).1) : w.heap.size ≤ gb367)); replace HK := Aside0.mk (Kept.below (S := (fun k_ => P3_ k_)) (by with_reducible repeat (first | exact HK.out | apply Kept.alloc | apply Kept.drewN | apply Kept.drew | refine Kept.setCell ?_ (.inr GW364.out) _)) hb); have GE367 := Aside0.mk ((by rw [hg]; exact (below_size (by with_reducible repeat (first | exact HB.out | apply below_alloc | apply pw_below_drewN | apply below_drew1 | refine below_set ?_ GE364.out))) : w0.heap.size ≤ gb367)); replace HB := Aside0.mk (below_step (by with_reducible repeat (first | exact HB.out | apply below_alloc | apply pw_below_drewN | apply below_drew1 | refine below_set ?_ GE364.out)) hb); have NB364_367 := Aside0.mk ((by rw [hg]; exact Nat.ne_of_lt (blk_lt (g := gb364) (o := .cells #[.slice (some ad365) l0_0.length c0_0] 30 (0, 0)) (by (with_reducible repeat (first | refine blk_drewN ?_ _ | refine blk_drew ?_ | refine blk_alloc ?_ _)); exact BK364.out)) : gb364 ≠ gb367)); have NB367_364 := Aside0.mk ((by rw [hg]; exact Nat.ne_of_gt (blk_lt (g := gb364) (o := .cells #[.slice (some ad365) l0_0.length c0_0] 30 (0, 0)) (by (with_reducible repeat (first | refine blk_drewN ?_ _ | refine blk_drew ?_ | refine blk_alloc ?_ _)); exact BK364.out)) : gb367 ≠ gb364)); replace BK364 := Aside0.mk (blk_below (g := gb364) (o := .cells #[.slice (some ad365) l0_0.length c0_0] 30 (0, 0)) (by (with_reducible repeat (first | refine blk_drewN ?_ _ | refine blk_drew ?_ | refine blk_alloc ?_ _)); exact BK364.out) hb); clear hb hbox hg; have hnb21 := NB367_364.out; have hnc21 := NB364_367.out; have hcz22_0 : w20.cell? ⟨gb367, 0, none⟩ = some (.string (⟨#[]⟩ : ByteArray)) := (blk_cell BK367.out 0).trans rfl; have hcz22_1 : w20.cell? ⟨gb367, 1, none⟩ = some (.int .i64 0) := (blk_cell BK367.out 1).trans rfl; have hfz22_0 := blk_frozen BK367.out 0; have hfz22_1 := blk_frozen BK367.out 1) | ((with_reducible refine gate_builtin (b := .append) (xs := #[.tmp 28, .tmp 30]) rfl ?_); at_builtin; refine Kd.R_append Kd.string (w0 := w0) w0.heap.size rfl (.tmp 28) (.tmp 30) 40 9 (.string ⟨#[]⟩) 16 rfl Tryd.underlying40 info9 rfl (by decide) (by omega) u3 x3_1 ((a2 ++ (⟨#[47]⟩ : ByteArray)) ++ ((rd_T60 ((rd_T76 l0_0 a1).f2) x19_1).f0)) [.string ((a2 ++ (⟨#[47]⟩ : ByteArray)) ++ ((rd_T60 ((rd_T76 l0_0 a1).f2) x19_1).f0))] (fun k_ => (P3_ k_ ∨ w.heap.size ≤ k_)) (fun _ => False) rfl (by first | (go_simp; done) | (go_simp; rfl)) ?aP (fun _ hk => hk.elim) ?aF ?aO ?aB ?aS ?aL ?_; (case aP => exact rfl); (case aB => exact (by with_reducible repeat (first | exact HB.out | apply below_alloc | apply pw_below_drewN | apply below_drew1 | refine below_set ?_ GE364.out | refine below_set ?_ GE367.out))); (case aF => exact (fun k_ hk => (.inr (Nat.le_trans (show Kept w _ (fun k_ => P3_ k_) from by with_reducible repeat (first | exact HK.out | apply Kept.alloc | apply Kept.drewN | apply Kept.drew | refine Kept.setCell ?_ (.inr GW364.out) _ | refine Kept.setCell ?_ (.inr GW367.out) _)).1 hk)))); (case aO => exact (by (with_reducible repeat (first | apply Kd.R_alloc | apply Kd.R_drewN | apply Kd.R_drew)); exact Kd.R_mono (Kd.R_far (p := ⟨gb367, 1, none⟩) (Kd.R_far (p := ⟨gb367, 0, none⟩) (Kd.R_types HO_3.out BK367.out (by decide)) (fun _ hk => hk.2) (.string ((rd_T60 ((rd_T76 l0_0 a1).f2) x19_1).f0))) (fun _ hk => hk.2) (.int .i64 ((rd_T60 ((rd_T76 l0_0 a1).f2) x19_1).f1))) (fun _ hk => hk.1))); (case aS => exact (below_size (by with_reducible repeat (first | exact HB.out | apply below_alloc | apply pw_below_drewN | apply below_drew1 | refine below_set ?_ GE364.out | refine below_set ?_ GE367.out)))); (case aL => have := LMc14.out; omega); intro v369 w23 ho hb hg hat; rw [← Ny368.out] at ho; replace BK364 := Aside0.mk (blk_grown (g := gb364) (o := .cells #[.slice (some ad365) l0_0.length c0_0] 30 (0, 0)) (by (with_reducible repeat (first | refine blk_drewN ?_ _ | refine blk_drew ?_ | refine blk_alloc ?_ _)); refine blk_far ?_ NB364_367.out _; (with_reducible repeat (first | refine blk_drewN ?_ _ | refine blk_drew ?_ | refine blk_alloc ?_ _)); refine blk_far ?_ NB364_367.out _; (with_reducible repeat (first | refine blk_drewN ?_ _ | refine blk_drew ?_ | refine blk_alloc ?_ _)); exact BK364.out) hg (Kd.R_ne HO_3.out BK364.out (by decide))); replace BK367 := Aside0.mk (blk_grown (g := gb367) (o := .cells #[.string ((rd_T60 ((rd_T76 l0_0 a1).f2) x19_1).f0), .int .i64 ((rd_T60 ((rd_T76 l0_0 a1).f2) x19_1).f1)] 60 (0, 0)) (by (with_reducible repeat (first | refine blk_drewN ?_ _ | refine blk_drew ?_ | refine blk_alloc ?_ _)); refine blk_put (cs := #[.string ((rd_T60 ((rd_T76 l0_0 a1).f2) x19_1).f0), .int .i64 0]) ?_ 1 _ rfl; (with_reducible repeat (first | refine blk_drewN ?_ _ | refine blk_drew ?_ | refine blk_alloc ?_ _)); refine blk_put (cs := #[.string (⟨#[]⟩ : ByteArray), .int .i64 0]) ?_ 0 _ rfl; (with_reducible repeat (first | refine blk_drewN ?_ _ | refine blk_drew ?_ | refine blk_alloc ?_ _)); exact BK367.out) hg (Kd.R_ne HO_3.out BK367.out (by decide))); replace HB := Aside0.mk (hb); replace HK := Aside0.mk (Kept.of_grown (S := (fun k_ => P3_ k_)) hg (by with_reducible repeat (first | exact HK.out | apply Kept.alloc | apply Kept.drewN | apply Kept.drew | refine Kept.setCell ?_ (.inr GW364.out) _ | refine Kept.setCell ?_ (.inr GW367.out) _)) (fun k_ e_ => (HO_3.out.1 k_ e_))); have HO370 := Aside0.mk (ho); clear HO_3; clear ho hb hg hat; have hcz24_0 : w23.cell? ⟨gb364, 0, none⟩ = some (.slice (some ad365) l0_0.length c0_0) := (blk_cell BK364.out 0).trans rfl; have hfz24_0 := blk_frozen BK364.out 0; have hcz25_0 : w23.cell? ⟨gb367, 0, none⟩ = some (.string ((rd_T60 ((rd_T76 l0_0 a1).f2) x19_1).f0)) := (blk_cell BK367.out 0).trans rfl; have hcz25_1 : w23.cell? ⟨gb367, 1, none⟩ = some (.int .i64 ((rd_T60 ((rd_T76 l0_0 a1).f2) x19_1).f1)) := (blk_cell BK367.out 1).trans rfl; have hfz25_0 := blk_frozen BK367.out 0; have hfz25_1 := blk_frozen BK367.out 1; have p371 : 0 ≤ (((rd_T60 ((rd_T76 l0_0 a1).f2) x19_1).f1) : Int) := of_decide_eq_true (by assumption); have q371 : ((rd_T60 ((rd_T76 l0_0 a1).f2) x19_1).f1) < (l0_0.length : Int) := of_decide_eq_true (by assumption); obtain ⟨ad371, A371_2, c371_2, e371, hx371_0, hx371_1, hx371_2, hl371_2, hi371_2⟩ := at_T76 (Kd.C_kept_now HR0_0.out HK.out) ((rd_T60 ((rd_T76 l0_0 a1).f2) x19_1).f1) p371 q371; (try rw [← Nbq17.out] at hx371_0); obtain rfl : ad365 = ad371 := (by injection e371); have HR371_2 := Aside0.mk hi371_2; have HC371_2 := Aside0.mk hl371_2; clear hi371_2 hl371_2; replace p371 := eq_true p371; replace q371 := eq_true q371; obtain ⟨Ao26, co26, eo26⟩ := Kd.R_slice HO370.out; subst eo26) | ((with_reducible refine gate_callee (f := 52) rfl ?_); refine goesL_ (some 44) rfl rfl Tryd.func52 (by kernel_rfl) rfl #[.agg #[.slice (some ad365) l0_0.length c0_0], .int .i64 ((rd_T60 ((rd_T76 l0_0 a1).f2) x19_1).f1), .string ((a2 ++ (⟨#[47]⟩ : ByteArray)) ++ ((rd_T60 ((rd_T76 l0_0 a1).f2) x19_1).f0)), .slice Ao26 y368.length co26] rfl (by (try simp only [List.map_toArray, List.map_cons, List.map_nil]); first | done | rfl | (simp only [List.length_drop, List.length_take]; rfl)) ?_; (with_reducible refine (ih k1 (by have := HK1.out; omega) _ _ l0_0 ((rd_T60 ((rd_T76 l0_0 a1).f2) x19_1).f1) ((a2 ++ (⟨#[47]⟩ : ByteArray)) ++ ((rd_T60 ((rd_T76 l0_0 a1).f2) x19_1).f0)) (fun k_ => some k_ = (.slice Ao26 y368.length co26 : Value).ownBlock) (.slice Ao26 y368.length co26) y368 t372 w0 _ ?side1 ?side2 ?side3 ?side4 A19.out).mono ?_); (case side1 => with_reducible repeat (first | exact HB.out | apply below_alloc | apply pw_below_drewN | apply below_drew1 | refine below_set ?_ GE364.out | refine below_set ?_ GE367.out)); (case side2 => exact Kd.C_kept_call HR0_0.out (by with_reducible repeat (first | exact HK.out | apply Kept.alloc | apply Kept.drewN | apply Kept.drew | refine Kept.setCell ?_ (.inr GW364.out) _ | refine Kept.setCell ?_ (.inr GW367.out) _)) (fun k_ hs_ => (fun e_ => (HO370.out.1 k_ e_.symm)) hs_)); (case side3 => exact HC0_0.out); (case side4 => exact Kd.R_tight rfl HO370.out); rintro e w27 ⟨v373, rfl, ho0, hb, hkp⟩; refine ⟨_, rfl, ?_⟩; replace BK364 := Aside0.mk (blk_kept (by (with_reducible repeat (first | refine blk_drewN ?_ _ | refine blk_drew ?_ | refine blk_alloc ?_ _)); exact BK364.out) hkp (fun hs_ => (fun e_ => (Kd.R_ne HO370.out BK364.out (by decide)) e_) hs_)); replace BK367 := Aside0.mk (blk_kept (by (with_reducible repeat (first | refine blk_drewN ?_ _ | refine blk_drew ?_ | refine blk_alloc ?_ _)); exact BK367.out) hkp (fun hs_ => (fun e_ => (Kd.R_ne HO370.out BK367.out (by decide)) e_) hs_)); have HO374 := Aside0.mk (Kd.R_mono (ok' := fun k_ => (P3_ k_ ∨ w.heap.size ≤ k_)) ho0 (fun k_ hk_ => Or.elim hk_ (fun hs_ => (HO370.out.1 k_ (hs_).symm)) (fun hn_ => (.inr (Nat.le_trans (by first | exact HK.out.1 | exact (show Kept w _ (fun k_ => P3_ k_) from by with_reducible repeat (first | exact HK.out | apply Kept.alloc | apply Kept.drewN | apply Kept.drew | refine Kept.setCell ?_ (.inr GW364.out) _ | refine Kept.setCell ?_ (.inr GW367.out) _)).1) hn_))))); replace HK := Aside0.mk (Kept.then_ (S := (fun k_ => P3_ k_)) (by with_reducible repeat (first | exact HK.out | apply Kept.alloc | apply Kept.drewN | apply Kept.drew | refine Kept.setCell ?_ (.inr GW364.out) _ | refine Kept.setCell ?_ (.inr GW367.out) _)) hkp (fun k_ hs_ => (fun e_ => (HO370.out.1 k_ e_.symm)) hs_)); replace HB := Aside0.mk (hb); clear HO370; (try clear hb); (try clear hkp); (try clear ho0)))
              go_roundg k1
              case measure => have := HK1.out; omega
              case rel => exact ⟨(t372), (wrap64 (x19_1 + 1)), (by first | rfl | (simp; done) | (simp [*]; done)), H', ⟨by have := HK1.out; omega⟩, ⟨by (with_reducible repeat (first | apply Kd.R_alloc | apply Kd.R_drewN | apply Kd.R_drew)); exact HO374.out⟩, ⟨by (with_reducible repeat (first | refine blk_drewN ?_ _ | refine blk_drew ?_ | refine blk_alloc ?_ _)); exact BK364.out⟩, ⟨by with_reducible repeat (first | exact HK.out | apply Kept.alloc | apply Kept.drewN | apply Kept.drew | refine Kept.setCell ?_ (.inr GW364.out) _ | refine Kept.setCell ?_ (.inr GW367.out) _)⟩, ⟨by with_reducible repeat (first | exact HB.out | apply below_alloc | apply pw_below_drewN | apply below_drew1 | refine below_set ?_ GE364.out | refine below_set ?_ GE367.out)⟩⟩
             ·replace c18 := Bool.eq_false_iff.mpr c18
              subst c18
              have H1 : (impl_Names_pathsBelow.l0 k1 a2 y368 ((rd_T76 l0_0 a1).f2) (((rd_T76 l0_0 a1).f2).length : Int) (wrap64 (x19_1 + 1)) l0_0) = some r := by rw [if_neg (show ¬ (false = true) by decide)] at H; exact H
              clear H
              have H := H1
              clear H1
              have H' := Aside0.mk H
              clear H
              have p366 : 0 ≤ (x19_1 : Int) := of_decide_eq_true (by assumption)
              have q366 : x19_1 < (((rd_T76 l0_0 a1).f2).length : Int) := of_decide_eq_true (by assumption)
              obtain ⟨ad366, e366, hx366_0, hx366_1⟩ := at_T60 (HR365_2.out _ HK.out) x19_1 p366 q366
              cases e366
              replace p366 := eq_true p366
              replace q366 := eq_true q366
              go_wp2_with (first | ((with_reducible refine gate_dst (N := 10) rfl ?_); refine box_event ?hg (N := 10) ?hd (cs := #[.string (⟨#[]⟩ : ByteArray), .int .i64 0]) (t := 60) ?hr ?_; (case hd => rfl); (case hg => rfl); (case hr => first | (go_simp; done) | (go_simp; rfl)); intro gb367 hg w28 hbox hb; replace HO_3 := Aside0.mk (Kd.R_below (by (with_reducible repeat (first | apply Kd.R_alloc | apply Kd.R_drewN | apply Kd.R_drew)); exact HO_3.out) hb); have BK367 := Aside0.mk (hbox); have GW367 := Aside0.mk ((by rw [hg]; exact (by first | exact HK.out.1 | exact (show Kept w _ (fun k_ => P3_ k_) from by with_reducible repeat (first | exact HK.out | apply Kept.alloc | apply Kept.drewN | apply Kept.drew | refine Kept.setCell ?_ (.inr GW364.out) _)).1) : w.heap.size ≤ gb367)); replace HK := Aside0.mk (Kept.below (S := (fun k_ => P3_ k_)) (by with_reducible repeat (first | exact HK.out | apply Kept.alloc | apply Kept.drewN | apply Kept.drew | refine Kept.setCell ?_ (.inr GW364.out) _)) hb); have GE367 := Aside0.mk ((by rw [hg]; exact (below_size (by with_reducible repeat (first | exact HB.out | apply below_alloc | apply pw_below_drewN | apply below_drew1 | refine below_set ?_ GE364.out))) : w0.heap.size ≤ gb367)); replace HB := Aside0.mk (below_step (by with_reducible repeat (first | exact HB.out | apply below_alloc | apply pw_below_drewN | apply below_drew1 | refine below_set ?_ GE364.out)) hb); have NB364_367 := Aside0.mk ((by rw [hg]; exact Nat.ne_of_lt (blk_lt (g := gb364) (o := .cells #[.slice (some ad365) l0_0.length c0_0] 30 (0, 0)) (by (with_reducible repeat (first | refine blk_drewN ?_ _ | refine blk_drew ?_ | refine blk_alloc ?_ _)); exact BK364.out)) : gb364 ≠ gb367)); have NB367_364 := Aside0.mk ((by rw [hg]; exact Nat.ne_of_gt (blk_lt (g := gb364) (o := .cells #[.slice (some ad365) l0_0.length c0_0] 30 (0, 0)) (by (with_reducible repeat (first | refine blk_drewN ?_ _ | refine blk_drew ?_ | refine blk_alloc ?_ _)); exact BK364.out)) : gb367 ≠ gb364)); replace BK364 := Aside0.mk (blk_below (g := gb364) (o := .cells #[.slice (some ad365) l0_0.length c0_0] 30 (0, 0)) (by (with_reducible repeat (first | refine blk_drewN ?_ _ | refine blk_drew ?_ | refine blk_alloc ?_ _)); exact BK364.out) hb); clear hb hbox hg; have hnb29 := NB367_364.out; have hnc29 := NB364_367.out; have hcz30_0 : w28.cell? ⟨gb367, 0, none⟩ = some (.string (⟨#[]⟩ : ByteArray)) := (blk_cell BK367.out 0).trans rfl; have hcz30_1 : w28.cell? ⟨gb367, 1, none⟩ = some (.int .i64 0) := (blk_cell BK367.out 1).trans rfl; have hfz30_0 := blk_frozen BK367.out 0; have hfz30_1 := blk_frozen BK367.out 1) | ((with_reducible refine gate_builtin (b := .append) (xs := #[.tmp 28, .tmp 30]) rfl ?_); at_builtin; refine Kd.R_append Kd.string (w0 := w0) w0.heap.size rfl (.tmp 28) (.tmp 30) 40 9 (.string ⟨#[]⟩) 16 rfl Tryd.underlying40 info9 rfl (by decide) (by omega) u3 x3_1 ((a2 ++ (⟨#[47]⟩ : ByteArray)) ++ ((rd_T60 ((rd_T76 l0_0 a1).f2) x19_1).f0)) [.string ((a2 ++ (⟨#[47]⟩ : ByteArray)) ++ ((rd_T60 ((rd_T76 l0_0 a1).f2) x19_1).f0))] (fun k_ => (P3_ k_ ∨ w.heap.size ≤ k_)) (fun _ => False) rfl (by first | (go_simp; done) | (go_simp; rfl)) ?aP (fun _ hk => hk.elim) ?aF ?aO ?aB ?aS ?aL ?_; (case aP => exact rfl); (case aB => exact (by with_reducible repeat (first | exact HB.out | apply below_alloc | apply pw_below_drewN | apply below_drew1 | refine below_set ?_ GE364.out | refine below_set ?_ GE367.out))); (case aF => exact (fun k_ hk => (.inr (Nat.le_trans (show Kept w _ (fun k_ => P3_ k_) from by with_reducible repeat (first | exact HK.out | apply Kept.alloc | apply Kept.drewN | apply Kept.drew | refine Kept.setCell ?_ (.inr GW364.out) _ | refine Kept.setCell ?_ (.inr GW367.out) _)).1 hk)))); (case aO => exact (by (with_reducible repeat (first | apply Kd.R_alloc | apply Kd.R_drewN | apply Kd.R_drew)); exact Kd.R_mono (Kd.R_far (p := ⟨gb367, 1, none⟩) (Kd.R_far (p := ⟨gb367, 0, none⟩) (Kd.R_types HO_3.out BK367.out (by decide)) (fun _ hk => hk.2) (.string ((rd_T60 ((rd_T76 l0_0 a1).f2) x19_1).f0))) (fun _ hk => hk.2) (.int .i64 ((rd_T60 ((rd_T76 l0_0 a1).f2) x19_1).f1))) (fun _ hk => hk.1))); (case aS => exact (below_size (by with_reducible repeat (first | exact HB.out | apply below_alloc | apply pw_below_drewN | apply below_drew1 | refine below_set ?_ GE364.out | refine below_set ?_ GE367.out)))); (case aL => have := LMc14.out; omega); intro v369 w31 ho hb hg hat; rw [← Ny368.out] at ho; replace BK364 := Aside0.mk (blk_grown (g := gb364) (o := .cells #[.slice (some ad365) l0_0.length c0_0] 30 (0, 0)) (by (with_reducible repeat (first | refine blk_drewN ?_ _ | refine blk_drew ?_ | refine blk_alloc ?_ _)); refine blk_far ?_ NB364_367.out _; (with_reducible repeat (first | refine blk_drewN ?_ _ | refine blk_drew ?_ | refine blk_alloc ?_ _)); refine blk_far ?_ NB364_367.out _; (with_reducible repeat (first | refine blk_drewN ?_ _ | refine blk_drew ?_ | refine blk_alloc ?_ _)); exact BK364.out) hg (Kd.R_ne HO_3.out BK364.out (by decide))); replace BK367 := Aside0.mk (blk_grown (g := gb367) (o := .cells #[.string ((rd_T60 ((rd_T76 l0_0 a1).f2) x19_1).f0), .int .i64 ((rd_T60 ((rd_T76 l0_0 a1).f2) x19_1).f1)] 60 (0, 0)) (by (with_reducible repeat (first | refine blk_drewN ?_ _ | refine blk_drew ?_ | refine blk_alloc ?_ _)); refine blk_put (cs := #[.string ((rd_T60 ((rd_T76 l0_0 a1).f2) x19_1).f0), .int .i64 0]) ?_ 1 _ rfl; (with_reducible repeat (first | refine blk_drewN ?_ _ | refine blk_drew ?_ | refine blk_alloc ?_ _)); refine blk_put (cs := #[.string (⟨#[]⟩ : ByteArray), .int .i64 0]) ?_ 0 _ rfl; (with_reducible repeat (first | refine blk_drewN ?_ _ | refine blk_drew ?_ | refine blk_alloc ?_ _)); exact BK367.out) hg (Kd.R_ne HO_3.out BK367.out (by decide))); replace HB := Aside0.mk (hb); replace HK := Aside0.mk (Kept.of_grown (S := (fun k_ => P3_ k_)) hg (by with_reducible repeat (first | exact HK.out | apply Kept.alloc | apply Kept.drewN | apply Kept.drew | refine Kept.setCell ?_ (.inr GW364.out) _ | refine Kept.setCell ?_ (.inr GW367.out) _)) (fun k_ e_ => (HO_3.out.1 k_ e_))); have HO370 := Aside0.mk (ho); clear HO_3; clear ho hb hg hat; have hcz32_0 : w31.cell? ⟨gb364, 0, none⟩ = some (.slice (some ad365) l0_0.length c0_0) := (blk_cell BK364.out 0).trans rfl; have hfz32_0 := blk_frozen BK364.out 0; have hcz33_0 : w31.cell? ⟨gb367, 0, none⟩ = some (.string ((rd_T60 ((rd_T76 l0_0 a1).f2) x19_1).f0)) := (blk_cell BK367.out 0).trans rfl; have hcz33_1 : w31.cell? ⟨gb367, 1, none⟩ = some (.int .i64 ((rd_T60 ((rd_T76 l0_0 a1).f2) x19_1).f1)) := (blk_cell BK367.out 1).trans rfl; have hfz33_0 := blk_frozen BK367.out 0; have hfz33_1 := blk_frozen BK367.out 1; have p371 : 0 ≤ (((rd_T60 ((rd_T76 l0_0 a1).f2) x19_1).f1) : Int) := of_decide_eq_true (by assumption); have q371 : ((rd_T60 ((rd_T76 l0_0 a1).f2) x19_1).f1) < (l0_0.length : Int) := of_decide_eq_true (by assumption); obtain ⟨ad371, A371_2, c371_2, e371, hx371_0, hx371_1, hx371_2, hl371_2, hi371_2⟩ := at_T76 (Kd.C_kept_now HR0_0.out HK.out) ((rd_T60 ((rd_T76 l0_0 a1).f2) x19_1).f1) p371 q371; (try rw [← Nbq17.out] at hx371_0); obtain rfl : ad365 = ad371 := (by injection e371); have HR371_2 := Aside0.mk hi371_2; have HC371_2 := Aside0.mk hl371_2; clear hi371_2 hl371_2; replace p371 := eq_true p371; replace q371 := eq_true q371))
              go_roundg k1
              case measure => have := HK1.out; omega
              case rel => exact ⟨(y368), (wrap64 (x19_1 + 1)), (by first | rfl | (simp; done) | (simp [*]; done)), H', ⟨by have := HK1.out; omega⟩, ⟨by (with_reducible repeat (first | apply Kd.R_alloc | apply Kd.R_drewN | apply Kd.R_drew)); exact HO370.out⟩, ⟨by (with_reducible repeat (first | refine blk_drewN ?_ _ | refine blk_drew ?_ | refine blk_alloc ?_ _)); exact BK364.out⟩, ⟨by with_reducible repeat (first | exact HK.out | apply Kept.alloc | apply Kept.drewN | apply Kept.drew | refine Kept.setCell ?_ (.inr GW364.out) _ | refine Kept.setCell ?_ (.inr GW367.out) _)⟩, ⟨by with_reducible repeat (first | exact HB.out | apply below_alloc | apply pw_below_drewN | apply below_drew1 | refine below_set ?_ GE364.out | refine below_set ?_ GE367.out)⟩⟩
            ·rw [if_neg c16] at H
             exact absurd H (by simp)
           ·rw [if_neg c15] at H
            exact absurd H (by simp)
          ·rw [if_neg c14] at H
           exact absurd H (by simp)
         ·rw [if_neg c13] at H
          exact absurd H (by simp)
        ·rw [if_neg c12] at H
         exact absurd H (by simp)
       ·rw [if_neg c11] at H
        exact absurd H (by simp)
      ·rw [if_neg c10] at H
       exact absurd H (by simp)
     ·rw [if_neg c9] at H
      have c9b0 : decide (x19_1 < (((rd_T76 l0_0 a1).f2).length : Int)) = false := decide_eq_false c9
      clear c9
      obtain rfl := Option.some.inj H
      go_wp2
      go_ret
      exact ⟨_, by first | rfl | (simp [errW_none, errW_some] <;> rfl) | (simp [*, errW_none, errW_some] <;> rfl) | (simp [E.isEmpty_bne]; done) | (rw [E.bne_empty]), by (with_reducible repeat (first | apply Kd.R_alloc | apply Kd.R_drewN | apply Kd.R_drew)); exact HO_3.out, by with_reducible repeat (first | exact HB.out | apply below_alloc | apply pw_below_drewN | apply below_drew1 | refine below_set ?_ GE364.out), by with_reducible repeat (first | exact HK.out | apply Kept.alloc | apply Kept.drewN | apply Kept.drew | refine Kept.setCell ?_ (.inr GW364.out) _)⟩
  ·rw [if_neg c6] at H
   exact absurd H (by simp)
 ·rw [if_neg c5] at H
  exact absurd H (by simp)

end Go.Proofs.YthljjgolloiamaaDoor.PNam
