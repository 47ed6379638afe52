import Derived.Test.YtacfalpgmibfnaaFSha3
namespace Go.Proofs.Ytacfalpgmibfnaa.PCow
open Go.RowKit Go.Proofs.YtacfalpgmibfnaaW.PrintWords Go.Proofs.YtacfalpgmibfnaaW.PrintLast Go.Proofs.YtacfalpgmibfnaaW.PrintMore
attribute [local go_sem] max2_int min2_int max_two min_two max_three min_three max_four min_four
set_option linter.unusedVariables false
set_option linter.unusedSimpArgs false
def impl_Cow_places.f (l0_0 : List (S68)) (l0_1 : List Int) (a0_2 : Int) : Option (Int) := if 0 ≤ (wrap64 (2 * (wrap64 (a0_2 - 1)))) then (some (shl .i64 1 (wrap64 (2 * (wrap64 (a0_2 - 1)))))) else (none)
set_option maxHeartbeats 8000000 in
set_option maxRecDepth 100000 in
theorem impl_Cow_places.calls (A0_0 : Option Addr) (c0_0 : Nat) (l0_0 : List (S68)) (A0_1 : Option Addr) (c0_1 : Nat) (l0_1 : List Int) (a0_2 : Int) (r : Int) (w : World) (hr0_0 : Kd.C k68 w A0_0 l0_0.length l0_0) (hc0_0 : l0_0.length ≤ c0_0) (hr0_1 : Kd.C (Kd.int .i64) w A0_1 l0_1.length l0_1) (hc0_1 : l0_1.length ≤ c0_1) (h : impl_Cow_places.f l0_0 l0_1 a0_2 = some r) :
  Calls Try.prog 64 #[.agg #[.slice A0_0 l0_0.length c0_0, .slice A0_1 l0_1.length c0_1, .int .i64 a0_2]] w fun e w' => e = .returned (.int .i64 r) ∧ Below w.heap.size w w' := by
 have hu25 := Try.underlying25
 have HR0_0 := Aside0.mk hr0_0
 have HC0_0 := Aside0.mk hc0_0
 clear hr0_0 hc0_0
 have HR0_1 := Aside0.mk hr0_1
 have HC0_1 := Aside0.mk hc0_1
 clear hr0_1 hc0_1
 have HB := Aside0.mk (Below.refl w.heap.size w)
 have H : (if 0 ≤ (wrap64 (2 * (wrap64 (a0_2 - 1)))) then (some (shl .i64 1 (wrap64 (2 * (wrap64 (a0_2 - 1)))))) else (none)) = some r := h
 clear h
 obtain ⟨ji2, hji2⟩ : ∃ j_ : Int, (wrap64 (2 * (wrap64 (a0_2 - 1)))) = j_ := ⟨_, rfl⟩
 replace H : (if 0 ≤ (ji2) then (some (shl .i64 1 (ji2))) else (none)) = some r := by first | (rw [hji2] at H; exact H) | (simp only [hji2] at H ⊢; exact H)
 have hji2w : (IntKind.i64.wrap (2 * (wrap64 (a0_2 - 1)))) = ji2 := (i64_w _).trans hji2
 by_cases c3 : 0 ≤ (ji2)
 ·rw [if_pos c3] at H
  have c3b0 := eq_true c3
  have c3b1 : decide (0 ≤ (ji2)) = true := decide_eq_true c3
  clear c3
  obtain ⟨ji4, hji4⟩ : ∃ j_ : Int, (shl .i64 1 (ji2)) = j_ := ⟨_, rfl⟩
  replace H : (some ji4) = some r := by first | (rw [hji4] at H; exact H) | (simp only [hji4] at H ⊢; exact H)
  have hji4_ : (IntKind.i64.wrap (1 * 2 ^ min (ji2).toNat 64)) = ji4 := hji4
  have hji4z : (ji2) ≤ 64 → (IntKind.i64.wrap (1 * 2 ^ (ji2).toNat)) = ji4 := shl_small hji4
  have hji4u : (IntKind.i64.wrap (2 ^ min (ji2).toNat 64)) = ji4 := by have h_ := hji4_; rw [Int.one_mul] at h_; exact h_
  have hji4v : (ji2) ≤ 64 → (IntKind.i64.wrap (2 ^ (ji2).toNat)) = ji4 := fun hle_ => by have h_ := hji4z hle_; rw [Int.one_mul] at h_; exact h_
  have hji4y : (wrap64 (1 * 2 ^ min (ji2).toNat 64)) = ji4 := (i64_w _).symm.trans hji4_
  have hji4x : (ji2) ≤ 64 → (wrap64 (1 * 2 ^ (ji2).toNat)) = ji4 := fun h_ => (i64_w _).symm.trans (hji4z h_)
  obtain rfl := Option.some.inj H
  go_enter Try.func64, Try.ntmps64
  go_wp2_with (first | ((with_reducible refine gate_dst (N := 1) rfl ?_); refine box_event ?hg (N := 1) ?hd (cs := #[.slice A0_0 l0_0.length c0_0, .slice A0_1 l0_1.length c0_1, .int .i64 a0_2]) (t := 25) ?hr ?_; (case hd => rfl); (case hg => rfl); (case hr => first | (go_simp; done) | (go_simp; rfl)); intro gb223 hg w5 hbox hb; have BK223 := Aside0.mk (hbox); have GW223 := Aside0.mk ((by rw [hg]; exact (below_size (by with_reducible repeat (first | exact HB.out | apply below_alloc | apply pw_below_drewN | apply below_drew1))) : w.heap.size ≤ gb223)); have GE223 := Aside0.mk ((by rw [hg]; exact (below_size (by with_reducible repeat (first | exact HB.out | apply below_alloc | apply pw_below_drewN | apply below_drew1))) : w.heap.size ≤ gb223)); replace HB := Aside0.mk (below_step (by with_reducible repeat (first | exact HB.out | apply below_alloc | apply pw_below_drewN | apply below_drew1)) hb); clear hb hbox hg; have hcz6_0 : w5.cell? ⟨gb223, 0, none⟩ = some (.slice A0_0 l0_0.length c0_0) := (blk_cell BK223.out 0).trans rfl; have hcz6_1 : w5.cell? ⟨gb223, 1, none⟩ = some (.slice A0_1 l0_1.length c0_1) := (blk_cell BK223.out 1).trans rfl; have hcz6_2 : w5.cell? ⟨gb223, 2, none⟩ = some (.int .i64 a0_2) := (blk_cell BK223.out 2).trans rfl; have hfz6_0 := blk_frozen BK223.out 0; have hfz6_1 := blk_frozen BK223.out 1; have hfz6_2 := blk_frozen BK223.out 2))
  go_ret
  exact ⟨by first | rfl | (simp [errW_none, errW_some] <;> rfl) | (simp only [← hji2, ← hji4]; first | rfl | (simp [errW_none, errW_some] <;> rfl)) | (simp [*, errW_none, errW_some] <;> rfl) | (simp [E.isEmpty_bne]; done) | (rw [E.bne_empty]), by with_reducible repeat (first | exact HB.out | apply below_alloc | apply pw_below_drewN | apply below_drew1 | refine below_set ?_ GE223.out)⟩
 ·rw [if_neg c3] at H
  exact absurd H (by simp)
def impl_digit.f (a0 : Int) (a1 : Int) : Option (Int) := if 0 ≤ (wrap64 (2 * (wrap64 (a1 - 2)))) then (some (Go.bits .and .i64 (shr .i64 a0 (wrap64 (2 * (wrap64 (a1 - 2))))) 3)) else (none)
set_option maxHeartbeats 8000000 in
set_option maxRecDepth 100000 in
theorem impl_digit.calls (a0 : Int) (a1 : Int) (r : Int) (w : World) (h : impl_digit.f a0 a1 = some r) :
  Calls Try.prog 86 #[.int .i64 a0, .int .i64 a1] w fun e w' => e = .returned (.int .i64 r) ∧ Drawn0 w w' := by
 have H : (if 0 ≤ (wrap64 (2 * (wrap64 (a1 - 2)))) then (some (Go.bits .and .i64 (shr .i64 a0 (wrap64 (2 * (wrap64 (a1 - 2))))) 3)) else (none)) = some r := h
 clear h
 obtain ⟨ji3, hji3⟩ : ∃ j_ : Int, (wrap64 (2 * (wrap64 (a1 - 2)))) = j_ := ⟨_, rfl⟩
 replace H : (if 0 ≤ (ji3) then (some (Go.bits .and .i64 (shr .i64 a0 (ji3)) 3)) else (none)) = some r := by first | (rw [hji3] at H; exact H) | (simp only [hji3] at H ⊢; exact H)
 have hji3w : (IntKind.i64.wrap (2 * (wrap64 (a1 - 2)))) = ji3 := (i64_w _).trans hji3
 by_cases c4 : 0 ≤ (ji3)
 ·rw [if_pos c4] at H
  have c4b0 := eq_true c4
  have c4b1 : decide (0 ≤ (ji3)) = true := decide_eq_true c4
  clear c4
  obtain ⟨ji5, hji5⟩ : ∃ j_ : Int, (shr .i64 a0 (ji3)) = j_ := ⟨_, rfl⟩
  replace H : (some (Go.bits .and .i64 (ji5) 3)) = some r := by first | (rw [hji5] at H; exact H) | (simp only [hji5] at H ⊢; exact H)
  have hji5_ : (a0 / 2 ^ min (ji3).toNat 64) = ji5 := hji5
  have hji5z : (ji3) ≤ 64 → (a0 / 2 ^ (ji3).toNat) = ji5 := shr_small hji5
  obtain rfl := Option.some.inj H
  go_enter Try.func86, Try.ntmps86
  go_wp2
  go_ret
  exact ⟨by first | rfl | (simp; done) | (simp only [← hji3, ← hji5] <;> (first | rfl | simp)) | (simp [*]; done), by repeat (first | exact Drawn0.refl _ | apply Drawn0.step)⟩
 ·rw [if_neg c4] at H
  exact absurd H (by simp)
def impl_Cow_leafAt.l0 : Nat → Int → Int → Int → List (S68) → List Int → Int → Option (ByteArray)
 | 0, _, _, _, _, _, _ => none
 | k + 1, x2, x7, x8, x225000, x225001, x225002 => if x7 ≥ 0 then (if x8 > 1 then (if 0 ≤ x7 then (if x7 < (x225000.length : Int) then ((impl_digit.f x2 x8).bind fun t227 => (if 0 ≤ t227 then (if t227 < (((rd_T68 x225000 x7).f2).length : Int) then (impl_Cow_leafAt.l0 k x2 (rd ((rd_T68 x225000 x7).f2) t227) (wrap64 (x8 - 1)) x225000 x225001 x225002) else (none)) else (none))) else (none)) else (none)) else (if x7 < 0 then (some (⟨#[]⟩ : ByteArray)) else (if 0 ≤ x7 then (if x7 < (x225000.length : Int) then (some ((rd_T68 x225000 x7).f1)) else (none)) else (none)))) else (if x7 < 0 then (some (⟨#[]⟩ : ByteArray)) else (if 0 ≤ x7 then (if x7 < (x225000.length : Int) then (some ((rd_T68 x225000 x7).f1)) else (none)) else (none)))
def impl_Cow_leafAt.f (k : Nat) (l0_0 : List (S68)) (l0_1 : List Int) (a0_2 : Int) (a1 : Int) (a2 : Int) : Option (ByteArray) := if 0 ≤ a1 then (if a1 < (l0_1.length : Int) then (impl_Cow_leafAt.l0 k a2 (rd l0_1 a1) a0_2 l0_0 l0_1 a0_2) else (none)) else (none)
set_option maxHeartbeats 8000000 in
set_option maxRecDepth 100000 in
theorem impl_Cow_leafAt.calls (k : Nat) (A0_0 : Option Addr) (c0_0 : Nat) (l0_0 : List (S68)) (A0_1 : Option Addr) (c0_1 : Nat) (l0_1 : List Int) (a0_2 : Int) (a1 : Int) (a2 : Int) (r : ByteArray) (w : World) (hr0_0 : Kd.C k68 w A0_0 l0_0.length l0_0) (hc0_0 : l0_0.length ≤ c0_0) (hr0_1 : Kd.C (Kd.int .i64) w A0_1 l0_1.length l0_1) (hc0_1 : l0_1.length ≤ c0_1) (h : impl_Cow_leafAt.f k l0_0 l0_1 a0_2 a1 a2 = some r) :
  Calls Try.prog 65 #[.agg #[.slice A0_0 l0_0.length c0_0, .slice A0_1 l0_1.length c0_1, .int .i64 a0_2], .int .i64 a1, .int .i64 a2] w fun e w' => e = .returned (.string r) ∧ Below w.heap.size w w' := by
 have hu25 := Try.underlying25
 have HR0_0 := Aside0.mk hr0_0
 have HC0_0 := Aside0.mk hc0_0
 clear hr0_0 hc0_0
 have HR0_1 := Aside0.mk hr0_1
 have HC0_1 := Aside0.mk hc0_1
 clear hr0_1 hc0_1
 have HB := Aside0.mk (Below.refl w.heap.size w)
 have H : (if 0 ≤ a1 then (if a1 < (l0_1.length : Int) then (impl_Cow_leafAt.l0 k a2 (rd l0_1 a1) a0_2 l0_0 l0_1 a0_2) else (none)) else (none)) = some r := h
 clear h
 by_cases c4 : 0 ≤ a1
 ·rw [if_pos c4] at H
  have c4b0 : decide (0 ≤ a1) = true := decide_eq_true c4
  clear c4
  by_cases c5 : a1 < (l0_1.length : Int)
  ·rw [if_pos c5] at H
   have c5b0 : decide (a1 < (l0_1.length : Int)) = true := decide_eq_true c5
   clear c5
   have H' := Aside0.mk H
   clear H
   go_enter Try.func65, Try.ntmps65
   go_wp2_with (first | ((with_reducible refine gate_dst (N := 3) rfl ?_); refine box_event ?hg (N := 3) ?hd (cs := #[.slice A0_0 l0_0.length c0_0, .slice A0_1 l0_1.length c0_1, .int .i64 a0_2]) (t := 25) ?hr ?_; (case hd => rfl); (case hg => rfl); (case hr => first | (go_simp; done) | (go_simp; rfl)); intro gb224 hg w6 hbox hb; have BK224 := Aside0.mk (hbox); have GW224 := Aside0.mk ((by rw [hg]; exact (below_size (by with_reducible repeat (first | exact HB.out | apply below_alloc | apply pw_below_drewN | apply below_drew1))) : w.heap.size ≤ gb224)); have GE224 := Aside0.mk ((by rw [hg]; exact (below_size (by with_reducible repeat (first | exact HB.out | apply below_alloc | apply pw_below_drewN | apply below_drew1))) : w.heap.size ≤ gb224)); replace HB := Aside0.mk (below_step (by with_reducible repeat (first | exact HB.out | apply below_alloc | apply pw_below_drewN | apply below_drew1)) hb); clear hb hbox hg; have hcz7_0 : w6.cell? ⟨gb224, 0, none⟩ = some (.slice A0_0 l0_0.length c0_0) := (blk_cell BK224.out 0).trans rfl; have hcz7_1 : w6.cell? ⟨gb224, 1, none⟩ = some (.slice A0_1 l0_1.length c0_1) := (blk_cell BK224.out 1).trans rfl; have hcz7_2 : w6.cell? ⟨gb224, 2, none⟩ = some (.int .i64 a0_2) := (blk_cell BK224.out 2).trans rfl; have hfz7_0 := blk_frozen BK224.out 0; have hfz7_1 := blk_frozen BK224.out 1; have hfz7_2 := blk_frozen BK224.out 2; have p225 : 0 ≤ (a1 : Int) := of_decide_eq_true (by assumption); have q225 : a1 < (l0_1.length : Int) := of_decide_eq_true (by assumption); obtain ⟨ad225, e225, hx225_0⟩ := Kd.at_int HR0_1.out a1 p225 q225; cases e225; replace hx225_0 := (HB.out.cell (World.block_lt_of_cell? w _ hx225_0)).trans hx225_0; replace p225 := eq_true p225; replace q225 := eq_true q225))
   repeat (go_quiet (first | ((with_reducible refine gate_dst (N := 3) rfl ?_); refine box_event ?hg (N := 3) ?hd (cs := #[.slice A0_0 l0_0.length c0_0, .slice A0_1 l0_1.length c0_1, .int .i64 a0_2]) (t := 25) ?hr ?_; (case hd => rfl); (case hg => rfl); (case hr => first | (go_simp; done) | (go_simp; rfl)); intro gb224 hg w6 hbox hb; have BK224 := Aside0.mk (hbox); have GW224 := Aside0.mk ((by rw [hg]; exact (below_size (by with_reducible repeat (first | exact HB.out | apply below_alloc | apply pw_below_drewN | apply below_drew1))) : w.heap.size ≤ gb224)); have GE224 := Aside0.mk ((by rw [hg]; exact (below_size (by with_reducible repeat (first | exact HB.out | apply below_alloc | apply pw_below_drewN | apply below_drew1))) : w.heap.size ≤ gb224)); replace HB := Aside0.mk (below_step (by with_reducible repeat (first | exact HB.out | apply below_alloc | apply pw_below_drewN | apply below_drew1)) hb); clear hb hbox hg; have hcz7_0 : w6.cell? ⟨gb224, 0, none⟩ = some (.slice A0_0 l0_0.length c0_0) := (blk_cell BK224.out 0).trans rfl; have hcz7_1 : w6.cell? ⟨gb224, 1, none⟩ = some (.slice A0_1 l0_1.length c0_1) := (blk_cell BK224.out 1).trans rfl; have hcz7_2 : w6.cell? ⟨gb224, 2, none⟩ = some (.int .i64 a0_2) := (blk_cell BK224.out 2).trans rfl; have hfz7_0 := blk_frozen BK224.out 0; have hfz7_1 := blk_frozen BK224.out 1; have hfz7_2 := blk_frozen BK224.out 2; have p225 : 0 ≤ (a1 : Int) := of_decide_eq_true (by assumption); have q225 : a1 < (l0_1.length : Int) := of_decide_eq_true (by assumption); obtain ⟨ad225, e225, hx225_0⟩ := Kd.at_int HR0_1.out a1 p225 q225; cases e225; replace hx225_0 := (HB.out.cell (World.block_lt_of_cell? w _ hx225_0)).trans hx225_0; replace p225 := eq_true p225; replace q225 := eq_true q225)); try go_wp2_with (first | ((with_reducible refine gate_dst (N := 3) rfl ?_); refine box_event ?hg (N := 3) ?hd (cs := #[.slice A0_0 l0_0.length c0_0, .slice A0_1 l0_1.length c0_1, .int .i64 a0_2]) (t := 25) ?hr ?_; (case hd => rfl); (case hg => rfl); (case hr => first | (go_simp; done) | (go_simp; rfl)); intro gb224 hg w6 hbox hb; have BK224 := Aside0.mk (hbox); have GW224 := Aside0.mk ((by rw [hg]; exact (below_size (by with_reducible repeat (first | exact HB.out | apply below_alloc | apply pw_below_drewN | apply below_drew1))) : w.heap.size ≤ gb224)); have GE224 := Aside0.mk ((by rw [hg]; exact (below_size (by with_reducible repeat (first | exact HB.out | apply below_alloc | apply pw_below_drewN | apply below_drew1))) : w.heap.size ≤ gb224)); replace HB := Aside0.mk (below_step (by with_reducible repeat (first | exact HB.out | apply below_alloc | apply pw_below_drewN | apply below_drew1)) hb); clear hb hbox hg; have hcz7_0 : w6.cell? ⟨gb224, 0, none⟩ = some (.slice A0_0 l0_0.length c0_0) := (blk_cell BK224.out 0).trans rfl; have hcz7_1 : w6.cell? ⟨gb224, 1, none⟩ = some (.slice A0_1 l0_1.length c0_1) := (blk_cell BK224.out 1).trans rfl; have hcz7_2 : w6.cell? ⟨gb224, 2, none⟩ = some (.int .i64 a0_2) := (blk_cell BK224.out 2).trans rfl; have hfz7_0 := blk_frozen BK224.out 0; have hfz7_1 := blk_frozen BK224.out 1; have hfz7_2 := blk_frozen BK224.out 2; have p225 : 0 ≤ (a1 : Int) := of_decide_eq_true (by assumption); have q225 : a1 < (l0_1.length : Int) := of_decide_eq_true (by assumption); obtain ⟨ad225, e225, hx225_0⟩ := Kd.at_int HR0_1.out a1 p225 q225; cases e225; replace hx225_0 := (HB.out.cell (World.block_lt_of_cell? w _ hx225_0)).trans hx225_0; replace p225 := eq_true p225; replace q225 := eq_true q225)))
   go_loopg [7, 8] k (fun kq v7 v8 w' => ∃ (x7_1 : Int) (x8_1 : Int), v7 = .int .i64 x7_1 ∧ v8 = .int .i64 x8_1 ∧ Aside0 (impl_Cow_leafAt.l0 kq a2 x7_1 x8_1 l0_0 l0_1 a0_2 = some r) ∧ Aside0 (kq ≤ k) ∧ Aside0 (w'.heap[gb224]? = some (.cells #[(.slice A0_0 l0_0.length c0_0), (.slice (some ad225) l0_1.length c0_1), .int .i64 a0_2] 25 (0, 0))) ∧ Aside0 (Below w.heap.size w w'))
   case atStart => exact ⟨(rd l0_1 a1), (a0_2), (by first | rfl | (simp; done) | (simp [*]; done)), (by first | rfl | (simp; done) | (simp [*]; done)), H', ⟨Nat.le_refl _⟩, ⟨by (with_reducible repeat (first | refine blk_drewN ?_ _ | refine blk_drew ?_ | refine blk_alloc ?_ _)); exact BK224.out⟩, ⟨by with_reducible repeat (first | exact HB.out | apply below_alloc | apply pw_below_drewN | apply below_drew1 | refine below_set ?_ GE224.out)⟩⟩
   case round =>
    clear H'
    try clear p2
    try clear q2
    try clear hx2
    try clear c4
    try clear c4b0
    try clear c5
    try clear c5b0
    try clear c6
    try clear hcz7_0
    try clear hcz7_1
    try clear hcz7_2
    try clear hfz7_0
    try clear hfz7_1
    try clear hfz7_2
    try clear hx225_0
    try clear p225
    try clear q225
    obtain ⟨x7_1, x8_1, rfl, rfl, HA, HK1, BK224, HB⟩ := hrel
    cases gk with
    | zero => exact absurd HA.out (by simp [impl_Cow_leafAt.l0])
    | succ k1 =>
     have H := HA.out
     clear HA
     simp only [impl_Cow_leafAt.l0] at H
     by_cases c8 : x7_1 ≥ 0
     ·rw [if_pos c8] at H
      have c8b0 : decide (0 ≤ x7_1) = true := decide_eq_true c8
      clear c8
      by_cases c9 : x8_1 > 1
      ·rw [if_pos c9] at H
       have c9b0 : decide (1 < x8_1) = true := decide_eq_true c9
       clear c9
       by_cases c10 : 0 ≤ x7_1
       ·rw [if_pos c10] at H
        have c10b0 : decide (0 ≤ x7_1) = true := decide_eq_true c10
        clear c10
        by_cases c11 : x7_1 < (l0_0.length : Int)
        ·rw [if_pos c11] at H
         have c11b0 : decide (x7_1 < (l0_0.length : Int)) = true := decide_eq_true c11
         clear c11
         replace H := Option.bind_eq_some_iff.mp H
         obtain ⟨t227, A120, H⟩ := H
         replace H : (if 0 ≤ t227 then (if t227 < (((rd_T68 l0_0 x7_1).f2).length : Int) then (impl_Cow_leafAt.l0 k1 a2 (rd ((rd_T68 l0_0 x7_1).f2) t227) (wrap64 (x8_1 - 1)) l0_0 l0_1 a0_2) else (none)) else (none)) = some r := H
         have A12 := Aside0.mk A120
         clear A120
         by_cases c13 : 0 ≤ t227
         ·rw [if_pos c13] at H
          have c13b0 : decide (0 ≤ t227) = true := decide_eq_true c13
          clear c13
          by_cases c14 : t227 < (((rd_T68 l0_0 x7_1).f2).length : Int)
          ·rw [if_pos c14] at H
           have c14b0 : decide (t227 < (((rd_T68 l0_0 x7_1).f2).length : Int)) = true := decide_eq_true c14
           clear c14
           have H' := Aside0.mk H
           clear H
           have hcz15_0 : wr.cell? ⟨gb224, 0, none⟩ = some (.slice A0_0 l0_0.length c0_0) := (blk_cell BK224.out 0).trans rfl
           have hcz15_1 : wr.cell? ⟨gb224, 1, none⟩ = some (.slice (some ad225) l0_1.length c0_1) := (blk_cell BK224.out 1).trans rfl
           have hcz15_2 : wr.cell? ⟨gb224, 2, none⟩ = some (.int .i64 a0_2) := (blk_cell BK224.out 2).trans rfl
           have hfz15_0 := blk_frozen BK224.out 0
           have hfz15_1 := blk_frozen BK224.out 1
           have hfz15_2 := blk_frozen BK224.out 2
           have p226 : 0 ≤ (x7_1 : Int) := of_decide_eq_true (by assumption)
           have q226 : x7_1 < (l0_0.length : Int) := of_decide_eq_true (by assumption)
           obtain ⟨ad226, A226_2, c226_2, e226, hx226_0, hx226_1, hx226_2, hl226_2, hi226_2⟩ := at_T68 HR0_0.out x7_1 p226 q226
           cases e226
           replace hx226_0 := (HB.out.cell (World.block_lt_of_cell? w _ hx226_0)).trans hx226_0
           replace hx226_1 := (HB.out.cell (World.block_lt_of_cell? w _ hx226_1)).trans hx226_1
           replace hx226_2 := (HB.out.cell (World.block_lt_of_cell? w _ hx226_2)).trans hx226_2
           have HR226_2 := Aside0.mk hi226_2
           have HC226_2 := Aside0.mk hl226_2
           clear hi226_2 hl226_2
           replace p226 := eq_true p226
           replace q226 := eq_true q226
           go_wp2_with (first | (go_at_call 86; (with_reducible refine (impl_digit.calls a2 x8_1 t227 _ A12.out).mono ?_); rintro e w' ⟨rfl, ⟨nd, rfl⟩⟩; (try first | exact ⟨rfl, _, World.drewN_drewN _ _ _⟩ | exact ⟨rfl, _, Eq.trans (World.drewN_drewN _ _ _) (congrArg (World.drewN _) (Nat.add_assoc _ _ _))⟩); have p228 : 0 ≤ (t227 : Int) := of_decide_eq_true (by assumption); have q228 : t227 < (((rd_T68 l0_0 x7_1).f2).length : Int) := of_decide_eq_true (by assumption); obtain ⟨ad228, e228, hx228_0⟩ := Kd.at_int HR226_2.out t227 p228 q228; cases e228; replace hx228_0 := (HB.out.cell (World.block_lt_of_cell? w _ hx228_0)).trans hx228_0; replace p228 := eq_true p228; replace q228 := eq_true q228))
           repeat (go_quiet (first | (go_at_call 86; (with_reducible refine (impl_digit.calls a2 x8_1 t227 _ A12.out).mono ?_); rintro e w' ⟨rfl, ⟨nd, rfl⟩⟩; (try first | exact ⟨rfl, _, World.drewN_drewN _ _ _⟩ | exact ⟨rfl, _, Eq.trans (World.drewN_drewN _ _ _) (congrArg (World.drewN _) (Nat.add_assoc _ _ _))⟩); have p228 : 0 ≤ (t227 : Int) := of_decide_eq_true (by assumption); have q228 : t227 < (((rd_T68 l0_0 x7_1).f2).length : Int) := of_decide_eq_true (by assumption); obtain ⟨ad228, e228, hx228_0⟩ := Kd.at_int HR226_2.out t227 p228 q228; cases e228; replace hx228_0 := (HB.out.cell (World.block_lt_of_cell? w _ hx228_0)).trans hx228_0; replace p228 := eq_true p228; replace q228 := eq_true q228)); try go_wp2_with (first | (go_at_call 86; (with_reducible refine (impl_digit.calls a2 x8_1 t227 _ A12.out).mono ?_); rintro e w' ⟨rfl, ⟨nd, rfl⟩⟩; (try first | exact ⟨rfl, _, World.drewN_drewN _ _ _⟩ | exact ⟨rfl, _, Eq.trans (World.drewN_drewN _ _ _) (congrArg (World.drewN _) (Nat.add_assoc _ _ _))⟩); have p228 : 0 ≤ (t227 : Int) := of_decide_eq_true (by assumption); have q228 : t227 < (((rd_T68 l0_0 x7_1).f2).length : Int) := of_decide_eq_true (by assumption); obtain ⟨ad228, e228, hx228_0⟩ := Kd.at_int HR226_2.out t227 p228 q228; cases e228; replace hx228_0 := (HB.out.cell (World.block_lt_of_cell? w _ hx228_0)).trans hx228_0; replace p228 := eq_true p228; replace q228 := eq_true q228)))
           go_roundg k1
           case measure => have := HK1.out; omega
           case rel => exact ⟨(rd ((rd_T68 l0_0 x7_1).f2) t227), (wrap64 (x8_1 - 1)), (by first | rfl | (simp; done) | (simp [*]; done)), (by first | rfl | (simp; done) | (simp [*]; done)), H', ⟨by have := HK1.out; omega⟩, ⟨by (with_reducible repeat (first | refine blk_drewN ?_ _ | refine blk_drew ?_ | refine blk_alloc ?_ _)); exact BK224.out⟩, ⟨by with_reducible repeat (first | exact HB.out | apply below_alloc | apply pw_below_drewN | apply below_drew1 | refine below_set ?_ GE224.out)⟩⟩
          ·rw [if_neg c14] at H
           exact absurd H (by simp)
         ·rw [if_neg c13] at H
          exact absurd H (by simp)
        ·rw [if_neg c11] at H
         exact absurd H (by simp)
       ·rw [if_neg c10] at H
        exact absurd H (by simp)
      ·rw [if_neg c9] at H
       have c9b0 : decide (1 < x8_1) = false := decide_eq_false c9
       clear c9
       by_cases c16 : x7_1 < 0
       ·rw [if_pos c16] at H
        have c16b0 : decide (x7_1 < 0) = true := decide_eq_true c16
        clear c16
        obtain rfl := Option.some.inj H
        go_wp2
        repeat (go_quiet (fail); try go_wp2)
        go_ret
        exact ⟨by first | rfl | (simp [errW_none, errW_some] <;> rfl) | (simp [*, errW_none, errW_some] <;> rfl) | (simp [E.isEmpty_bne]; done) | (rw [E.bne_empty]), by with_reducible repeat (first | exact HB.out | apply below_alloc | apply pw_below_drewN | apply below_drew1 | refine below_set ?_ GE224.out)⟩
       ·rw [if_neg c16] at H
        have c16b0 : decide (x7_1 < 0) = false := decide_eq_false c16
        clear c16
        by_cases c17 : 0 ≤ x7_1
        ·rw [if_pos c17] at H
         have c17b0 : decide (0 ≤ x7_1) = true := decide_eq_true c17
         clear c17
         by_cases c18 : x7_1 < (l0_0.length : Int)
         ·rw [if_pos c18] at H
          have c18b0 : decide (x7_1 < (l0_0.length : Int)) = true := decide_eq_true c18
          clear c18
          obtain rfl := Option.some.inj H
          have hcz19_0 : wr.cell? ⟨gb224, 0, none⟩ = some (.slice A0_0 l0_0.length c0_0) := (blk_cell BK224.out 0).trans rfl
          have hcz19_1 : wr.cell? ⟨gb224, 1, none⟩ = some (.slice (some ad225) l0_1.length c0_1) := (blk_cell BK224.out 1).trans rfl
          have hcz19_2 : wr.cell? ⟨gb224, 2, none⟩ = some (.int .i64 a0_2) := (blk_cell BK224.out 2).trans rfl
          have hfz19_0 := blk_frozen BK224.out 0
          have hfz19_1 := blk_frozen BK224.out 1
          have hfz19_2 := blk_frozen BK224.out 2
          have p229 : 0 ≤ (x7_1 : Int) := of_decide_eq_true (by assumption)
          have q229 : x7_1 < (l0_0.length : Int) := of_decide_eq_true (by assumption)
          obtain ⟨ad229, A229_2, c229_2, e229, hx229_0, hx229_1, hx229_2, hl229_2, hi229_2⟩ := at_T68 HR0_0.out x7_1 p229 q229
          cases e229
          replace hx229_0 := (HB.out.cell (World.block_lt_of_cell? w _ hx229_0)).trans hx229_0
          replace hx229_1 := (HB.out.cell (World.block_lt_of_cell? w _ hx229_1)).trans hx229_1
          replace hx229_2 := (HB.out.cell (World.block_lt_of_cell? w _ hx229_2)).trans hx229_2
          have HR229_2 := Aside0.mk hi229_2
          have HC229_2 := Aside0.mk hl229_2
          clear hi229_2 hl229_2
          replace p229 := eq_true p229
          replace q229 := eq_true q229
          go_wp2
          repeat (go_quiet (fail); try go_wp2)
          go_ret
          exact ⟨by first | rfl | (simp [errW_none, errW_some] <;> rfl) | (simp [*, errW_none, errW_some] <;> rfl) | (simp [E.isEmpty_bne]; done) | (rw [E.bne_empty]), by with_reducible repeat (first | exact HB.out | apply below_alloc | apply pw_below_drewN | apply below_drew1 | refine below_set ?_ GE224.out)⟩
         ·rw [if_neg c18] at H
          exact absurd H (by simp)
        ·rw [if_neg c17] at H
         exact absurd H (by simp)
     ·rw [if_neg c8] at H
      have c8b0 : decide (0 ≤ x7_1) = false := decide_eq_false c8
      clear c8
      by_cases c20 : x7_1 < 0
      ·rw [if_pos c20] at H
       have c20b0 : decide (x7_1 < 0) = true := decide_eq_true c20
       clear c20
       obtain rfl := Option.some.inj H
       go_wp2
       repeat (go_quiet (fail); try go_wp2)
       go_ret
       exact ⟨by first | rfl | (simp [errW_none, errW_some] <;> rfl) | (simp [*, errW_none, errW_some] <;> rfl) | (simp [E.isEmpty_bne]; done) | (rw [E.bne_empty]), by with_reducible repeat (first | exact HB.out | apply below_alloc | apply pw_below_drewN | apply below_drew1 | refine below_set ?_ GE224.out)⟩
      ·rw [if_neg c20] at H
       exact (c20 (by have h_ := of_decide_eq_false c8b0; omega)).elim
  ·rw [if_neg c5] at H
   exact absurd H (by simp)
 ·rw [if_neg c4] at H
  exact absurd H (by simp)
end Go.Proofs.Ytacfalpgmibfnaa.PCow
namespace Go.Proofs.Ytacfalpgmibfnaa.PCow
open Go.RowKit Go.Proofs.YtacfalpgmibfnaaW.PrintWords Go.Proofs.YtacfalpgmibfnaaW.PrintLast Go.Proofs.YtacfalpgmibfnaaW.PrintMore Go.Proofs.Ytacfalpgmibfnaa.E
set_option linter.unusedSimpArgs false
set_option linter.unusedVariables false
theorem size1 (x : Int) : Ev (fun k => spec_l14Size.l0 k 1 x) x := Ev.step (fun _ => spec_l14Size.l0.eq_2 ..) (ev_neg (by omega) (ev_ret rfl))
theorem size_up {n n' x x' r : Int} (h0 : 1 < n) (h1 : n ≤ 4) (hx0 : 0 ≤ x) (hx1 : x ≤ 64) (hn : n' = n - 1) (hx : x' = x * 4) (h : Ev (fun k => spec_l14Size.l0 k n' x') r) : Ev (fun k => spec_l14Size.l0 k n x) r := by
  subst hn hx
  refine Ev.step (fun _ => spec_l14Size.l0.eq_2 ..) (ev_pos (by omega) ?_)
  rw [w64 (x := n - 1) (by omega) (by omega), w64 (x := x * 4) (by omega) (by omega)]
  exact h
theorem size_2 : Ev (fun k => spec_l14Size.f k 2) 4 := by
  unfold spec_l14Size.f
  exact size_up (n' := 1) (x' := 4) (by omega) (by omega) (by omega) (by omega) (by omega) (by omega) (size1 4)
theorem size_3 : Ev (fun k => spec_l14Size.f k 3) 16 := by
  unfold spec_l14Size.f
  exact size_up (n' := 2) (x' := 4) (by omega) (by omega) (by omega) (by omega) (by omega) (by omega) (size_up (n' := 1) (x' := 16) (by omega) (by omega) (by omega) (by omega) (by omega) (by omega) (size1 16))
theorem size_4 : Ev (fun k => spec_l14Size.f k 4) 64 := by
  unfold spec_l14Size.f
  exact size_up (n' := 3) (x' := 4) (by omega) (by omega) (by omega) (by omega) (by omega) (by omega) (size_up (n' := 2) (x' := 16) (by omega) (by omega) (by omega) (by omega) (by omega) (by omega) (size_up (n' := 1) (x' := 64) (by omega) (by omega) (by omega) (by omega) (by omega) (by omega) (size1 64)))
def plc (L : Int) : Int := if L = 1 then 1 else if L = 2 then 4 else 16
theorem places_both (C : List S68) (roots : List Int) (L : Int) (h1 : 1 ≤ L) (h3 : L ≤ 3) : Ev (fun k => spec_l14Places.f k C roots L) (plc L) ∧ impl_Cow_places.f C roots L = some (plc L) := by
  unfold spec_l14Places.f impl_Cow_places.f
  obtain rfl | rfl | rfl : L = 1 ∨ L = 2 ∨ L = 3 := by omega
  · exact ⟨Ev.bind (a := 4) (by rw [show wrap64 (1 + 1) = 2 by decide +kernel]; exact size_2) (ev_ret (by decide +kernel)), by decide +kernel⟩
  · exact ⟨Ev.bind (a := 16) (by rw [show wrap64 (2 + 1) = 3 by decide +kernel]; exact size_3) (ev_ret (by decide +kernel)), by decide +kernel⟩
  · exact ⟨Ev.bind (a := 64) (by rw [show wrap64 (3 + 1) = 4 by decide +kernel]; exact size_4) (ev_ret (by decide +kernel)), by decide +kernel⟩
theorem digit_all : ∀ i : Fin 16, impl_digit.f (((i : Nat) : Int)) 2 = some ((((i : Nat) : Int)) % 4) ∧ impl_digit.f (((i : Nat) : Int)) 3 = some ((((i : Nat) : Int)) / 4) := by decide +kernel
theorem digit_2 (b : Int) (h0 : 0 ≤ b) (h1 : b < 16) : impl_digit.f b 2 = some (b % 4) := by
  have := (digit_all ⟨b.toNat, by omega⟩).1
  simp only [show ((b.toNat : Nat) : Int) = b by omega] at this
  exact this
theorem digit_3 (b : Int) (h0 : 0 ≤ b) (h1 : b < 16) : impl_digit.f b 3 = some (b / 4) := by
  have := (digit_all ⟨b.toNat, by omega⟩).2
  simp only [show ((b.toNat : Nat) : Int) = b by omega] at this
  exact this
section
variable {C : List S68} {roots : List Int} {L : Int}
theorem leaf_none (a b l : Int) : ∃ r, Ev (fun n => spec_l14Leaf.l0 n (-1) a l C roots L) r ∧ Ev (fun n => impl_Cow_leafAt.l0 n b (-1) l C roots L) r :=
  ⟨_, Ev.step (fun _ => spec_l14Leaf.l0.eq_2 ..) (ev_neg (by omega) (ev_pos (by omega) (ev_ret rfl))), Ev.step (fun _ => impl_Cow_leafAt.l0.eq_2 ..) (ev_neg (by omega) (ev_pos (by omega) (ev_ret rfl)))⟩
theorem leaf_one {v : List Int} {k : Int} (hk : RefOK C v (k, 1)) (a b : Int) : ∃ r, Ev (fun n => spec_l14Leaf.l0 n k a 1 C roots L) r ∧ Ev (fun n => impl_Cow_leafAt.l0 n b k 1 C roots L) r := by
  rcases hk with e | ⟨h0, h1, _, _⟩
  · simp only at e
    subst e
    exact leaf_none a b 1
  · simp only at h0 h1
    exact ⟨_, Ev.step (fun _ => spec_l14Leaf.l0.eq_2 ..) (ev_pos h0 (ev_neg (by omega) (ev_neg (by omega) (ev_pos h0 (ev_pos h1 (ev_ret rfl)))))), Ev.step (fun _ => impl_Cow_leafAt.l0.eq_2 ..) (ev_pos h0 (ev_neg (by omega) (ev_neg (by omega) (ev_pos h0 (ev_pos h1 (ev_ret rfl))))))⟩
theorem leaf_two {V c v : List Int} (hI : Inv C roots L V [] c v) {k : Int} (hk : RefOK C v (k, 2)) (a b : Int) (h0 : 0 ≤ b) (h1 : b < 16) (hb : b % 4 = a) : ∃ r, Ev (fun n => spec_l14Leaf.l0 n k a 2 C roots L) r ∧ Ev (fun n => impl_Cow_leafAt.l0 n b k 2 C roots L) r := by
  by_cases hk1 : k = -1
  · subst hk1; exact leaf_none a b 2
  · obtain ⟨k0, k1, _, _, _, k6, k7⟩ := hI.below (m := 1) hk hk1
    have kl := k6 (by omega)
    have ha : a.toNat < (rd_T68 C k).f2.length := by omega
    have hz : RefOK C v (rd (rd_T68 C k).f2 a, 1) := by
      have := k7 _ (List.getElem_mem ha)
      rw [← rd_getD ha, show ((a.toNat : Nat) : Int) = a by omega] at this
      exact this
    have e1 : wrap64 (Int.tdiv 4 4) = 1 := by decide +kernel
    have e2 : wrap64 (2 - 1) = 1 := by decide +kernel
    have e3 : wrap64 (Int.tdiv a 1) = a := by rw [tdiv_pos (by omega), Int.ediv_one, w64 (by omega) (by omega)]
    obtain ⟨r, r1, r2⟩ := leaf_one (roots := roots) (L := L) hz (Int.tmod a 1) b
    refine ⟨r, Ev.step (fun _ => spec_l14Leaf.l0.eq_2 ..) (ev_pos k0 (ev_pos (by omega) (Ev.bind (a := 4) size_2 (ev_pos k0 (ev_pos k1 ?_))))), Ev.step (fun _ => impl_Cow_leafAt.l0.eq_2 ..) (ev_pos k0 (ev_pos (by omega) (ev_pos k0 (ev_pos k1 (ev_bindc (digit_2 b h0 h1) ?_)))))⟩
    · rw [e1, e2, e3]
      exact ev_neg (by omega) (ev_pos (by omega) (ev_pos (by omega) r1))
    · rw [hb, e2]
      exact ev_pos (by omega) (ev_pos (by omega) r2)
theorem leaf_three {V c v : List Int} (hI : Inv C roots L V [] c v) {k : Int} (hk : RefOK C v (k, 3)) (a : Int) (h0 : 0 ≤ a) (h1 : a < 16) : ∃ r, Ev (fun n => spec_l14Leaf.l0 n k a 3 C roots L) r ∧ Ev (fun n => impl_Cow_leafAt.l0 n a k 3 C roots L) r := by
  by_cases hk1 : k = -1
  · subst hk1; exact leaf_none a a 3
  · obtain ⟨k0, k1, _, _, _, k6, k7⟩ := hI.below (m := 2) hk hk1
    have kl := k6 (by omega)
    have ha : (a / 4).toNat < (rd_T68 C k).f2.length := by omega
    have hz : RefOK C v (rd (rd_T68 C k).f2 (a / 4), 2) := by
      have := k7 _ (List.getElem_mem ha)
      rw [← rd_getD ha, show (((a / 4).toNat : Nat) : Int) = a / 4 by omega] at this
      exact this
    have e1 : wrap64 (Int.tdiv 16 4) = 4 := by decide +kernel
    have e2 : wrap64 (3 - 1) = 2 := by decide +kernel
    have e3 : wrap64 (Int.tdiv a 4) = a / 4 := by rw [tdiv_pos (by omega), w64 (by omega) (by omega)]
    obtain ⟨r, r1, r2⟩ := leaf_two hI hz (a % 4) a h0 h1 rfl
    refine ⟨r, Ev.step (fun _ => spec_l14Leaf.l0.eq_2 ..) (ev_pos k0 (ev_pos (by omega) (Ev.bind (a := 16) size_3 (ev_pos k0 (ev_pos k1 ?_))))), Ev.step (fun _ => impl_Cow_leafAt.l0.eq_2 ..) (ev_pos k0 (ev_pos (by omega) (ev_pos k0 (ev_pos k1 (ev_bindc (digit_3 a h0 h1) ?_)))))⟩
    · rw [e1, e2, e3, tmod_pos h0]
      exact ev_neg (by omega) (ev_pos (by omega) (ev_pos (by omega) r1))
    · rw [e2]
      exact ev_pos (by omega) (ev_pos (by omega) r2)
theorem leaf_both {V c v : List Int} (hI : Inv C roots L V [] c v) (h1 : 1 ≤ L) (h3 : L ≤ 3) (a q : Int) (ha : 0 ≤ a ∧ a < (roots.length : Int)) (hq0 : 0 ≤ q) (hq1 : q < plc L) : ∃ r, Ev (fun n => spec_l14Leaf.f n C roots L (rd roots a) q) r ∧ Ev (fun n => impl_Cow_leafAt.f n C roots L a q) r := by
  unfold spec_l14Leaf.f impl_Cow_leafAt.f
  have hk : RefOK C v (rd roots a, L) := by
    have hl : a.toNat < roots.length := by omega
    have := hI.root _ (List.getElem_mem hl)
    rw [← rd_getD hl, show ((a.toNat : Nat) : Int) = a by omega] at this
    exact this
  obtain ⟨r, r1, r2⟩ : ∃ r, Ev (fun n => spec_l14Leaf.l0 n (rd roots a) q L C roots L) r ∧ Ev (fun n => impl_Cow_leafAt.l0 n q (rd roots a) L C roots L) r := by
    unfold plc at hq1
    obtain rfl | rfl | rfl : L = 1 ∨ L = 2 ∨ L = 3 := by omega
    · exact leaf_one hk q q
    · exact leaf_two hI hk q q hq0 (by simp at hq1; omega) (by simp at hq1; omega)
    · exact leaf_three hI hk q hq0 (by simp at hq1; omega)
  exact ⟨r, r1, ev_pos ha.1 (ev_pos ha.2 r2)⟩
end
end Go.Proofs.Ytacfalpgmibfnaa.PCow
namespace Go.Proofs.Ytacfalpgmibfnaa.PCow
open Go.RowKit Go.Proofs.YtacfalpgmibfnaaW.PrintWords Go.Proofs.YtacfalpgmibfnaaW.PrintLast Go.Proofs.YtacfalpgmibfnaaW.PrintMore
attribute [local go_sem] max2_int min2_int max_two min_two max_three min_three max_four min_four
set_option linter.unusedVariables false
set_option linter.unusedSimpArgs false
def spec_LeafAt.f (k : Nat) (l0_0 : List (S68)) (l0_1 : List Int) (a0_2 : Int) (a1 : Int) (a2 : Int) : Option (ByteArray × Bool) := (spec_GoodCow.f k l0_0 l0_1 a0_2).bind fun t214 => (if t214 = true then ((spec_l1In.f a1 0 (wrap64 ((l0_1.length : Int) - 1))).bind fun t215 => (if t215 = true then ((spec_l14Places.f k l0_0 l0_1 a0_2).bind fun t216 => ((spec_l1In.f a2 0 (wrap64 (t216 - 1))).bind fun t217 => (if t217 = true then (if 0 ≤ a1 then (if a1 < (l0_1.length : Int) then ((spec_l14Leaf.f k l0_0 l0_1 a0_2 (rd l0_1 a1) a2).bind fun t219 => (some (t219, true))) else (none)) else (none)) else (some ((⟨#[]⟩ : ByteArray), false))))) else (some ((⟨#[]⟩ : ByteArray), false)))) else (some ((⟨#[]⟩ : ByteArray), false)))
def spec_LeafAt.T3 : Bool × List (List Nat × List Nat) := (true, [([], []), ([], []), ([1], [1]), ([], []), ([2, 3], [2, 3]), ([4], [4]), ([], []), ([0, 5, 6], [0, 5, 6]), ([7, 7, 0, 1, 2, 3, 4, 5, 6, 7], [7]), ([8, 0, 1, 2, 3, 4, 5, 6, 7, 8], [])])
def spec_LeafAt.B3 : List Nat := [0, 0, 2, 0, 14, 30, 0, 127, 255, 511]
theorem spec_LeafAt.tab3 : rtab .any (opsOf Try.f25 3) = spec_LeafAt.T3 := by kernel_rfl
theorem spec_LeafAt.bits3 : waitsOk spec_LeafAt.T3.2 spec_LeafAt.B3 = true := by kernel_rfl
def impl_LeafAt.f (k : Nat) (l0_0 : List (S68)) (l0_1 : List Int) (a0_2 : Int) (a1 : Int) (a2 : Int) : Option (ByteArray × Bool) := (impl_isRoot.f l0_0 l0_1 a0_2 a1).bind fun t232 => (if t232 = true then ((impl_Cow_places.f l0_0 l0_1 a0_2).bind fun t233 => ((impl_within.f a2 0 (wrap64 (t233 - 1))).bind fun t234 => (if t234 = true then ((impl_Cow_leafAt.f k l0_0 l0_1 a0_2 a1 a2).bind fun t235 => (some (t235, true))) else (some ((⟨#[]⟩ : ByteArray), false))))) else (some ((⟨#[]⟩ : ByteArray), false)))
end Go.Proofs.Ytacfalpgmibfnaa.PCow
namespace Go.Proofs.Ytacfalpgmibfnaa.PCow
open Go.RowKit Go.Proofs.YtacfalpgmibfnaaW.PrintWords Go.Proofs.YtacfalpgmibfnaaW.PrintLast Go.Proofs.YtacfalpgmibfnaaW.PrintMore Go.Proofs.Ytacfalpgmibfnaa.E
set_option linter.unusedSimpArgs false
set_option linter.unusedVariables false
def freeFrom : List CL → Nat → Int
 | [], _ => -1
 | x :: l, i => if x.f0 = 0 then (i : Int) else freeFrom l (i + 1)
def freeK (l : List CL) : Int := freeFrom l 0
theorem rd_cl_nat {l : List CL} {j : Nat} (h : j < l.length) : rd_T68 l (j : Int) = l[j] := by
 rw [rd_cl, Int.toNat_natCast, List.getD_eq_getElem?_getD, List.getElem?_eq_getElem h]
 rfl
theorem free_hit : ∀ (l : List CL) (i j : Nat), j < l.length → (rd_T68 l (j : Int)).f0 = 0 → (∀ n : Nat, n < j → (rd_T68 l (n : Int)).f0 ≠ 0) → freeFrom l i = ((i + j : Nat) : Int)
 | [], i, j, hj, _, _ => absurd hj (Nat.not_lt_zero _)
 | x :: l, i, 0, hj, h0, hn => by
  rw [rd_cl_nat hj] at h0
  replace h0 : x.f0 = 0 := h0
  unfold freeFrom
  rw [if_pos h0]
  simp
 | x :: l, i, j + 1, hj, h0, hn => by
  have h1 := hn 0 (by omega)
  rw [rd_cl_nat (by simp)] at h1
  replace h1 : x.f0 ≠ 0 := h1
  unfold freeFrom
  rw [if_neg h1]
  have hl : j < l.length := by simpa using hj
  rw [free_hit l (i + 1) j hl (by rw [rd_cl_nat hj] at h0; rw [rd_cl_nat hl]; exact h0) (fun n hn2 => by
   have h3 := hn (n + 1) (by omega)
   have h4 : n < l.length := by omega
   rw [rd_cl_nat (by simp; omega)] at h3
   rw [rd_cl_nat h4]
   exact h3)]
  congr 1
  omega
theorem free_miss : ∀ (l : List CL) (i : Nat), (∀ n : Nat, n < l.length → (rd_T68 l (n : Int)).f0 ≠ 0) → freeFrom l i = -1
 | [], i, _ => rfl
 | x :: l, i, hn => by
  have h1 := hn 0 (by simp)
  rw [rd_cl_nat (by simp)] at h1
  replace h1 : x.f0 ≠ 0 := h1
  unfold freeFrom
  rw [if_neg h1]
  exact free_miss l (i + 1) (fun n h2 => by
   have h3 := hn (n + 1) (by simp; omega)
   rw [rd_cl_nat (by simp; omega)] at h3
   rw [rd_cl_nat h2]
   exact h3)
theorem freeFrom_lt : ∀ (l : List CL) (i : Nat), freeFrom l i = -1 ∨ ∃ j, ∃ h : j < l.length, freeFrom l i = ((i + j : Nat) : Int) ∧ (l[j]).f0 = 0
 | [], i => .inl rfl
 | x :: l, i => by
  unfold freeFrom
  split
  ·rename_i h
   exact .inr ⟨0, by simp, by simp, h⟩
  ·rcases freeFrom_lt l (i + 1) with h | ⟨j, hj, h1, h2⟩
   ·exact .inl h
   ·exact .inr ⟨j + 1, by simp; omega, by rw [h1]; omega, by simpa using h2⟩
end Go.Proofs.Ytacfalpgmibfnaa.PCow
namespace Go.Proofs.Ytacfalpgmibfnaa.PCow
open Go.RowKit Go.Proofs.YtacfalpgmibfnaaW.PrintWords Go.Proofs.YtacfalpgmibfnaaW.PrintLast Go.Proofs.YtacfalpgmibfnaaW.PrintMore Go.Proofs.Ytacfalpgmibfnaa.E
set_option linter.unusedSimpArgs false
set_option linter.unusedVariables false
def newC (C : List CL) (x : CL) : List CL × Nat := if freeK C < 0 then (C ++ [x], C.length) else (C.set (freeK C).toNat x, (freeK C).toNat)
theorem freeK_lt (C : List CL) (h : ¬ freeK C < 0) : (freeK C).toNat < C.length := by
 rcases freeFrom_lt C 0 with e | ⟨j, hj, e, _⟩
 ·exact absurd (show freeK C < 0 by unfold freeK; omega) h
 ·have : freeK C = (j : Int) := by unfold freeK; omega
  omega
theorem newC_lt (C : List CL) (x : CL) : (newC C x).2 < (newC C x).1.length := by
 unfold newC
 split
 ·simp
 ·rename_i h
  have := freeK_lt C h
  simpa using this
theorem newC_len (C : List CL) (x : CL) : C.length ≤ (newC C x).1.length ∧ (newC C x).1.length ≤ C.length + 1 := by
 unfold newC
 split <;> simp
def incL : List Int → List CL → Option (List CL)
 | [], C => some C
 | n :: r, C => if 0 ≤ n then (if n < (C.length : Int) then incL r (C.set n.toNat ⟨wrap64 ((rd_T68 C n).f0 + 1), (rd_T68 C n).f1, (rd_T68 C n).f2⟩) else none) else incL r C
def ownM (C : List CL) (k : Int) (level : Nat) : Option (List CL × Nat) :=
 if C.length ≤ 1000000 then
  (if k < 0 then some (newC C ⟨1, ⟨#[]⟩, if level = 1 then [] else [-1, -1, -1, -1]⟩)
  else if k < (C.length : Int) then
   (if (rd_T68 C k).f0 = 1 then some (C, k.toNat)
   else if (rd_T68 C k).f2.length ≤ 1048576 then (incL (rd_T68 C k).f2 (C.set k.toNat ⟨wrap64 ((rd_T68 C k).f0 - 1), (rd_T68 C k).f1, (rd_T68 C k).f2⟩)).bind fun D => some (newC D ⟨1, (rd_T68 C k).f1, (rd_T68 C k).f2⟩)
   else none)
  else none)
 else none
theorem ownM_lt (C : List CL) (k : Int) (level : Nat) (o : List CL × Nat) (h : ownM C k level = some o) : o.2 < o.1.length := by
 unfold ownM at h
 split at h
 ·split at h
  ·rw [← Option.some.inj h]; exact newC_lt _ _
  ·split at h
   ·split at h
    ·rw [← Option.some.inj h]; show k.toNat < C.length; omega
    ·split at h
     ·obtain ⟨D, _, h2⟩ := Option.bind_eq_some_iff.1 h
      rw [← Option.some.inj h2]; exact newC_lt _ _
     ·cases h
   ·cases h
 ·cases h
def putM (dg : Nat → Int) (leaf : ByteArray) : Nat → List CL → Int → Option (List CL × Int)
 | 0, _, _ => none
 | l + 1, C, k => if leaf.size = 0 ∧ k < 0 then none else (ownM C k (l + 1)).bind fun o =>
  if l = 0 then (if leaf.size = 0 then some (o.1.set o.2 z68, -1) else some (o.1.set o.2 ⟨(rd_T68 o.1 o.2).f0, leaf, (rd_T68 o.1 o.2).f2⟩, (o.2 : Int)))
  else if 0 ≤ dg (l + 1) ∧ dg (l + 1) < 4 ∧ (rd_T68 o.1 o.2).f2.length = 4 then
   (putM dg leaf l o.1 (rd (rd_T68 o.1 o.2).f2 (dg (l + 1)))).bind fun q =>
    if o.2 < q.1.length ∧ (rd_T68 q.1 o.2).f2.length = 4 ∧ (rd_T68 q.1 o.2).f1.size = 0 then
     (if someKid ((rd_T68 q.1 o.2).f2.set (dg (l + 1)).toNat q.2) = true then some (q.1.set o.2 ⟨(rd_T68 q.1 o.2).f0, (rd_T68 q.1 o.2).f1, (rd_T68 q.1 o.2).f2.set (dg (l + 1)).toNat q.2⟩, (o.2 : Int))
     else some (q.1.set o.2 z68, -1))
    else none
  else none
end Go.Proofs.Ytacfalpgmibfnaa.PCow
namespace Go.Proofs.Ytacfalpgmibfnaa.PCow
open Go.RowKit Go.Proofs.YtacfalpgmibfnaaW.PrintWords Go.Proofs.YtacfalpgmibfnaaW.PrintLast Go.Proofs.YtacfalpgmibfnaaW.PrintMore Go.Proofs.Ytacfalpgmibfnaa.E
set_option linter.unusedSimpArgs false
set_option linter.unusedVariables false
theorem put3t {W : World} {g t : Nat} {a b c : Value} (h : W.heap[g]? = some (.cells #[a, b, c] t (0, 0))) (x y z : Value) : (((W.setCell ⟨g, 0, none⟩ x).setCell ⟨g, 1, none⟩ y).setCell ⟨g, 2, none⟩ z).heap[g]? = some (.cells #[x, y, z] t (0, 0)) :=
 blk_put (cs := #[x, y, c]) (blk_put (cs := #[x, b, c]) (blk_put (cs := #[a, b, c]) h 0 x rfl) 1 y rfl) 2 z rfl
theorem local_cell (w : World) (a b c : Value) : ∃ W1 W2, w.alloc (.cells #[.int .i64 0, .string ⟨#[]⟩, .slice none 0 0] 68) = W1 ∧ ((W1.setCell ⟨w.heap.size, 0, none⟩ a).setCell ⟨w.heap.size, 1, none⟩ b).setCell ⟨w.heap.size, 2, none⟩ c = W2 ∧
  W1.cell? ⟨w.heap.size, 0, none⟩ = some (.int .i64 0) ∧ W1.cell? ⟨w.heap.size, 1, none⟩ = some (.string ⟨#[]⟩) ∧ W1.cell? ⟨w.heap.size, 2, none⟩ = some (.slice none 0 0) ∧ W1.frozen? ⟨w.heap.size, 0, none⟩ = false ∧ W1.frozen? ⟨w.heap.size, 1, none⟩ = false ∧ W1.frozen? ⟨w.heap.size, 2, none⟩ = false ∧
  Aside0 (W2.heap[w.heap.size]? = some (.cells #[a, b, c] 68 (0, 0))) ∧ Aside0 (Below w.heap.size w W2) := by
 have h1 := heap_alloc_new w (.cells #[.int .i64 0, .string ⟨#[]⟩, .slice none 0 0] 68)
 have hb := below_alloc (Below.refl w.heap.size w) (.cells #[.int .i64 0, .string ⟨#[]⟩, .slice none 0 0] 68)
 exact ⟨_, _, rfl, rfl, (blk_cell h1 0).trans rfl, (blk_cell h1 1).trans rfl, (blk_cell h1 2).trans rfl, blk_frozen h1 0, blk_frozen h1 1, blk_frozen h1 2, ⟨put3t h1 a b c⟩, ⟨below_set (below_set (below_set hb (Nat.le_refl _)) (Nat.le_refl _)) (Nat.le_refl _)⟩⟩
end Go.Proofs.Ytacfalpgmibfnaa.PCow
namespace Go.Proofs.Ytacfalpgmibfnaa.PCow
open Go.RowKit Go.Proofs.YtacfalpgmibfnaaW.PrintWords Go.Proofs.YtacfalpgmibfnaaW.PrintLast Go.Proofs.YtacfalpgmibfnaaW.PrintMore Go.Proofs.Ytacfalpgmibfnaa.E
set_option linter.unusedSimpArgs false
set_option linter.unusedVariables false
theorem empty_of_size {s : ByteArray} (h : s.size = 0) : s = ⟨#[]⟩ := by
 have : s.data = #[] := Array.eq_empty_of_size_eq_zero h
 cases s
 simp_all
end Go.Proofs.Ytacfalpgmibfnaa.PCow
namespace Go.Proofs.Ytacfalpgmibfnaa.PCow
open Go.RowKit Go.Proofs.YtacfalpgmibfnaaW.PrintWords Go.Proofs.YtacfalpgmibfnaaW.PrintLast Go.Proofs.YtacfalpgmibfnaaW.PrintMore Go.Proofs.Ytacfalpgmibfnaa.E
set_option linter.unusedSimpArgs false
set_option linter.unusedVariables false
set_option maxHeartbeats 8000000 in
set_option maxRecDepth 100000 in
theorem new_calls (L : Int) (n1 c1 c : Nat) (A1 A : Option Addr) (C : List CL) (P : Nat → Prop) (x : CL) (vx : Value) (w0 w : World) (hB : Below w0.heap.size w0 w) (hS : CS w w0.heap.size (fun k => P k ∧ ¬ some k = vx.ownBlock) (.slice A C.length c) C) (hx : IR w w0.heap.size (fun k => some k = vx.ownBlock) vx x.f2) (hxP : ∀ k, some k = vx.ownBlock → P k) (hfP : ∀ k, w.heap.size ≤ k → P k) (hn : C.length ≤ 1000000) :
  Calls Try.prog 92 #[.agg #[.slice A C.length c, .slice A1 n1 c1, .int .i64 L], .agg #[.int .i64 x.f0, .string x.f1, vx]] w fun e w' => ∃ v0, e = .returned (.tuple #[.agg #[v0, .slice A1 n1 c1, .int .i64 L], .int .i64 ((newC C x).2 : Int)]) ∧ CS w' w0.heap.size P v0 (newC C x).1 ∧ Below w0.heap.size w0 w' ∧ Kept w w' P := by
 have hu25 := Try.underlying25
 have hu68 := Try.underlying68
 have hu22 := Try.underlying22
 obtain ⟨Ax, cx, rfl⟩ := Kd.R_slice hx
 obtain ⟨xg, hxg⟩ : ∃ xg, w.heap.size = xg := ⟨_, rfl⟩
 have LX := Aside0.mk (show ∀ k, some k = (Value.slice Ax x.f2.length cx).ownBlock → k < xg from fun k hk => hxg ▸ Kd.R_lt hx k hk.symm)
 have XP := Aside0.mk hxP
 have HN := Aside0.mk hn
 have FP := Aside0.mk (show ∀ k, xg ≤ k → P k from fun k hk => hfP k (hxg ▸ hk))
 have BX := Aside0.mk (show w0.heap.size ≤ xg from hxg ▸ hB.size)
 have hl : C.length ≤ 9223372036854775807 := by omega
 obtain ⟨W1, hW1⟩ : ∃ W, w.alloc (.cells #[.slice A C.length c, .slice A1 n1 c1, .int .i64 L] 25) = W := ⟨_, rfl⟩
 obtain ⟨W2, hW2⟩ : ∃ W, W1.alloc (.cells #[.int .i64 x.f0, .string x.f1, .slice Ax x.f2.length cx] 68) = W := ⟨_, rfl⟩
 obtain ⟨W3, hW3⟩ : ∃ W, W2.alloc (.cells #[.slice none 0 0, .slice none 0 0, .int .i64 0] 25) = W := ⟨_, rfl⟩
 have hb1 : Below w.heap.size w W1 := by rw [← hW1]; exact below_alloc (Below.refl _ _) _
 have hb2 : Below W1.heap.size W1 W2 := by rw [← hW2]; exact below_alloc (Below.refl _ _) _
 have hb3 : Below W2.heap.size W2 W3 := by rw [← hW3]; exact below_alloc (Below.refl _ _) _
 have X1 : W1.heap[xg]? = some (.cells #[.slice A C.length c, .slice A1 n1 c1, .int .i64 L] 25 (0, 0)) := by rw [← hW1, ← hxg]; exact heap_alloc_new w _
 have Y2 : W2.heap[W1.heap.size]? = some (.cells #[.int .i64 x.f0, .string x.f1, .slice Ax x.f2.length cx] 68 (0, 0)) := by rw [← hW2]; exact heap_alloc_new W1 _
 have Z3 := Aside0.mk (show W3.heap[W2.heap.size]? = some (.cells #[.slice none 0 0, .slice none 0 0, .int .i64 0] 25 (0, 0)) by rw [← hW3]; exact heap_alloc_new W2 _)
 have XY := Aside0.mk (show xg < W1.heap.size from blk_lt X1)
 have YZ := Aside0.mk (show W1.heap.size < W2.heap.size from blk_lt Y2)
 have hb := below_step (below_step hb1 hb2) hb3
 have X3 := Aside0.mk (blk_below (blk_below X1 hb2) hb3)
 have Y3 := Aside0.mk (blk_below Y2 hb3)
 have S3 := Aside0.mk (show CS W3 w0.heap.size (fun k => (P k ∧ ¬ some k = (Value.slice Ax x.f2.length cx).ownBlock) ∧ k < xg) (.slice A C.length c) C from Kd.S_below (Kd.S_mono (Kd.S_bound hS) (fun k hk => ⟨hk.1, hxg ▸ hk.2.2.1⟩)) hb)
 have V3 := Aside0.mk (Kd.R_below hx hb)
 have B3 := Aside0.mk (below_then hB hB.size hb)
 have K3 := Aside0.mk (Kept.of_below hb P)
 clear hb1 hb2 hb3 hb X1 Y2 hS hB hx hxP hfP hn
 have d0 : W3.cell? ⟨xg, 0, none⟩ = some (.slice A C.length c) := (blk_cell X3.out 0).trans rfl
 go_enter Try.func92, Try.ntmps92
 go_wp2
 generalize hyg : W1.heap.size = yg at *
 generalize hzg : W2.heap.size = zg at *
 have HXG := Aside0.mk hxg
 clear hW1 hW2 hW3 hyg hzg hxg d0
 go_loopw [6, 7, 11] (fun v6 v7 vi wr => ∃ q : Nat, q ≤ C.length ∧ vi = .int .i64 q ∧ Aside0 (∀ n : Nat, n < q → (rd_T68 C (n : Int)).f0 ≠ 0) ∧ Aside0 (wr.heap[xg]? = some (.cells #[.slice A C.length c, .slice A1 n1 c1, .int .i64 L] 25 (0, 0))) ∧ Aside0 (wr.heap[yg]? = some (.cells #[.int .i64 x.f0, .string x.f1, .slice Ax x.f2.length cx] 68 (0, 0))) ∧ Aside0 (wr.heap[zg]? = some (.cells #[.slice none 0 0, .slice none 0 0, .int .i64 0] 25 (0, 0))) ∧ Aside0 (CS wr w0.heap.size (fun k => (P k ∧ ¬ some k = (Value.slice Ax x.f2.length cx).ownBlock) ∧ k < xg) (.slice A C.length c) C) ∧ Aside0 (IR wr w0.heap.size (fun k => some k = (Value.slice Ax x.f2.length cx).ownBlock) (.slice Ax x.f2.length cx) x.f2) ∧ Aside0 (Below w0.heap.size w0 wr) ∧ Aside0 (Kept w wr P)) (fun v6 v7 vi _ => C.length - (intOf vi).toNat)
 case atStart => exact ⟨0, Nat.zero_le _, rfl, ⟨fun n h => by omega⟩, X3, Y3, Z3, S3, V3, B3, K3⟩
 case round =>
  clear X3 Y3 Z3 S3 V3 B3 K3
  obtain ⟨q, hq, rfl, HN0, X3, Y3, Z3, S3, V3, B3, K3⟩ := hrel
  by_cases hql : q < C.length
  ·have hqq : ((q : Int) < (C.length : Int)) = True := eq_true (by omega)
   obtain ⟨g, cap, hv, _, _, _⟩ := Kd.S_form S3.out (by omega)
   injection hv with hA hn_ hc
   subst hA hc
   clear hn_
   obtain ⟨y, hy⟩ : ∃ y, rd_T68 C (q : Int) = y := ⟨_, rfl⟩
   obtain ⟨_, vk, e0, e1, e2, hfr, _, hR, _⟩ := cs_elem S3.out (q : Int) (by omega) (by omega)
   simp only [Int.toNat_natCast] at e0 e1 e2 hfr
   rw [hy] at e0 e1 hR
   obtain ⟨Ak, ck, rfl⟩ := Kd.R_slice hR
   obtain ⟨W1, W2, hW1, hW2, y0, y1, y2, z0, z1, z2, Y, BL⟩ := local_cell wr (.int .i64 y.f0) (.string y.f1) (.slice Ak y.f2.length ck)
   have yy0 : W2.cell? ⟨wr.heap.size, 0, none⟩ = some (.int .i64 y.f0) := (blk_cell Y.out 0).trans rfl
   have X4 := Aside0.mk (blk_below X3.out BL.out)
   have Y4 := Aside0.mk (blk_below Y3.out BL.out)
   have Z4 := Aside0.mk (blk_below Z3.out BL.out)
   have S4 := Aside0.mk (Kd.S_below S3.out BL.out)
   have V4 := Aside0.mk (Kd.R_below V3.out BL.out)
   have B4 := Aside0.mk (below_then B3.out B3.out.size BL.out)
   have K4 := Aside0.mk (K3.out.below BL.out)
   have HY := Aside0.mk hy
   clear X3 Y3 Z3 S3 V3 B3 K3 hfr hR Y BL hy
   by_cases he : y.f0 = 0
   ·have hE : (y.f0 == 0) = true := beq_iff_eq.2 he
    have hE2 : (y.f0 = 0) = True := eq_true he
    have HE := Aside0.mk he
    have d0 : W2.cell? ⟨xg, 0, none⟩ = some (.slice (some ⟨g, 0, none⟩) C.length c) := (blk_cell X4.out 0).trans rfl
    have x0 : W2.cell? ⟨yg, 0, none⟩ = some (.int .i64 x.f0) := (blk_cell Y4.out 0).trans rfl
    have x1 : W2.cell? ⟨yg, 1, none⟩ = some (.string x.f1) := (blk_cell Y4.out 1).trans rfl
    have x2 : W2.cell? ⟨yg, 2, none⟩ = some (.slice Ax x.f2.length cx) := (blk_cell Y4.out 2).trans rfl
    have hPg := (Kd.S_R S4.out).1 g rfl
    obtain ⟨_, _, q0, q1, q2, hfr3, _, _, _⟩ := cs_elem S4.out (q : Int) (by omega) (by omega)
    simp only [Int.toNat_natCast] at q0 q1 q2 hfr3
    have n0 : W2.frozen? ⟨g, q * 3, none⟩ = false := hfr3 0
    have n1_ := hfr3 1
    have n2 := hfr3 2
    have S5 := cs_all (ok := P) (okg := fun k => some k = (Value.slice Ax x.f2.length cx).ownBlock) (Kd.S_mono S4.out (fun k hk => hk.1)) (q : Int) (by omega) (by omega) x _ V4.out (fun k hk => ⟨XP.out k hk, fun e_ => hPg.1.2 (e_ ▸ hk)⟩)
    simp only [Int.toNat_natCast] at S5
    obtain ⟨W5, hW5⟩ : ∃ W, ((W2.setCell ⟨g, q * 3, none⟩ (.int .i64 x.f0)).setCell ⟨g, q * 3 + 1, none⟩ (.string x.f1)).setCell ⟨g, q * 3 + 2, none⟩ (.slice Ax x.f2.length cx) = W := ⟨_, rfl⟩
    have KK : Kept W2 W5 (fun j => j = g) := by rw [← hW5]; exact (((Kept.refl W2 (fun j => j = g)).setCell (p := ⟨g, q * 3, none⟩) (.inl rfl) _).setCell (p := ⟨g, q * 3 + 1, none⟩) (.inl rfl) _).setCell (p := ⟨g, q * 3 + 2, none⟩) (.inl rfl) _
    have B5 := Aside0.mk (show Below w0.heap.size w0 W5 by have h_ := Kd.S_base S4.out g rfl; rw [← hW5]; exact below_set (below_set (below_set B4.out h_) h_) h_)
    rw [hW5] at S5
    have hgx := hPg.2
    have X5 := Aside0.mk (blk_kept X4.out KK (by omega))
    have Z5 := Aside0.mk (blk_kept Z4.out KK (by have := XY.out; have := YZ.out; omega))
    have S5 := Aside0.mk S5
    have K5 := Aside0.mk (K4.out.then_ KK (fun j hj => .inl (by rw [hj]; exact hPg.1.1)))
    have p0 : W5.cell? ⟨xg, 0, none⟩ = some (.slice (some ⟨g, 0, none⟩) C.length c) := (blk_cell X5.out 0).trans rfl
    have p1 : W5.cell? ⟨xg, 1, none⟩ = some (.slice A1 n1 c1) := (blk_cell X5.out 1).trans rfl
    have p2 : W5.cell? ⟨xg, 2, none⟩ = some (.int .i64 L) := (blk_cell X5.out 2).trans rfl
    have r0 : W5.cell? ⟨zg, 0, none⟩ = some (.slice none 0 0) := (blk_cell Z5.out 0).trans rfl
    have r1 : W5.cell? ⟨zg, 1, none⟩ = some (.slice none 0 0) := (blk_cell Z5.out 1).trans rfl
    have r2 : W5.cell? ⟨zg, 2, none⟩ = some (.int .i64 0) := (blk_cell Z5.out 2).trans rfl
    have s0 := blk_frozen Z5.out 0
    have s1 := blk_frozen Z5.out 1
    have s2 := blk_frozen Z5.out 2
    have ZB := Aside0.mk (show w0.heap.size ≤ zg by have := XY.out; have := YZ.out; have := BX.out; omega)
    have KZ := Aside0.mk (show w.heap.size ≤ zg by have := XY.out; have := YZ.out; have := HXG.out; omega)
    clear he hPg hfr3 KK hgx X4 Y4 Z4 S4 V4 B4 K4
    go_wp2
    refine bodyPost_ret (results_ct rfl _ _ zg 25 #[.slice (some ⟨g, 0, none⟩) C.length c, .slice A1 n1 c1, .int .i64 L] (0, 0) _ rfl (put3 Z5.out _ _ _) Try.underlying25 rfl (by kernel_rfl)) rfl ?_
    have e_ : freeFrom C 0 = ((0 + q : Nat) : Int) := free_hit C 0 q hql (by rw [HY.out]; exact HE.out) HN0.out
    have e2_ : newC C x = (C.set q x, q) := by
     unfold newC
     rw [if_neg (by unfold freeK; rw [e_]; omega)]
     unfold freeK
     rw [e_]
     simp
    rw [e2_]
    refine ⟨_, rfl, ?_, below_set (below_set (below_set B5.out ZB.out) ZB.out) ZB.out, ((K5.out.setCell (p := ⟨zg, 0, none⟩) (.inr KZ.out) _).setCell (p := ⟨zg, 1, none⟩) (.inr KZ.out) _).setCell (p := ⟨zg, 2, none⟩) (.inr KZ.out) _⟩
    have h5 := Kd.S_types S5.out Z5.out (by decide)
    rw [show C.length = (C.set q x).length from List.length_set.symm] at h5 ⊢
    exact Kd.S_mono (Kd.S_far (p := ⟨zg, 2, none⟩) (Kd.S_far (p := ⟨zg, 1, none⟩) (Kd.S_far (p := ⟨zg, 0, none⟩) h5 (fun _ hk => hk.2) _) (fun _ hk => hk.2) _) (fun _ hk => hk.2) _) (fun k hk => hk.1)
   ·have hE : (y.f0 == 0) = false := beq_eq_false_iff_ne.2 he
    have hE2 : (y.f0 = 0) = False := eq_false he
    have HE := Aside0.mk he
    clear he
    go_wp2
    go_roundw
    case rel => exact ⟨q + 1, hql, by go_num, ⟨fun n hn => by
     by_cases h : n = q
     ·subst h; rw [HY.out]; exact HE.out
     ·exact HN0.out n (by omega)⟩, X4, Y4, Z4, S4, V4, B4, K4⟩
    case measure => simp [intOf]; omega
  ·have hqq : ((q : Int) < (C.length : Int)) = False := eq_false (by omega)
   have HF := Aside0.mk (free_miss C 0 (fun n hn => HN0.out n (by omega)))
   have hql2 : q = C.length := by omega
   subst hql2
   clear HN0 hql hq
   have d0 : wr.cell? ⟨xg, 0, none⟩ = some (.slice A C.length c) := (blk_cell X3.out 0).trans rfl
   have x0 : wr.cell? ⟨yg, 0, none⟩ = some (.int .i64 x.f0) := (blk_cell Y3.out 0).trans rfl
   have x1 : wr.cell? ⟨yg, 1, none⟩ = some (.string x.f1) := (blk_cell Y3.out 1).trans rfl
   have x2 : wr.cell? ⟨yg, 2, none⟩ = some (.slice Ax x.f2.length cx) := (blk_cell Y3.out 2).trans rfl
   have hzl := blk_lt Z3.out
   go_wp2_with ((with_reducible refine gate_builtin (b := .append) (xs := #[.tmp 28, .tmp 30]) rfl ?_); at_builtin; refine Kd.S_append k68 (w0 := w0) (W := wr) w0.heap.size rfl (.tmp 28) (.tmp 30) 22 68 (.agg #[(.int .i64 0), (.string ⟨#[]⟩), (.slice none 0 0)]) 48 rfl Try.underlying22 info68 rfl (by decide) (by omega) (.slice A C.length c) C x [.int .i64 x.f0, .string x.f1, .slice Ax x.f2.length cx] (fun k => P k ∧ k ≠ xg ∧ k ≠ yg ∧ k ≠ zg) (fun k => some k = (Value.slice Ax x.f2.length cx).ownBlock) rfl rfl ?aP ?aK ?aF ?aO B3.out B3.out.size ?aL ?_; (case aP => exact cl_M.2 ⟨_, rfl, V3.out⟩); (case aK => exact fun k hk => (have h_ := LX.out k hk; have h1_ := XY.out; have h2_ := YZ.out; ⟨⟨XP.out k hk, by omega, by omega, by omega⟩, fun e_ => ((Kd.S_R S3.out).1 k e_.symm).1.2 hk⟩)); (case aF => exact fun k hk => (have h1_ := XY.out; have h2_ := YZ.out; ⟨FP.out k (by omega), by omega, by omega, by omega⟩)); (case aO => exact Kd.S_mono S3.out (fun k hk => (have h_ := hk.2; have h1_ := XY.out; have h2_ := YZ.out; ⟨⟨hk.1.1, by omega, by omega, by omega⟩, hk.1.2⟩))); (case aL => have := HN.out; omega); intro v3 w3 ho hb hg hat; (obtain ⟨A3, c3, e3⟩ := Kd.S_slice ho); (rw [List.length_append] at e3; replace e3 : v3 = .slice A3 (C.length + 1) c3 := e3; subst e3); (have hown := fun k (hk : some k = (Value.slice A C.length c).ownBlock) => (Kd.S_R S3.out).1 k hk.symm); (have X5 := Aside0.mk (blk_grown X3.out hg (fun e_ => absurd (hown xg e_).2 (Nat.lt_irrefl _)))); (have Z5 := Aside0.mk (blk_grown Z3.out hg (fun e_ => by have := (hown zg e_).2; have := XY.out; have := YZ.out; omega))); (have K5 := Aside0.mk (K3.out.of_grown hg (fun k hk => .inl (hown k hk.symm).1.1))); (have S5 := Aside0.mk ho); (have B5 := Aside0.mk hb); clear hg hat hown ho hb X3 Y3 Z3 S3 V3 B3 K3 d0 x0 x1 x2; (obtain ⟨w4, hw4⟩ : ∃ W, w3.setCell ⟨xg, 0, none⟩ (.slice A3 (C.length + 1) c3) = W := ⟨_, rfl⟩); (have d0 : w3.cell? ⟨xg, 0, none⟩ = some (.slice A C.length c) := (blk_cell X5.out 0).trans rfl); (have f0 := blk_frozen X5.out 0); (have S6 := Aside0.mk (show CS w4 w0.heap.size (fun k => P k ∧ k ≠ xg ∧ k ≠ yg ∧ k ≠ zg) (.slice A3 (C.length + 1) c3) (C ++ [x]) by rw [← hw4]; exact Kd.S_far (p := ⟨xg, 0, none⟩) S5.out (fun k hk => hk.2.1) _)); (have X6 := Aside0.mk (show w4.heap[xg]? = some (.cells #[.slice A3 (C.length + 1) c3, .slice A1 n1 c1, .int .i64 L] 25 (0, 0)) by rw [← hw4]; exact blk_put (cs := #[.slice A C.length c, .slice A1 n1 c1, .int .i64 L]) X5.out 0 _ rfl)); (have Z6 := Aside0.mk (show w4.heap[zg]? = some (.cells #[.slice none 0 0, .slice none 0 0, .int .i64 0] 25 (0, 0)) by rw [← hw4]; exact blk_far (p := ⟨xg, 0, none⟩) Z5.out (by have := XY.out; have := YZ.out; show zg ≠ xg; omega) _)); (have B6 := Aside0.mk (show Below w0.heap.size w0 w4 by rw [← hw4]; exact below_set B5.out BX.out)); (have K6 := Aside0.mk (show Kept w w4 P by rw [← hw4]; exact K5.out.setCell (p := ⟨xg, 0, none⟩) (.inr (Nat.le_of_eq HXG.out)) _)); clear X5 Z5 K5 S5 B5)
   clear hw4 d0 f0
   refine start_ (n := 7) (S := fun w' => w'.cell? ⟨xg, 0, none⟩ = some (.slice A3 (C.length + 1) c3) ∧ w'.cell? ⟨xg, 1, none⟩ = some (.slice A1 n1 c1) ∧ w'.cell? ⟨xg, 2, none⟩ = some (.int .i64 L)) (ds := []) #[false, false, false, false, false, false, false] (by kernel_rfl) rfl rfl ⟨(blk_cell X6.out 0).trans rfl, (blk_cell X6.out 1).trans rfl, (blk_cell X6.out 2).trans rfl⟩ (fun hHeld => ?_)
   replace X6 := Aside0.mk (blk_drew X6.out)
   replace Z6 := Aside0.mk (blk_drew Z6.out)
   replace S6 := Aside0.mk (Kd.S_drew S6.out)
   replace B6 := Aside0.mk (below_drew1 B6.out)
   replace K6 := Aside0.mk K6.out.drew
   generalize w4.drew = w5 at X6 Z6 S6 B6 K6 hHeld ⊢
   have v_ : wrap64 ((C.length : Int) + 1 - 1) = (C.length : Int) := by rw [show (C.length : Int) + 1 - 1 = (C.length : Int) by omega]; exact w64 (by omega) (by omega)
   refine take_ (i := 0) (N := some 33) (v := ?_) (a' := ?_) #[true, false, false, false, false, false, false] rfl rfl (by kernel_rfl) (fun _ _ _ h => h) (Or.inl ⟨by rfl, ?_⟩) hHeld ?_ ?_
   rotate_left
   ·rintro w' ⟨s0, s1, s2⟩
    go_simp
    with_reducible rfl
   rotate_left
   ·simp only [Act.put, List.setIfInBounds_toArray, List.set_cons_zero, List.set_cons_succ, i64_w, i32_w]
    rfl
   refine take_ (i := 1) (N := some 34) (v := ?_) (a' := ?_) #[true, true, false, false, false, false, false] rfl rfl (by kernel_rfl) (fun _ _ _ h => h) (Or.inl ⟨by rfl, ?_⟩) hHeld ?_ ?_
   rotate_left
   ·rintro w' ⟨s0, s1, s2⟩
    go_simp
    with_reducible rfl
   rotate_left
   ·simp only [Act.put, List.setIfInBounds_toArray, List.set_cons_zero, List.set_cons_succ, i64_w, i32_w]
    rfl
   refine take_ (i := 2) (N := some 35) (v := ?_) (a' := ?_) #[true, true, true, false, false, false, false] rfl rfl (by kernel_rfl) (fun _ _ _ h => h) (Or.inl ⟨by rfl, ?_⟩) hHeld ?_ ?_
   rotate_left
   ·rintro w' ⟨s0, s1, s2⟩
    go_simp
    with_reducible rfl
   rotate_left
   ·simp only [Act.put, List.setIfInBounds_toArray, List.set_cons_zero, List.set_cons_succ, i64_w, i32_w]
    rfl
   refine take_ (i := 3) (N := some 36) (v := ?_) (a' := ?_) #[true, true, true, true, false, false, false] rfl rfl (by kernel_rfl) (fun _ _ _ h => h) (Or.inl ⟨by rfl, ?_⟩) hHeld ?_ ?_
   rotate_left
   ·rintro w' ⟨s0, s1, s2⟩
    go_simp
    with_reducible rfl
   rotate_left
   ·simp only [Act.put, List.setIfInBounds_toArray, List.set_cons_zero, List.set_cons_succ, i64_w, i32_w]
    rfl
   refine take_ (i := 4) (N := some 37) (v := ?_) (a' := ?_) #[true, true, true, true, true, false, false] rfl rfl (by kernel_rfl) (fun _ _ _ h => h) (Or.inl ⟨by rfl, ?_⟩) hHeld ?_ ?_
   rotate_left
   ·rintro w' ⟨s0, s1, s2⟩
    go_simp
    with_reducible rfl
   rotate_left
   ·simp only [Act.put, List.setIfInBounds_toArray, List.set_cons_zero, List.set_cons_succ, i64_w, i32_w]
    rfl
   have r0 : w5.cell? ⟨zg, 0, none⟩ = some (.slice none 0 0) := (blk_cell Z6.out 0).trans rfl
   have r1 : w5.cell? ⟨zg, 1, none⟩ = some (.slice none 0 0) := (blk_cell Z6.out 1).trans rfl
   have r2 : w5.cell? ⟨zg, 2, none⟩ = some (.int .i64 0) := (blk_cell Z6.out 2).trans rfl
   have s0 := blk_frozen Z6.out 0
   have s1 := blk_frozen Z6.out 1
   have s2 := blk_frozen Z6.out 2
   refine one_ (i := 5) (N := none) #[true, true, true, true, true, true, false] rfl rfl (by kernel_rfl) (by decide) (fun K hK => ?_)
   refine skip_ (w1 := ((w5.setCell ⟨zg, 0, none⟩ (.slice A3 (C.length + 1) c3)).setCell ⟨zg, 1, none⟩ (.slice A1 n1 c1)).setCell ⟨zg, 2, none⟩ (.int .i64 L)) (by rfl) rfl ?_ ?_
   ·first | (go_simp; done) | (go_simp; rfl)
   clear r0 r1 r2 s0 s1 s2
   have hzx : zg ≠ xg := by have := XY.out; have := YZ.out; omega
   have KZ : Kept w5 (((w5.setCell ⟨zg, 0, none⟩ (.slice A3 (C.length + 1) c3)).setCell ⟨zg, 1, none⟩ (.slice A1 n1 c1)).setCell ⟨zg, 2, none⟩ (.int .i64 L)) (fun j => j = zg) := (((Kept.refl w5 (fun j => j = zg)).setCell (p := ⟨zg, 0, none⟩) (.inl rfl) _).setCell (p := ⟨zg, 1, none⟩) (.inl rfl) _).setCell (p := ⟨zg, 2, none⟩) (.inl rfl) _
   have hzb : w0.heap.size ≤ zg := by have := XY.out; have := YZ.out; have := BX.out; omega
   have B7 := Aside0.mk (below_set (below_set (below_set B6.out hzb) hzb) hzb : Below w0.heap.size w0 (((w5.setCell ⟨zg, 0, none⟩ (.slice A3 (C.length + 1) c3)).setCell ⟨zg, 1, none⟩ (.slice A1 n1 c1)).setCell ⟨zg, 2, none⟩ (.int .i64 L)))
   have Z7 := Aside0.mk (put3 Z6.out (.slice A3 (C.length + 1) c3) (.slice A1 n1 c1) (.int .i64 L))
   have X7 := Aside0.mk (blk_kept X6.out KZ (Ne.symm hzx))
   have S7 := Aside0.mk (Kd.S_kept S6.out KZ (fun k hk => hk.2.2.2))
   have K7 := Aside0.mk (K6.out.then_ KZ (fun j hj => .inr (by rw [hj]; have := XY.out; have := YZ.out; have := HXG.out; omega)))
   clear X6 Z6 S6 B6 K6 KZ
   generalize ((w5.setCell ⟨zg, 0, none⟩ (.slice A3 (C.length + 1) c3)).setCell ⟨zg, 1, none⟩ (.slice A1 n1 c1)).setCell ⟨zg, 2, none⟩ (.int .i64 L) = w7 at B7 Z7 X7 S7 K7 ⊢
   refine hK.out _ _ ⟨(blk_cell X7.out 0).trans rfl, (blk_cell X7.out 1).trans rfl, (blk_cell X7.out 2).trans rfl⟩ (fun hHeld => ?_)
   clear hK K
   refine pure_ (i := 6) (N := some 5) (v := ?_) (a' := ?_) #[true, true, true, true, true, true, true] rfl rfl (by kernel_rfl) (fun _ _ _ h => h) (Or.inl ⟨by rfl, ?_⟩) ?_ ?_
   rotate_left
   ·intro w'
    go_simp
    with_reducible rfl
   rotate_left
   ·simp only [Act.put, List.setIfInBounds_toArray, List.set_cons_zero, List.set_cons_succ, i64_w, i32_w]
    rfl
   refine done_ (by kernel_rfl) ?_
   clear hHeld
   try go_wp2
   refine bodyPost_ret (results_ct rfl _ _ zg 25 #[.slice A3 (C.length + 1) c3, .slice A1 n1 c1, .int .i64 L] (0, 0) _ rfl Z7.out Try.underlying25 rfl (by kernel_rfl)) rfl ?_
   have e_ : newC C x = (C ++ [x], C.length) := by
    unfold newC freeK
    rw [HF.out, if_pos (by omega)]
   rw [e_]
   exact ⟨_, (by show Ending.returned (.tuple #[.agg #[_, _, _], .int .i64 (wrap64 (C.length : Int))]) = _; rw [w64 (x := (C.length : Int)) (by omega) (by omega)]), Kd.S_mono S7.out (fun k hk => hk.1), B7.out, K7.out⟩
end Go.Proofs.Ytacfalpgmibfnaa.PCow
namespace Go.Proofs.Ytacfalpgmibfnaa.PCow
open Go.RowKit Go.Proofs.YtacfalpgmibfnaaW.PrintWords Go.Proofs.YtacfalpgmibfnaaW.PrintLast Go.Proofs.YtacfalpgmibfnaaW.PrintMore Go.Proofs.Ytacfalpgmibfnaa.E
set_option linter.unusedSimpArgs false
set_option linter.unusedVariables false
theorem keep3 {w W : World} {g : Nat} {S : Nat → Prop} {a b c : Value} (h : Kept w W S) (hg : S g ∨ w.heap.size ≤ g) : Kept w (((W.setCell ⟨g, 0, none⟩ a).setCell ⟨g, 1, none⟩ b).setCell ⟨g, 2, none⟩ c) S :=
 ((h.setCell (p := ⟨g, 0, none⟩) hg _).setCell (p := ⟨g, 1, none⟩) hg _).setCell (p := ⟨g, 2, none⟩) hg _
theorem below3 {w W : World} {g : Nat} {a b c : Value} (h : Below w.heap.size w W) (hg : w.heap.size ≤ g) : Below w.heap.size w (((W.setCell ⟨g, 0, none⟩ a).setCell ⟨g, 1, none⟩ b).setCell ⟨g, 2, none⟩ c) := below_set (below_set (below_set h hg) hg) hg
theorem far3 {W : World} {base g : Nat} {ok : Nat → Prop} {a b c v : Value} {C : List CL} {bx : Array Value} (h : CS W base ok v C) (hz : W.heap[g]? = some (.cells bx 25 (0, 0))) : CS (((W.setCell ⟨g, 0, none⟩ a).setCell ⟨g, 1, none⟩ b).setCell ⟨g, 2, none⟩ c) base ok v C :=
 Kd.S_mono (Kd.S_far (p := ⟨g, 2, none⟩) (Kd.S_far (p := ⟨g, 1, none⟩) (Kd.S_far (p := ⟨g, 0, none⟩) (Kd.S_types h hz (by decide)) (fun _ hk => hk.2) _) (fun _ hk => hk.2) _) (fun _ hk => hk.2) _) (fun _ hk => hk.1)
set_option maxHeartbeats 8000000 in
set_option maxRecDepth 100000 in
theorem ours_calls (L : Int) (n1 c1 c : Nat) (A1 A : Option Addr) (C : List CL) (P : Nat → Prop) (k : Int) (level : Nat) (o : List CL × Nat) (w0 w : World) (hB : Below w0.heap.size w0 w) (hS : CS w w0.heap.size P (.slice A C.length c) C) (hfP : ∀ k, w.heap.size ≤ k → P k) (hlv : level ≤ 1000 ∧ 1 ≤ level) (h : ownM C k level = some o) :
  Calls Try.prog 88 #[.agg #[.slice A C.length c, .slice A1 n1 c1, .int .i64 L], .int .i64 k, .int .i64 level] w fun e w' => ∃ v0, e = .returned (.tuple #[.agg #[v0, .slice A1 n1 c1, .int .i64 L], .int .i64 (o.2 : Int)]) ∧ CS w' w0.heap.size P v0 o.1 ∧ Below w0.heap.size w0 w' ∧ Kept w w' P := by
 have hu25 := Try.underlying25
 have hu68 := Try.underlying68
 have hu22 := Try.underlying22
 have hu23 := Try.underlying23
 obtain ⟨xg, hxg⟩ : ∃ xg, w.heap.size = xg := ⟨_, rfl⟩
 have FP := Aside0.mk (show ∀ k, xg ≤ k → P k from fun k hk => hfP k (hxg ▸ hk))
 have BX := Aside0.mk (show w0.heap.size ≤ xg from hxg ▸ hB.size)
 obtain ⟨W1, hW1⟩ : ∃ W, w.alloc (.cells #[.slice A C.length c, .slice A1 n1 c1, .int .i64 L] 25) = W := ⟨_, rfl⟩
 obtain ⟨W2, hW2⟩ : ∃ W, W1.alloc (.cells #[.slice none 0 0, .slice none 0 0, .int .i64 0] 25) = W := ⟨_, rfl⟩
 have hb1 : Below w.heap.size w W1 := by rw [← hW1]; exact below_alloc (Below.refl _ _) _
 have hb2 : Below W1.heap.size W1 W2 := by rw [← hW2]; exact below_alloc (Below.refl _ _) _
 have X1 : W1.heap[xg]? = some (.cells #[.slice A C.length c, .slice A1 n1 c1, .int .i64 L] 25 (0, 0)) := by rw [← hW1, ← hxg]; exact heap_alloc_new w _
 have Z2 := Aside0.mk (show W2.heap[W1.heap.size]? = some (.cells #[.slice none 0 0, .slice none 0 0, .int .i64 0] 25 (0, 0)) by rw [← hW2]; exact heap_alloc_new W1 _)
 have hb := below_step hb1 hb2
 have XZ := Aside0.mk (show xg < W1.heap.size from blk_lt X1)
 have X2 := Aside0.mk (blk_below X1 hb2)
 have S2 := Aside0.mk (show CS W2 w0.heap.size (fun k => P k ∧ k < xg) (.slice A C.length c) C from Kd.S_below (Kd.S_mono (Kd.S_bound hS) (fun k hk => ⟨hk.1, hxg ▸ hk.2.2.1⟩)) hb)
 have B2 := Aside0.mk (below_then hB hB.size hb)
 have K2 := Aside0.mk (Kept.of_below hb P)
 have HXG := Aside0.mk hxg
 clear hb1 hb2 hb X1 hB hfP
 have d0 : W2.cell? ⟨xg, 0, none⟩ = some (.slice A C.length c) := (blk_cell X2.out 0).trans rfl
 have d1 : W2.cell? ⟨xg, 1, none⟩ = some (.slice A1 n1 c1) := (blk_cell X2.out 1).trans rfl
 have d2 : W2.cell? ⟨xg, 2, none⟩ = some (.int .i64 L) := (blk_cell X2.out 2).trans rfl
 unfold ownM at h
 by_cases hn : C.length ≤ 1000000
 ·rw [if_pos hn] at h
  have HN := Aside0.mk hn
  by_cases hk0 : k < 0
  ·rw [if_pos hk0] at h
   have e_ := Option.some.inj h
   subst e_
   have t1 : (k ≥ 0) = False := eq_false (by omega)
   have t2 : (0 ≤ k) = False := eq_false (by omega)
   clear h hn hk0 hS
   by_cases hl1 : level = 1
   ·subst hl1
    obtain ⟨W3, W4, hW3, hW4, y0, y1, y2, z0, z1, z2, Y4, BL⟩ := local_cell W2 (.int .i64 1) (.string ⟨#[]⟩) (.slice none 0 0)
    have ZY := Aside0.mk (show W1.heap.size < W2.heap.size from blk_lt Z2.out)
    have X4 := Aside0.mk (blk_below X2.out BL.out)
    have Z4 := Aside0.mk (blk_below Z2.out BL.out)
    have S4 := Aside0.mk (Kd.S_below S2.out BL.out)
    have B4 := Aside0.mk (below_then B2.out B2.out.size BL.out)
    have K4 := Aside0.mk (K2.out.below BL.out)
    have dd0 : W4.cell? ⟨xg, 0, none⟩ = some (.slice A C.length c) := (blk_cell X4.out 0).trans rfl
    have dd1 : W4.cell? ⟨xg, 1, none⟩ = some (.slice A1 n1 c1) := (blk_cell X4.out 1).trans rfl
    have dd2 : W4.cell? ⟨xg, 2, none⟩ = some (.int .i64 L) := (blk_cell X4.out 2).trans rfl
    have yy0 : W4.cell? ⟨W2.heap.size, 0, none⟩ = some (.int .i64 1) := (blk_cell Y4.out 0).trans rfl
    have yy1 : W4.cell? ⟨W2.heap.size, 1, none⟩ = some (.string ⟨#[]⟩) := (blk_cell Y4.out 1).trans rfl
    have yy2 : W4.cell? ⟨W2.heap.size, 2, none⟩ = some (.slice none 0 0) := (blk_cell Y4.out 2).trans rfl
    have T := Aside0.mk (new_calls L n1 c1 c A1 A C (fun k => P k ∧ k ≠ xg ∧ k ≠ W1.heap.size) ⟨1, ⟨#[]⟩, []⟩ (.slice none 0 0) w0 W4 B4.out (Kd.S_mono S4.out (fun k hk => (have h_ := hk.2; have h1_ := XZ.out; ⟨⟨hk.1, by omega, by omega⟩, fun e_ => by cases e_⟩))) (Kd.R_nil _ _ _ _ _) (fun k hk => by cases hk) (fun k hk => (have h_ := blk_lt Y4.out; have h1_ := XZ.out; have h2_ := ZY.out; ⟨FP.out k (by omega), by omega, by omega⟩)) HN.out)
    have Z5_ := Z4
    have K5_ := K4
    go_enter Try.func88, Try.ntmps88
    go_wp2_with (go_at_call 92; refine T.out.mono ?_; (first | rintro e w9 v0 rfl hS9 hB9 hK9 | rintro e w9 ⟨v0, rfl, hS9, hB9, hK9⟩); (obtain ⟨A9, c9, rfl⟩ := Kd.S_slice hS9); (have Z9 := Aside0.mk (blk_kept Z5_.out hK9 (fun h_ => h_.2.2 rfl))); (have S9 := Aside0.mk hS9); (have B9 := Aside0.mk hB9); (have K9 := Aside0.mk (K5_.out.then_ hK9 (fun j hj => .inl hj.1))); (have r0 : w9.cell? ⟨W1.heap.size, 0, none⟩ = some (.slice none 0 0) := (blk_cell Z9.out 0).trans rfl); (have r1 : w9.cell? ⟨W1.heap.size, 1, none⟩ = some (.slice none 0 0) := (blk_cell Z9.out 1).trans rfl); (have r2 : w9.cell? ⟨W1.heap.size, 2, none⟩ = some (.int .i64 0) := (blk_cell Z9.out 2).trans rfl); (have s0 := blk_frozen Z9.out 0); (have s1 := blk_frozen Z9.out 1); (have s2 := blk_frozen Z9.out 2); clear hS9 hB9 hK9)
    refine bodyPost_ret (results_ct rfl _ _ W1.heap.size 25 #[.slice A9 _ c9, .slice A1 n1 c1, .int .i64 L] (0, 0) _ rfl (put3 Z9.out _ _ _) Try.underlying25 rfl (by kernel_rfl)) rfl ?_
    have hz : xg ≤ W1.heap.size := Nat.le_of_lt XZ.out
    exact ⟨_, rfl, Kd.S_mono (far3 S9.out Z9.out) (fun k hk => hk.1), below3 B9.out (Nat.le_trans BX.out hz), keep3 K9.out (.inr (HXG.out ▸ hz))⟩
   ·obtain ⟨W3, W4, hW3, hW4, y0, y1, y2, z0, z1, z2, Y4, BL⟩ := local_cell W2 (.int .i64 1) (.string ⟨#[]⟩) (.slice none 0 0)
    have ZY := Aside0.mk (show W1.heap.size < W2.heap.size from blk_lt Z2.out)
    have X4 := Aside0.mk (blk_below X2.out BL.out)
    have Z4 := Aside0.mk (blk_below Z2.out BL.out)
    have S4 := Aside0.mk (Kd.S_below S2.out BL.out)
    have B4 := Aside0.mk (below_then B2.out B2.out.size BL.out)
    have K4 := Aside0.mk (K2.out.below BL.out)
    have dd0 : W4.cell? ⟨xg, 0, none⟩ = some (.slice A C.length c) := (blk_cell X4.out 0).trans rfl
    have dd1 : W4.cell? ⟨xg, 1, none⟩ = some (.slice A1 n1 c1) := (blk_cell X4.out 1).trans rfl
    have dd2 : W4.cell? ⟨xg, 2, none⟩ = some (.int .i64 L) := (blk_cell X4.out 2).trans rfl
    obtain ⟨W5, hW5⟩ : ∃ W, W4.alloc (.cells #[.int .i64 (-1), .int .i64 (-1), .int .i64 (-1), .int .i64 (-1)] 3) = W := ⟨_, rfl⟩
    obtain ⟨W6, hW6⟩ : ∃ W, W5.setCell ⟨W2.heap.size, 2, none⟩ (.slice (some ⟨W4.heap.size, 0, none⟩) 4 4) = W := ⟨_, rfl⟩
    have hb5 : Below W4.heap.size W4 W5 := by rw [← hW5]; exact below_alloc (Below.refl _ _) _
    have Y5 := blk_below Y4.out hb5
    have ly2 : W5.cell? ⟨W2.heap.size, 2, none⟩ = some (.slice none 0 0) := (blk_cell Y5 2).trans rfl
    have lz2 := blk_frozen Y5 2
    have ZY2 := Aside0.mk (show W2.heap.size < W4.heap.size from blk_lt Y4.out)
    have KK6 : Kept W4 W6 (fun j => j = W2.heap.size) := by rw [← hW6]; exact (Kept.of_below hb5 (fun j => j = W2.heap.size)).setCell (p := ⟨W2.heap.size, 2, none⟩) (.inl rfl) _
    have X6 := Aside0.mk (blk_kept X4.out KK6 (by have := XZ.out; have := ZY.out; omega))
    have Z6 := Aside0.mk (blk_kept Z4.out KK6 (by have := ZY.out; omega))
    have Y6 := Aside0.mk (show W6.heap[W2.heap.size]? = some (.cells #[.int .i64 1, .string ⟨#[]⟩, .slice (some ⟨W4.heap.size, 0, none⟩) 4 4] 68 (0, 0)) by rw [← hW6]; exact blk_put (cs := #[.int .i64 1, .string ⟨#[]⟩, .slice none 0 0]) Y5 2 _ rfl)
    have S6 := Aside0.mk (Kd.S_kept S4.out KK6 (fun k hk => by have := hk.2; have := XZ.out; have := ZY.out; omega))
    have B6 := Aside0.mk (show Below w0.heap.size w0 W6 by rw [← hW6]; exact below_set (below_then B4.out B4.out.size hb5) (by have := BX.out; have := XZ.out; have := ZY.out; omega))
    have K6 := Aside0.mk (K4.out.then_ KK6 (fun j hj => .inr (by rw [hj]; have := HXG.out; have := XZ.out; have := ZY.out; omega)))
    have V6 := Aside0.mk (show IR W6 w0.heap.size (fun k => some k = (Value.slice (some ⟨W4.heap.size, 0, none⟩) 4 4).ownBlock) (.slice (some ⟨W4.heap.size, 0, none⟩) 4 4) [-1, -1, -1, -1] by
     have h_ : (W4.alloc (Obj.cells #[.int .i64 (-1), .int .i64 (-1), .int .i64 (-1), .int .i64 (-1)] 3)).ownsRow W4.heap.size 3 1 (Value.slice (some ⟨W4.heap.size, 0, none⟩) 4 4) 4 [.int .i64 (-1), .int .i64 (-1), .int .i64 (-1), .int .i64 (-1)] := by simpa using World.ownsRow_lit (base := W4.heap.size) (e := 3) (size := 1) W4 #[.int .i64 (-1), .int .i64 (-1), .int .i64 (-1), .int .i64 (-1)] 4 (Nat.le_refl _) (by decide) (by simp)
     have h2_ : IR W5 w0.heap.size (fun k => some k = (Value.slice (some ⟨W4.heap.size, 0, none⟩) 4 4).ownBlock) (.slice (some ⟨W4.heap.size, 0, none⟩) 4 4) [-1, -1, -1, -1] := by
      rw [← hW5]
      exact Kd.R_lower (Kd.R_of_own (xs := [(-1 : Int), -1, -1, -1]) (enc := Value.int .i64) h_ (fun _ hk => hk.symm)) B4.out.size
     rw [← hW6]
     exact Kd.R_far (p := ⟨W2.heap.size, 2, none⟩) h2_ (fun j hj => by have h3_ : j = W4.heap.size := Option.some.inj hj; have := ZY2.out; show j ≠ W2.heap.size; omega) _)
    have d60 : W6.cell? ⟨xg, 0, none⟩ = some (.slice A C.length c) := (blk_cell X6.out 0).trans rfl
    have d61 : W6.cell? ⟨xg, 1, none⟩ = some (.slice A1 n1 c1) := (blk_cell X6.out 1).trans rfl
    have d62 : W6.cell? ⟨xg, 2, none⟩ = some (.int .i64 L) := (blk_cell X6.out 2).trans rfl
    have yy0 : W6.cell? ⟨W2.heap.size, 0, none⟩ = some (.int .i64 1) := (blk_cell Y6.out 0).trans rfl
    have yy1 : W6.cell? ⟨W2.heap.size, 1, none⟩ = some (.string ⟨#[]⟩) := (blk_cell Y6.out 1).trans rfl
    have yy2 : W6.cell? ⟨W2.heap.size, 2, none⟩ = some (.slice (some ⟨W4.heap.size, 0, none⟩) 4 4) := (blk_cell Y6.out 2).trans rfl
    have hq : ((level : Int) > 1) = True := eq_true (by omega)
    have hq2 : (1 < (level : Int)) = True := eq_true (by omega)
    have hq3 : (1 < level) = True := eq_true (by omega)
    have T := Aside0.mk (new_calls L n1 c1 c A1 A C (fun k => P k ∧ k ≠ xg ∧ k ≠ W1.heap.size) ⟨1, ⟨#[]⟩, [-1, -1, -1, -1]⟩ (.slice (some ⟨W4.heap.size, 0, none⟩) 4 4) w0 W6 B6.out (Kd.S_mono S6.out (fun k hk => (have h_ := hk.2; have h1_ := XZ.out; have h2_ := ZY2.out; have h3_ := ZY.out; ⟨⟨hk.1, by omega, by omega⟩, fun e_ => by have h4_ : k = W4.heap.size := Option.some.inj e_; omega⟩))) V6.out (fun k hk => (have h4_ : k = W4.heap.size := Option.some.inj hk; have h1_ := XZ.out; have h2_ := ZY2.out; have h3_ := ZY.out; ⟨FP.out k (by omega), by omega, by omega⟩)) (fun k hk => (have h_ := KK6.1; have h1_ := XZ.out; have h2_ := ZY.out; have h3_ := ZY2.out; ⟨FP.out k (by omega), by omega, by omega⟩)) HN.out)
    have Z5_ := Z6
    have K5_ := K6
    rw [if_neg hl1]
    clear KK6 hb5 Y5
    go_enter Try.func88, Try.ntmps88
    go_wp2_with (go_at_call 92; refine T.out.mono ?_; (first | rintro e w9 v0 rfl hS9 hB9 hK9 | rintro e w9 ⟨v0, rfl, hS9, hB9, hK9⟩); (obtain ⟨A9, c9, rfl⟩ := Kd.S_slice hS9); (have Z9 := Aside0.mk (blk_kept Z5_.out hK9 (fun h_ => h_.2.2 rfl))); (have S9 := Aside0.mk hS9); (have B9 := Aside0.mk hB9); (have K9 := Aside0.mk (K5_.out.then_ hK9 (fun j hj => .inl hj.1))); (have r0 : w9.cell? ⟨W1.heap.size, 0, none⟩ = some (.slice none 0 0) := (blk_cell Z9.out 0).trans rfl); (have r1 : w9.cell? ⟨W1.heap.size, 1, none⟩ = some (.slice none 0 0) := (blk_cell Z9.out 1).trans rfl); (have r2 : w9.cell? ⟨W1.heap.size, 2, none⟩ = some (.int .i64 0) := (blk_cell Z9.out 2).trans rfl); (have s0 := blk_frozen Z9.out 0); (have s1 := blk_frozen Z9.out 1); (have s2 := blk_frozen Z9.out 2); clear hS9 hB9 hK9)
    refine bodyPost_ret (results_ct rfl _ _ W1.heap.size 25 #[.slice A9 _ c9, .slice A1 n1 c1, .int .i64 L] (0, 0) _ rfl (put3 Z9.out _ _ _) Try.underlying25 rfl (by kernel_rfl)) rfl ?_
    have hz : xg ≤ W1.heap.size := Nat.le_of_lt XZ.out
    exact ⟨_, rfl, Kd.S_mono (far3 S9.out Z9.out) (fun k hk => hk.1), below3 B9.out (Nat.le_trans BX.out hz), keep3 K9.out (.inr (HXG.out ▸ hz))⟩
  ·rw [if_neg hk0] at h
   by_cases hkC : k < (C.length : Int)
   ·rw [if_pos hkC] at h
    obtain ⟨g, cap, hv, _, hglt, _⟩ := Kd.S_form S2.out (by omega)
    injection hv with hA hn_ hc
    subst hA hc
    clear hn_
    obtain ⟨_, v, e0, e1, e2, hfr, _, hR, _⟩ := cs_elem S2.out k (by omega) hkC
    have t1 : (k ≥ 0) = True := eq_true (by omega)
    have t2 : (0 ≤ k) = True := eq_true (by omega)
    have t3 : (k < (C.length : Int)) = True := eq_true hkC
    obtain ⟨x, hx⟩ : ∃ x, rd_T68 C k = x := ⟨_, rfl⟩
    rw [hx] at e0 e1 h hR
    by_cases h1 : x.f0 = 1
    ·rw [if_pos h1] at h
     have e_ := Option.some.inj h
     subst e_
     have t4 : (x.f0 = 1) = True := eq_true h1
     have t5 : (x.f0 == 1) = true := by simpa using h1
     have HK := Aside0.mk (show 0 ≤ k by omega)
     have r0 : W2.cell? ⟨W1.heap.size, 0, none⟩ = some (.slice none 0 0) := (blk_cell Z2.out 0).trans rfl
     have r1 : W2.cell? ⟨W1.heap.size, 1, none⟩ = some (.slice none 0 0) := (blk_cell Z2.out 1).trans rfl
     have r2 : W2.cell? ⟨W1.heap.size, 2, none⟩ = some (.int .i64 0) := (blk_cell Z2.out 2).trans rfl
     have s0 := blk_frozen Z2.out 0
     have s1 := blk_frozen Z2.out 1
     have s2 := blk_frozen Z2.out 2
     clear h1 h hk0 hfr hn hkC hlv hx hS
     go_enter Try.func88, Try.ntmps88
     go_wp2
     refine bodyPost_ret (results_ct rfl _ _ W1.heap.size 25 #[.slice (some ⟨g, 0, none⟩) _ c, .slice A1 n1 c1, .int .i64 L] (0, 0) _ rfl (put3 Z2.out _ _ _) Try.underlying25 rfl (by kernel_rfl)) rfl ?_
     have hz : xg ≤ W1.heap.size := Nat.le_of_lt XZ.out
     have hk_ := HK.out
     exact ⟨_, by rw [Int.toNat_of_nonneg hk_]; rfl, Kd.S_mono (far3 S2.out Z2.out) (fun k hk => hk.1), below3 B2.out (Nat.le_trans BX.out hz), keep3 K2.out (.inr (HXG.out ▸ hz))⟩
    ·rw [if_neg h1] at h
     by_cases hkl : x.f2.length ≤ 1048576
     ·rw [if_pos hkl] at h
      obtain ⟨D, hD, h⟩ := Option.bind_eq_some_iff.1 h
      have e_ := Option.some.inj h
      subst e_
      obtain ⟨y, hy⟩ : ∃ y, wrap64 (x.f0 - 1) = y := ⟨_, rfl⟩
      rw [hy] at hD
      have t4 : (x.f0 = 1) = False := eq_false h1
      have t5 : (x.f0 == 1) = false := beq_eq_false_iff_ne.2 h1
      by_cases hl1 : level = 1
      ·subst hl1
       obtain ⟨W3, W4, hW3, hW4, y0, y1, y2, z0, z1, z2, Y4, BL⟩ := local_cell W2 (.int .i64 1) (.string ⟨#[]⟩) (.slice none 0 0)
       have ZY := Aside0.mk (show W1.heap.size < W2.heap.size from blk_lt Z2.out)
       have X4 := Aside0.mk (blk_below X2.out BL.out)
       have Z4 := Aside0.mk (blk_below Z2.out BL.out)
       have S4 := Aside0.mk (Kd.S_below S2.out BL.out)
       have B4 := Aside0.mk (below_then B2.out B2.out.size BL.out)
       have K4 := Aside0.mk (K2.out.below BL.out)
       have dd0 : W4.cell? ⟨xg, 0, none⟩ = some (.slice (some ⟨g, 0, none⟩) C.length c) := (blk_cell X4.out 0).trans rfl
       have dd1 : W4.cell? ⟨xg, 1, none⟩ = some (.slice A1 n1 c1) := (blk_cell X4.out 1).trans rfl
       have dd2 : W4.cell? ⟨xg, 2, none⟩ = some (.int .i64 L) := (blk_cell X4.out 2).trans rfl
       have yy0 : W4.cell? ⟨W2.heap.size, 0, none⟩ = some (.int .i64 1) := (blk_cell Y4.out 0).trans rfl
       have yy1 : W4.cell? ⟨W2.heap.size, 1, none⟩ = some (.string ⟨#[]⟩) := (blk_cell Y4.out 1).trans rfl
       have yy2 : W4.cell? ⟨W2.heap.size, 2, none⟩ = some (.slice none 0 0) := (blk_cell Y4.out 2).trans rfl
       have YL := Aside0.mk (show W2.heap.size < W4.heap.size from blk_lt Y4.out)
       obtain ⟨_, v_, f0, f1, f2, hfr4, _, hR4, _⟩ := cs_elem S4.out k (by omega) hkC
       rw [hx] at f0 f1 hR4
       obtain ⟨Ak, ck, rfl⟩ := Kd.R_slice hR4
       obtain ⟨W7, hW7⟩ : ∃ W, W4.setCell ⟨W2.heap.size, 1, none⟩ (.string x.f1) = W := ⟨_, rfl⟩
       have yf1 := blk_frozen Y4.out 1
       have KK7 : Kept W4 W7 (fun j => j = W2.heap.size) := by rw [← hW7]; exact (Kept.refl W4 (fun j => j = W2.heap.size)).setCell (p := ⟨W2.heap.size, 1, none⟩) (.inl rfl) _
       have X7 := Aside0.mk (blk_kept X4.out KK7 (by have := XZ.out; have := ZY.out; omega))
       have Z7 := Aside0.mk (blk_kept Z4.out KK7 (by have := ZY.out; omega))
       have Y7 := Aside0.mk (show W7.heap[W2.heap.size]? = some (.cells #[.int .i64 1, .string x.f1, .slice none 0 0] 68 (0, 0)) by rw [← hW7]; exact blk_put (cs := #[.int .i64 1, .string ⟨#[]⟩, .slice none 0 0]) Y4.out 1 _ rfl)
       have S7 := Aside0.mk (Kd.S_kept S4.out KK7 (fun k hk => by have := hk.2; have := XZ.out; have := ZY.out; omega))
       have B7 := Aside0.mk (show Below w0.heap.size w0 W7 by rw [← hW7]; exact below_set B4.out (by have := BX.out; have := XZ.out; have := ZY.out; omega))
       have K7 := Aside0.mk (K4.out.then_ KK7 (fun j hj => .inr (by rw [hj]; have := HXG.out; have := XZ.out; have := ZY.out; omega)))
       have YL7 := Aside0.mk (show W2.heap.size < W7.heap.size from blk_lt Y7.out)
       have d70 : W7.cell? ⟨xg, 0, none⟩ = some (.slice (some ⟨g, 0, none⟩) C.length c) := (blk_cell X7.out 0).trans rfl
       obtain ⟨_, v7_, h70, h71, h72, hfr7, _, hR7, _⟩ := cs_elem S7.out k (by omega) hkC
       rw [hx] at h70 h71 hR7
       obtain ⟨Ak7, ck7, rfl⟩ := Kd.R_slice hR7
       have C7 := Aside0.mk (Kd.R_reads' hR7).2.2
       have HKL := Aside0.mk hkl
       have hkl2 : x.f2.length ≤ 9223372036854775807 := by omega
       have HD := Aside0.mk hD
       have HX := Aside0.mk hx
       have KC := Aside0.mk (show 0 ≤ k ∧ k < (C.length : Int) by omega)
       have NL := Aside0.mk (show C.length = C.length from rfl)
       generalize hnn : C.length = n at *
       replace NL := Aside0.mk hnn
       clear h1 h hk0 hfr hn hkC hlv hx hS hD hkl hfr4 hR4 hR7 hfr7 KK7 hnn f2
       go_enter Try.func88, Try.ntmps88
       go_wp2_with (first
        | ((with_reducible refine gate_dst (N := 38) rfl ?_); refine Kd.R_lit (Kd.int .i64) W7.heap.size 3 ?hg (N := 38) ?hd (xs := ([] : List Int)) (inner := []) (ok := fun _ => True) (okp := fun _ => True) ?hr ?hp (fun _ hk => hk) trivial (Below.refl W7.heap.size W7) (Nat.le_refl _) (by simp) ?_; (case hd => rfl); (case hg => rfl); (case hr => first | (go_simp; done) | (go_simp; rfl)); (case hp => exact (Reps.none _ _)); intro v8 w8 ho8 hb8 hg_ hnew_; clear hg_ hnew_; have HO8 := Aside0.mk ho8; have HB8 := Aside0.mk hb8; (have d80 : w8.cell? ⟨xg, 0, none⟩ = some (.slice (some ⟨g, 0, none⟩) n c) := (blk_cell (blk_below X7.out hb8) 0).trans rfl); (have d82 := cell_kept h72 (Kept.of_below hb8 (fun _ => False)) id); clear ho8 hb8)
        | ((with_reducible refine gate_builtin (b := .append) (xs := #[.tmp 38, .tmp 44]) rfl ?_); at_builtin; refine Kd.R_append_rows (Kd.int .i64) (w0 := W7) W7.heap.size rfl (.tmp 38) (.tmp 44) 23 3 (.int .i64 0) 8 rfl Try.underlying23 info3 rfl (by decide) (by omega) v8 [] x.f2 _ _ _ (fun _ => True) (fun _ => False) rfl rfl HO8.out (Kd.C_below C7.out HB8.out) (fun _ _ h => h) (fun _ h => h.elim) (fun _ _ => trivial) HB8.out HB8.out.size (by have := HKL.out; simp; omega) ?_; intro v9 w9 hr hb hg_ hat_; clear hg_ hat_ HO8 HB8 d80 d82; (replace hr : IR w9 W7.heap.size (fun _ => True) v9 x.f2 := hr); (obtain ⟨Ac, cc, rfl⟩ := Kd.R_slice hr); (have VC := Aside0.mk (show ∀ j, some j = (Value.slice Ac x.f2.length cc).ownBlock → W7.heap.size ≤ j from fun j hj => Kd.R_base hr j hj.symm)); (obtain ⟨W10, hW10⟩ : ∃ W, w9.setCell ⟨W2.heap.size, 2, none⟩ (.slice Ac x.f2.length cc) = W := ⟨_, rfl⟩); (have Y9 := blk_below Y7.out hb); (have q2 : w9.cell? ⟨W2.heap.size, 2, none⟩ = some (.slice none 0 0) := (blk_cell Y9 2).trans rfl); (have qz2 := blk_frozen Y9 2); (have KK10 : Kept w9 W10 (fun j => j = W2.heap.size) := by rw [← hW10]; exact (Kept.refl w9 (fun j => j = W2.heap.size)).setCell (p := ⟨W2.heap.size, 2, none⟩) (.inl rfl) _); (have X10 := Aside0.mk (blk_kept (blk_below X7.out hb) KK10 (by have := XZ.out; have := ZY.out; omega))); (have Z10 := Aside0.mk (blk_kept (blk_below Z7.out hb) KK10 (by have := ZY.out; omega))); (have Y10 := Aside0.mk (show W10.heap[W2.heap.size]? = some (.cells #[.int .i64 1, .string x.f1, .slice Ac x.f2.length cc] 68 (0, 0)) by rw [← hW10]; exact blk_put (cs := #[.int .i64 1, .string x.f1, .slice none 0 0]) Y9 2 _ rfl)); (have S10 := Aside0.mk (Kd.S_kept (Kd.S_below S7.out hb) KK10 (fun k hk => by have := hk.2; have := XZ.out; have := ZY.out; omega))); (have V10 := Aside0.mk (Kd.R_kept (Kd.R_of_own (Kd.own_of_R (Kd.R_lower hr B7.out.size)) (fun j hj => hj.symm) : IR w9 w0.heap.size (fun j => some j = (Value.slice Ac x.f2.length cc).ownBlock) (.slice Ac x.f2.length cc) x.f2) KK10 (fun j hj => by have := VC.out j hj; have := YL7.out; omega))); (have B10 := Aside0.mk (show Below w0.heap.size w0 W10 by rw [← hW10]; exact below_set (below_then B7.out B7.out.size hb) (by have := BX.out; have := XZ.out; have := ZY.out; omega))); (have K10 := Aside0.mk ((K7.out.below hb).then_ KK10 (fun j hj => .inr (by rw [hj]; have := HXG.out; have := XZ.out; have := ZY.out; omega)))); (obtain ⟨_, va_, ha0, ha1, ha2, hfra, _, hRa, _⟩ := cs_elem S10.out k KC.out.1 (by have := KC.out.2; omega)); (rw [HX.out] at ha0); (have fra : W10.frozen? ⟨g, k.toNat * 3, none⟩ = false := hfra 0); (have da0 : W10.cell? ⟨xg, 0, none⟩ = some (.slice (some ⟨g, 0, none⟩) n c) := (blk_cell X10.out 0).trans rfl); (obtain ⟨W11, hW11⟩ : ∃ W, W10.setCell ⟨g, k.toNat * 3, none⟩ (.int .i64 y) = W := ⟨_, rfl⟩); (have hPg := (Kd.S_R S10.out).1 g rfl); (have KK11 : Kept W10 W11 (fun j => j = g) := by rw [← hW11]; exact (Kept.refl W10 (fun j => j = g)).setCell (p := ⟨g, k.toNat * 3, none⟩) (.inl rfl) _); (have X11 := Aside0.mk (blk_kept X10.out KK11 (by have := hPg.2; omega))); (have Z11 := Aside0.mk (blk_kept Z10.out KK11 (by have := hPg.2; have := XZ.out; omega))); (have Y11 := Aside0.mk (blk_kept Y10.out KK11 (by have := hPg.2; have := XZ.out; have := ZY.out; omega))); (have S11 := Aside0.mk (show CS W11 w0.heap.size (fun k => P k ∧ k < xg) (.slice (some ⟨g, 0, none⟩) n c) (C.set k.toNat ⟨y, x.f1, x.f2⟩) by rw [← hW11]; have h_ := cs_put0 S10.out k KC.out.1 (by have := KC.out.2; omega) y; rw [HX.out] at h_; exact h_)); (have V11 := Aside0.mk (Kd.R_kept V10.out KK11 (fun j hj => by have := VC.out j hj; have := YL7.out; have := hPg.2; have := XZ.out; have := ZY.out; omega))); (have B11 := Aside0.mk (show Below w0.heap.size w0 W11 by rw [← hW11]; exact below_set B10.out (Kd.S_base S10.out g rfl))); (have K11 := Aside0.mk (K10.out.then_ KK11 (fun j hj => .inl (by rw [hj]; exact hPg.1)))); (have yb2 : W11.cell? ⟨W2.heap.size, 2, none⟩ = some (.slice Ac x.f2.length cc) := (blk_cell Y11.out 2).trans rfl); clear hr hb Y9 KK10 KK11 hPg hfra hRa))
       clear d0 d1 d2 dd0 dd1 dd2 yy0 yy1 yy2 f0 f1 d70 h70 h71 h72 q2 qz2 ha0 ha1 ha2 fra da0 hW1 hW2 hW3 hW4 hW7 hW10 hW11 yb2 y0 y1 y2 z0 z1 z2 yf1
       go_loopw [10, 59] (fun v10 vi wr => ∃ (q : Nat) (E : List CL), q ≤ x.f2.length ∧ vi = .int .i64 q ∧ Aside0 (incL (x.f2.drop q) E = some D) ∧ Aside0 (CS wr w0.heap.size (fun k => P k ∧ k < xg) (.slice (some ⟨g, 0, none⟩) n c) E) ∧ Aside0 (wr.heap[xg]? = some (.cells #[.slice (some ⟨g, 0, none⟩) n c, .slice A1 n1 c1, .int .i64 L] 25 (0, 0))) ∧ Aside0 (wr.heap[W1.heap.size]? = some (.cells #[.slice none 0 0, .slice none 0 0, .int .i64 0] 25 (0, 0))) ∧ Aside0 (wr.heap[W2.heap.size]? = some (.cells #[.int .i64 1, .string x.f1, .slice Ac x.f2.length cc] 68 (0, 0))) ∧ Aside0 (IR wr w0.heap.size (fun j => some j = (Value.slice Ac x.f2.length cc).ownBlock) (.slice Ac x.f2.length cc) x.f2) ∧ Aside0 (Below w0.heap.size w0 wr) ∧ Aside0 (Kept w wr P)) (fun v10 vi _ => x.f2.length - (intOf vi).toNat)
       case atStart => exact ⟨0, _, Nat.zero_le _, rfl, ⟨by rw [List.drop_zero]; exact HD.out⟩, S11, X11, Z11, Y11, V11, B11, K11⟩
       case round =>
        clear HD S11 X11 Z11 Y11 V11 B11 K11
        obtain ⟨q, E, hq, rfl, HL, S3, X3, Z3, Y3, V3, B3, K3⟩ := hrel
        by_cases hql : q < x.f2.length
        ·have hqq : ((q : Int) < (x.f2.length : Int)) = True := eq_true (by omega)
         obtain ⟨ad2, e3, hy2⟩ := Kd.at_int (Kd.R_reads' V3.out).2.2 (q : Int) (by omega) (by omega)
         subst e3
         simp only [Int.toNat_natCast] at hy2
         obtain ⟨z, hz⟩ : ∃ z, rd x.f2 (q : Int) = z := ⟨_, rfl⟩
         rw [hz] at hy2
         have hd : x.f2.drop q = z :: x.f2.drop (q + 1) := by
          rw [List.drop_eq_getElem_cons hql, ← hz]
          congr 1
          unfold rd
          rw [List.getD_eq_getElem?_getD, Int.toNat_natCast, List.getElem?_eq_getElem hql]
          rfl
         have h2 := HL.out
         rw [hd] at h2
         simp only [incL] at h2
         clear hd hz HL
         by_cases hz0 : 0 ≤ z
         ·rw [if_pos hz0] at h2
          by_cases hzE : z < (E.length : Int)
          ·rw [if_pos hzE] at h2
           have hEn := cs_len S3.out
           obtain ⟨_, _, e0, _, _, hfr, _, _, _⟩ := cs_elem S3.out z hz0 (by omega)
           have fr0 : wr.frozen? ⟨g, z.toNat * 3, none⟩ = false := hfr 0
           obtain ⟨y, hy⟩ : ∃ y, wrap64 ((rd_T68 E z).f0 + 1) = y := ⟨_, rfl⟩
           rw [hy] at h2
           have s1 : (z ≥ 0) = True := eq_true hz0
           have s2 : (0 ≤ z) = True := eq_true hz0
           have s3 : (z < (n : Int)) = True := eq_true (by omega)
           have d0 : wr.cell? ⟨xg, 0, none⟩ = some (.slice (some ⟨g, 0, none⟩) n c) := (blk_cell X3.out 0).trans rfl
           obtain ⟨w6, hw6⟩ : ∃ W, wr.setCell ⟨g, z.toNat * 3, none⟩ (.int .i64 y) = W := ⟨_, rfl⟩
           have hPg := (Kd.S_R S3.out).1 g rfl
           have KK : Kept wr w6 (fun j => j = g) := by rw [← hw6]; exact (Kept.refl wr (fun j => j = g)).setCell (p := ⟨g, z.toNat * 3, none⟩) (.inl rfl) _
           have S4 := Aside0.mk (show CS w6 w0.heap.size (fun k => P k ∧ k < xg) (.slice (some ⟨g, 0, none⟩) n c) (E.set z.toNat ⟨y, (rd_T68 E z).f1, (rd_T68 E z).f2⟩) by rw [← hw6]; exact cs_put0 S3.out z hz0 (by omega) y)
           have X4 := Aside0.mk (blk_kept X3.out KK (by have := hPg.2; omega))
           have Z4 := Aside0.mk (blk_kept Z3.out KK (by have := hPg.2; have := XZ.out; omega))
           have Y4 := Aside0.mk (blk_kept Y3.out KK (by have := hPg.2; have := XZ.out; have := ZY.out; omega))
           have V4 := Aside0.mk (Kd.R_kept V3.out KK (fun j hj => by have := VC.out j hj; have := YL7.out; have := hPg.2; have := XZ.out; have := ZY.out; omega))
           have B4 := Aside0.mk (show Below w0.heap.size w0 w6 by rw [← hw6]; exact below_set B3.out (Kd.S_base S3.out g rfl))
           have K4 := Aside0.mk (K3.out.then_ KK (fun j hj => .inl (by rw [hj]; exact hPg.1)))
           have H2 := Aside0.mk h2
           clear h2 hfr hPg S3 X3 Z3 Y3 V3 B3 K3 hz0 hzE hEn hq KK
           go_wp2
           clear e0 fr0 d0 hw6 hy hy2 s1 s2 s3 hqq
           go_roundw
           case rel => exact ⟨q + 1, _, hql, by go_num, H2, S4, X4, Z4, Y4, V4, B4, K4⟩
           case measure => simp [intOf]; omega
          ·rw [if_neg hzE] at h2
           cases h2
         ·rw [if_neg hz0] at h2
          have s1 : (z ≥ 0) = False := eq_false hz0
          have s2 : (0 ≤ z) = False := eq_false hz0
          have H2 := Aside0.mk h2
          clear h2 hz0 hq
          go_wp2
          clear hy2 s1 s2 hqq
          go_roundw
          case rel => exact ⟨q + 1, E, hql, by go_num, H2, S3, X3, Z3, Y3, V3, B3, K3⟩
          case measure => simp [intOf]; omega
        ·have hqq : ((q : Int) < (x.f2.length : Int)) = False := eq_false (by omega)
         have h3 := HL.out
         rw [List.drop_of_length_le (by omega)] at h3
         simp only [incL, Option.some.injEq] at h3
         subst h3
         have hEn := cs_len S3.out
         clear hql hq HL
         subst hEn
         have hsz := K3.out.1
         have YL8 := Aside0.mk (show W2.heap.size < wr.heap.size from blk_lt Y3.out)
         have T := Aside0.mk (new_calls L n1 c1 c A1 (some ⟨g, 0, none⟩) E (fun k => P k ∧ k ≠ xg ∧ k ≠ W1.heap.size) ⟨1, x.f1, x.f2⟩ (.slice Ac x.f2.length cc) w0 wr B3.out (Kd.S_mono S3.out (fun j hj => (have h_ := hj.2; have h1_ := XZ.out; have h2_ := ZY.out; have h3_ := YL7.out; ⟨⟨hj.1, by omega, by omega⟩, fun e_ => by have := VC.out j e_; omega⟩))) V3.out (fun j hj => (have h_ := VC.out j hj; have h1_ := XZ.out; have h2_ := ZY.out; have h3_ := YL7.out; ⟨FP.out j (by omega), by omega, by omega⟩)) (fun j hj => (have h1_ := XZ.out; have h2_ := ZY.out; have h3_ := YL8.out; ⟨FP.out j (by omega), by omega, by omega⟩)) HN.out)
         have y0 : wr.cell? ⟨W2.heap.size, 0, none⟩ = some (.int .i64 1) := (blk_cell Y3.out 0).trans rfl
         have y1 : wr.cell? ⟨W2.heap.size, 1, none⟩ = some (.string x.f1) := (blk_cell Y3.out 1).trans rfl
         have y2 : wr.cell? ⟨W2.heap.size, 2, none⟩ = some (.slice Ac x.f2.length cc) := (blk_cell Y3.out 2).trans rfl
         have d0 : wr.cell? ⟨xg, 0, none⟩ = some (.slice (some ⟨g, 0, none⟩) E.length c) := (blk_cell X3.out 0).trans rfl
         have d1 : wr.cell? ⟨xg, 1, none⟩ = some (.slice A1 n1 c1) := (blk_cell X3.out 1).trans rfl
         have d2 : wr.cell? ⟨xg, 2, none⟩ = some (.int .i64 L) := (blk_cell X3.out 2).trans rfl
         have Z5_ := Z3
         have K5_ := K3
         clear S3 X3 Y3 V3 B3 hsz
         go_wp2_with (go_at_call 92; refine T.out.mono ?_; (first | rintro e w9 v0 rfl hS9 hB9 hK9 | rintro e w9 ⟨v0, rfl, hS9, hB9, hK9⟩); (obtain ⟨A9, c9, rfl⟩ := Kd.S_slice hS9); (have Z9 := Aside0.mk (blk_kept Z5_.out hK9 (fun h_ => h_.2.2 rfl))); (have S9 := Aside0.mk hS9); (have B9 := Aside0.mk hB9); (have K9 := Aside0.mk (K5_.out.then_ hK9 (fun j hj => .inl hj.1))); (have r0 : w9.cell? ⟨W1.heap.size, 0, none⟩ = some (.slice none 0 0) := (blk_cell Z9.out 0).trans rfl); (have r1 : w9.cell? ⟨W1.heap.size, 1, none⟩ = some (.slice none 0 0) := (blk_cell Z9.out 1).trans rfl); (have r2 : w9.cell? ⟨W1.heap.size, 2, none⟩ = some (.int .i64 0) := (blk_cell Z9.out 2).trans rfl); (have s0 := blk_frozen Z9.out 0); (have s1 := blk_frozen Z9.out 1); (have s2 := blk_frozen Z9.out 2); clear hS9 hB9 hK9)
         refine bodyPost_ret (results_ct rfl _ _ W1.heap.size 25 #[.slice A9 _ c9, .slice A1 n1 c1, .int .i64 L] (0, 0) _ rfl (put3 Z9.out _ _ _) Try.underlying25 rfl (by kernel_rfl)) rfl ?_
         have hz : xg ≤ W1.heap.size := Nat.le_of_lt XZ.out
         exact ⟨_, rfl, Kd.S_mono (far3 S9.out Z9.out) (fun k hk => hk.1), below3 B9.out (Nat.le_trans BX.out hz), keep3 K9.out (.inr (HXG.out ▸ hz))⟩
      ·obtain ⟨W3, W4, hW3, hW4, y0, y1, y2, z0, z1, z2, Y4, BL⟩ := local_cell W2 (.int .i64 1) (.string ⟨#[]⟩) (.slice none 0 0)
       have ZY := Aside0.mk (show W1.heap.size < W2.heap.size from blk_lt Z2.out)
       have X4 := Aside0.mk (blk_below X2.out BL.out)
       have Z4 := Aside0.mk (blk_below Z2.out BL.out)
       have S4 := Aside0.mk (Kd.S_below S2.out BL.out)
       have B4 := Aside0.mk (below_then B2.out B2.out.size BL.out)
       have K4 := Aside0.mk (K2.out.below BL.out)
       have dd0 : W4.cell? ⟨xg, 0, none⟩ = some (.slice (some ⟨g, 0, none⟩) C.length c) := (blk_cell X4.out 0).trans rfl
       have dd1 : W4.cell? ⟨xg, 1, none⟩ = some (.slice A1 n1 c1) := (blk_cell X4.out 1).trans rfl
       have dd2 : W4.cell? ⟨xg, 2, none⟩ = some (.int .i64 L) := (blk_cell X4.out 2).trans rfl
       obtain ⟨W5, hW5⟩ : ∃ W, W4.alloc (.cells #[.int .i64 (-1), .int .i64 (-1), .int .i64 (-1), .int .i64 (-1)] 3) = W := ⟨_, rfl⟩
       obtain ⟨W6, hW6⟩ : ∃ W, W5.setCell ⟨W2.heap.size, 2, none⟩ (.slice (some ⟨W4.heap.size, 0, none⟩) 4 4) = W := ⟨_, rfl⟩
       have hb5 : Below W4.heap.size W4 W5 := by rw [← hW5]; exact below_alloc (Below.refl _ _) _
       have Y5 := blk_below Y4.out hb5
       have ly2 : W5.cell? ⟨W2.heap.size, 2, none⟩ = some (.slice none 0 0) := (blk_cell Y5 2).trans rfl
       have lz2 := blk_frozen Y5 2
       have ZY2 := Aside0.mk (show W2.heap.size < W4.heap.size from blk_lt Y4.out)
       have KK6 : Kept W4 W6 (fun j => j = W2.heap.size) := by rw [← hW6]; exact (Kept.of_below hb5 (fun j => j = W2.heap.size)).setCell (p := ⟨W2.heap.size, 2, none⟩) (.inl rfl) _
       have X6 := Aside0.mk (blk_kept X4.out KK6 (by have := XZ.out; have := ZY.out; omega))
       have Z6 := Aside0.mk (blk_kept Z4.out KK6 (by have := ZY.out; omega))
       have Y6 := Aside0.mk (show W6.heap[W2.heap.size]? = some (.cells #[.int .i64 1, .string ⟨#[]⟩, .slice (some ⟨W4.heap.size, 0, none⟩) 4 4] 68 (0, 0)) by rw [← hW6]; exact blk_put (cs := #[.int .i64 1, .string ⟨#[]⟩, .slice none 0 0]) Y5 2 _ rfl)
       have S6 := Aside0.mk (Kd.S_kept S4.out KK6 (fun k hk => by have := hk.2; have := XZ.out; have := ZY.out; omega))
       have B6 := Aside0.mk (show Below w0.heap.size w0 W6 by rw [← hW6]; exact below_set (below_then B4.out B4.out.size hb5) (by have := BX.out; have := XZ.out; have := ZY.out; omega))
       have K6 := Aside0.mk (K4.out.then_ KK6 (fun j hj => .inr (by rw [hj]; have := HXG.out; have := XZ.out; have := ZY.out; omega)))
       have V6 := Aside0.mk (show IR W6 w0.heap.size (fun k => some k = (Value.slice (some ⟨W4.heap.size, 0, none⟩) 4 4).ownBlock) (.slice (some ⟨W4.heap.size, 0, none⟩) 4 4) [-1, -1, -1, -1] by
        have h_ : (W4.alloc (Obj.cells #[.int .i64 (-1), .int .i64 (-1), .int .i64 (-1), .int .i64 (-1)] 3)).ownsRow W4.heap.size 3 1 (Value.slice (some ⟨W4.heap.size, 0, none⟩) 4 4) 4 [.int .i64 (-1), .int .i64 (-1), .int .i64 (-1), .int .i64 (-1)] := by simpa using World.ownsRow_lit (base := W4.heap.size) (e := 3) (size := 1) W4 #[.int .i64 (-1), .int .i64 (-1), .int .i64 (-1), .int .i64 (-1)] 4 (Nat.le_refl _) (by decide) (by simp)
        have h2_ : IR W5 w0.heap.size (fun k => some k = (Value.slice (some ⟨W4.heap.size, 0, none⟩) 4 4).ownBlock) (.slice (some ⟨W4.heap.size, 0, none⟩) 4 4) [-1, -1, -1, -1] := by
         rw [← hW5]
         exact Kd.R_lower (Kd.R_of_own (xs := [(-1 : Int), -1, -1, -1]) (enc := Value.int .i64) h_ (fun _ hk => hk.symm)) B4.out.size
        rw [← hW6]
        exact Kd.R_far (p := ⟨W2.heap.size, 2, none⟩) h2_ (fun j hj => by have h3_ : j = W4.heap.size := Option.some.inj hj; have := ZY2.out; show j ≠ W2.heap.size; omega) _)
       have d60 : W6.cell? ⟨xg, 0, none⟩ = some (.slice (some ⟨g, 0, none⟩) C.length c) := (blk_cell X6.out 0).trans rfl
       have d61 : W6.cell? ⟨xg, 1, none⟩ = some (.slice A1 n1 c1) := (blk_cell X6.out 1).trans rfl
       have d62 : W6.cell? ⟨xg, 2, none⟩ = some (.int .i64 L) := (blk_cell X6.out 2).trans rfl
       have hq : ((level : Int) > 1) = True := eq_true (by omega)
       have hq2 : (1 < (level : Int)) = True := eq_true (by omega)
       have hq3 : (1 < level) = True := eq_true (by omega)
       clear KK6 hb5 Y5
       have yy0 : W6.cell? ⟨W2.heap.size, 0, none⟩ = some (.int .i64 1) := (blk_cell Y6.out 0).trans rfl
       have yy1 : W6.cell? ⟨W2.heap.size, 1, none⟩ = some (.string ⟨#[]⟩) := (blk_cell Y6.out 1).trans rfl
       have yy2 : W6.cell? ⟨W2.heap.size, 2, none⟩ = some (.slice (some ⟨W4.heap.size, 0, none⟩) 4 4) := (blk_cell Y6.out 2).trans rfl
       have YL := Aside0.mk (show W2.heap.size < W6.heap.size from blk_lt Y6.out)
       obtain ⟨_, v_, f0, f1, f2, hfr4, _, hR4, _⟩ := cs_elem S6.out k (by omega) hkC
       rw [hx] at f0 f1 hR4
       obtain ⟨Ak, ck, rfl⟩ := Kd.R_slice hR4
       obtain ⟨W7, hW7⟩ : ∃ W, W6.setCell ⟨W2.heap.size, 1, none⟩ (.string x.f1) = W := ⟨_, rfl⟩
       have yf1 := blk_frozen Y6.out 1
       have KK7 : Kept W6 W7 (fun j => j = W2.heap.size) := by rw [← hW7]; exact (Kept.refl W6 (fun j => j = W2.heap.size)).setCell (p := ⟨W2.heap.size, 1, none⟩) (.inl rfl) _
       have X7 := Aside0.mk (blk_kept X6.out KK7 (by have := XZ.out; have := ZY.out; omega))
       have Z7 := Aside0.mk (blk_kept Z6.out KK7 (by have := ZY.out; omega))
       have Y7 := Aside0.mk (show W7.heap[W2.heap.size]? = some (.cells #[.int .i64 1, .string x.f1, .slice (some ⟨W4.heap.size, 0, none⟩) 4 4] 68 (0, 0)) by rw [← hW7]; exact blk_put (cs := #[.int .i64 1, .string ⟨#[]⟩, .slice (some ⟨W4.heap.size, 0, none⟩) 4 4]) Y6.out 1 _ rfl)
       have S7 := Aside0.mk (Kd.S_kept S6.out KK7 (fun k hk => by have := hk.2; have := XZ.out; have := ZY.out; omega))
       have B7 := Aside0.mk (show Below w0.heap.size w0 W7 by rw [← hW7]; exact below_set B6.out (by have := BX.out; have := XZ.out; have := ZY.out; omega))
       have K7 := Aside0.mk (K6.out.then_ KK7 (fun j hj => .inr (by rw [hj]; have := HXG.out; have := XZ.out; have := ZY.out; omega)))
       have YL7 := Aside0.mk (show W2.heap.size < W7.heap.size from blk_lt Y7.out)
       have d70 : W7.cell? ⟨xg, 0, none⟩ = some (.slice (some ⟨g, 0, none⟩) C.length c) := (blk_cell X7.out 0).trans rfl
       obtain ⟨_, v7_, h70, h71, h72, hfr7, _, hR7, _⟩ := cs_elem S7.out k (by omega) hkC
       rw [hx] at h70 h71 hR7
       obtain ⟨Ak7, ck7, rfl⟩ := Kd.R_slice hR7
       have C7 := Aside0.mk (Kd.R_reads' hR7).2.2
       have HKL := Aside0.mk hkl
       have hkl2 : x.f2.length ≤ 9223372036854775807 := by omega
       have HD := Aside0.mk hD
       have HX := Aside0.mk hx
       have KC := Aside0.mk (show 0 ≤ k ∧ k < (C.length : Int) by omega)
       have NL := Aside0.mk (show C.length = C.length from rfl)
       generalize hnn : C.length = n at *
       replace NL := Aside0.mk hnn
       clear h1 h hk0 hfr hn hkC hlv hx hS hD hkl hfr4 hR4 hR7 hfr7 KK7 hnn f2
       go_enter Try.func88, Try.ntmps88
       go_wp2_with (first
        | ((with_reducible refine gate_dst (N := 38) rfl ?_); refine Kd.R_lit (Kd.int .i64) W7.heap.size 3 ?hg (N := 38) ?hd (xs := ([] : List Int)) (inner := []) (ok := fun _ => True) (okp := fun _ => True) ?hr ?hp (fun _ hk => hk) trivial (Below.refl W7.heap.size W7) (Nat.le_refl _) (by simp) ?_; (case hd => rfl); (case hg => rfl); (case hr => first | (go_simp; done) | (go_simp; rfl)); (case hp => exact (Reps.none _ _)); intro v8 w8 ho8 hb8 hg_ hnew_; clear hg_ hnew_; have HO8 := Aside0.mk ho8; have HB8 := Aside0.mk hb8; (have d80 : w8.cell? ⟨xg, 0, none⟩ = some (.slice (some ⟨g, 0, none⟩) n c) := (blk_cell (blk_below X7.out hb8) 0).trans rfl); (have d82 := cell_kept h72 (Kept.of_below hb8 (fun _ => False)) id); clear ho8 hb8)
        | ((with_reducible refine gate_builtin (b := .append) (xs := #[.tmp 38, .tmp 44]) rfl ?_); at_builtin; refine Kd.R_append_rows (Kd.int .i64) (w0 := W7) W7.heap.size rfl (.tmp 38) (.tmp 44) 23 3 (.int .i64 0) 8 rfl Try.underlying23 info3 rfl (by decide) (by omega) v8 [] x.f2 _ _ _ (fun _ => True) (fun _ => False) rfl rfl HO8.out (Kd.C_below C7.out HB8.out) (fun _ _ h => h) (fun _ h => h.elim) (fun _ _ => trivial) HB8.out HB8.out.size (by have := HKL.out; simp; omega) ?_; intro v9 w9 hr hb hg_ hat_; clear hg_ hat_ HO8 HB8 d80 d82; (replace hr : IR w9 W7.heap.size (fun _ => True) v9 x.f2 := hr); (obtain ⟨Ac, cc, rfl⟩ := Kd.R_slice hr); (have VC := Aside0.mk (show ∀ j, some j = (Value.slice Ac x.f2.length cc).ownBlock → W7.heap.size ≤ j from fun j hj => Kd.R_base hr j hj.symm)); (obtain ⟨W10, hW10⟩ : ∃ W, w9.setCell ⟨W2.heap.size, 2, none⟩ (.slice Ac x.f2.length cc) = W := ⟨_, rfl⟩); (have Y9 := blk_below Y7.out hb); (have q2 : w9.cell? ⟨W2.heap.size, 2, none⟩ = some (.slice (some ⟨W4.heap.size, 0, none⟩) 4 4) := (blk_cell Y9 2).trans rfl); (have qz2 := blk_frozen Y9 2); (have KK10 : Kept w9 W10 (fun j => j = W2.heap.size) := by rw [← hW10]; exact (Kept.refl w9 (fun j => j = W2.heap.size)).setCell (p := ⟨W2.heap.size, 2, none⟩) (.inl rfl) _); (have X10 := Aside0.mk (blk_kept (blk_below X7.out hb) KK10 (by have := XZ.out; have := ZY.out; omega))); (have Z10 := Aside0.mk (blk_kept (blk_below Z7.out hb) KK10 (by have := ZY.out; omega))); (have Y10 := Aside0.mk (show W10.heap[W2.heap.size]? = some (.cells #[.int .i64 1, .string x.f1, .slice Ac x.f2.length cc] 68 (0, 0)) by rw [← hW10]; exact blk_put (cs := #[.int .i64 1, .string x.f1, .slice (some ⟨W4.heap.size, 0, none⟩) 4 4]) Y9 2 _ rfl)); (have S10 := Aside0.mk (Kd.S_kept (Kd.S_below S7.out hb) KK10 (fun k hk => by have := hk.2; have := XZ.out; have := ZY.out; omega))); (have V10 := Aside0.mk (Kd.R_kept (Kd.R_of_own (Kd.own_of_R (Kd.R_lower hr B7.out.size)) (fun j hj => hj.symm) : IR w9 w0.heap.size (fun j => some j = (Value.slice Ac x.f2.length cc).ownBlock) (.slice Ac x.f2.length cc) x.f2) KK10 (fun j hj => by have := VC.out j hj; have := YL7.out; omega))); (have B10 := Aside0.mk (show Below w0.heap.size w0 W10 by rw [← hW10]; exact below_set (below_then B7.out B7.out.size hb) (by have := BX.out; have := XZ.out; have := ZY.out; omega))); (have K10 := Aside0.mk ((K7.out.below hb).then_ KK10 (fun j hj => .inr (by rw [hj]; have := HXG.out; have := XZ.out; have := ZY.out; omega)))); (obtain ⟨_, va_, ha0, ha1, ha2, hfra, _, hRa, _⟩ := cs_elem S10.out k KC.out.1 (by have := KC.out.2; omega)); (rw [HX.out] at ha0); (have fra : W10.frozen? ⟨g, k.toNat * 3, none⟩ = false := hfra 0); (have da0 : W10.cell? ⟨xg, 0, none⟩ = some (.slice (some ⟨g, 0, none⟩) n c) := (blk_cell X10.out 0).trans rfl); (obtain ⟨W11, hW11⟩ : ∃ W, W10.setCell ⟨g, k.toNat * 3, none⟩ (.int .i64 y) = W := ⟨_, rfl⟩); (have hPg := (Kd.S_R S10.out).1 g rfl); (have KK11 : Kept W10 W11 (fun j => j = g) := by rw [← hW11]; exact (Kept.refl W10 (fun j => j = g)).setCell (p := ⟨g, k.toNat * 3, none⟩) (.inl rfl) _); (have X11 := Aside0.mk (blk_kept X10.out KK11 (by have := hPg.2; omega))); (have Z11 := Aside0.mk (blk_kept Z10.out KK11 (by have := hPg.2; have := XZ.out; omega))); (have Y11 := Aside0.mk (blk_kept Y10.out KK11 (by have := hPg.2; have := XZ.out; have := ZY.out; omega))); (have S11 := Aside0.mk (show CS W11 w0.heap.size (fun k => P k ∧ k < xg) (.slice (some ⟨g, 0, none⟩) n c) (C.set k.toNat ⟨y, x.f1, x.f2⟩) by rw [← hW11]; have h_ := cs_put0 S10.out k KC.out.1 (by have := KC.out.2; omega) y; rw [HX.out] at h_; exact h_)); (have V11 := Aside0.mk (Kd.R_kept V10.out KK11 (fun j hj => by have := VC.out j hj; have := YL7.out; have := hPg.2; have := XZ.out; have := ZY.out; omega))); (have B11 := Aside0.mk (show Below w0.heap.size w0 W11 by rw [← hW11]; exact below_set B10.out (Kd.S_base S10.out g rfl))); (have K11 := Aside0.mk (K10.out.then_ KK11 (fun j hj => .inl (by rw [hj]; exact hPg.1)))); (have yb2 : W11.cell? ⟨W2.heap.size, 2, none⟩ = some (.slice Ac x.f2.length cc) := (blk_cell Y11.out 2).trans rfl); clear hr hb Y9 KK10 KK11 hPg hfra hRa))
       clear d0 d1 d2 dd0 dd1 dd2 yy0 yy1 yy2 f0 f1 d70 h70 h71 h72 q2 qz2 ha0 ha1 ha2 fra da0 hW1 hW2 hW3 hW4 hW7 hW10 hW11 yb2 y0 y1 y2 z0 z1 z2 yf1
       go_loopw [10, 59] (fun v10 vi wr => ∃ (q : Nat) (E : List CL), q ≤ x.f2.length ∧ vi = .int .i64 q ∧ Aside0 (incL (x.f2.drop q) E = some D) ∧ Aside0 (CS wr w0.heap.size (fun k => P k ∧ k < xg) (.slice (some ⟨g, 0, none⟩) n c) E) ∧ Aside0 (wr.heap[xg]? = some (.cells #[.slice (some ⟨g, 0, none⟩) n c, .slice A1 n1 c1, .int .i64 L] 25 (0, 0))) ∧ Aside0 (wr.heap[W1.heap.size]? = some (.cells #[.slice none 0 0, .slice none 0 0, .int .i64 0] 25 (0, 0))) ∧ Aside0 (wr.heap[W2.heap.size]? = some (.cells #[.int .i64 1, .string x.f1, .slice Ac x.f2.length cc] 68 (0, 0))) ∧ Aside0 (IR wr w0.heap.size (fun j => some j = (Value.slice Ac x.f2.length cc).ownBlock) (.slice Ac x.f2.length cc) x.f2) ∧ Aside0 (Below w0.heap.size w0 wr) ∧ Aside0 (Kept w wr P)) (fun v10 vi _ => x.f2.length - (intOf vi).toNat)
       case atStart => exact ⟨0, _, Nat.zero_le _, rfl, ⟨by rw [List.drop_zero]; exact HD.out⟩, S11, X11, Z11, Y11, V11, B11, K11⟩
       case round =>
        clear HD S11 X11 Z11 Y11 V11 B11 K11
        obtain ⟨q, E, hq, rfl, HL, S3, X3, Z3, Y3, V3, B3, K3⟩ := hrel
        by_cases hql : q < x.f2.length
        ·have hqq : ((q : Int) < (x.f2.length : Int)) = True := eq_true (by omega)
         obtain ⟨ad2, e3, hy2⟩ := Kd.at_int (Kd.R_reads' V3.out).2.2 (q : Int) (by omega) (by omega)
         subst e3
         simp only [Int.toNat_natCast] at hy2
         obtain ⟨z, hz⟩ : ∃ z, rd x.f2 (q : Int) = z := ⟨_, rfl⟩
         rw [hz] at hy2
         have hd : x.f2.drop q = z :: x.f2.drop (q + 1) := by
          rw [List.drop_eq_getElem_cons hql, ← hz]
          congr 1
          unfold rd
          rw [List.getD_eq_getElem?_getD, Int.toNat_natCast, List.getElem?_eq_getElem hql]
          rfl
         have h2 := HL.out
         rw [hd] at h2
         simp only [incL] at h2
         clear hd hz HL
         by_cases hz0 : 0 ≤ z
         ·rw [if_pos hz0] at h2
          by_cases hzE : z < (E.length : Int)
          ·rw [if_pos hzE] at h2
           have hEn := cs_len S3.out
           obtain ⟨_, _, e0, _, _, hfr, _, _, _⟩ := cs_elem S3.out z hz0 (by omega)
           have fr0 : wr.frozen? ⟨g, z.toNat * 3, none⟩ = false := hfr 0
           obtain ⟨y, hy⟩ : ∃ y, wrap64 ((rd_T68 E z).f0 + 1) = y := ⟨_, rfl⟩
           rw [hy] at h2
           have s1 : (z ≥ 0) = True := eq_true hz0
           have s2 : (0 ≤ z) = True := eq_true hz0
           have s3 : (z < (n : Int)) = True := eq_true (by omega)
           have d0 : wr.cell? ⟨xg, 0, none⟩ = some (.slice (some ⟨g, 0, none⟩) n c) := (blk_cell X3.out 0).trans rfl
           obtain ⟨w6, hw6⟩ : ∃ W, wr.setCell ⟨g, z.toNat * 3, none⟩ (.int .i64 y) = W := ⟨_, rfl⟩
           have hPg := (Kd.S_R S3.out).1 g rfl
           have KK : Kept wr w6 (fun j => j = g) := by rw [← hw6]; exact (Kept.refl wr (fun j => j = g)).setCell (p := ⟨g, z.toNat * 3, none⟩) (.inl rfl) _
           have S4 := Aside0.mk (show CS w6 w0.heap.size (fun k => P k ∧ k < xg) (.slice (some ⟨g, 0, none⟩) n c) (E.set z.toNat ⟨y, (rd_T68 E z).f1, (rd_T68 E z).f2⟩) by rw [← hw6]; exact cs_put0 S3.out z hz0 (by omega) y)
           have X4 := Aside0.mk (blk_kept X3.out KK (by have := hPg.2; omega))
           have Z4 := Aside0.mk (blk_kept Z3.out KK (by have := hPg.2; have := XZ.out; omega))
           have Y4 := Aside0.mk (blk_kept Y3.out KK (by have := hPg.2; have := XZ.out; have := ZY.out; omega))
           have V4 := Aside0.mk (Kd.R_kept V3.out KK (fun j hj => by have := VC.out j hj; have := YL7.out; have := hPg.2; have := XZ.out; have := ZY.out; omega))
           have B4 := Aside0.mk (show Below w0.heap.size w0 w6 by rw [← hw6]; exact below_set B3.out (Kd.S_base S3.out g rfl))
           have K4 := Aside0.mk (K3.out.then_ KK (fun j hj => .inl (by rw [hj]; exact hPg.1)))
           have H2 := Aside0.mk h2
           clear h2 hfr hPg S3 X3 Z3 Y3 V3 B3 K3 hz0 hzE hEn hq KK
           go_wp2
           clear e0 fr0 d0 hw6 hy hy2 s1 s2 s3 hqq
           go_roundw
           case rel => exact ⟨q + 1, _, hql, by go_num, H2, S4, X4, Z4, Y4, V4, B4, K4⟩
           case measure => simp [intOf]; omega
          ·rw [if_neg hzE] at h2
           cases h2
         ·rw [if_neg hz0] at h2
          have s1 : (z ≥ 0) = False := eq_false hz0
          have s2 : (0 ≤ z) = False := eq_false hz0
          have H2 := Aside0.mk h2
          clear h2 hz0 hq
          go_wp2
          clear hy2 s1 s2 hqq
          go_roundw
          case rel => exact ⟨q + 1, E, hql, by go_num, H2, S3, X3, Z3, Y3, V3, B3, K3⟩
          case measure => simp [intOf]; omega
        ·have hqq : ((q : Int) < (x.f2.length : Int)) = False := eq_false (by omega)
         have h3 := HL.out
         rw [List.drop_of_length_le (by omega)] at h3
         simp only [incL, Option.some.injEq] at h3
         subst h3
         have hEn := cs_len S3.out
         clear hql hq HL
         subst hEn
         have hsz := K3.out.1
         have YL8 := Aside0.mk (show W2.heap.size < wr.heap.size from blk_lt Y3.out)
         have T := Aside0.mk (new_calls L n1 c1 c A1 (some ⟨g, 0, none⟩) E (fun k => P k ∧ k ≠ xg ∧ k ≠ W1.heap.size) ⟨1, x.f1, x.f2⟩ (.slice Ac x.f2.length cc) w0 wr B3.out (Kd.S_mono S3.out (fun j hj => (have h_ := hj.2; have h1_ := XZ.out; have h2_ := ZY.out; have h3_ := YL7.out; ⟨⟨hj.1, by omega, by omega⟩, fun e_ => by have := VC.out j e_; omega⟩))) V3.out (fun j hj => (have h_ := VC.out j hj; have h1_ := XZ.out; have h2_ := ZY.out; have h3_ := YL7.out; ⟨FP.out j (by omega), by omega, by omega⟩)) (fun j hj => (have h1_ := XZ.out; have h2_ := ZY.out; have h3_ := YL8.out; ⟨FP.out j (by omega), by omega, by omega⟩)) HN.out)
         have y0 : wr.cell? ⟨W2.heap.size, 0, none⟩ = some (.int .i64 1) := (blk_cell Y3.out 0).trans rfl
         have y1 : wr.cell? ⟨W2.heap.size, 1, none⟩ = some (.string x.f1) := (blk_cell Y3.out 1).trans rfl
         have y2 : wr.cell? ⟨W2.heap.size, 2, none⟩ = some (.slice Ac x.f2.length cc) := (blk_cell Y3.out 2).trans rfl
         have d0 : wr.cell? ⟨xg, 0, none⟩ = some (.slice (some ⟨g, 0, none⟩) E.length c) := (blk_cell X3.out 0).trans rfl
         have d1 : wr.cell? ⟨xg, 1, none⟩ = some (.slice A1 n1 c1) := (blk_cell X3.out 1).trans rfl
         have d2 : wr.cell? ⟨xg, 2, none⟩ = some (.int .i64 L) := (blk_cell X3.out 2).trans rfl
         have Z5_ := Z3
         have K5_ := K3
         clear S3 X3 Y3 V3 B3 hsz
         go_wp2_with (go_at_call 92; refine T.out.mono ?_; (first | rintro e w9 v0 rfl hS9 hB9 hK9 | rintro e w9 ⟨v0, rfl, hS9, hB9, hK9⟩); (obtain ⟨A9, c9, rfl⟩ := Kd.S_slice hS9); (have Z9 := Aside0.mk (blk_kept Z5_.out hK9 (fun h_ => h_.2.2 rfl))); (have S9 := Aside0.mk hS9); (have B9 := Aside0.mk hB9); (have K9 := Aside0.mk (K5_.out.then_ hK9 (fun j hj => .inl hj.1))); (have r0 : w9.cell? ⟨W1.heap.size, 0, none⟩ = some (.slice none 0 0) := (blk_cell Z9.out 0).trans rfl); (have r1 : w9.cell? ⟨W1.heap.size, 1, none⟩ = some (.slice none 0 0) := (blk_cell Z9.out 1).trans rfl); (have r2 : w9.cell? ⟨W1.heap.size, 2, none⟩ = some (.int .i64 0) := (blk_cell Z9.out 2).trans rfl); (have s0 := blk_frozen Z9.out 0); (have s1 := blk_frozen Z9.out 1); (have s2 := blk_frozen Z9.out 2); clear hS9 hB9 hK9)
         refine bodyPost_ret (results_ct rfl _ _ W1.heap.size 25 #[.slice A9 _ c9, .slice A1 n1 c1, .int .i64 L] (0, 0) _ rfl (put3 Z9.out _ _ _) Try.underlying25 rfl (by kernel_rfl)) rfl ?_
         have hz : xg ≤ W1.heap.size := Nat.le_of_lt XZ.out
         exact ⟨_, rfl, Kd.S_mono (far3 S9.out Z9.out) (fun k hk => hk.1), below3 B9.out (Nat.le_trans BX.out hz), keep3 K9.out (.inr (HXG.out ▸ hz))⟩
     ·rw [if_neg hkl] at h
      cases h
   ·rw [if_neg hkC] at h
    cases h
 ·rw [if_neg hn] at h
  cases h
end Go.Proofs.Ytacfalpgmibfnaa.PCow
namespace Go.Proofs.Ytacfalpgmibfnaa.PCow
open Go.RowKit Go.Proofs.YtacfalpgmibfnaaW.PrintWords Go.Proofs.YtacfalpgmibfnaaW.PrintLast Go.Proofs.YtacfalpgmibfnaaW.PrintMore Go.Proofs.Ytacfalpgmibfnaa.E
section
variable {P : Program} {ops : Array Oper} {Q : Exit → Act → World → Prop} {md : Region.Mode} {S : World → Prop} {ds : List Nat}
theorem two_last {i j : Nat} {Ni Nj : Option Tmp} {oi oj : Oper} {fuel : Nat} {l : Array Bool} {a : Act} {w : World} (li lj : Array Bool) (hi : ops[i]? = some oi) (hj : ops[j]? = some oj) (hNi : oi.dst = Ni) (hNj : oj.dst = Nj)
  (hc : (Region.ready md ops l == [i, j] && l.setIfInBounds i true == li && l.setIfInBounds j true == lj) = true) (hdi : i ∈ ds) (hdj : j ∉ ds)
  (h1 : ∀ K : Act → World → Prop, Shut (∀ a' w', wpAnyLast P md ops Q S ds fuel li a' w' → K a' w') → if Region.wanted oi (yielded ops a.tmps) = true then Oper.wp P oi a w K Q else K (a.put Ni undef) w)
  (h2 : ∀ K : Act → World → Prop, Shut (∀ a' w', S w' → (S w' → wpAnyLast P md ops Q S ds fuel lj a' w') → K a' w') → if Region.wanted oj (yielded ops a.tmps) = true then Oper.wp P oj a w K Q else K (a.put Nj undef) w) :
  wpAnyLast P md ops Q S ds (fuel + 1) l a w := by
 subst hNi
 subst hNj
 simp only [Bool.and_eq_true, beq_iff_eq] at hc
 obtain ⟨⟨h3, h4⟩, h5⟩ := hc
 subst h4
 subst h5
 exact wpAnyLast_ready h3 (by simp) (AllReadyL.cons_last hi hdi (fun K hK => h1 K hK) (AllReadyL.cons hj hdj (fun K hK => h2 K hK) AllReadyL.nil))
theorem one_c {i : Nat} {N : Option Tmp} {oi : Oper} {fuel : Nat} {l : Array Bool} {a : Act} {w : World} (l' : Array Bool) (hi : ops[i]? = some oi) (hN : oi.dst = N) (hc : readyB md ops l l' i = true)
  (h : ∀ K : Act → World → Prop, Shut (∀ a' w', (S w → S w') → wpAnyLast P md ops Q S ds fuel l' a' w' → K a' w') → if Region.wanted oi (yielded ops a.tmps) = true then Oper.wp P oi a w K Q else K (a.put N undef) w) :
  wpAnyLast P md ops Q S ds (fuel + 1) l a w := by
 subst hN
 simp only [readyB, Bool.and_eq_true, beq_iff_eq] at hc
 obtain ⟨h1, h2⟩ := hc
 subst h2
 refine wpAnyLast_all h1 (by simp) (fun j hj => ?_)
 obtain rfl : j = i := by simpa using hj
 exact wpOp_step hi (fun K' hK => h K' (fun a' w' hs hW => hK a' w' ⟨fun _ => hs, hW⟩))
end
end Go.Proofs.Ytacfalpgmibfnaa.PCow
namespace Go.Proofs.Ytacfalpgmibfnaa.PCow
open Go.RowKit Go.Proofs.YtacfalpgmibfnaaW.PrintWords Go.Proofs.YtacfalpgmibfnaaW.PrintLast Go.Proofs.YtacfalpgmibfnaaW.PrintMore Go.Proofs.Ytacfalpgmibfnaa.E
set_option linter.unusedSimpArgs false
set_option linter.unusedVariables false
def DigS (K : Nat) (dg : Nat → Int) : Nat → Int → Prop
 | 0, _ => True
 | 1, _ => True
 | l + 2, a => ∃ s n, spec_l14Size.f K ((l + 2 : Nat) : Int) = some s ∧ wrap64 (Int.tdiv s 4) = n ∧ n ≠ 0 ∧ wrap64 (Int.tdiv a n) = dg (l + 2) ∧ DigS K dg (l + 1) (Int.tmod a n)
theorem some_hit {ks : List Int} {q : Nat} (h : q < ks.length) (h0 : 0 ≤ rd ks (q : Int)) : someKid ks = true := by
 unfold someKid
 refine List.any_eq_true.2 ⟨ks[q], List.getElem_mem h, ?_⟩
 have e : rd ks (q : Int) = ks[q] := by
  unfold rd
  rw [List.getD_eq_getElem?_getD, Int.toNat_natCast, List.getElem?_eq_getElem h]
  rfl
 rw [e] at h0
 exact decide_eq_true h0
theorem some_miss {ks : List Int} (h : ∀ n : Nat, n < ks.length → rd ks (n : Int) < 0) : someKid ks = false := by
 unfold someKid
 refine List.any_eq_false.2 fun x hx => ?_
 obtain ⟨n, hn, rfl⟩ := List.mem_iff_getElem.1 hx
 have h1 := h n hn
 have e : rd ks (n : Int) = ks[n] := by
  unfold rd
  rw [List.getD_eq_getElem?_getD, Int.toNat_natCast, List.getElem?_eq_getElem hn]
  rfl
 rw [e] at h1
 simpa using h1
set_option maxHeartbeats 16000000 in
set_option maxRecDepth 100000 in
theorem sput_calls (L : Int) (n1 c1 : Nat) (A1 : Option Addr) (leaf : ByteArray) (K : Nat) (dg : Nat → Int) : ∀ (l : Nat) (A : Option Addr) (c : Nat) (C : List CL) (k lv a_ : Int) (P : Nat → Prop) (r : List CL × Int) (w0 w : World) (hlv : lv = (l : Int)) (hl : l ≤ 1000) (hdg : DigS K dg l a_) (hB : Below w0.heap.size w0 w) (hS : CS w w0.heap.size P (.slice A C.length c) C) (hfP : ∀ k, w.heap.size ≤ k → P k) (h : putM dg leaf l C k = some r),
  Calls Try.prog 74 #[.agg #[.slice A C.length c, .slice A1 n1 c1, .int .i64 L], .int .i64 k, .int .i64 lv, .int .i64 a_, .string leaf] w fun e w' => ∃ v0, e = .returned (.tuple #[.agg #[v0, .slice A1 n1 c1, .int .i64 L], .int .i64 r.2]) ∧ CS w' w0.heap.size P v0 r.1 ∧ Below w0.heap.size w0 w' ∧ Kept w w' P := by
 intro l
 induction l with
 | zero =>
  intro A c C k lv a_ P r w0 w hlv hl hdg hB hS hfP h
  simp only [putM] at h
  cases h
 | succ l ih =>
  intro A c C k lv a_ P r w0 w hlv hl hdg hB hS hfP h
  have hu25 := Try.underlying25
  have hu68 := Try.underlying68
  have hu22 := Try.underlying22
  have hu23 := Try.underlying23
  have IH := Aside0.mk ih
  have DG := Aside0.mk hdg
  clear ih hdg
  simp only [putM] at h
  by_cases hlk : leaf.size = 0 ∧ k < 0
  ·rw [if_pos hlk] at h
   cases h
  rw [if_neg hlk] at h
  obtain ⟨⟨C1, k1⟩, ho, h⟩ := Option.bind_eq_some_iff.1 h
  simp only at h
  have hlt : k1 < C1.length := ownM_lt C k (l + 1) _ ho
  obtain ⟨xg, hxg⟩ : ∃ xg, w.heap.size = xg := ⟨_, rfl⟩
  have FP := Aside0.mk (show ∀ k, xg ≤ k → P k from fun k hk => hfP k (hxg ▸ hk))
  have BX := Aside0.mk (show w0.heap.size ≤ xg from hxg ▸ hB.size)
  obtain ⟨W1, hW1⟩ : ∃ W, w.alloc (.cells #[.slice A C.length c, .slice A1 n1 c1, .int .i64 L] 25) = W := ⟨_, rfl⟩
  obtain ⟨W2, hW2⟩ : ∃ W, W1.alloc (.cells #[.slice none 0 0, .slice none 0 0, .int .i64 0] 25) = W := ⟨_, rfl⟩
  have hb1 : Below w.heap.size w W1 := by rw [← hW1]; exact below_alloc (Below.refl _ _) _
  have hb2 : Below W1.heap.size W1 W2 := by rw [← hW2]; exact below_alloc (Below.refl _ _) _
  have X1 : W1.heap[xg]? = some (.cells #[.slice A C.length c, .slice A1 n1 c1, .int .i64 L] 25 (0, 0)) := by rw [← hW1, ← hxg]; exact heap_alloc_new w _
  have Z2 := Aside0.mk (show W2.heap[W1.heap.size]? = some (.cells #[.slice none 0 0, .slice none 0 0, .int .i64 0] 25 (0, 0)) by rw [← hW2]; exact heap_alloc_new W1 _)
  have hb := below_step hb1 hb2
  have XZ := Aside0.mk (show xg < W1.heap.size from blk_lt X1)
  have ZW := Aside0.mk (show W1.heap.size < W2.heap.size from blk_lt Z2.out)
  have X2 := Aside0.mk (blk_below X1 hb2)
  have S2 := Aside0.mk (show CS W2 w0.heap.size (fun k => P k ∧ k < xg) (.slice A C.length c) C from Kd.S_below (Kd.S_mono (Kd.S_bound hS) (fun k hk => ⟨hk.1, hxg ▸ hk.2.2.1⟩)) hb)
  have B2 := Aside0.mk (below_then hB hB.size hb)
  have K2 := Aside0.mk (Kept.of_below hb P)
  have HXG := Aside0.mk hxg
  clear hb1 hb2 hb X1 hB hfP hS
  have d0 : W2.cell? ⟨xg, 0, none⟩ = some (.slice A C.length c) := (blk_cell X2.out 0).trans rfl
  have d1 : W2.cell? ⟨xg, 1, none⟩ = some (.slice A1 n1 c1) := (blk_cell X2.out 1).trans rfl
  have d2 : W2.cell? ⟨xg, 2, none⟩ = some (.int .i64 L) := (blk_cell X2.out 2).trans rfl
  have xf0 := blk_frozen X2.out 0
  have T1 := ours_calls L n1 c1 c A1 A C (fun k => P k ∧ k ≠ xg ∧ k ≠ W1.heap.size) k (l + 1) _ w0 W2 B2.out (Kd.S_mono S2.out (fun k hk => (have h_ := hk.2; have h1_ := XZ.out; ⟨hk.1, by omega, by omega⟩))) (fun k hk => (have h1_ := XZ.out; have h2_ := ZW.out; ⟨FP.out k (by omega), by omega, by omega⟩)) ⟨hl, by omega⟩ ho
  rw [← hlv] at T1
  replace T1 := Aside0.mk T1
  have LT := Aside0.mk hlt
  have HL := Aside0.mk hl
  have HH := Aside0.mk h
  have NLK := Aside0.mk hlk
  clear ho hlt hl h xf0 hlk
  by_cases hl0 : l = 0
  ·subst hl0
   have h := HH.out
   rw [if_pos rfl] at h
   obtain rfl : lv = 1 := by omega
   clear hlv
   by_cases hle : leaf.size = 0
   ·rw [if_pos hle] at h
    have e_ := Option.some.inj h
    subst e_
    obtain rfl := empty_of_size hle
    have hk0 := NLK.out
    have t1 : (k < 0) = False := eq_false (fun e_ => hk0 ⟨rfl, e_⟩)
    clear h HH hle hk0
    go_enter Try.func74, Try.ntmps74
    go_wp2_with (go_at_call 88; refine T1.out.mono ?_; (first | rintro e w3 v0 rfl hS3 hB3 hK3 | rintro e w3 ⟨v0, rfl, hS3, hB3, hK3⟩); (obtain ⟨A2, c2, rfl⟩ := Kd.S_slice hS3); (replace hS3 : CS w3 w0.heap.size (fun k => P k ∧ k ≠ xg ∧ k ≠ W1.heap.size) (.slice A2 C1.length c2) C1 := hS3); (have X3 := Aside0.mk (blk_kept X2.out hK3 (fun h_ => h_.2.1 rfl))); (have Z3 := Aside0.mk (blk_kept Z2.out hK3 (fun h_ => h_.2.2 rfl))); (have K3 := Aside0.mk (K2.out.then_ hK3 (fun j hj => .inl hj.1))); (have q0 : w3.cell? ⟨xg, 0, none⟩ = some (.slice A C.length c) := (blk_cell X3.out 0).trans rfl); (have q1 : w3.cell? ⟨xg, 1, none⟩ = some (.slice A1 n1 c1) := (blk_cell X3.out 1).trans rfl); (have q2 : w3.cell? ⟨xg, 2, none⟩ = some (.int .i64 L) := (blk_cell X3.out 2).trans rfl); have u0 := blk_frozen X3.out 0; have u1 := blk_frozen X3.out 1; have u2 := blk_frozen X3.out 2; (obtain ⟨w4, hw4⟩ : ∃ W, ((w3.setCell ⟨xg, 0, none⟩ (.slice A2 C1.length c2)).setCell ⟨xg, 1, none⟩ (.slice A1 n1 c1)).setCell ⟨xg, 2, none⟩ (.int .i64 L) = W := ⟨_, rfl⟩); (have X4 := Aside0.mk (show w4.heap[xg]? = some (.cells #[.slice A2 C1.length c2, .slice A1 n1 c1, .int .i64 L] 25 (0, 0)) by rw [← hw4]; exact put3 X3.out _ _ _)); (have KK4 : Kept w3 w4 (fun j => j = xg) := by rw [← hw4]; exact keep3 (Kept.refl w3 (fun j => j = xg)) (.inl rfl)); (have Z4 := Aside0.mk (blk_kept Z3.out KK4 (by have := XZ.out; omega))); (have S4 := Aside0.mk (Kd.S_kept hS3 KK4 (fun k hk e_ => hk.2.1 e_))); (have B4 := Aside0.mk (show Below w0.heap.size w0 w4 by rw [← hw4]; exact below3 hB3 BX.out)); (have K4 := Aside0.mk (K3.out.then_ KK4 (fun j hj => .inr (by rw [hj]; exact Nat.le_of_eq HXG.out)))); (have x0 : w4.cell? ⟨xg, 0, none⟩ = some (.slice A2 C1.length c2) := (blk_cell X4.out 0).trans rfl); clear X3 Z3 K3 KK4 hS3 hB3 hK3 T1 d0 d1 d2; (obtain ⟨g, cap, hv, _, _, _⟩ := Kd.S_form S4.out (by have := LT.out; omega)); (injection hv with hA hn_ hc); (subst hA hc); (clear hn_); (obtain ⟨x, hx⟩ : ∃ x, rd_T68 C1 (k1 : Int) = x := ⟨_, rfl⟩); (obtain ⟨_, v_, e0, e1, e2, hfr, _, _, _⟩ := cs_elem S4.out (k1 : Int) (by omega) (by have := LT.out; omega)); (simp only [Int.toNat_natCast] at e0 e1 e2 hfr); (have fr0 : w4.frozen? ⟨g, k1 * 3, none⟩ = false := hfr 0); (have fr1 := hfr 1); (have fr2 := hfr 2); (have p1 : ((k1 : Int) < (C1.length : Int)) = True := eq_true (by have := LT.out; omega)); (obtain ⟨W5, hW5⟩ : ∃ W, ((w4.setCell ⟨g, k1 * 3, none⟩ (.int .i64 0)).setCell ⟨g, k1 * 3 + 1, none⟩ (.string ⟨#[]⟩)).setCell ⟨g, k1 * 3 + 2, none⟩ (.slice none 0 0) = W := ⟨_, rfl⟩); (have hPg := (Kd.S_R S4.out).1 g rfl); (have KK5 : Kept w4 W5 (fun j => j = g) := by rw [← hW5]; exact (((Kept.refl w4 (fun j => j = g)).setCell (p := ⟨g, k1 * 3, none⟩) (.inl rfl) _).setCell (p := ⟨g, k1 * 3 + 1, none⟩) (.inl rfl) _).setCell (p := ⟨g, k1 * 3 + 2, none⟩) (.inl rfl) _); (have X5 := Aside0.mk (blk_kept X4.out KK5 (fun e_ => hPg.2.1 e_.symm))); (have Z5 := Aside0.mk (blk_kept Z4.out KK5 (fun e_ => hPg.2.2 e_.symm))); (have S5 := cs_zero S4.out (k1 : Int) (by omega) (by have := LT.out; omega)); (simp only [Int.toNat_natCast] at S5); (rw [hW5] at S5); (have B5 := Aside0.mk (show Below w0.heap.size w0 W5 by have h_ := Kd.S_base S4.out g rfl; rw [← hW5]; exact below_set (below_set (below_set B4.out h_) h_) h_)); (have K5 := Aside0.mk (K4.out.then_ KK5 (fun j hj => .inl (by rw [hj]; exact hPg.1)))); (have S5 := Aside0.mk S5); (have xx0 : W5.cell? ⟨xg, 0, none⟩ = some (.slice (some ⟨g, 0, none⟩) C1.length c2) := (blk_cell X5.out 0).trans rfl); (have xx1 : W5.cell? ⟨xg, 1, none⟩ = some (.slice A1 n1 c1) := (blk_cell X5.out 1).trans rfl); (have xx2 : W5.cell? ⟨xg, 2, none⟩ = some (.int .i64 L) := (blk_cell X5.out 2).trans rfl); (have r0 : W5.cell? ⟨W1.heap.size, 0, none⟩ = some (.slice none 0 0) := (blk_cell Z5.out 0).trans rfl); (have r1 : W5.cell? ⟨W1.heap.size, 1, none⟩ = some (.slice none 0 0) := (blk_cell Z5.out 1).trans rfl); (have r2 : W5.cell? ⟨W1.heap.size, 2, none⟩ = some (.int .i64 0) := (blk_cell Z5.out 2).trans rfl); (have s0 := blk_frozen Z5.out 0); (have s1 := blk_frozen Z5.out 1); (have s2 := blk_frozen Z5.out 2); (clear hfr hPg KK5 X4 Z4 S4 B4 K4 X2 Z2 S2 B2 K2))
    refine bodyPost_ret (results_ct rfl _ _ W1.heap.size 25 #[.slice (some ⟨g, 0, none⟩) C1.length c2, .slice A1 n1 c1, .int .i64 L] (0, 0) _ rfl (put3 Z5.out _ _ _) Try.underlying25 rfl (by kernel_rfl)) rfl ?_
    have hz : xg ≤ W1.heap.size := Nat.le_of_lt XZ.out
    have hlen : C1.length = (C1.set k1 z68).length := List.length_set.symm
    refine ⟨_, rfl, ?_, below3 B5.out (Nat.le_trans BX.out hz), keep3 K5.out (.inr (HXG.out ▸ hz))⟩
    exact Kd.S_mono (far3 S5.out Z5.out) (fun k hk => hk.1)
   ·rw [if_neg hle] at h
    have m0 : leaf.toList ≠ [] := fun e_ => hle (ba_nil.1 e_)
    have m1 : (leaf.toList == []) = false := beq_eq_false_iff_ne.2 m0
    have m2 : (leaf.toList = []) = False := eq_false m0
    have e_ := Option.some.inj h
    subst e_
    clear h HH hle m0
    go_enter Try.func74, Try.ntmps74
    go_wp2_with (go_at_call 88; refine T1.out.mono ?_; (first | rintro e w3 v0 rfl hS3 hB3 hK3 | rintro e w3 ⟨v0, rfl, hS3, hB3, hK3⟩); (obtain ⟨A2, c2, rfl⟩ := Kd.S_slice hS3); (replace hS3 : CS w3 w0.heap.size (fun k => P k ∧ k ≠ xg ∧ k ≠ W1.heap.size) (.slice A2 C1.length c2) C1 := hS3); (have X3 := Aside0.mk (blk_kept X2.out hK3 (fun h_ => h_.2.1 rfl))); (have Z3 := Aside0.mk (blk_kept Z2.out hK3 (fun h_ => h_.2.2 rfl))); (have K3 := Aside0.mk (K2.out.then_ hK3 (fun j hj => .inl hj.1))); (have q0 : w3.cell? ⟨xg, 0, none⟩ = some (.slice A C.length c) := (blk_cell X3.out 0).trans rfl); (have q1 : w3.cell? ⟨xg, 1, none⟩ = some (.slice A1 n1 c1) := (blk_cell X3.out 1).trans rfl); (have q2 : w3.cell? ⟨xg, 2, none⟩ = some (.int .i64 L) := (blk_cell X3.out 2).trans rfl); have u0 := blk_frozen X3.out 0; have u1 := blk_frozen X3.out 1; have u2 := blk_frozen X3.out 2; (obtain ⟨w4, hw4⟩ : ∃ W, ((w3.setCell ⟨xg, 0, none⟩ (.slice A2 C1.length c2)).setCell ⟨xg, 1, none⟩ (.slice A1 n1 c1)).setCell ⟨xg, 2, none⟩ (.int .i64 L) = W := ⟨_, rfl⟩); (have X4 := Aside0.mk (show w4.heap[xg]? = some (.cells #[.slice A2 C1.length c2, .slice A1 n1 c1, .int .i64 L] 25 (0, 0)) by rw [← hw4]; exact put3 X3.out _ _ _)); (have KK4 : Kept w3 w4 (fun j => j = xg) := by rw [← hw4]; exact keep3 (Kept.refl w3 (fun j => j = xg)) (.inl rfl)); (have Z4 := Aside0.mk (blk_kept Z3.out KK4 (by have := XZ.out; omega))); (have S4 := Aside0.mk (Kd.S_kept hS3 KK4 (fun k hk e_ => hk.2.1 e_))); (have B4 := Aside0.mk (show Below w0.heap.size w0 w4 by rw [← hw4]; exact below3 hB3 BX.out)); (have K4 := Aside0.mk (K3.out.then_ KK4 (fun j hj => .inr (by rw [hj]; exact Nat.le_of_eq HXG.out)))); (have x0 : w4.cell? ⟨xg, 0, none⟩ = some (.slice A2 C1.length c2) := (blk_cell X4.out 0).trans rfl); clear X3 Z3 K3 KK4 hS3 hB3 hK3 T1 d0 d1 d2; (obtain ⟨g, cap, hv, _, _, _⟩ := Kd.S_form S4.out (by have := LT.out; omega)); (injection hv with hA hn_ hc); (subst hA hc); (clear hn_); (obtain ⟨x, hx⟩ : ∃ x, rd_T68 C1 (k1 : Int) = x := ⟨_, rfl⟩); (obtain ⟨_, v_, e0, e1, e2, hfr, _, _, _⟩ := cs_elem S4.out (k1 : Int) (by omega) (by have := LT.out; omega)); (simp only [Int.toNat_natCast] at e0 e1 e2 hfr); (have fr0 : w4.frozen? ⟨g, k1 * 3, none⟩ = false := hfr 0); (have fr1 := hfr 1); (have fr2 := hfr 2); (have p1 : ((k1 : Int) < (C1.length : Int)) = True := eq_true (by have := LT.out; omega)); (obtain ⟨W5, hW5⟩ : ∃ W, w4.setCell ⟨g, k1 * 3 + 1, none⟩ (.string leaf) = W := ⟨_, rfl⟩); (have hPg := (Kd.S_R S4.out).1 g rfl); (have KK5 : Kept w4 W5 (fun j => j = g) := by rw [← hW5]; exact (Kept.refl w4 (fun j => j = g)).setCell (p := ⟨g, k1 * 3 + 1, none⟩) (.inl rfl) _); (have X5 := Aside0.mk (blk_kept X4.out KK5 (fun e_ => hPg.2.1 e_.symm))); (have Z5 := Aside0.mk (blk_kept Z4.out KK5 (fun e_ => hPg.2.2 e_.symm))); (have S5 := cs_put1 S4.out (k1 : Int) (by omega) (by have := LT.out; omega) leaf); (simp only [Int.toNat_natCast] at S5); (rw [hW5, hx] at S5); (have B5 := Aside0.mk (show Below w0.heap.size w0 W5 by have h_ := Kd.S_base S4.out g rfl; rw [← hW5]; exact below_set B4.out h_)); (have K5 := Aside0.mk (K4.out.then_ KK5 (fun j hj => .inl (by rw [hj]; exact hPg.1)))); (have S5 := Aside0.mk S5); (have xx0 : W5.cell? ⟨xg, 0, none⟩ = some (.slice (some ⟨g, 0, none⟩) C1.length c2) := (blk_cell X5.out 0).trans rfl); (have xx1 : W5.cell? ⟨xg, 1, none⟩ = some (.slice A1 n1 c1) := (blk_cell X5.out 1).trans rfl); (have xx2 : W5.cell? ⟨xg, 2, none⟩ = some (.int .i64 L) := (blk_cell X5.out 2).trans rfl); (have r0 : W5.cell? ⟨W1.heap.size, 0, none⟩ = some (.slice none 0 0) := (blk_cell Z5.out 0).trans rfl); (have r1 : W5.cell? ⟨W1.heap.size, 1, none⟩ = some (.slice none 0 0) := (blk_cell Z5.out 1).trans rfl); (have r2 : W5.cell? ⟨W1.heap.size, 2, none⟩ = some (.int .i64 0) := (blk_cell Z5.out 2).trans rfl); (have s0 := blk_frozen Z5.out 0); (have s1 := blk_frozen Z5.out 1); (have s2 := blk_frozen Z5.out 2); (clear hfr hPg KK5 X4 Z4 S4 B4 K4 X2 Z2 S2 B2 K2))
    refine bodyPost_ret (results_ct rfl _ _ W1.heap.size 25 #[.slice (some ⟨g, 0, none⟩) C1.length c2, .slice A1 n1 c1, .int .i64 L] (0, 0) _ rfl (put3 Z5.out _ _ _) Try.underlying25 rfl (by kernel_rfl)) rfl ?_
    have hz : xg ≤ W1.heap.size := Nat.le_of_lt XZ.out
    rw [hx]
    refine ⟨_, rfl, ?_, below3 B5.out (Nat.le_trans BX.out hz), keep3 K5.out (.inr (HXG.out ▸ hz))⟩
    exact Kd.S_mono (far3 S5.out Z5.out) (fun k hk => hk.1)
  ·have h := HH.out
   rw [if_neg hl0] at h
   obtain ⟨l, rfl⟩ : ∃ m, l = m + 1 := ⟨l - 1, by omega⟩
   obtain ⟨sz, n, hsz, hszn, hn0, hdd, hdig⟩ := DG.out
   by_cases hd : 0 ≤ dg (l + 2) ∧ dg (l + 2) < 4 ∧ (rd_T68 C1 (k1 : Int)).f2.length = 4
   ·replace h := (if_pos hd).symm.trans h
    obtain ⟨⟨C2, zq⟩, hq, h⟩ := Option.bind_eq_some_iff.1 h
    simp only at h
    obtain ⟨d, hdn⟩ : ∃ d : Nat, dg (l + 2) = (d : Int) := ⟨(dg (l + 2)).toNat, by omega⟩
    rw [show l + 1 + 1 = l + 2 by omega, hdn] at hq h
    rw [hdn] at hdd hd
    simp only [Int.toNat_natCast] at h
    have D4 := Aside0.mk (show d < 4 by omega)
    have F4 := Aside0.mk hd.2.2
    have HQ := Aside0.mk hq
    replace HH := Aside0.mk h
    have HDIG := Aside0.mk hdig
    have LW := Aside0.mk (show wrap64 (lv - 1) = ((l + 1 : Nat) : Int) by rw [w64 (x := lv - 1) (by have := HL.out; omega) (by have := HL.out; omega)]; omega)
    have TS := Aside0.mk (fun W => spec_l14Size.calls K lv sz W (by rw [hlv]; exact hsz))
    have LV := Aside0.mk hlv
    have q1 : (lv = 1) = False := eq_false (by omega)
    have q2 : (lv == 1) = false := beq_eq_false_iff_ne.2 (by omega)
    have qn : (n = 0) = False := eq_false hn0
    have qn2 : (n == 0) = false := beq_eq_false_iff_ne.2 hn0
    have DD := Aside0.mk hdd
    clear h hq hd hdn hlv hl0 hsz hdig hn0 DG
    by_cases hle : leaf.size = 0
    ·obtain rfl := empty_of_size hle
     have hk0 := NLK.out
     have t1 : (k < 0) = False := eq_false (fun e_ => hk0 ⟨rfl, e_⟩)
     clear hk0 hle
     go_enter Try.func74, Try.ntmps74
     go_wp2_with (go_at_call 88; refine T1.out.mono ?_; (first | rintro e w3 v0 rfl hS3 hB3 hK3 | rintro e w3 ⟨v0, rfl, hS3, hB3, hK3⟩); (obtain ⟨A2, c2, rfl⟩ := Kd.S_slice hS3); (replace hS3 : CS w3 w0.heap.size (fun k => P k ∧ k ≠ xg ∧ k ≠ W1.heap.size) (.slice A2 C1.length c2) C1 := hS3); (have X3 := Aside0.mk (blk_kept X2.out hK3 (fun h_ => h_.2.1 rfl))); (have Z3 := Aside0.mk (blk_kept Z2.out hK3 (fun h_ => h_.2.2 rfl))); (have K3 := Aside0.mk (K2.out.then_ hK3 (fun j hj => .inl hj.1))); (have q0 : w3.cell? ⟨xg, 0, none⟩ = some (.slice A C.length c) := (blk_cell X3.out 0).trans rfl); (have q1 : w3.cell? ⟨xg, 1, none⟩ = some (.slice A1 n1 c1) := (blk_cell X3.out 1).trans rfl); (have q2 : w3.cell? ⟨xg, 2, none⟩ = some (.int .i64 L) := (blk_cell X3.out 2).trans rfl); have u0 := blk_frozen X3.out 0; have u1 := blk_frozen X3.out 1; have u2 := blk_frozen X3.out 2; (obtain ⟨w4, hw4⟩ : ∃ W, ((w3.setCell ⟨xg, 0, none⟩ (.slice A2 C1.length c2)).setCell ⟨xg, 1, none⟩ (.slice A1 n1 c1)).setCell ⟨xg, 2, none⟩ (.int .i64 L) = W := ⟨_, rfl⟩); (have X4 := Aside0.mk (show w4.heap[xg]? = some (.cells #[.slice A2 C1.length c2, .slice A1 n1 c1, .int .i64 L] 25 (0, 0)) by rw [← hw4]; exact put3 X3.out _ _ _)); (have KK4 : Kept w3 w4 (fun j => j = xg) := by rw [← hw4]; exact keep3 (Kept.refl w3 (fun j => j = xg)) (.inl rfl)); (have Z4 := Aside0.mk (blk_kept Z3.out KK4 (by have := XZ.out; omega))); (have S4 := Aside0.mk (Kd.S_kept hS3 KK4 (fun k hk e_ => hk.2.1 e_))); (have B4 := Aside0.mk (show Below w0.heap.size w0 w4 by rw [← hw4]; exact below3 hB3 BX.out)); (have K4 := Aside0.mk (K3.out.then_ KK4 (fun j hj => .inr (by rw [hj]; exact Nat.le_of_eq HXG.out)))); (have x0 : w4.cell? ⟨xg, 0, none⟩ = some (.slice A2 C1.length c2) := (blk_cell X4.out 0).trans rfl); clear X3 Z3 K3 KK4 hS3 hB3 hK3 T1 d0 d1 d2)
     go_wp2_with (go_at_call 85; refine (TS.out _).mono ?_)
     (first | rintro e w5 rfl hdr | rintro e w5 ⟨rfl, hdr⟩)
     have hb := hdr.below
     clear hdr TS q0 u0 u1 u2 hw4 x0
     replace X4 := Aside0.mk (blk_below X4.out hb)
     replace Z4 := Aside0.mk (blk_below Z4.out hb)
     replace S4 := Aside0.mk (Kd.S_below S4.out hb)
     replace B4 := Aside0.mk (below_then B4.out B4.out.size hb)
     replace K4 := Aside0.mk (K4.out.below hb)
     clear hb
     go_wp2
     obtain ⟨g, cap, hv, _, _, _⟩ := Kd.S_form S4.out (by have := LT.out; omega)
     injection hv with hA hn_ hc
     subst hA hc
     clear hn_
     have hlt := LT.out
     obtain ⟨x, hx⟩ : ∃ x, rd_T68 C1 (k1 : Int) = x := ⟨_, rfl⟩
     rw [hx] at F4 HQ
     obtain ⟨_, v, e0, e1, e2, hfr, _, hR, _⟩ := cs_elem S4.out (k1 : Int) (by omega) (by omega)
     simp only [Int.toNat_natCast] at e0 e1 e2 hfr
     rw [hx] at hR
     obtain ⟨A5, c5, rfl⟩ := Kd.R_slice hR
     rw [F4.out] at e2
     obtain ⟨ad, e3, hy⟩ := Kd.at_int (Kd.R_reads' hR).2.2 (d : Int) (by omega) (by have := F4.out; have := D4.out; omega)
     subst e3
     simp only [Int.toNat_natCast] at hy
     obtain ⟨z, hz⟩ : ∃ z, rd x.f2 (d : Int) = z := ⟨_, rfl⟩
     rw [hz] at hy HQ
     have p1 : ((k1 : Int) < (C1.length : Int)) = True := eq_true (by omega)
     have p2 : ((d : Int) < 4) = True := eq_true (by have := D4.out; omega)
     have hdd := DD.out
     have E2 := Aside0.mk e2
     have HY := Aside0.mk hy
     clear hR hfr e0 e1 e2 hy hx
     refine start_ (n := 25) (S := fun w' => w'.cell? ⟨xg, 0, none⟩ = some (.slice (some ⟨g, 0, none⟩) C1.length c2) ∧ w'.cell? ⟨xg, 1, none⟩ = some (.slice A1 n1 c1) ∧ w'.cell? ⟨xg, 2, none⟩ = some (.int .i64 L) ∧ w'.cell? ⟨g, k1 * 3 + 2, none⟩ = some (.slice (some ad) 4 c5) ∧ w'.cell? (ad.add d) = some (.int .i64 z)) (ds := [18, 23]) #[false, false, false, false, false, false, false, false, false, false, false, false, false, false, false, false, false, false, false, false, false, false, false, false, false] (by kernel_rfl) rfl rfl ⟨(blk_cell X4.out 0).trans rfl, (blk_cell X4.out 1).trans rfl, (blk_cell X4.out 2).trans rfl, E2.out, HY.out⟩ (fun hHeld => ?_)
     replace X4 := Aside0.mk (blk_drew X4.out)
     replace Z4 := Aside0.mk (blk_drew Z4.out)
     replace S4 := Aside0.mk (Kd.S_drew S4.out)
     replace B4 := Aside0.mk (below_drew1 B4.out)
     replace K4 := Aside0.mk K4.out.drew
     replace E2 := Aside0.mk (show w5.drew.cell? ⟨g, k1 * 3 + 2, none⟩ = some (.slice (some ad) 4 c5) from E2.out)
     replace HY := Aside0.mk (show w5.drew.cell? (ad.add d) = some (.int .i64 z) from HY.out)
     generalize w5.drew = w6 at X4 Z4 S4 B4 K4 E2 HY hHeld ⊢
     refine take_ (i := 0) (N := some 58) (v := ?_) (a' := ?_) #[true, false, false, false, false, false, false, false, false, false, false, false, false, false, false, false, false, false, false, false, false, false, false, false, false] rfl rfl (by kernel_rfl) (fun _ _ _ h => h) (Or.inl ⟨by rfl, ?_⟩) hHeld ?_ ?_
     rotate_left
     ·rintro w' ⟨s0, s1, s2, s3, s4⟩
      go_simp
      with_reducible rfl
     rotate_left
     ·simp only [Act.put, List.setIfInBounds_toArray, List.set_cons_zero, List.set_cons_succ, i64_w, i32_w]
      rfl
     refine take_ (i := 1) (N := some 59) (v := ?_) (a' := ?_) #[true, true, false, false, false, false, false, false, false, false, false, false, false, false, false, false, false, false, false, false, false, false, false, false, false] rfl rfl (by kernel_rfl) (fun _ _ _ h => h) (Or.inl ⟨by rfl, ?_⟩) hHeld ?_ ?_
     rotate_left
     ·rintro w' ⟨s0, s1, s2, s3, s4⟩
      go_simp
      with_reducible rfl
     rotate_left
     ·simp only [Act.put, List.setIfInBounds_toArray, List.set_cons_zero, List.set_cons_succ, i64_w, i32_w]
      rfl
     refine take_ (i := 2) (N := some 60) (v := ?_) (a' := ?_) #[true, true, true, false, false, false, false, false, false, false, false, false, false, false, false, false, false, false, false, false, false, false, false, false, false] rfl rfl (by kernel_rfl) (fun _ _ _ h => h) (Or.inl ⟨by rfl, ?_⟩) hHeld ?_ ?_
     rotate_left
     ·rintro w' ⟨s0, s1, s2, s3, s4⟩
      go_simp
      with_reducible rfl
     rotate_left
     ·simp only [Act.put, List.setIfInBounds_toArray, List.set_cons_zero, List.set_cons_succ, i64_w, i32_w]
      rfl
     refine take_ (i := 3) (N := some 61) (v := ?_) (a' := ?_) #[true, true, true, true, false, false, false, false, false, false, false, false, false, false, false, false, false, false, false, false, false, false, false, false, false] rfl rfl (by kernel_rfl) (fun _ _ _ h => h) (Or.inl ⟨by rfl, ?_⟩) hHeld ?_ ?_
     rotate_left
     ·rintro w' ⟨s0, s1, s2, s3, s4⟩
      go_simp
      with_reducible rfl
     rotate_left
     ·simp only [Act.put, List.setIfInBounds_toArray, List.set_cons_zero, List.set_cons_succ, i64_w, i32_w]
      rfl
     refine take_ (i := 4) (N := some 62) (v := ?_) (a' := ?_) #[true, true, true, true, true, false, false, false, false, false, false, false, false, false, false, false, false, false, false, false, false, false, false, false, false] rfl rfl (by kernel_rfl) (fun _ _ _ h => h) (Or.inl ⟨by rfl, ?_⟩) hHeld ?_ ?_
     rotate_left
     ·rintro w' ⟨s0, s1, s2, s3, s4⟩
      go_simp
      with_reducible rfl
     rotate_left
     ·simp only [Act.put, List.setIfInBounds_toArray, List.set_cons_zero, List.set_cons_succ, i64_w, i32_w]
      rfl
     refine take_ (i := 5) (N := some 63) (v := ?_) (a' := ?_) #[true, true, true, true, true, true, false, false, false, false, false, false, false, false, false, false, false, false, false, false, false, false, false, false, false] rfl rfl (by kernel_rfl) (fun _ _ _ h => h) (Or.inl ⟨by rfl, ?_⟩) hHeld ?_ ?_
     rotate_left
     ·rintro w' ⟨s0, s1, s2, s3, s4⟩
      go_simp
      with_reducible rfl
     rotate_left
     ·simp only [Act.put, List.setIfInBounds_toArray, List.set_cons_zero, List.set_cons_succ, i64_w, i32_w]
      rfl
     refine take_ (i := 6) (N := some 64) (v := ?_) (a' := ?_) #[true, true, true, true, true, true, true, false, false, false, false, false, false, false, false, false, false, false, false, false, false, false, false, false, false] rfl rfl (by kernel_rfl) (fun _ _ _ h => h) (Or.inl ⟨by rfl, ?_⟩) hHeld ?_ ?_
     rotate_left
     ·rintro w' ⟨s0, s1, s2, s3, s4⟩
      go_simp
      with_reducible rfl
     rotate_left
     ·simp only [Act.put, List.setIfInBounds_toArray, List.set_cons_zero, List.set_cons_succ, i64_w, i32_w]
      rfl
     refine take_ (i := 7) (N := some 65) (v := ?_) (a' := ?_) #[true, true, true, true, true, true, true, true, false, false, false, false, false, false, false, false, false, false, false, false, false, false, false, false, false] rfl rfl (by kernel_rfl) (fun _ _ _ h => h) (Or.inl ⟨by rfl, ?_⟩) hHeld ?_ ?_
     rotate_left
     ·rintro w' ⟨s0, s1, s2, s3, s4⟩
      go_simp
      with_reducible rfl
     rotate_left
     ·simp only [Act.put, List.setIfInBounds_toArray, List.set_cons_zero, List.set_cons_succ, i64_w, i32_w]
      rfl
     refine take_ (i := 8) (N := some 66) (v := ?_) (a' := ?_) #[true, true, true, true, true, true, true, true, true, false, false, false, false, false, false, false, false, false, false, false, false, false, false, false, false] rfl rfl (by kernel_rfl) (fun _ _ _ h => h) (Or.inl ⟨by rfl, ?_⟩) hHeld ?_ ?_
     rotate_left
     ·rintro w' ⟨s0, s1, s2, s3, s4⟩
      go_simp
      with_reducible rfl
     rotate_left
     ·simp only [Act.put, List.setIfInBounds_toArray, List.set_cons_zero, List.set_cons_succ, i64_w, i32_w]
      rfl
     refine take_ (i := 9) (N := some 67) (v := ?_) (a' := ?_) #[true, true, true, true, true, true, true, true, true, true, false, false, false, false, false, false, false, false, false, false, false, false, false, false, false] rfl rfl (by kernel_rfl) (fun _ _ _ h => h) (Or.inl ⟨by rfl, ?_⟩) hHeld ?_ ?_
     rotate_left
     ·rintro w' ⟨s0, s1, s2, s3, s4⟩
      go_simp
      with_reducible rfl
     rotate_left
     ·simp only [Act.put, List.setIfInBounds_toArray, List.set_cons_zero, List.set_cons_succ, i64_w, i32_w, hdd]
      rfl
     refine take_ (i := 10) (N := some 68) (v := ?_) (a' := ?_) #[true, true, true, true, true, true, true, true, true, true, true, false, false, false, false, false, false, false, false, false, false, false, false, false, false] rfl rfl (by kernel_rfl) (fun _ _ _ h => h) (Or.inl ⟨by rfl, ?_⟩) hHeld ?_ ?_
     rotate_left
     ·rintro w' ⟨s0, s1, s2, s3, s4⟩
      go_simp
      with_reducible rfl
     rotate_left
     ·simp only [Act.put, List.setIfInBounds_toArray, List.set_cons_zero, List.set_cons_succ, i64_w, i32_w]
      rfl
     refine take_ (i := 11) (N := some 69) (v := ?_) (a' := ?_) #[true, true, true, true, true, true, true, true, true, true, true, true, false, false, false, false, false, false, false, false, false, false, false, false, false] rfl rfl (by kernel_rfl) (fun _ _ _ h => h) (Or.inl ⟨by rfl, ?_⟩) hHeld ?_ ?_
     rotate_left
     ·rintro w' ⟨s0, s1, s2, s3, s4⟩
      go_simp
      with_reducible rfl
     rotate_left
     ·simp only [Act.put, List.setIfInBounds_toArray, List.set_cons_zero, List.set_cons_succ, i64_w, i32_w]
      rfl
     refine take_ (i := 12) (N := some 70) (v := ?_) (a' := ?_) #[true, true, true, true, true, true, true, true, true, true, true, true, true, false, false, false, false, false, false, false, false, false, false, false, false] rfl rfl (by kernel_rfl) (fun _ _ _ h => h) (Or.inl ⟨by rfl, ?_⟩) hHeld ?_ ?_
     rotate_left
     ·rintro w' ⟨s0, s1, s2, s3, s4⟩
      go_simp
      with_reducible rfl
     rotate_left
     ·simp only [Act.put, List.setIfInBounds_toArray, List.set_cons_zero, List.set_cons_succ, i64_w, i32_w]
      rfl
     refine take_ (i := 13) (N := some 71) (v := ?_) (a' := ?_) #[true, true, true, true, true, true, true, true, true, true, true, true, true, true, false, false, false, false, false, false, false, false, false, false, false] rfl rfl (by kernel_rfl) (fun _ _ _ h => h) (Or.inl ⟨by rfl, ?_⟩) hHeld ?_ ?_
     rotate_left
     ·rintro w' ⟨s0, s1, s2, s3, s4⟩
      go_simp
      with_reducible rfl
     rotate_left
     ·simp only [Act.put, List.setIfInBounds_toArray, List.set_cons_zero, List.set_cons_succ, i64_w, i32_w]
      rfl
     refine take_ (i := 14) (N := some 72) (v := ?_) (a' := ?_) #[true, true, true, true, true, true, true, true, true, true, true, true, true, true, true, false, false, false, false, false, false, false, false, false, false] rfl rfl (by kernel_rfl) (fun _ _ _ h => h) (Or.inl ⟨by rfl, ?_⟩) hHeld ?_ ?_
     rotate_left
     ·rintro w' ⟨s0, s1, s2, s3, s4⟩
      go_simp
      with_reducible rfl
     rotate_left
     ·simp only [Act.put, List.setIfInBounds_toArray, List.set_cons_zero, List.set_cons_succ, i64_w, i32_w]
      rfl
     refine take_ (i := 15) (N := some 73) (v := ?_) (a' := ?_) #[true, true, true, true, true, true, true, true, true, true, true, true, true, true, true, true, false, false, false, false, false, false, false, false, false] rfl rfl (by kernel_rfl) (fun _ _ _ h => h) (Or.inl ⟨by rfl, ?_⟩) hHeld ?_ ?_
     rotate_left
     ·rintro w' ⟨s0, s1, s2, s3, s4⟩
      go_simp
      with_reducible rfl
     rotate_left
     ·simp only [Act.put, List.setIfInBounds_toArray, List.set_cons_zero, List.set_cons_succ, i64_w, i32_w]
      rfl
     refine take_ (i := 16) (N := some 74) (v := ?_) (a' := ?_) #[true, true, true, true, true, true, true, true, true, true, true, true, true, true, true, true, true, false, false, false, false, false, false, false, false] rfl rfl (by kernel_rfl) (fun _ _ _ h => h) (Or.inl ⟨by rfl, ?_⟩) hHeld ?_ ?_
     rotate_left
     ·rintro w' ⟨s0, s1, s2, s3, s4⟩
      go_simp
      with_reducible rfl
     rotate_left
     ·simp only [Act.put, List.setIfInBounds_toArray, List.set_cons_zero, List.set_cons_succ, i64_w, i32_w]
      rfl
     refine take_ (i := 17) (N := some 75) (v := ?_) (a' := ?_) #[true, true, true, true, true, true, true, true, true, true, true, true, true, true, true, true, true, true, false, false, false, false, false, false, false] rfl rfl (by kernel_rfl) (fun _ _ _ h => h) (Or.inl ⟨by rfl, ?_⟩) hHeld ?_ ?_
     rotate_left
     ·rintro w' ⟨s0, s1, s2, s3, s4⟩
      go_simp
      with_reducible rfl
     rotate_left
     ·simp only [Act.put, List.setIfInBounds_toArray, List.set_cons_zero, List.set_cons_succ, i64_w, i32_w]
      rfl
     refine join_ (σ := Nat × Option Addr × Nat) 2 #[true, true, true, true, true, true, true, true, true, true, true, true, true, true, true, true, true, true, true, true, true, true, true, false, false] (fun s_ => [(76, .tuple #[.agg #[.slice s_.2.1 C2.length s_.2.2, .slice A1 n1 c1, .int .i64 L], .int .i64 zq]), (57, .tuple #[.agg #[.slice s_.2.1 C2.length s_.2.2, .slice A1 n1 c1, .int .i64 L], .int .i64 zq]), (77, .agg #[.slice s_.2.1 C2.length s_.2.2, .slice A1 n1 c1, .int .i64 L]), (78, .int .i64 zq), (13, .pointer (some ⟨s_.1, 0, none⟩))]) (fun s_ w' => w'.heap[s_.1]? = some (.cells #[.slice none 0 0, .slice none 0 0, .int .i64 0] 25 (0, 0)) ∧ w'.heap[W1.heap.size]? = some (.cells #[.slice none 0 0, .slice none 0 0, .int .i64 0] 25 (0, 0)) ∧ CS w' w0.heap.size (fun k => (P k ∧ k ≠ xg ∧ k ≠ W1.heap.size) ∧ k ≠ s_.1) (.slice s_.2.1 C2.length s_.2.2) C2 ∧ Below w0.heap.size w0 w' ∧ Kept w w' P ∧ W1.heap.size < s_.1) ?_ ?_
     rotate_left
     ·intro hCont
      have hsz := K4.out.1
      have hzl := blk_lt Z4.out
      refine two_last (i := 18) (j := 22) (Ni := some 76) (Nj := some 13) #[true, true, true, true, true, true, true, true, true, true, true, true, true, true, true, true, true, true, true, false, false, false, false, false, false] #[true, true, true, true, true, true, true, true, true, true, true, true, true, true, true, true, true, true, false, false, false, false, true, false, false] rfl rfl rfl rfl (by kernel_rfl) (by decide) (by decide) (fun K hK => ?_) (fun K hK => ?_)
      ·refine goes_ Try.func74 (by kernel_rfl) rfl #[.agg #[.slice (some ⟨g, 0, none⟩) C1.length c2, .slice A1 n1 c1, .int .i64 L], .int .i64 z, .int .i64 (wrap64 (lv - 1)), .int .i64 (Int.tmod a_ n), .string ⟨#[]⟩] (by rfl) rfl rfl (by (try simp only [List.map_toArray, List.map_cons, List.map_nil]); first | done | rfl) ?_
       refine (IH.out (some ⟨g, 0, none⟩) c2 C1 z (wrap64 (lv - 1)) (Int.tmod a_ n) (fun k => P k ∧ k ≠ xg ∧ k ≠ W1.heap.size) (C2, zq) w0 w6 LW.out (by have := HL.out; omega) HDIG.out B4.out S4.out (fun k hk => (have h1_ := XZ.out; have h2_ := HXG.out; ⟨FP.out k (by omega), by omega, by omega⟩)) HQ.out).mono ?_
       (first | rintro e w7 v7 rfl hS7 hB7 hK7 | rintro e w7 ⟨v7, rfl, hS7, hB7, hK7⟩)
       refine ⟨_, rfl, ?_⟩
       obtain ⟨A7, c7, rfl⟩ := Kd.S_slice hS7
       replace hS7 : CS w7 w0.heap.size (fun k => P k ∧ k ≠ xg ∧ k ≠ W1.heap.size) (.slice A7 C2.length c7) C2 := hS7
       have Z7 := blk_kept Z4.out hK7 (fun h_ => h_.2.2 rfl)
       have K7 := K4.out.then_ hK7 (fun j hj => .inl hj.1)
       have hzl7 := blk_lt Z7
       refine hK.out _ _ ?_
       clear hK K hK7
       refine norm_ (a' := ?_) ?_ ?_
       rotate_left
       ·show Act.put _ (some 76) _ = _
        simp only [Act.put, List.setIfInBounds_toArray, List.set_cons_zero, List.set_cons_succ, i64_w, i32_w]
        rfl
       refine pure_ (i := 19) (N := some 57) (v := ?_) (a' := ?_) #[true, true, true, true, true, true, true, true, true, true, true, true, true, true, true, true, true, true, true, true, false, false, false, false, false] rfl rfl (by kernel_rfl) (fun _ _ _ h => h) (Or.inl ⟨by rfl, ?_⟩) ?_ ?_
       rotate_left
       ·intro w'
        go_simp
        with_reducible rfl
       rotate_left
       ·simp only [Act.put, List.setIfInBounds_toArray, List.set_cons_zero, List.set_cons_succ, i64_w, i32_w]
        rfl
       refine pure_ (i := 20) (N := some 77) (v := ?_) (a' := ?_) #[true, true, true, true, true, true, true, true, true, true, true, true, true, true, true, true, true, true, true, true, true, false, false, false, false] rfl rfl (by kernel_rfl) (fun _ _ _ h => h) (Or.inl ⟨by rfl, ?_⟩) ?_ ?_
       rotate_left
       ·intro w'
        go_simp
        with_reducible rfl
       rotate_left
       ·simp only [Act.put, List.setIfInBounds_toArray, List.set_cons_zero, List.set_cons_succ, i64_w, i32_w]
        rfl
       refine pure_ (i := 21) (N := some 78) (v := ?_) (a' := ?_) #[true, true, true, true, true, true, true, true, true, true, true, true, true, true, true, true, true, true, true, true, true, true, false, false, false] rfl rfl (by kernel_rfl) (fun _ _ _ h => h) (Or.inl ⟨by rfl, ?_⟩) ?_ ?_
       rotate_left
       ·intro w'
        go_simp
        with_reducible rfl
       rotate_left
       ·simp only [Act.put, List.setIfInBounds_toArray, List.set_cons_zero, List.set_cons_succ, i64_w, i32_w]
        rfl
       refine one_c (i := 22) (N := some 13) #[true, true, true, true, true, true, true, true, true, true, true, true, true, true, true, true, true, true, true, true, true, true, true, false, false] rfl rfl (by kernel_rfl) (fun K hK => ?_)
       refine event_step (by rfl) (v := .pointer (some ⟨w7.heap.size, 0, none⟩)) (w1 := w7.alloc (.cells #[.slice none 0 0, .slice none 0 0, .int .i64 0] 25)) (by first | (go_simp; done) | (go_simp; rfl)) ?_
       have hba := below_alloc (Below.refl w7.heap.size w7) (.cells #[.slice none 0 0, .slice none 0 0, .int .i64 0] 25)
       refine hK.out _ _ (fun hs => ⟨cell_kept hs.1 (Kept.of_below hba (fun _ => False)) id, cell_kept hs.2.1 (Kept.of_below hba (fun _ => False)) id, cell_kept hs.2.2.1 (Kept.of_below hba (fun _ => False)) id, cell_kept hs.2.2.2.1 (Kept.of_below hba (fun _ => False)) id, cell_kept hs.2.2.2.2 (Kept.of_below hba (fun _ => False)) id⟩) ?_
       clear hK K
       exact hCont (w7.heap.size, A7, c7) _ ⟨heap_alloc_new w7 _, blk_below Z7 hba, Kd.S_below (Kd.S_mono (Kd.S_bound hS7) (fun k hk => ⟨hk.1, Nat.ne_of_lt hk.2.2.1⟩)) hba, below_then hB7 hB7.size hba, K7.below hba, hzl7⟩
      ·refine event_step (by rfl) (v := .pointer (some ⟨w6.heap.size, 0, none⟩)) (w1 := w6.alloc (.cells #[.slice none 0 0, .slice none 0 0, .int .i64 0] 25)) (by first | (go_simp; done) | (go_simp; rfl)) ?_
       have hba := below_alloc (Below.refl w6.heap.size w6) (.cells #[.slice none 0 0, .slice none 0 0, .int .i64 0] 25)
       have D7 := heap_alloc_new w6 (.cells #[.slice none 0 0, .slice none 0 0, .int .i64 0] 25)
       refine hK.out _ _ ⟨(blk_cell (blk_below X4.out hba) 0).trans rfl, (blk_cell (blk_below X4.out hba) 1).trans rfl, (blk_cell (blk_below X4.out hba) 2).trans rfl, cell_kept E2.out (Kept.of_below hba (fun _ => False)) id, cell_kept HY.out (Kept.of_below hba (fun _ => False)) id⟩ (fun hHeld => ?_)
       clear hK K
       refine norm_ (a' := ?_) ?_ ?_
       rotate_left
       ·show Act.put _ (some 13) _ = _
        simp only [Act.put, List.setIfInBounds_toArray, List.set_cons_zero, List.set_cons_succ, i64_w, i32_w]
        rfl
       refine last_ (i := 18) (N := some 76) #[true, true, true, true, true, true, true, true, true, true, true, true, true, true, true, true, true, true, true, false, false, false, true, false, false] rfl rfl (by kernel_rfl) (by decide) (fun K hK => ?_)
       refine goes_ Try.func74 (by kernel_rfl) rfl #[.agg #[.slice (some ⟨g, 0, none⟩) C1.length c2, .slice A1 n1 c1, .int .i64 L], .int .i64 z, .int .i64 (wrap64 (lv - 1)), .int .i64 (Int.tmod a_ n), .string ⟨#[]⟩] (by rfl) rfl rfl (by (try simp only [List.map_toArray, List.map_cons, List.map_nil]); first | done | rfl) ?_
       have hds := blk_lt D7
       have hS6 := Kd.S_mono (Kd.S_bound S4.out) (fun k hk => (⟨hk.1, Nat.ne_of_lt hk.2.2.1⟩ : (P k ∧ k ≠ xg ∧ k ≠ W1.heap.size) ∧ k ≠ w6.heap.size))
       refine (IH.out (some ⟨g, 0, none⟩) c2 C1 z (wrap64 (lv - 1)) (Int.tmod a_ n) (fun k => (P k ∧ k ≠ xg ∧ k ≠ W1.heap.size) ∧ k ≠ w6.heap.size) (C2, zq) w0 _ LW.out (by have := HL.out; omega) HDIG.out (below_then B4.out B4.out.size hba) (Kd.S_below hS6 hba) (fun k hk => (have h1_ := XZ.out; have h2_ := HXG.out; ⟨⟨FP.out k (by omega), by omega, by omega⟩, by omega⟩)) HQ.out).mono ?_
       (first | rintro e w7 v7 rfl hS7 hB7 hK7 | rintro e w7 ⟨v7, rfl, hS7, hB7, hK7⟩)
       refine ⟨_, rfl, ?_⟩
       obtain ⟨A7, c7, rfl⟩ := Kd.S_slice hS7
       replace hS7 : CS w7 w0.heap.size (fun k => (P k ∧ k ≠ xg ∧ k ≠ W1.heap.size) ∧ k ≠ w6.heap.size) (.slice A7 C2.length c7) C2 := hS7
       have Z7 := blk_kept (blk_below Z4.out hba) hK7 (fun h_ => h_.1.2.2 rfl)
       have K7 := (K4.out.below hba).then_ hK7 (fun j hj => .inl hj.1.1)
       refine hK.out _ _ ?_
       clear hK K
       refine norm_ (a' := ?_) ?_ ?_
       rotate_left
       ·show Act.put _ (some 76) _ = _
        simp only [Act.put, List.setIfInBounds_toArray, List.set_cons_zero, List.set_cons_succ, i64_w, i32_w]
        rfl
       refine pure_ (i := 19) (N := some 57) (v := ?_) (a' := ?_) #[true, true, true, true, true, true, true, true, true, true, true, true, true, true, true, true, true, true, true, true, false, false, true, false, false] rfl rfl (by kernel_rfl) (fun _ _ _ h => h) (Or.inl ⟨by rfl, ?_⟩) ?_ ?_
       rotate_left
       ·intro w'
        go_simp
        with_reducible rfl
       rotate_left
       ·simp only [Act.put, List.setIfInBounds_toArray, List.set_cons_zero, List.set_cons_succ, i64_w, i32_w]
        rfl
       refine pure_ (i := 20) (N := some 77) (v := ?_) (a' := ?_) #[true, true, true, true, true, true, true, true, true, true, true, true, true, true, true, true, true, true, true, true, true, false, true, false, false] rfl rfl (by kernel_rfl) (fun _ _ _ h => h) (Or.inl ⟨by rfl, ?_⟩) ?_ ?_
       rotate_left
       ·intro w'
        go_simp
        with_reducible rfl
       rotate_left
       ·simp only [Act.put, List.setIfInBounds_toArray, List.set_cons_zero, List.set_cons_succ, i64_w, i32_w]
        rfl
       refine pure_ (i := 21) (N := some 78) (v := ?_) (a' := ?_) #[true, true, true, true, true, true, true, true, true, true, true, true, true, true, true, true, true, true, true, true, true, true, true, false, false] rfl rfl (by kernel_rfl) (fun _ _ _ h => h) (Or.inl ⟨by rfl, ?_⟩) ?_ ?_
       rotate_left
       ·intro w'
        go_simp
        with_reducible rfl
       rotate_left
       ·simp only [Act.put, List.setIfInBounds_toArray, List.set_cons_zero, List.set_cons_succ, i64_w, i32_w]
        rfl
       exact hCont (w6.heap.size, A7, c7) _ ⟨blk_kept D7 hK7 (fun h_ => h_.2 rfl), Z7, hS7, hB7, K7, hzl⟩
     rintro ⟨db, A7, c7⟩ w8 ⟨hD8, hZ8, hS8, hB8, hK8, hDZ⟩
     dsimp only at hD8 hS8 hDZ
     dsimp only [putAll]
     clear hHeld X4 Z4 S4 B4 K4 E2 HY
     refine norm_ (a' := ?_) ?_ ?_
     rotate_left
     ·simp only [Act.put, List.setIfInBounds_toArray, List.set_cons_zero, List.set_cons_succ, i64_w, i32_w]
      rfl
     have DZ := Aside0.mk hDZ
     have r0 : w8.cell? ⟨db, 0, none⟩ = some (.slice none 0 0) := (blk_cell hD8 0).trans rfl
     have r1 : w8.cell? ⟨db, 1, none⟩ = some (.slice none 0 0) := (blk_cell hD8 1).trans rfl
     have r2 : w8.cell? ⟨db, 2, none⟩ = some (.int .i64 0) := (blk_cell hD8 2).trans rfl
     have s0 := blk_frozen hD8 0
     have s1 := blk_frozen hD8 1
     have s2 := blk_frozen hD8 2
     refine last_ (i := 23) (N := none) #[true, true, true, true, true, true, true, true, true, true, true, true, true, true, true, true, true, true, true, true, true, true, true, true, false] rfl rfl (by kernel_rfl) (by decide) (fun K hK => ?_)
     refine skip_ (w1 := ((w8.setCell ⟨db, 0, none⟩ (.slice A7 C2.length c7)).setCell ⟨db, 1, none⟩ (.slice A1 n1 c1)).setCell ⟨db, 2, none⟩ (.int .i64 L)) (by rfl) rfl ?_ ?_
     ·first | (go_simp; done) | (go_simp; rfl)
     refine hK.out _ _ ?_
     clear hK K r0 r1 r2 s0 s1 s2
     have KK9 := keep3 (a := .slice A7 C2.length c7) (b := .slice A1 n1 c1) (c := .int .i64 L) (Kept.refl w8 (fun j => j = db)) (.inl rfl)
     have D9 := Aside0.mk (put3 hD8 (.slice A7 C2.length c7) (.slice A1 n1 c1) (.int .i64 L))
     have Z9 := Aside0.mk (blk_kept hZ8 KK9 (Nat.ne_of_lt hDZ))
     have S9 := Aside0.mk (Kd.S_kept hS8 KK9 (fun k hk => hk.2))
     have hdb : xg ≤ db := by have := XZ.out; omega
     have B9 := Aside0.mk (below3 (a := .slice A7 C2.length c7) (b := .slice A1 n1 c1) (c := .int .i64 L) hB8 (Nat.le_trans BX.out hdb))
     have K9 := Aside0.mk (hK8.then_ KK9 (fun j hj => .inr (by rw [hj]; exact HXG.out ▸ hdb)))
     have DB := Aside0.mk hdb
     clear KK9 hD8 hZ8 hS8 hB8 hK8 hDZ hdb
     generalize ((w8.setCell ⟨db, 0, none⟩ (.slice A7 C2.length c7)).setCell ⟨db, 1, none⟩ (.slice A1 n1 c1)).setCell ⟨db, 2, none⟩ (.int .i64 L) = w9 at D9 Z9 S9 B9 K9 ⊢
     refine pure_ (i := 24) (N := some 14) (v := ?_) (a' := ?_) #[true, true, true, true, true, true, true, true, true, true, true, true, true, true, true, true, true, true, true, true, true, true, true, true, true] rfl rfl (by kernel_rfl) (fun _ _ _ h => h) (Or.inl ⟨by rfl, ?_⟩) ?_ ?_
     rotate_left
     ·intro w'
      go_simp
      with_reducible rfl
     rotate_left
     ·simp only [Act.put, List.setIfInBounds_toArray, List.set_cons_zero, List.set_cons_succ, i64_w, i32_w]
      rfl
     refine done_ (by kernel_rfl) ?_
     have h := HH.out
     split at h
     ·rename_i hcd
      obtain ⟨hk2, hl4, hf1⟩ := hcd
      obtain ⟨g7, cap, hv, _, _, _⟩ := Kd.S_form S9.out (by omega)
      injection hv with hA hn_ hc
      subst hA hc
      clear hn_ HH
      have HH := Aside0.mk h
      have K2L := Aside0.mk hk2
      clear h
      obtain ⟨x7, hx7⟩ : ∃ x, rd_T68 C2 (k1 : Int) = x := ⟨_, rfl⟩
      rw [hx7] at hl4 hf1 HH
      obtain ⟨v7, e2, hR7, hv7, hback⟩ := cs_inner S9.out (k1 : Int) (by omega) (by omega)
      rw [hx7] at hR7 hback
      obtain ⟨gk, ck, rfl, _, _, _⟩ := Kd.R_form hR7 (by omega)
      rw [hl4] at hR7 e2 hback hv7
      simp only [Int.toNat_natCast] at e2 hback
      obtain ⟨hPk, hngk⟩ := hv7 gk rfl
      have R7 := Aside0.mk hR7
      have BK := Aside0.mk hback
      have E2 := Aside0.mk e2
      have PK := Aside0.mk hPk
      have L4 := Aside0.mk hl4
      have F1 := Aside0.mk hf1
      have p3 : ((k1 : Int) < (C2.length : Int)) = True := eq_true (by omega)
      clear hR7 hback e2 hPk hv7 hl4 hf1 hk2 hngk hx7
      try go_wp2
      refine start_ (n := 12) (S := fun w' => w'.cell? ⟨db, 0, none⟩ = some (.slice (some ⟨g7, 0, none⟩) C2.length c7) ∧ w'.cell? ⟨g7, k1 * 3 + 2, none⟩ = some (.slice (some ⟨gk, 0, none⟩) 4 ck)) (ds := [11]) #[false, false, false, false, false, false, false, false, false, false, false, false] (by kernel_rfl) rfl rfl ⟨(blk_cell D9.out 0).trans rfl, E2.out⟩ (fun hHeld => ?_)
      replace D9 := Aside0.mk (blk_drew D9.out)
      replace Z9 := Aside0.mk (blk_drew Z9.out)
      replace S9 := Aside0.mk (Kd.S_drew S9.out)
      replace R7 := Aside0.mk (Kd.R_drew R7.out)
      replace B9 := Aside0.mk (below_drew1 B9.out)
      replace K9 := Aside0.mk K9.out.drew
      have BW := Aside0.mk (show Kept w9 w9.drew (fun _ => False) from (Kept.refl _ _).drew)
      generalize w9.drew = wD at D9 Z9 S9 R7 B9 K9 BW hHeld ⊢
      clear E2
      refine take_ (i := 0) (N := some 79) (v := ?_) (a' := ?_) #[true, false, false, false, false, false, false, false, false, false, false, false] rfl rfl (by kernel_rfl) (fun _ _ _ h => h) (Or.inl ⟨by rfl, ?_⟩) hHeld ?_ ?_
      rotate_left
      ·rintro w' ⟨s0, s1⟩
       go_simp
       with_reducible rfl
      rotate_left
      ·simp only [Act.put, List.setIfInBounds_toArray, List.set_cons_zero, List.set_cons_succ, i64_w, i32_w]
       rfl
      refine take_ (i := 1) (N := some 80) (v := ?_) (a' := ?_) #[true, true, false, false, false, false, false, false, false, false, false, false] rfl rfl (by kernel_rfl) (fun _ _ _ h => h) (Or.inl ⟨by rfl, ?_⟩) hHeld ?_ ?_
      rotate_left
      ·rintro w' ⟨s0, s1⟩
       go_simp
       with_reducible rfl
      rotate_left
      ·simp only [Act.put, List.setIfInBounds_toArray, List.set_cons_zero, List.set_cons_succ, i64_w, i32_w]
       rfl
      refine take_ (i := 2) (N := some 81) (v := ?_) (a' := ?_) #[true, true, true, false, false, false, false, false, false, false, false, false] rfl rfl (by kernel_rfl) (fun _ _ _ h => h) (Or.inl ⟨by rfl, ?_⟩) hHeld ?_ ?_
      rotate_left
      ·rintro w' ⟨s0, s1⟩
       go_simp
       with_reducible rfl
      rotate_left
      ·simp only [Act.put, List.setIfInBounds_toArray, List.set_cons_zero, List.set_cons_succ, i64_w, i32_w]
       rfl
      refine take_ (i := 3) (N := some 82) (v := ?_) (a' := ?_) #[true, true, true, true, false, false, false, false, false, false, false, false] rfl rfl (by kernel_rfl) (fun _ _ _ h => h) (Or.inl ⟨by rfl, ?_⟩) hHeld ?_ ?_
      rotate_left
      ·rintro w' ⟨s0, s1⟩
       go_simp
       with_reducible rfl
      rotate_left
      ·simp only [Act.put, List.setIfInBounds_toArray, List.set_cons_zero, List.set_cons_succ, i64_w, i32_w]
       rfl
      refine take_ (i := 4) (N := some 83) (v := ?_) (a' := ?_) #[true, true, true, true, true, false, false, false, false, false, false, false] rfl rfl (by kernel_rfl) (fun _ _ _ h => h) (Or.inl ⟨by rfl, ?_⟩) hHeld ?_ ?_
      rotate_left
      ·rintro w' ⟨s0, s1⟩
       go_simp
       with_reducible rfl
      rotate_left
      ·simp only [Act.put, List.setIfInBounds_toArray, List.set_cons_zero, List.set_cons_succ, i64_w, i32_w]
       rfl
      refine take_ (i := 5) (N := some 84) (v := ?_) (a' := ?_) #[true, true, true, true, true, true, false, false, false, false, false, false] rfl rfl (by kernel_rfl) (fun _ _ _ h => h) (Or.inl ⟨by rfl, ?_⟩) hHeld ?_ ?_
      rotate_left
      ·rintro w' ⟨s0, s1⟩
       go_simp
       with_reducible rfl
      rotate_left
      ·simp only [Act.put, List.setIfInBounds_toArray, List.set_cons_zero, List.set_cons_succ, i64_w, i32_w]
       rfl
      refine take_ (i := 6) (N := some 85) (v := ?_) (a' := ?_) #[true, true, true, true, true, true, true, false, false, false, false, false] rfl rfl (by kernel_rfl) (fun _ _ _ h => h) (Or.inl ⟨by rfl, ?_⟩) hHeld ?_ ?_
      rotate_left
      ·rintro w' ⟨s0, s1⟩
       go_simp
       with_reducible rfl
      rotate_left
      ·simp only [Act.put, List.setIfInBounds_toArray, List.set_cons_zero, List.set_cons_succ, i64_w, i32_w]
       rfl
      refine take_ (i := 7) (N := some 86) (v := ?_) (a' := ?_) #[true, true, true, true, true, true, true, true, false, false, false, false] rfl rfl (by kernel_rfl) (fun _ _ _ h => h) (Or.inl ⟨by rfl, ?_⟩) hHeld ?_ ?_
      rotate_left
      ·rintro w' ⟨s0, s1⟩
       go_simp
       with_reducible rfl
      rotate_left
      ·simp only [Act.put, List.setIfInBounds_toArray, List.set_cons_zero, List.set_cons_succ, i64_w, i32_w]
       rfl
      refine take_ (i := 8) (N := some 87) (v := ?_) (a' := ?_) #[true, true, true, true, true, true, true, true, true, false, false, false] rfl rfl (by kernel_rfl) (fun _ _ _ h => h) (Or.inl ⟨by rfl, ?_⟩) hHeld ?_ ?_
      rotate_left
      ·rintro w' ⟨s0, s1⟩
       go_simp
       with_reducible rfl
      rotate_left
      ·simp only [Act.put, List.setIfInBounds_toArray, List.set_cons_zero, List.set_cons_succ, i64_w, i32_w, hdd]
       rfl
      refine take_ (i := 9) (N := some 88) (v := ?_) (a' := ?_) #[true, true, true, true, true, true, true, true, true, true, false, false] rfl rfl (by kernel_rfl) (fun _ _ _ h => h) (Or.inl ⟨by rfl, ?_⟩) hHeld ?_ ?_
      rotate_left
      ·rintro w' ⟨s0, s1⟩
       go_simp
       with_reducible rfl
      rotate_left
      ·simp only [Act.put, List.setIfInBounds_toArray, List.set_cons_zero, List.set_cons_succ, i64_w, i32_w]
       rfl
      refine take_ (i := 10) (N := some 89) (v := ?_) (a' := ?_) #[true, true, true, true, true, true, true, true, true, true, true, false] rfl rfl (by kernel_rfl) (fun _ _ _ h => h) (Or.inl ⟨by rfl, ?_⟩) hHeld ?_ ?_
      rotate_left
      ·rintro w' ⟨s0, s1⟩
       go_simp
       with_reducible rfl
      rotate_left
      ·simp only [Act.put, List.setIfInBounds_toArray, List.set_cons_zero, List.set_cons_succ, i64_w, i32_w]
       rfl
      obtain ⟨ad9, e9, hy9⟩ := Kd.at_int (Kd.R_reads' R7.out).2.2 (d : Int) (by omega) (by have := L4.out; have := D4.out; omega)
      injection e9 with e9
      subst e9
      rw [show (⟨gk, 0, none⟩ : Addr).add ((d : Int).toNat) = ⟨gk, d, none⟩ by by_cases h : d = 0 <;> simp [Addr.add, h]] at hy9
      have hl9 : 0 < (x7.f2).length := by have := L4.out; omega
      obtain ⟨g_, c_, e_, _, _, cells9, hcl9⟩ := Kd.R_form R7.out hl9
      obtain rfl : gk = g_ := by injection e_ with e_ _ _; injection e_ with e_; injection e_
      have hf9 := blk_frozen hcl9 d
      refine last_ (i := 11) (N := none) #[true, true, true, true, true, true, true, true, true, true, true, true] rfl rfl (by kernel_rfl) (by decide) (fun K hK => ?_)
      refine skip_ (w1 := wD.setCell ⟨gk, d, none⟩ (.int .i64 zq)) (by rfl) rfl ?_ ?_
      ·first | (go_simp; done) | (go_simp; rfl)
      refine hK.out _ _ ?_
      clear hK K
      refine done_ (by kernel_rfl) ?_
      clear hHeld
      clear hy9 hf9 hcl9 hl9 e_
      have RP := Kd.R_putn R7.out d zq
      have KP : Kept wD (wD.setCell ⟨gk, d, none⟩ (.int .i64 zq)) (fun k => some k = (Value.slice (some ⟨gk, 0, none⟩) 4 ck).ownBlock) := (Kept.refl wD (fun k => some k = (Value.slice (some ⟨gk, 0, none⟩) 4 ck).ownBlock)).setCell (p := ⟨gk, d, none⟩) (.inl rfl) _
      have SA := Aside0.mk (BK.out _ (x7.f2.set d zq) ((BW.out.mono (fun _ h => h.elim)).then_ KP (fun j hj => .inl hj)) (Kd.R_mono RP (fun _ _ => trivial)))
      have DA := Aside0.mk (blk_kept D9.out KP (fun h_ => PK.out.2 (Option.some.inj h_).symm))
      have ZA := Aside0.mk (blk_kept Z9.out KP (fun h_ => PK.out.1.2.2 (Option.some.inj h_).symm))
      have BA := Aside0.mk (below_set B9.out (Kd.R_base R7.out gk rfl) : Below w0.heap.size w0 (wD.setCell ⟨gk, d, none⟩ (.int .i64 zq)))
      have KA := Aside0.mk (K9.out.then_ KP (fun j hj => .inl (by rw [show j = gk from Option.some.inj hj]; exact PK.out.1.1)))
      generalize wD.setCell ⟨gk, d, none⟩ (.int .i64 zq) = wA at RP KP SA DA ZA BA KA ⊢
      clear KP RP S9 D9 Z9 R7 B9 K9 BW BK hdd
      have hkC := K2L.out
      have hrdx := rd_cl_set (xs := C2) hkC (⟨x7.f0, x7.f1, x7.f2.set d zq⟩ : CL)
      have hlx : (C2.set k1 (⟨x7.f0, x7.f1, x7.f2.set d zq⟩ : CL)).length = C2.length := List.length_set
      generalize hC9 : C2.set k1 (⟨x7.f0, x7.f1, x7.f2.set d zq⟩ : CL) = C9 at SA HH hrdx hlx
      obtain ⟨_, v9, f0, f1, f2, hfr2, _, hR9, _⟩ := cs_elem SA.out (k1 : Int) (by omega) (by omega)
      simp only [Int.toNat_natCast] at f0 f1 f2 hfr2
      rw [hrdx] at f0 f1 hR9
      obtain ⟨A9, c9, rfl⟩ := Kd.R_slice hR9
      obtain ⟨ks, hks⟩ : ∃ ks, x7.f2.set d zq = ks := ⟨_, rfl⟩
      have hl9 : ks.length = 4 := by rw [← hks, List.length_set]; exact L4.out
      rw [hks] at hR9 f2 HH
      rw [hl9] at f2
      have KS := Aside0.mk (show (Kd.int .i64).C wA A9 4 ks by have h_ := (Kd.R_reads' hR9).2.2; simp only [hl9] at h_; exact h_)
      have g0 : wA.cell? ⟨db, 0, none⟩ = some (.slice (some ⟨g7, 0, none⟩) C2.length c7) := (blk_cell DA.out 0).trans rfl
      have HC9 := Aside0.mk hC9
      have HLX := Aside0.mk hlx
      have HL9 := Aside0.mk hl9
      have fz0 : wA.frozen? ⟨g7, k1 * 3, none⟩ = false := hfr2 0
      have fz1 := hfr2 1
      have fz2 := hfr2 2
      clear hR9 hfr2 hC9 hlx hl9 hks hrdx
      try go_wp2
      go_loopw [16, 97] (fun v16 vi wr => ∃ q : Nat, q ≤ 4 ∧ vi = .int .i64 q ∧ wr = wA ∧ Aside0 (∀ n : Nat, n < q → rd ks (n : Int) < 0)) (fun v16 vi _ => 4 - (intOf vi).toNat)
      case atStart => exact ⟨0, by omega, rfl, rfl, ⟨fun n h => by omega⟩⟩
      case round =>
       obtain ⟨q, hq, rfl, rfl, HN0⟩ := hrel
       have g1 : wr.cell? ⟨db, 1, none⟩ = some (.slice A1 n1 c1) := (blk_cell DA.out 1).trans rfl
       have g2 : wr.cell? ⟨db, 2, none⟩ = some (.int .i64 L) := (blk_cell DA.out 2).trans rfl
       have r0 : wr.cell? ⟨W1.heap.size, 0, none⟩ = some (.slice none 0 0) := (blk_cell ZA.out 0).trans rfl
       have r1 : wr.cell? ⟨W1.heap.size, 1, none⟩ = some (.slice none 0 0) := (blk_cell ZA.out 1).trans rfl
       have r2 : wr.cell? ⟨W1.heap.size, 2, none⟩ = some (.int .i64 0) := (blk_cell ZA.out 2).trans rfl
       have s0 := blk_frozen ZA.out 0
       have s1 := blk_frozen ZA.out 1
       have s2 := blk_frozen ZA.out 2
       by_cases hql : q < 4
       ·have hqq : ((q : Int) < 4) = True := eq_true (by omega)
        have hqq2 : (q < 4) = True := eq_true hql
        obtain ⟨adq, eq_, hyq⟩ := Kd.at_int KS.out (q : Int) (by omega) (by have := HL9.out; omega)
        subst eq_
        simp only [Int.toNat_natCast] at hyq
        obtain ⟨o, ho⟩ : ∃ o, rd ks (q : Int) = o := ⟨_, rfl⟩
        rw [ho] at hyq
        by_cases h0 : 0 ≤ o
        ·have o1 : (o ≥ 0) = True := eq_true h0
         have o2 : (0 ≤ o) = True := eq_true h0
         have hsk : someKid ks = true := some_hit (q := q) (by have := HL9.out; omega) (by rw [ho]; exact h0)
         have h := HH.out
         rw [if_pos hsk] at h
         have e_ := Option.some.inj h
         subst e_
         clear h h0 ho hsk
         go_wp2
         refine bodyPost_ret (results_ct rfl _ _ W1.heap.size 25 #[.slice (some ⟨g7, 0, none⟩) C2.length c7, .slice A1 n1 c1, .int .i64 L] (0, 0) _ rfl (put3 ZA.out _ _ _) Try.underlying25 rfl (by kernel_rfl)) rfl ?_
         have hz : xg ≤ W1.heap.size := Nat.le_of_lt XZ.out
         exact ⟨_, rfl, Kd.S_mono (far3 SA.out ZA.out) (fun k hk => hk.1.1), below3 BA.out (Nat.le_trans BX.out hz), keep3 KA.out (.inr (HXG.out ▸ hz))⟩
        ·have o1 : (o ≥ 0) = False := eq_false h0
         have o2 : (0 ≤ o) = False := eq_false h0
         have HO := Aside0.mk (show rd ks (q : Int) < 0 by omega)
         clear h0 ho
         go_wp2
         go_roundw
         case rel => exact ⟨q + 1, by omega, by go_num, (by first | trivial | rfl), ⟨fun n hn => by
          by_cases h : n = q
          ·subst h; exact HO.out
          ·exact HN0.out n (by omega)⟩⟩
         case measure => simp [intOf]; omega
       ·have hqq : ((q : Int) < 4) = False := eq_false (by omega)
        have hqq2 : (q < 4) = False := eq_false hql
        have hsk : someKid ks = false := some_miss (fun n hn => HN0.out n (by have := HL9.out; omega))
        have h := HH.out
        rw [if_neg (by rw [hsk]; decide)] at h
        have e_ := Option.some.inj h
        subst e_
        obtain ⟨wB, hwB⟩ : ∃ W, ((wr.setCell ⟨g7, k1 * 3, none⟩ (.int .i64 0)).setCell ⟨g7, k1 * 3 + 1, none⟩ (.string ⟨#[]⟩)).setCell ⟨g7, k1 * 3 + 2, none⟩ (.slice none 0 0) = W := ⟨_, rfl⟩
        have hPg := (Kd.S_R SA.out).1 g7 rfl
        have hBg := Kd.S_base SA.out g7 rfl
        have KKB : Kept wr wB (fun j => j = g7) := by rw [← hwB]; exact (((Kept.refl wr (fun j => j = g7)).setCell (p := ⟨g7, k1 * 3, none⟩) (.inl rfl) _).setCell (p := ⟨g7, k1 * 3 + 1, none⟩) (.inl rfl) _).setCell (p := ⟨g7, k1 * 3 + 2, none⟩) (.inl rfl) _
        have SB := cs_zero SA.out (k1 : Int) (by omega) (by have := K2L.out; omega)
        simp only [Int.toNat_natCast] at SB
        rw [hwB, ← HC9.out, List.set_set] at SB
        have SB := Aside0.mk SB
        have DB2 := Aside0.mk (blk_kept DA.out KKB (fun e_ => hPg.2 e_.symm))
        have ZB := Aside0.mk (blk_kept ZA.out KKB (fun e_ => hPg.1.2.2 e_.symm))
        have BB := Aside0.mk (show Below w0.heap.size w0 wB by rw [← hwB]; exact below_set (below_set (below_set BA.out hBg) hBg) hBg)
        have KB := Aside0.mk (KA.out.then_ KKB (fun j hj => .inl (by rw [hj]; exact hPg.1.1)))
        have b0 : wB.cell? ⟨db, 0, none⟩ = some (.slice (some ⟨g7, 0, none⟩) C2.length c7) := (blk_cell DB2.out 0).trans rfl
        have b1 : wB.cell? ⟨db, 1, none⟩ = some (.slice A1 n1 c1) := (blk_cell DB2.out 1).trans rfl
        have b2 : wB.cell? ⟨db, 2, none⟩ = some (.int .i64 L) := (blk_cell DB2.out 2).trans rfl
        clear r0 r1 r2 s0 s1 s2
        have r0 : wB.cell? ⟨W1.heap.size, 0, none⟩ = some (.slice none 0 0) := (blk_cell ZB.out 0).trans rfl
        have r1 : wB.cell? ⟨W1.heap.size, 1, none⟩ = some (.slice none 0 0) := (blk_cell ZB.out 1).trans rfl
        have r2 : wB.cell? ⟨W1.heap.size, 2, none⟩ = some (.int .i64 0) := (blk_cell ZB.out 2).trans rfl
        have s0 := blk_frozen ZB.out 0
        have s1 := blk_frozen ZB.out 1
        have s2 := blk_frozen ZB.out 2
        clear h hsk hPg hBg KKB hql hq HN0
        go_wp2
        refine bodyPost_ret (results_ct rfl _ _ W1.heap.size 25 #[.slice (some ⟨g7, 0, none⟩) C2.length c7, .slice A1 n1 c1, .int .i64 L] (0, 0) _ rfl (put3 ZB.out _ _ _) Try.underlying25 rfl (by kernel_rfl)) rfl ?_
        have hz : xg ≤ W1.heap.size := Nat.le_of_lt XZ.out
        exact ⟨_, rfl, Kd.S_mono (far3 SB.out ZB.out) (fun k hk => hk.1.1), below3 BB.out (Nat.le_trans BX.out hz), keep3 KB.out (.inr (HXG.out ▸ hz))⟩
     ·cases h
    ·have m0 : leaf.toList ≠ [] := fun e_ => hle (ba_nil.1 e_)
     have m1 : (leaf.toList == []) = false := beq_eq_false_iff_ne.2 m0
     have m2 : (leaf.toList = []) = False := eq_false m0
     clear hle m0
     go_enter Try.func74, Try.ntmps74
     go_wp2_with (go_at_call 88; refine T1.out.mono ?_; (first | rintro e w3 v0 rfl hS3 hB3 hK3 | rintro e w3 ⟨v0, rfl, hS3, hB3, hK3⟩); (obtain ⟨A2, c2, rfl⟩ := Kd.S_slice hS3); (replace hS3 : CS w3 w0.heap.size (fun k => P k ∧ k ≠ xg ∧ k ≠ W1.heap.size) (.slice A2 C1.length c2) C1 := hS3); (have X3 := Aside0.mk (blk_kept X2.out hK3 (fun h_ => h_.2.1 rfl))); (have Z3 := Aside0.mk (blk_kept Z2.out hK3 (fun h_ => h_.2.2 rfl))); (have K3 := Aside0.mk (K2.out.then_ hK3 (fun j hj => .inl hj.1))); (have q0 : w3.cell? ⟨xg, 0, none⟩ = some (.slice A C.length c) := (blk_cell X3.out 0).trans rfl); (have q1 : w3.cell? ⟨xg, 1, none⟩ = some (.slice A1 n1 c1) := (blk_cell X3.out 1).trans rfl); (have q2 : w3.cell? ⟨xg, 2, none⟩ = some (.int .i64 L) := (blk_cell X3.out 2).trans rfl); have u0 := blk_frozen X3.out 0; have u1 := blk_frozen X3.out 1; have u2 := blk_frozen X3.out 2; (obtain ⟨w4, hw4⟩ : ∃ W, ((w3.setCell ⟨xg, 0, none⟩ (.slice A2 C1.length c2)).setCell ⟨xg, 1, none⟩ (.slice A1 n1 c1)).setCell ⟨xg, 2, none⟩ (.int .i64 L) = W := ⟨_, rfl⟩); (have X4 := Aside0.mk (show w4.heap[xg]? = some (.cells #[.slice A2 C1.length c2, .slice A1 n1 c1, .int .i64 L] 25 (0, 0)) by rw [← hw4]; exact put3 X3.out _ _ _)); (have KK4 : Kept w3 w4 (fun j => j = xg) := by rw [← hw4]; exact keep3 (Kept.refl w3 (fun j => j = xg)) (.inl rfl)); (have Z4 := Aside0.mk (blk_kept Z3.out KK4 (by have := XZ.out; omega))); (have S4 := Aside0.mk (Kd.S_kept hS3 KK4 (fun k hk e_ => hk.2.1 e_))); (have B4 := Aside0.mk (show Below w0.heap.size w0 w4 by rw [← hw4]; exact below3 hB3 BX.out)); (have K4 := Aside0.mk (K3.out.then_ KK4 (fun j hj => .inr (by rw [hj]; exact Nat.le_of_eq HXG.out)))); (have x0 : w4.cell? ⟨xg, 0, none⟩ = some (.slice A2 C1.length c2) := (blk_cell X4.out 0).trans rfl); clear X3 Z3 K3 KK4 hS3 hB3 hK3 T1 d0 d1 d2)
     go_wp2_with (go_at_call 85; refine (TS.out _).mono ?_)
     (first | rintro e w5 rfl hdr | rintro e w5 ⟨rfl, hdr⟩)
     have hb := hdr.below
     clear hdr TS q0 u0 u1 u2 hw4 x0
     replace X4 := Aside0.mk (blk_below X4.out hb)
     replace Z4 := Aside0.mk (blk_below Z4.out hb)
     replace S4 := Aside0.mk (Kd.S_below S4.out hb)
     replace B4 := Aside0.mk (below_then B4.out B4.out.size hb)
     replace K4 := Aside0.mk (K4.out.below hb)
     clear hb
     go_wp2
     obtain ⟨g, cap, hv, _, _, _⟩ := Kd.S_form S4.out (by have := LT.out; omega)
     injection hv with hA hn_ hc
     subst hA hc
     clear hn_
     have hlt := LT.out
     obtain ⟨x, hx⟩ : ∃ x, rd_T68 C1 (k1 : Int) = x := ⟨_, rfl⟩
     rw [hx] at F4 HQ
     obtain ⟨_, v, e0, e1, e2, hfr, _, hR, _⟩ := cs_elem S4.out (k1 : Int) (by omega) (by omega)
     simp only [Int.toNat_natCast] at e0 e1 e2 hfr
     rw [hx] at hR
     obtain ⟨A5, c5, rfl⟩ := Kd.R_slice hR
     rw [F4.out] at e2
     obtain ⟨ad, e3, hy⟩ := Kd.at_int (Kd.R_reads' hR).2.2 (d : Int) (by omega) (by have := F4.out; have := D4.out; omega)
     subst e3
     simp only [Int.toNat_natCast] at hy
     obtain ⟨z, hz⟩ : ∃ z, rd x.f2 (d : Int) = z := ⟨_, rfl⟩
     rw [hz] at hy HQ
     have p1 : ((k1 : Int) < (C1.length : Int)) = True := eq_true (by omega)
     have p2 : ((d : Int) < 4) = True := eq_true (by have := D4.out; omega)
     have hdd := DD.out
     have E2 := Aside0.mk e2
     have HY := Aside0.mk hy
     clear hR hfr e0 e1 e2 hy hx
     refine start_ (n := 25) (S := fun w' => w'.cell? ⟨xg, 0, none⟩ = some (.slice (some ⟨g, 0, none⟩) C1.length c2) ∧ w'.cell? ⟨xg, 1, none⟩ = some (.slice A1 n1 c1) ∧ w'.cell? ⟨xg, 2, none⟩ = some (.int .i64 L) ∧ w'.cell? ⟨g, k1 * 3 + 2, none⟩ = some (.slice (some ad) 4 c5) ∧ w'.cell? (ad.add d) = some (.int .i64 z)) (ds := [18, 23]) #[false, false, false, false, false, false, false, false, false, false, false, false, false, false, false, false, false, false, false, false, false, false, false, false, false] (by kernel_rfl) rfl rfl ⟨(blk_cell X4.out 0).trans rfl, (blk_cell X4.out 1).trans rfl, (blk_cell X4.out 2).trans rfl, E2.out, HY.out⟩ (fun hHeld => ?_)
     replace X4 := Aside0.mk (blk_drew X4.out)
     replace Z4 := Aside0.mk (blk_drew Z4.out)
     replace S4 := Aside0.mk (Kd.S_drew S4.out)
     replace B4 := Aside0.mk (below_drew1 B4.out)
     replace K4 := Aside0.mk K4.out.drew
     replace E2 := Aside0.mk (show w5.drew.cell? ⟨g, k1 * 3 + 2, none⟩ = some (.slice (some ad) 4 c5) from E2.out)
     replace HY := Aside0.mk (show w5.drew.cell? (ad.add d) = some (.int .i64 z) from HY.out)
     generalize w5.drew = w6 at X4 Z4 S4 B4 K4 E2 HY hHeld ⊢
     refine take_ (i := 0) (N := some 58) (v := ?_) (a' := ?_) #[true, false, false, false, false, false, false, false, false, false, false, false, false, false, false, false, false, false, false, false, false, false, false, false, false] rfl rfl (by kernel_rfl) (fun _ _ _ h => h) (Or.inl ⟨by rfl, ?_⟩) hHeld ?_ ?_
     rotate_left
     ·rintro w' ⟨s0, s1, s2, s3, s4⟩
      go_simp
      with_reducible rfl
     rotate_left
     ·simp only [Act.put, List.setIfInBounds_toArray, List.set_cons_zero, List.set_cons_succ, i64_w, i32_w]
      rfl
     refine take_ (i := 1) (N := some 59) (v := ?_) (a' := ?_) #[true, true, false, false, false, false, false, false, false, false, false, false, false, false, false, false, false, false, false, false, false, false, false, false, false] rfl rfl (by kernel_rfl) (fun _ _ _ h => h) (Or.inl ⟨by rfl, ?_⟩) hHeld ?_ ?_
     rotate_left
     ·rintro w' ⟨s0, s1, s2, s3, s4⟩
      go_simp
      with_reducible rfl
     rotate_left
     ·simp only [Act.put, List.setIfInBounds_toArray, List.set_cons_zero, List.set_cons_succ, i64_w, i32_w]
      rfl
     refine take_ (i := 2) (N := some 60) (v := ?_) (a' := ?_) #[true, true, true, false, false, false, false, false, false, false, false, false, false, false, false, false, false, false, false, false, false, false, false, false, false] rfl rfl (by kernel_rfl) (fun _ _ _ h => h) (Or.inl ⟨by rfl, ?_⟩) hHeld ?_ ?_
     rotate_left
     ·rintro w' ⟨s0, s1, s2, s3, s4⟩
      go_simp
      with_reducible rfl
     rotate_left
     ·simp only [Act.put, List.setIfInBounds_toArray, List.set_cons_zero, List.set_cons_succ, i64_w, i32_w]
      rfl
     refine take_ (i := 3) (N := some 61) (v := ?_) (a' := ?_) #[true, true, true, true, false, false, false, false, false, false, false, false, false, false, false, false, false, false, false, false, false, false, false, false, false] rfl rfl (by kernel_rfl) (fun _ _ _ h => h) (Or.inl ⟨by rfl, ?_⟩) hHeld ?_ ?_
     rotate_left
     ·rintro w' ⟨s0, s1, s2, s3, s4⟩
      go_simp
      with_reducible rfl
     rotate_left
     ·simp only [Act.put, List.setIfInBounds_toArray, List.set_cons_zero, List.set_cons_succ, i64_w, i32_w]
      rfl
     refine take_ (i := 4) (N := some 62) (v := ?_) (a' := ?_) #[true, true, true, true, true, false, false, false, false, false, false, false, false, false, false, false, false, false, false, false, false, false, false, false, false] rfl rfl (by kernel_rfl) (fun _ _ _ h => h) (Or.inl ⟨by rfl, ?_⟩) hHeld ?_ ?_
     rotate_left
     ·rintro w' ⟨s0, s1, s2, s3, s4⟩
      go_simp
      with_reducible rfl
     rotate_left
     ·simp only [Act.put, List.setIfInBounds_toArray, List.set_cons_zero, List.set_cons_succ, i64_w, i32_w]
      rfl
     refine take_ (i := 5) (N := some 63) (v := ?_) (a' := ?_) #[true, true, true, true, true, true, false, false, false, false, false, false, false, false, false, false, false, false, false, false, false, false, false, false, false] rfl rfl (by kernel_rfl) (fun _ _ _ h => h) (Or.inl ⟨by rfl, ?_⟩) hHeld ?_ ?_
     rotate_left
     ·rintro w' ⟨s0, s1, s2, s3, s4⟩
      go_simp
      with_reducible rfl
     rotate_left
     ·simp only [Act.put, List.setIfInBounds_toArray, List.set_cons_zero, List.set_cons_succ, i64_w, i32_w]
      rfl
     refine take_ (i := 6) (N := some 64) (v := ?_) (a' := ?_) #[true, true, true, true, true, true, true, false, false, false, false, false, false, false, false, false, false, false, false, false, false, false, false, false, false] rfl rfl (by kernel_rfl) (fun _ _ _ h => h) (Or.inl ⟨by rfl, ?_⟩) hHeld ?_ ?_
     rotate_left
     ·rintro w' ⟨s0, s1, s2, s3, s4⟩
      go_simp
      with_reducible rfl
     rotate_left
     ·simp only [Act.put, List.setIfInBounds_toArray, List.set_cons_zero, List.set_cons_succ, i64_w, i32_w]
      rfl
     refine take_ (i := 7) (N := some 65) (v := ?_) (a' := ?_) #[true, true, true, true, true, true, true, true, false, false, false, false, false, false, false, false, false, false, false, false, false, false, false, false, false] rfl rfl (by kernel_rfl) (fun _ _ _ h => h) (Or.inl ⟨by rfl, ?_⟩) hHeld ?_ ?_
     rotate_left
     ·rintro w' ⟨s0, s1, s2, s3, s4⟩
      go_simp
      with_reducible rfl
     rotate_left
     ·simp only [Act.put, List.setIfInBounds_toArray, List.set_cons_zero, List.set_cons_succ, i64_w, i32_w]
      rfl
     refine take_ (i := 8) (N := some 66) (v := ?_) (a' := ?_) #[true, true, true, true, true, true, true, true, true, false, false, false, false, false, false, false, false, false, false, false, false, false, false, false, false] rfl rfl (by kernel_rfl) (fun _ _ _ h => h) (Or.inl ⟨by rfl, ?_⟩) hHeld ?_ ?_
     rotate_left
     ·rintro w' ⟨s0, s1, s2, s3, s4⟩
      go_simp
      with_reducible rfl
     rotate_left
     ·simp only [Act.put, List.setIfInBounds_toArray, List.set_cons_zero, List.set_cons_succ, i64_w, i32_w]
      rfl
     refine take_ (i := 9) (N := some 67) (v := ?_) (a' := ?_) #[true, true, true, true, true, true, true, true, true, true, false, false, false, false, false, false, false, false, false, false, false, false, false, false, false] rfl rfl (by kernel_rfl) (fun _ _ _ h => h) (Or.inl ⟨by rfl, ?_⟩) hHeld ?_ ?_
     rotate_left
     ·rintro w' ⟨s0, s1, s2, s3, s4⟩
      go_simp
      with_reducible rfl
     rotate_left
     ·simp only [Act.put, List.setIfInBounds_toArray, List.set_cons_zero, List.set_cons_succ, i64_w, i32_w, hdd]
      rfl
     refine take_ (i := 10) (N := some 68) (v := ?_) (a' := ?_) #[true, true, true, true, true, true, true, true, true, true, true, false, false, false, false, false, false, false, false, false, false, false, false, false, false] rfl rfl (by kernel_rfl) (fun _ _ _ h => h) (Or.inl ⟨by rfl, ?_⟩) hHeld ?_ ?_
     rotate_left
     ·rintro w' ⟨s0, s1, s2, s3, s4⟩
      go_simp
      with_reducible rfl
     rotate_left
     ·simp only [Act.put, List.setIfInBounds_toArray, List.set_cons_zero, List.set_cons_succ, i64_w, i32_w]
      rfl
     refine take_ (i := 11) (N := some 69) (v := ?_) (a' := ?_) #[true, true, true, true, true, true, true, true, true, true, true, true, false, false, false, false, false, false, false, false, false, false, false, false, false] rfl rfl (by kernel_rfl) (fun _ _ _ h => h) (Or.inl ⟨by rfl, ?_⟩) hHeld ?_ ?_
     rotate_left
     ·rintro w' ⟨s0, s1, s2, s3, s4⟩
      go_simp
      with_reducible rfl
     rotate_left
     ·simp only [Act.put, List.setIfInBounds_toArray, List.set_cons_zero, List.set_cons_succ, i64_w, i32_w]
      rfl
     refine take_ (i := 12) (N := some 70) (v := ?_) (a' := ?_) #[true, true, true, true, true, true, true, true, true, true, true, true, true, false, false, false, false, false, false, false, false, false, false, false, false] rfl rfl (by kernel_rfl) (fun _ _ _ h => h) (Or.inl ⟨by rfl, ?_⟩) hHeld ?_ ?_
     rotate_left
     ·rintro w' ⟨s0, s1, s2, s3, s4⟩
      go_simp
      with_reducible rfl
     rotate_left
     ·simp only [Act.put, List.setIfInBounds_toArray, List.set_cons_zero, List.set_cons_succ, i64_w, i32_w]
      rfl
     refine take_ (i := 13) (N := some 71) (v := ?_) (a' := ?_) #[true, true, true, true, true, true, true, true, true, true, true, true, true, true, false, false, false, false, false, false, false, false, false, false, false] rfl rfl (by kernel_rfl) (fun _ _ _ h => h) (Or.inl ⟨by rfl, ?_⟩) hHeld ?_ ?_
     rotate_left
     ·rintro w' ⟨s0, s1, s2, s3, s4⟩
      go_simp
      with_reducible rfl
     rotate_left
     ·simp only [Act.put, List.setIfInBounds_toArray, List.set_cons_zero, List.set_cons_succ, i64_w, i32_w]
      rfl
     refine take_ (i := 14) (N := some 72) (v := ?_) (a' := ?_) #[true, true, true, true, true, true, true, true, true, true, true, true, true, true, true, false, false, false, false, false, false, false, false, false, false] rfl rfl (by kernel_rfl) (fun _ _ _ h => h) (Or.inl ⟨by rfl, ?_⟩) hHeld ?_ ?_
     rotate_left
     ·rintro w' ⟨s0, s1, s2, s3, s4⟩
      go_simp
      with_reducible rfl
     rotate_left
     ·simp only [Act.put, List.setIfInBounds_toArray, List.set_cons_zero, List.set_cons_succ, i64_w, i32_w]
      rfl
     refine take_ (i := 15) (N := some 73) (v := ?_) (a' := ?_) #[true, true, true, true, true, true, true, true, true, true, true, true, true, true, true, true, false, false, false, false, false, false, false, false, false] rfl rfl (by kernel_rfl) (fun _ _ _ h => h) (Or.inl ⟨by rfl, ?_⟩) hHeld ?_ ?_
     rotate_left
     ·rintro w' ⟨s0, s1, s2, s3, s4⟩
      go_simp
      with_reducible rfl
     rotate_left
     ·simp only [Act.put, List.setIfInBounds_toArray, List.set_cons_zero, List.set_cons_succ, i64_w, i32_w]
      rfl
     refine take_ (i := 16) (N := some 74) (v := ?_) (a' := ?_) #[true, true, true, true, true, true, true, true, true, true, true, true, true, true, true, true, true, false, false, false, false, false, false, false, false] rfl rfl (by kernel_rfl) (fun _ _ _ h => h) (Or.inl ⟨by rfl, ?_⟩) hHeld ?_ ?_
     rotate_left
     ·rintro w' ⟨s0, s1, s2, s3, s4⟩
      go_simp
      with_reducible rfl
     rotate_left
     ·simp only [Act.put, List.setIfInBounds_toArray, List.set_cons_zero, List.set_cons_succ, i64_w, i32_w]
      rfl
     refine take_ (i := 17) (N := some 75) (v := ?_) (a' := ?_) #[true, true, true, true, true, true, true, true, true, true, true, true, true, true, true, true, true, true, false, false, false, false, false, false, false] rfl rfl (by kernel_rfl) (fun _ _ _ h => h) (Or.inl ⟨by rfl, ?_⟩) hHeld ?_ ?_
     rotate_left
     ·rintro w' ⟨s0, s1, s2, s3, s4⟩
      go_simp
      with_reducible rfl
     rotate_left
     ·simp only [Act.put, List.setIfInBounds_toArray, List.set_cons_zero, List.set_cons_succ, i64_w, i32_w]
      rfl
     refine join_ (σ := Nat × Option Addr × Nat) 2 #[true, true, true, true, true, true, true, true, true, true, true, true, true, true, true, true, true, true, true, true, true, true, true, false, false] (fun s_ => [(76, .tuple #[.agg #[.slice s_.2.1 C2.length s_.2.2, .slice A1 n1 c1, .int .i64 L], .int .i64 zq]), (57, .tuple #[.agg #[.slice s_.2.1 C2.length s_.2.2, .slice A1 n1 c1, .int .i64 L], .int .i64 zq]), (77, .agg #[.slice s_.2.1 C2.length s_.2.2, .slice A1 n1 c1, .int .i64 L]), (78, .int .i64 zq), (13, .pointer (some ⟨s_.1, 0, none⟩))]) (fun s_ w' => w'.heap[s_.1]? = some (.cells #[.slice none 0 0, .slice none 0 0, .int .i64 0] 25 (0, 0)) ∧ w'.heap[W1.heap.size]? = some (.cells #[.slice none 0 0, .slice none 0 0, .int .i64 0] 25 (0, 0)) ∧ CS w' w0.heap.size (fun k => (P k ∧ k ≠ xg ∧ k ≠ W1.heap.size) ∧ k ≠ s_.1) (.slice s_.2.1 C2.length s_.2.2) C2 ∧ Below w0.heap.size w0 w' ∧ Kept w w' P ∧ W1.heap.size < s_.1) ?_ ?_
     rotate_left
     ·intro hCont
      have hsz := K4.out.1
      have hzl := blk_lt Z4.out
      refine two_last (i := 18) (j := 22) (Ni := some 76) (Nj := some 13) #[true, true, true, true, true, true, true, true, true, true, true, true, true, true, true, true, true, true, true, false, false, false, false, false, false] #[true, true, true, true, true, true, true, true, true, true, true, true, true, true, true, true, true, true, false, false, false, false, true, false, false] rfl rfl rfl rfl (by kernel_rfl) (by decide) (by decide) (fun K hK => ?_) (fun K hK => ?_)
      ·refine goes_ Try.func74 (by kernel_rfl) rfl #[.agg #[.slice (some ⟨g, 0, none⟩) C1.length c2, .slice A1 n1 c1, .int .i64 L], .int .i64 z, .int .i64 (wrap64 (lv - 1)), .int .i64 (Int.tmod a_ n), .string leaf] (by rfl) rfl rfl (by (try simp only [List.map_toArray, List.map_cons, List.map_nil]); first | done | rfl) ?_
       refine (IH.out (some ⟨g, 0, none⟩) c2 C1 z (wrap64 (lv - 1)) (Int.tmod a_ n) (fun k => P k ∧ k ≠ xg ∧ k ≠ W1.heap.size) (C2, zq) w0 w6 LW.out (by have := HL.out; omega) HDIG.out B4.out S4.out (fun k hk => (have h1_ := XZ.out; have h2_ := HXG.out; ⟨FP.out k (by omega), by omega, by omega⟩)) HQ.out).mono ?_
       (first | rintro e w7 v7 rfl hS7 hB7 hK7 | rintro e w7 ⟨v7, rfl, hS7, hB7, hK7⟩)
       refine ⟨_, rfl, ?_⟩
       obtain ⟨A7, c7, rfl⟩ := Kd.S_slice hS7
       replace hS7 : CS w7 w0.heap.size (fun k => P k ∧ k ≠ xg ∧ k ≠ W1.heap.size) (.slice A7 C2.length c7) C2 := hS7
       have Z7 := blk_kept Z4.out hK7 (fun h_ => h_.2.2 rfl)
       have K7 := K4.out.then_ hK7 (fun j hj => .inl hj.1)
       have hzl7 := blk_lt Z7
       refine hK.out _ _ ?_
       clear hK K hK7
       refine norm_ (a' := ?_) ?_ ?_
       rotate_left
       ·show Act.put _ (some 76) _ = _
        simp only [Act.put, List.setIfInBounds_toArray, List.set_cons_zero, List.set_cons_succ, i64_w, i32_w]
        rfl
       refine pure_ (i := 19) (N := some 57) (v := ?_) (a' := ?_) #[true, true, true, true, true, true, true, true, true, true, true, true, true, true, true, true, true, true, true, true, false, false, false, false, false] rfl rfl (by kernel_rfl) (fun _ _ _ h => h) (Or.inl ⟨by rfl, ?_⟩) ?_ ?_
       rotate_left
       ·intro w'
        go_simp
        with_reducible rfl
       rotate_left
       ·simp only [Act.put, List.setIfInBounds_toArray, List.set_cons_zero, List.set_cons_succ, i64_w, i32_w]
        rfl
       refine pure_ (i := 20) (N := some 77) (v := ?_) (a' := ?_) #[true, true, true, true, true, true, true, true, true, true, true, true, true, true, true, true, true, true, true, true, true, false, false, false, false] rfl rfl (by kernel_rfl) (fun _ _ _ h => h) (Or.inl ⟨by rfl, ?_⟩) ?_ ?_
       rotate_left
       ·intro w'
        go_simp
        with_reducible rfl
       rotate_left
       ·simp only [Act.put, List.setIfInBounds_toArray, List.set_cons_zero, List.set_cons_succ, i64_w, i32_w]
        rfl
       refine pure_ (i := 21) (N := some 78) (v := ?_) (a' := ?_) #[true, true, true, true, true, true, true, true, true, true, true, true, true, true, true, true, true, true, true, true, true, true, false, false, false] rfl rfl (by kernel_rfl) (fun _ _ _ h => h) (Or.inl ⟨by rfl, ?_⟩) ?_ ?_
       rotate_left
       ·intro w'
        go_simp
        with_reducible rfl
       rotate_left
       ·simp only [Act.put, List.setIfInBounds_toArray, List.set_cons_zero, List.set_cons_succ, i64_w, i32_w]
        rfl
       refine one_c (i := 22) (N := some 13) #[true, true, true, true, true, true, true, true, true, true, true, true, true, true, true, true, true, true, true, true, true, true, true, false, false] rfl rfl (by kernel_rfl) (fun K hK => ?_)
       refine event_step (by rfl) (v := .pointer (some ⟨w7.heap.size, 0, none⟩)) (w1 := w7.alloc (.cells #[.slice none 0 0, .slice none 0 0, .int .i64 0] 25)) (by first | (go_simp; done) | (go_simp; rfl)) ?_
       have hba := below_alloc (Below.refl w7.heap.size w7) (.cells #[.slice none 0 0, .slice none 0 0, .int .i64 0] 25)
       refine hK.out _ _ (fun hs => ⟨cell_kept hs.1 (Kept.of_below hba (fun _ => False)) id, cell_kept hs.2.1 (Kept.of_below hba (fun _ => False)) id, cell_kept hs.2.2.1 (Kept.of_below hba (fun _ => False)) id, cell_kept hs.2.2.2.1 (Kept.of_below hba (fun _ => False)) id, cell_kept hs.2.2.2.2 (Kept.of_below hba (fun _ => False)) id⟩) ?_
       clear hK K
       exact hCont (w7.heap.size, A7, c7) _ ⟨heap_alloc_new w7 _, blk_below Z7 hba, Kd.S_below (Kd.S_mono (Kd.S_bound hS7) (fun k hk => ⟨hk.1, Nat.ne_of_lt hk.2.2.1⟩)) hba, below_then hB7 hB7.size hba, K7.below hba, hzl7⟩
      ·refine event_step (by rfl) (v := .pointer (some ⟨w6.heap.size, 0, none⟩)) (w1 := w6.alloc (.cells #[.slice none 0 0, .slice none 0 0, .int .i64 0] 25)) (by first | (go_simp; done) | (go_simp; rfl)) ?_
       have hba := below_alloc (Below.refl w6.heap.size w6) (.cells #[.slice none 0 0, .slice none 0 0, .int .i64 0] 25)
       have D7 := heap_alloc_new w6 (.cells #[.slice none 0 0, .slice none 0 0, .int .i64 0] 25)
       refine hK.out _ _ ⟨(blk_cell (blk_below X4.out hba) 0).trans rfl, (blk_cell (blk_below X4.out hba) 1).trans rfl, (blk_cell (blk_below X4.out hba) 2).trans rfl, cell_kept E2.out (Kept.of_below hba (fun _ => False)) id, cell_kept HY.out (Kept.of_below hba (fun _ => False)) id⟩ (fun hHeld => ?_)
       clear hK K
       refine norm_ (a' := ?_) ?_ ?_
       rotate_left
       ·show Act.put _ (some 13) _ = _
        simp only [Act.put, List.setIfInBounds_toArray, List.set_cons_zero, List.set_cons_succ, i64_w, i32_w]
        rfl
       refine last_ (i := 18) (N := some 76) #[true, true, true, true, true, true, true, true, true, true, true, true, true, true, true, true, true, true, true, false, false, false, true, false, false] rfl rfl (by kernel_rfl) (by decide) (fun K hK => ?_)
       refine goes_ Try.func74 (by kernel_rfl) rfl #[.agg #[.slice (some ⟨g, 0, none⟩) C1.length c2, .slice A1 n1 c1, .int .i64 L], .int .i64 z, .int .i64 (wrap64 (lv - 1)), .int .i64 (Int.tmod a_ n), .string leaf] (by rfl) rfl rfl (by (try simp only [List.map_toArray, List.map_cons, List.map_nil]); first | done | rfl) ?_
       have hds := blk_lt D7
       have hS6 := Kd.S_mono (Kd.S_bound S4.out) (fun k hk => (⟨hk.1, Nat.ne_of_lt hk.2.2.1⟩ : (P k ∧ k ≠ xg ∧ k ≠ W1.heap.size) ∧ k ≠ w6.heap.size))
       refine (IH.out (some ⟨g, 0, none⟩) c2 C1 z (wrap64 (lv - 1)) (Int.tmod a_ n) (fun k => (P k ∧ k ≠ xg ∧ k ≠ W1.heap.size) ∧ k ≠ w6.heap.size) (C2, zq) w0 _ LW.out (by have := HL.out; omega) HDIG.out (below_then B4.out B4.out.size hba) (Kd.S_below hS6 hba) (fun k hk => (have h1_ := XZ.out; have h2_ := HXG.out; ⟨⟨FP.out k (by omega), by omega, by omega⟩, by omega⟩)) HQ.out).mono ?_
       (first | rintro e w7 v7 rfl hS7 hB7 hK7 | rintro e w7 ⟨v7, rfl, hS7, hB7, hK7⟩)
       refine ⟨_, rfl, ?_⟩
       obtain ⟨A7, c7, rfl⟩ := Kd.S_slice hS7
       replace hS7 : CS w7 w0.heap.size (fun k => (P k ∧ k ≠ xg ∧ k ≠ W1.heap.size) ∧ k ≠ w6.heap.size) (.slice A7 C2.length c7) C2 := hS7
       have Z7 := blk_kept (blk_below Z4.out hba) hK7 (fun h_ => h_.1.2.2 rfl)
       have K7 := (K4.out.below hba).then_ hK7 (fun j hj => .inl hj.1.1)
       refine hK.out _ _ ?_
       clear hK K
       refine norm_ (a' := ?_) ?_ ?_
       rotate_left
       ·show Act.put _ (some 76) _ = _
        simp only [Act.put, List.setIfInBounds_toArray, List.set_cons_zero, List.set_cons_succ, i64_w, i32_w]
        rfl
       refine pure_ (i := 19) (N := some 57) (v := ?_) (a' := ?_) #[true, true, true, true, true, true, true, true, true, true, true, true, true, true, true, true, true, true, true, true, false, false, true, false, false] rfl rfl (by kernel_rfl) (fun _ _ _ h => h) (Or.inl ⟨by rfl, ?_⟩) ?_ ?_
       rotate_left
       ·intro w'
        go_simp
        with_reducible rfl
       rotate_left
       ·simp only [Act.put, List.setIfInBounds_toArray, List.set_cons_zero, List.set_cons_succ, i64_w, i32_w]
        rfl
       refine pure_ (i := 20) (N := some 77) (v := ?_) (a' := ?_) #[true, true, true, true, true, true, true, true, true, true, true, true, true, true, true, true, true, true, true, true, true, false, true, false, false] rfl rfl (by kernel_rfl) (fun _ _ _ h => h) (Or.inl ⟨by rfl, ?_⟩) ?_ ?_
       rotate_left
       ·intro w'
        go_simp
        with_reducible rfl
       rotate_left
       ·simp only [Act.put, List.setIfInBounds_toArray, List.set_cons_zero, List.set_cons_succ, i64_w, i32_w]
        rfl
       refine pure_ (i := 21) (N := some 78) (v := ?_) (a' := ?_) #[true, true, true, true, true, true, true, true, true, true, true, true, true, true, true, true, true, true, true, true, true, true, true, false, false] rfl rfl (by kernel_rfl) (fun _ _ _ h => h) (Or.inl ⟨by rfl, ?_⟩) ?_ ?_
       rotate_left
       ·intro w'
        go_simp
        with_reducible rfl
       rotate_left
       ·simp only [Act.put, List.setIfInBounds_toArray, List.set_cons_zero, List.set_cons_succ, i64_w, i32_w]
        rfl
       exact hCont (w6.heap.size, A7, c7) _ ⟨blk_kept D7 hK7 (fun h_ => h_.2 rfl), Z7, hS7, hB7, K7, hzl⟩
     rintro ⟨db, A7, c7⟩ w8 ⟨hD8, hZ8, hS8, hB8, hK8, hDZ⟩
     dsimp only at hD8 hS8 hDZ
     dsimp only [putAll]
     clear hHeld X4 Z4 S4 B4 K4 E2 HY
     refine norm_ (a' := ?_) ?_ ?_
     rotate_left
     ·simp only [Act.put, List.setIfInBounds_toArray, List.set_cons_zero, List.set_cons_succ, i64_w, i32_w]
      rfl
     have DZ := Aside0.mk hDZ
     have r0 : w8.cell? ⟨db, 0, none⟩ = some (.slice none 0 0) := (blk_cell hD8 0).trans rfl
     have r1 : w8.cell? ⟨db, 1, none⟩ = some (.slice none 0 0) := (blk_cell hD8 1).trans rfl
     have r2 : w8.cell? ⟨db, 2, none⟩ = some (.int .i64 0) := (blk_cell hD8 2).trans rfl
     have s0 := blk_frozen hD8 0
     have s1 := blk_frozen hD8 1
     have s2 := blk_frozen hD8 2
     refine last_ (i := 23) (N := none) #[true, true, true, true, true, true, true, true, true, true, true, true, true, true, true, true, true, true, true, true, true, true, true, true, false] rfl rfl (by kernel_rfl) (by decide) (fun K hK => ?_)
     refine skip_ (w1 := ((w8.setCell ⟨db, 0, none⟩ (.slice A7 C2.length c7)).setCell ⟨db, 1, none⟩ (.slice A1 n1 c1)).setCell ⟨db, 2, none⟩ (.int .i64 L)) (by rfl) rfl ?_ ?_
     ·first | (go_simp; done) | (go_simp; rfl)
     refine hK.out _ _ ?_
     clear hK K r0 r1 r2 s0 s1 s2
     have KK9 := keep3 (a := .slice A7 C2.length c7) (b := .slice A1 n1 c1) (c := .int .i64 L) (Kept.refl w8 (fun j => j = db)) (.inl rfl)
     have D9 := Aside0.mk (put3 hD8 (.slice A7 C2.length c7) (.slice A1 n1 c1) (.int .i64 L))
     have Z9 := Aside0.mk (blk_kept hZ8 KK9 (Nat.ne_of_lt hDZ))
     have S9 := Aside0.mk (Kd.S_kept hS8 KK9 (fun k hk => hk.2))
     have hdb : xg ≤ db := by have := XZ.out; omega
     have B9 := Aside0.mk (below3 (a := .slice A7 C2.length c7) (b := .slice A1 n1 c1) (c := .int .i64 L) hB8 (Nat.le_trans BX.out hdb))
     have K9 := Aside0.mk (hK8.then_ KK9 (fun j hj => .inr (by rw [hj]; exact HXG.out ▸ hdb)))
     have DB := Aside0.mk hdb
     clear KK9 hD8 hZ8 hS8 hB8 hK8 hDZ hdb
     generalize ((w8.setCell ⟨db, 0, none⟩ (.slice A7 C2.length c7)).setCell ⟨db, 1, none⟩ (.slice A1 n1 c1)).setCell ⟨db, 2, none⟩ (.int .i64 L) = w9 at D9 Z9 S9 B9 K9 ⊢
     refine pure_ (i := 24) (N := some 14) (v := ?_) (a' := ?_) #[true, true, true, true, true, true, true, true, true, true, true, true, true, true, true, true, true, true, true, true, true, true, true, true, true] rfl rfl (by kernel_rfl) (fun _ _ _ h => h) (Or.inl ⟨by rfl, ?_⟩) ?_ ?_
     rotate_left
     ·intro w'
      go_simp
      with_reducible rfl
     rotate_left
     ·simp only [Act.put, List.setIfInBounds_toArray, List.set_cons_zero, List.set_cons_succ, i64_w, i32_w]
      rfl
     refine done_ (by kernel_rfl) ?_
     have h := HH.out
     split at h
     ·rename_i hcd
      obtain ⟨hk2, hl4, hf1⟩ := hcd
      obtain ⟨g7, cap, hv, _, _, _⟩ := Kd.S_form S9.out (by omega)
      injection hv with hA hn_ hc
      subst hA hc
      clear hn_ HH
      have HH := Aside0.mk h
      have K2L := Aside0.mk hk2
      clear h
      obtain ⟨x7, hx7⟩ : ∃ x, rd_T68 C2 (k1 : Int) = x := ⟨_, rfl⟩
      rw [hx7] at hl4 hf1 HH
      obtain ⟨v7, e2, hR7, hv7, hback⟩ := cs_inner S9.out (k1 : Int) (by omega) (by omega)
      rw [hx7] at hR7 hback
      obtain ⟨gk, ck, rfl, _, _, _⟩ := Kd.R_form hR7 (by omega)
      rw [hl4] at hR7 e2 hback hv7
      simp only [Int.toNat_natCast] at e2 hback
      obtain ⟨hPk, hngk⟩ := hv7 gk rfl
      have R7 := Aside0.mk hR7
      have BK := Aside0.mk hback
      have E2 := Aside0.mk e2
      have PK := Aside0.mk hPk
      have L4 := Aside0.mk hl4
      have F1 := Aside0.mk hf1
      have p3 : ((k1 : Int) < (C2.length : Int)) = True := eq_true (by omega)
      clear hR7 hback e2 hPk hv7 hl4 hf1 hk2 hngk hx7
      try go_wp2
      refine start_ (n := 12) (S := fun w' => w'.cell? ⟨db, 0, none⟩ = some (.slice (some ⟨g7, 0, none⟩) C2.length c7) ∧ w'.cell? ⟨g7, k1 * 3 + 2, none⟩ = some (.slice (some ⟨gk, 0, none⟩) 4 ck)) (ds := [11]) #[false, false, false, false, false, false, false, false, false, false, false, false] (by kernel_rfl) rfl rfl ⟨(blk_cell D9.out 0).trans rfl, E2.out⟩ (fun hHeld => ?_)
      replace D9 := Aside0.mk (blk_drew D9.out)
      replace Z9 := Aside0.mk (blk_drew Z9.out)
      replace S9 := Aside0.mk (Kd.S_drew S9.out)
      replace R7 := Aside0.mk (Kd.R_drew R7.out)
      replace B9 := Aside0.mk (below_drew1 B9.out)
      replace K9 := Aside0.mk K9.out.drew
      have BW := Aside0.mk (show Kept w9 w9.drew (fun _ => False) from (Kept.refl _ _).drew)
      generalize w9.drew = wD at D9 Z9 S9 R7 B9 K9 BW hHeld ⊢
      clear E2
      refine take_ (i := 0) (N := some 79) (v := ?_) (a' := ?_) #[true, false, false, false, false, false, false, false, false, false, false, false] rfl rfl (by kernel_rfl) (fun _ _ _ h => h) (Or.inl ⟨by rfl, ?_⟩) hHeld ?_ ?_
      rotate_left
      ·rintro w' ⟨s0, s1⟩
       go_simp
       with_reducible rfl
      rotate_left
      ·simp only [Act.put, List.setIfInBounds_toArray, List.set_cons_zero, List.set_cons_succ, i64_w, i32_w]
       rfl
      refine take_ (i := 1) (N := some 80) (v := ?_) (a' := ?_) #[true, true, false, false, false, false, false, false, false, false, false, false] rfl rfl (by kernel_rfl) (fun _ _ _ h => h) (Or.inl ⟨by rfl, ?_⟩) hHeld ?_ ?_
      rotate_left
      ·rintro w' ⟨s0, s1⟩
       go_simp
       with_reducible rfl
      rotate_left
      ·simp only [Act.put, List.setIfInBounds_toArray, List.set_cons_zero, List.set_cons_succ, i64_w, i32_w]
       rfl
      refine take_ (i := 2) (N := some 81) (v := ?_) (a' := ?_) #[true, true, true, false, false, false, false, false, false, false, false, false] rfl rfl (by kernel_rfl) (fun _ _ _ h => h) (Or.inl ⟨by rfl, ?_⟩) hHeld ?_ ?_
      rotate_left
      ·rintro w' ⟨s0, s1⟩
       go_simp
       with_reducible rfl
      rotate_left
      ·simp only [Act.put, List.setIfInBounds_toArray, List.set_cons_zero, List.set_cons_succ, i64_w, i32_w]
       rfl
      refine take_ (i := 3) (N := some 82) (v := ?_) (a' := ?_) #[true, true, true, true, false, false, false, false, false, false, false, false] rfl rfl (by kernel_rfl) (fun _ _ _ h => h) (Or.inl ⟨by rfl, ?_⟩) hHeld ?_ ?_
      rotate_left
      ·rintro w' ⟨s0, s1⟩
       go_simp
       with_reducible rfl
      rotate_left
      ·simp only [Act.put, List.setIfInBounds_toArray, List.set_cons_zero, List.set_cons_succ, i64_w, i32_w]
       rfl
      refine take_ (i := 4) (N := some 83) (v := ?_) (a' := ?_) #[true, true, true, true, true, false, false, false, false, false, false, false] rfl rfl (by kernel_rfl) (fun _ _ _ h => h) (Or.inl ⟨by rfl, ?_⟩) hHeld ?_ ?_
      rotate_left
      ·rintro w' ⟨s0, s1⟩
       go_simp
       with_reducible rfl
      rotate_left
      ·simp only [Act.put, List.setIfInBounds_toArray, List.set_cons_zero, List.set_cons_succ, i64_w, i32_w]
       rfl
      refine take_ (i := 5) (N := some 84) (v := ?_) (a' := ?_) #[true, true, true, true, true, true, false, false, false, false, false, false] rfl rfl (by kernel_rfl) (fun _ _ _ h => h) (Or.inl ⟨by rfl, ?_⟩) hHeld ?_ ?_
      rotate_left
      ·rintro w' ⟨s0, s1⟩
       go_simp
       with_reducible rfl
      rotate_left
      ·simp only [Act.put, List.setIfInBounds_toArray, List.set_cons_zero, List.set_cons_succ, i64_w, i32_w]
       rfl
      refine take_ (i := 6) (N := some 85) (v := ?_) (a' := ?_) #[true, true, true, true, true, true, true, false, false, false, false, false] rfl rfl (by kernel_rfl) (fun _ _ _ h => h) (Or.inl ⟨by rfl, ?_⟩) hHeld ?_ ?_
      rotate_left
      ·rintro w' ⟨s0, s1⟩
       go_simp
       with_reducible rfl
      rotate_left
      ·simp only [Act.put, List.setIfInBounds_toArray, List.set_cons_zero, List.set_cons_succ, i64_w, i32_w]
       rfl
      refine take_ (i := 7) (N := some 86) (v := ?_) (a' := ?_) #[true, true, true, true, true, true, true, true, false, false, false, false] rfl rfl (by kernel_rfl) (fun _ _ _ h => h) (Or.inl ⟨by rfl, ?_⟩) hHeld ?_ ?_
      rotate_left
      ·rintro w' ⟨s0, s1⟩
       go_simp
       with_reducible rfl
      rotate_left
      ·simp only [Act.put, List.setIfInBounds_toArray, List.set_cons_zero, List.set_cons_succ, i64_w, i32_w]
       rfl
      refine take_ (i := 8) (N := some 87) (v := ?_) (a' := ?_) #[true, true, true, true, true, true, true, true, true, false, false, false] rfl rfl (by kernel_rfl) (fun _ _ _ h => h) (Or.inl ⟨by rfl, ?_⟩) hHeld ?_ ?_
      rotate_left
      ·rintro w' ⟨s0, s1⟩
       go_simp
       with_reducible rfl
      rotate_left
      ·simp only [Act.put, List.setIfInBounds_toArray, List.set_cons_zero, List.set_cons_succ, i64_w, i32_w, hdd]
       rfl
      refine take_ (i := 9) (N := some 88) (v := ?_) (a' := ?_) #[true, true, true, true, true, true, true, true, true, true, false, false] rfl rfl (by kernel_rfl) (fun _ _ _ h => h) (Or.inl ⟨by rfl, ?_⟩) hHeld ?_ ?_
      rotate_left
      ·rintro w' ⟨s0, s1⟩
       go_simp
       with_reducible rfl
      rotate_left
      ·simp only [Act.put, List.setIfInBounds_toArray, List.set_cons_zero, List.set_cons_succ, i64_w, i32_w]
       rfl
      refine take_ (i := 10) (N := some 89) (v := ?_) (a' := ?_) #[true, true, true, true, true, true, true, true, true, true, true, false] rfl rfl (by kernel_rfl) (fun _ _ _ h => h) (Or.inl ⟨by rfl, ?_⟩) hHeld ?_ ?_
      rotate_left
      ·rintro w' ⟨s0, s1⟩
       go_simp
       with_reducible rfl
      rotate_left
      ·simp only [Act.put, List.setIfInBounds_toArray, List.set_cons_zero, List.set_cons_succ, i64_w, i32_w]
       rfl
      obtain ⟨ad9, e9, hy9⟩ := Kd.at_int (Kd.R_reads' R7.out).2.2 (d : Int) (by omega) (by have := L4.out; have := D4.out; omega)
      injection e9 with e9
      subst e9
      rw [show (⟨gk, 0, none⟩ : Addr).add ((d : Int).toNat) = ⟨gk, d, none⟩ by by_cases h : d = 0 <;> simp [Addr.add, h]] at hy9
      have hl9 : 0 < (x7.f2).length := by have := L4.out; omega
      obtain ⟨g_, c_, e_, _, _, cells9, hcl9⟩ := Kd.R_form R7.out hl9
      obtain rfl : gk = g_ := by injection e_ with e_ _ _; injection e_ with e_; injection e_
      have hf9 := blk_frozen hcl9 d
      refine last_ (i := 11) (N := none) #[true, true, true, true, true, true, true, true, true, true, true, true] rfl rfl (by kernel_rfl) (by decide) (fun K hK => ?_)
      refine skip_ (w1 := wD.setCell ⟨gk, d, none⟩ (.int .i64 zq)) (by rfl) rfl ?_ ?_
      ·first | (go_simp; done) | (go_simp; rfl)
      refine hK.out _ _ ?_
      clear hK K
      refine done_ (by kernel_rfl) ?_
      clear hHeld
      clear hy9 hf9 hcl9 hl9 e_
      have RP := Kd.R_putn R7.out d zq
      have KP : Kept wD (wD.setCell ⟨gk, d, none⟩ (.int .i64 zq)) (fun k => some k = (Value.slice (some ⟨gk, 0, none⟩) 4 ck).ownBlock) := (Kept.refl wD (fun k => some k = (Value.slice (some ⟨gk, 0, none⟩) 4 ck).ownBlock)).setCell (p := ⟨gk, d, none⟩) (.inl rfl) _
      have SA := Aside0.mk (BK.out _ (x7.f2.set d zq) ((BW.out.mono (fun _ h => h.elim)).then_ KP (fun j hj => .inl hj)) (Kd.R_mono RP (fun _ _ => trivial)))
      have DA := Aside0.mk (blk_kept D9.out KP (fun h_ => PK.out.2 (Option.some.inj h_).symm))
      have ZA := Aside0.mk (blk_kept Z9.out KP (fun h_ => PK.out.1.2.2 (Option.some.inj h_).symm))
      have BA := Aside0.mk (below_set B9.out (Kd.R_base R7.out gk rfl) : Below w0.heap.size w0 (wD.setCell ⟨gk, d, none⟩ (.int .i64 zq)))
      have KA := Aside0.mk (K9.out.then_ KP (fun j hj => .inl (by rw [show j = gk from Option.some.inj hj]; exact PK.out.1.1)))
      generalize wD.setCell ⟨gk, d, none⟩ (.int .i64 zq) = wA at RP KP SA DA ZA BA KA ⊢
      clear KP RP S9 D9 Z9 R7 B9 K9 BW BK hdd
      have hkC := K2L.out
      have hrdx := rd_cl_set (xs := C2) hkC (⟨x7.f0, x7.f1, x7.f2.set d zq⟩ : CL)
      have hlx : (C2.set k1 (⟨x7.f0, x7.f1, x7.f2.set d zq⟩ : CL)).length = C2.length := List.length_set
      generalize hC9 : C2.set k1 (⟨x7.f0, x7.f1, x7.f2.set d zq⟩ : CL) = C9 at SA HH hrdx hlx
      obtain ⟨_, v9, f0, f1, f2, hfr2, _, hR9, _⟩ := cs_elem SA.out (k1 : Int) (by omega) (by omega)
      simp only [Int.toNat_natCast] at f0 f1 f2 hfr2
      rw [hrdx] at f0 f1 hR9
      obtain ⟨A9, c9, rfl⟩ := Kd.R_slice hR9
      obtain ⟨ks, hks⟩ : ∃ ks, x7.f2.set d zq = ks := ⟨_, rfl⟩
      have hl9 : ks.length = 4 := by rw [← hks, List.length_set]; exact L4.out
      rw [hks] at hR9 f2 HH
      rw [hl9] at f2
      have KS := Aside0.mk (show (Kd.int .i64).C wA A9 4 ks by have h_ := (Kd.R_reads' hR9).2.2; simp only [hl9] at h_; exact h_)
      have g0 : wA.cell? ⟨db, 0, none⟩ = some (.slice (some ⟨g7, 0, none⟩) C2.length c7) := (blk_cell DA.out 0).trans rfl
      have HC9 := Aside0.mk hC9
      have HLX := Aside0.mk hlx
      have HL9 := Aside0.mk hl9
      have fz0 : wA.frozen? ⟨g7, k1 * 3, none⟩ = false := hfr2 0
      have fz1 := hfr2 1
      have fz2 := hfr2 2
      clear hR9 hfr2 hC9 hlx hl9 hks hrdx
      try go_wp2
      go_loopw [16, 97] (fun v16 vi wr => ∃ q : Nat, q ≤ 4 ∧ vi = .int .i64 q ∧ wr = wA ∧ Aside0 (∀ n : Nat, n < q → rd ks (n : Int) < 0)) (fun v16 vi _ => 4 - (intOf vi).toNat)
      case atStart => exact ⟨0, by omega, rfl, rfl, ⟨fun n h => by omega⟩⟩
      case round =>
       obtain ⟨q, hq, rfl, rfl, HN0⟩ := hrel
       have g1 : wr.cell? ⟨db, 1, none⟩ = some (.slice A1 n1 c1) := (blk_cell DA.out 1).trans rfl
       have g2 : wr.cell? ⟨db, 2, none⟩ = some (.int .i64 L) := (blk_cell DA.out 2).trans rfl
       have r0 : wr.cell? ⟨W1.heap.size, 0, none⟩ = some (.slice none 0 0) := (blk_cell ZA.out 0).trans rfl
       have r1 : wr.cell? ⟨W1.heap.size, 1, none⟩ = some (.slice none 0 0) := (blk_cell ZA.out 1).trans rfl
       have r2 : wr.cell? ⟨W1.heap.size, 2, none⟩ = some (.int .i64 0) := (blk_cell ZA.out 2).trans rfl
       have s0 := blk_frozen ZA.out 0
       have s1 := blk_frozen ZA.out 1
       have s2 := blk_frozen ZA.out 2
       by_cases hql : q < 4
       ·have hqq : ((q : Int) < 4) = True := eq_true (by omega)
        have hqq2 : (q < 4) = True := eq_true hql
        obtain ⟨adq, eq_, hyq⟩ := Kd.at_int KS.out (q : Int) (by omega) (by have := HL9.out; omega)
        subst eq_
        simp only [Int.toNat_natCast] at hyq
        obtain ⟨o, ho⟩ : ∃ o, rd ks (q : Int) = o := ⟨_, rfl⟩
        rw [ho] at hyq
        by_cases h0 : 0 ≤ o
        ·have o1 : (o ≥ 0) = True := eq_true h0
         have o2 : (0 ≤ o) = True := eq_true h0
         have hsk : someKid ks = true := some_hit (q := q) (by have := HL9.out; omega) (by rw [ho]; exact h0)
         have h := HH.out
         rw [if_pos hsk] at h
         have e_ := Option.some.inj h
         subst e_
         clear h h0 ho hsk
         go_wp2
         refine bodyPost_ret (results_ct rfl _ _ W1.heap.size 25 #[.slice (some ⟨g7, 0, none⟩) C2.length c7, .slice A1 n1 c1, .int .i64 L] (0, 0) _ rfl (put3 ZA.out _ _ _) Try.underlying25 rfl (by kernel_rfl)) rfl ?_
         have hz : xg ≤ W1.heap.size := Nat.le_of_lt XZ.out
         exact ⟨_, rfl, Kd.S_mono (far3 SA.out ZA.out) (fun k hk => hk.1.1), below3 BA.out (Nat.le_trans BX.out hz), keep3 KA.out (.inr (HXG.out ▸ hz))⟩
        ·have o1 : (o ≥ 0) = False := eq_false h0
         have o2 : (0 ≤ o) = False := eq_false h0
         have HO := Aside0.mk (show rd ks (q : Int) < 0 by omega)
         clear h0 ho
         go_wp2
         go_roundw
         case rel => exact ⟨q + 1, by omega, by go_num, (by first | trivial | rfl), ⟨fun n hn => by
          by_cases h : n = q
          ·subst h; exact HO.out
          ·exact HN0.out n (by omega)⟩⟩
         case measure => simp [intOf]; omega
       ·have hqq : ((q : Int) < 4) = False := eq_false (by omega)
        have hqq2 : (q < 4) = False := eq_false hql
        have hsk : someKid ks = false := some_miss (fun n hn => HN0.out n (by have := HL9.out; omega))
        have h := HH.out
        rw [if_neg (by rw [hsk]; decide)] at h
        have e_ := Option.some.inj h
        subst e_
        obtain ⟨wB, hwB⟩ : ∃ W, ((wr.setCell ⟨g7, k1 * 3, none⟩ (.int .i64 0)).setCell ⟨g7, k1 * 3 + 1, none⟩ (.string ⟨#[]⟩)).setCell ⟨g7, k1 * 3 + 2, none⟩ (.slice none 0 0) = W := ⟨_, rfl⟩
        have hPg := (Kd.S_R SA.out).1 g7 rfl
        have hBg := Kd.S_base SA.out g7 rfl
        have KKB : Kept wr wB (fun j => j = g7) := by rw [← hwB]; exact (((Kept.refl wr (fun j => j = g7)).setCell (p := ⟨g7, k1 * 3, none⟩) (.inl rfl) _).setCell (p := ⟨g7, k1 * 3 + 1, none⟩) (.inl rfl) _).setCell (p := ⟨g7, k1 * 3 + 2, none⟩) (.inl rfl) _
        have SB := cs_zero SA.out (k1 : Int) (by omega) (by have := K2L.out; omega)
        simp only [Int.toNat_natCast] at SB
        rw [hwB, ← HC9.out, List.set_set] at SB
        have SB := Aside0.mk SB
        have DB2 := Aside0.mk (blk_kept DA.out KKB (fun e_ => hPg.2 e_.symm))
        have ZB := Aside0.mk (blk_kept ZA.out KKB (fun e_ => hPg.1.2.2 e_.symm))
        have BB := Aside0.mk (show Below w0.heap.size w0 wB by rw [← hwB]; exact below_set (below_set (below_set BA.out hBg) hBg) hBg)
        have KB := Aside0.mk (KA.out.then_ KKB (fun j hj => .inl (by rw [hj]; exact hPg.1.1)))
        have b0 : wB.cell? ⟨db, 0, none⟩ = some (.slice (some ⟨g7, 0, none⟩) C2.length c7) := (blk_cell DB2.out 0).trans rfl
        have b1 : wB.cell? ⟨db, 1, none⟩ = some (.slice A1 n1 c1) := (blk_cell DB2.out 1).trans rfl
        have b2 : wB.cell? ⟨db, 2, none⟩ = some (.int .i64 L) := (blk_cell DB2.out 2).trans rfl
        clear r0 r1 r2 s0 s1 s2
        have r0 : wB.cell? ⟨W1.heap.size, 0, none⟩ = some (.slice none 0 0) := (blk_cell ZB.out 0).trans rfl
        have r1 : wB.cell? ⟨W1.heap.size, 1, none⟩ = some (.slice none 0 0) := (blk_cell ZB.out 1).trans rfl
        have r2 : wB.cell? ⟨W1.heap.size, 2, none⟩ = some (.int .i64 0) := (blk_cell ZB.out 2).trans rfl
        have s0 := blk_frozen ZB.out 0
        have s1 := blk_frozen ZB.out 1
        have s2 := blk_frozen ZB.out 2
        clear h hsk hPg hBg KKB hql hq HN0
        go_wp2
        refine bodyPost_ret (results_ct rfl _ _ W1.heap.size 25 #[.slice (some ⟨g7, 0, none⟩) C2.length c7, .slice A1 n1 c1, .int .i64 L] (0, 0) _ rfl (put3 ZB.out _ _ _) Try.underlying25 rfl (by kernel_rfl)) rfl ?_
        have hz : xg ≤ W1.heap.size := Nat.le_of_lt XZ.out
        exact ⟨_, rfl, Kd.S_mono (far3 SB.out ZB.out) (fun k hk => hk.1.1), below3 BB.out (Nat.le_trans BX.out hz), keep3 KB.out (.inr (HXG.out ▸ hz))⟩
     ·cases h
   ·have h_ := (if_neg hd).symm.trans h
    cases h_
end Go.Proofs.Ytacfalpgmibfnaa.PCow
namespace Go.Proofs.Ytacfalpgmibfnaa.PCow
open Go.RowKit Go.Proofs.YtacfalpgmibfnaaW.PrintWords Go.Proofs.YtacfalpgmibfnaaW.PrintLast Go.Proofs.YtacfalpgmibfnaaW.PrintMore Go.Proofs.Ytacfalpgmibfnaa.E
set_option linter.unusedSimpArgs false
set_option linter.unusedVariables false
def dgI (a : Int) (j : Nat) : Int := (impl_digit.f a (j : Int)).getD 0
theorem dgI_some (a : Int) (j : Nat) (h2 : 2 ≤ j) (h : j ≤ 1000) : impl_digit.f a (j : Int) = some (dgI a j) := by
 unfold dgI
 have e : ∃ r, impl_digit.f a (j : Int) = some r := by
  unfold impl_digit.f
  rw [if_pos (by rw [w64 (x := (j : Int) - 2) (by omega) (by omega), w64 (by omega) (by omega)]; omega)]
  exact ⟨_, rfl⟩
 obtain ⟨r, e⟩ := e
 rw [e]
 rfl
def putR (at_ : Int) (leaf lf : ByteArray) (C : List CL) (R : List Int) (L root : Int) : Option (List CL × List Int) :=
 if lf = leaf then some (C, R) else (if 0 ≤ root ∧ root < (R.length : Int) then (putM (dgI at_) leaf L.toNat C (rd R root)).bind fun q => some (q.1, R.set root.toNat q.2) else none)
def putI (k : Nat) (C : List CL) (R : List Int) (L root at_ : Int) (leaf : ByteArray) : Option (List CL × List Int × Int × Bool) :=
 if ownB C R = true ∧ 0 ≤ L ∧ L ≤ 1000 then ((impl_Cow_leafAt.f k C R L root at_).bind fun lf => (putR at_ leaf lf C R L root).bind fun o => (impl_GoodCow.f o.1 o.2 L).bind fun g => if g = true then some (o.1, o.2, L, true) else some ([], [], 0, false)) else none
def impl_PutLeaf.f (k : Nat) (C : List CL) (R : List Int) (L root at_ : Int) (leaf : ByteArray) : Option (List CL × List Int × Int × Bool) :=
 (impl_isRoot.f C R L root).bind fun b => if b = true then ((impl_Cow_places.f C R L).bind fun p => (impl_within.f at_ 0 (wrap64 (p - 1))).bind fun t => if t = true then (if (leaf.size : Int) > 8 then some ([], [], 0, false) else putI k C R L root at_ leaf) else some ([], [], 0, false)) else some ([], [], 0, false)
end Go.Proofs.Ytacfalpgmibfnaa.PCow
