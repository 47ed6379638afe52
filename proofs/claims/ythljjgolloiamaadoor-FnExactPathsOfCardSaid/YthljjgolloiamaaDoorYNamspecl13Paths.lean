-- of this session: its walks are told by a program (wip/ext.py) out of the translation
import Derived.Test.YthljjgolloiamaaDoorYNamx0
namespace Go.Proofs.YthljjgolloiamaaDoor.PNam
open Go.RowKit Go.Proofs.YthljjgolloiamaaDoorW.PrintWords Go.Proofs.YthljjgolloiamaaDoorW.PrintLast Go.Proofs.YthljjgolloiamaaDoorW.PrintMore
attribute [local go_sem] max2_int min2_int max_two min_two max_three min_three max_four min_four   -- for this text's walks alone
set_option linter.unusedVariables false
set_option linter.unusedSimpArgs false

attribute [local go_sem high] E.leq_str E.geq_str E.gtr_str
/-! ### spec_l13Paths: function 50 -/
mutual
def spec_l13Paths.l0 : Nat → ByteArray → List ByteArray → List (S60) → Int → Int → List (S76) → Option (List ByteArray)
 | 0, _, _, _, _, _, _ => none
 | k + 1, x2, x3, x19, x20, x21, x308000 => if x21 < x20 then (if 0 ≤ x21 then (if x21 < (x19.length : Int) then (if x2.size + 1 ≤ 9223372036854775807 then (if (x2 ++ (⟨#[47]⟩ : ByteArray)).size + ((rd_T60 x19 x21).f0).size ≤ 9223372036854775807 then (spec_l13Paths.l1 k x2 x3 ((x2 ++ (⟨#[47]⟩ : ByteArray)) ++ ((rd_T60 x19 x21).f0)) 0 x19 x20 x21 x308000 ((rd_T60 x19 x21).f0) ((rd_T60 x19 x21).f1)) else (none)) else (none)) else (none)) else (none)) else (some x3)
def spec_l13Paths.l1 : Nat → ByteArray → List ByteArray → ByteArray → Int → List (S60) → Int → Int → List (S76) → ByteArray → Int → Option (List ByteArray)
 | 0, _, _, _, _, _, _, _, _, _, _ => none
 | k + 1, x2, x3, x11, x12, x19, x20, x21, x308000, x311000, x311001 => if x12 < (x3.length : Int) then (if 0 ≤ x12 then (if (Op.bytesLess ((rdOf ByteArray.empty x3 x12).toList) x11.toList) = true then (spec_l13Paths.l1 k x2 x3 x11 (wrap64 (x12 + 1)) x19 x20 x21 x308000 x311000 x311001) else (if x12 ≤ (x3.length : Int) then ((some (x3.take (x12 : Int).toNat : List ByteArray)).bind fun y312 => (if ([] : List ByteArray).length + y312.length < 8796093022208 then ((some (([] : List ByteArray) ++ y312 : List ByteArray)).bind fun y317 => (if y317.length < 8796093022208 then ((some (y317 ++ [x11] : List ByteArray)).bind fun y320 => ((some (x3.drop (x12 : Int).toNat : List ByteArray)).bind fun y323 => (if y320.length + y323.length < 8796093022208 then ((spec_l13Paths.f k x308000 x311001 x11 (y320 ++ y323)).bind fun t331 => (spec_l13Paths.l0 k x2 t331 x19 x20 (wrap64 (x21 + 1)) x308000)) else (none)))) else (none))) else (none))) else (none))) else (none)) else (if 0 ≤ x12 then (if x12 ≤ (x3.length : Int) then ((some (x3.take (x12 : Int).toNat : List ByteArray)).bind fun y334 => (if ([] : List ByteArray).length + y334.length < 8796093022208 then ((some (([] : List ByteArray) ++ y334 : List ByteArray)).bind fun y339 => (if y339.length < 8796093022208 then ((some (y339 ++ [x11] : List ByteArray)).bind fun y342 => ((some (x3.drop (x12 : Int).toNat : List ByteArray)).bind fun y345 => (if y342.length + y345.length < 8796093022208 then ((spec_l13Paths.f k x308000 x311001 x11 (y342 ++ y345)).bind fun t353 => (spec_l13Paths.l0 k x2 t353 x19 x20 (wrap64 (x21 + 1)) x308000)) else (none)))) else (none))) else (none))) else (none)) else (none))
def spec_l13Paths.f : Nat → List (S76) → Int → ByteArray → List ByteArray → Option (List ByteArray)
 | 0, _, _, _, _ => none
 | k + 1, l0_0, a1, a2, l3 => if 0 ≤ a1 then (if a1 < (l0_0.length : Int) then (spec_l13Paths.l0 k a2 l3 ((rd_T76 l0_0 a1).f2) (((rd_T76 l0_0 a1).f2).length : Int) 0 l0_0) else (none)) else (none)
end
theorem spec_l13Paths.mono_l : ∀ k, (∀ y0 y1 y2 y3, LeO (spec_l13Paths.f k y0 y1 y2 y3) (spec_l13Paths.f (k + 1) y0 y1 y2 y3)) ∧ (∀ y0 y1 y2 y3 y4 y5, LeO (spec_l13Paths.l0 k y0 y1 y2 y3 y4 y5) (spec_l13Paths.l0 (k + 1) y0 y1 y2 y3 y4 y5)) ∧ (∀ y0 y1 y2 y3 y4 y5 y6 y7 y8 y9, LeO (spec_l13Paths.l1 k y0 y1 y2 y3 y4 y5 y6 y7 y8 y9) (spec_l13Paths.l1 (k + 1) y0 y1 y2 y3 y4 y5 y6 y7 y8 y9))
 | 0 => ⟨fun _ _ _ _ r h => by simp [spec_l13Paths.f] at h, fun _ _ _ _ _ _ r h => by simp [spec_l13Paths.l0] at h, fun _ _ _ _ _ _ _ _ _ _ r h => by simp [spec_l13Paths.l1] at h⟩
 | k + 1 => by
  obtain ⟨ih0, ih1, ih2⟩ := spec_l13Paths.mono_l k
  refine ⟨?_, ?_, ?_⟩
  ·intro y0 y1 y2 y3
   unfold spec_l13Paths.f
   repeat' first
   | (with_reducible exact ih0 _ _ _ _)
   | (with_reducible exact ih1 _ _ _ _ _ _)
   | (with_reducible exact ih2 _ _ _ _ _ _ _ _ _ _)
   | (with_reducible exact LeO.refl _)
   | (with_reducible exact LeO.none _)
   | (with_reducible refine LeO.ite ?_ ?_)
   | (with_reducible refine LeO.bind ?_ (fun _ => ?_))
   | exact ih0 _ _ _ _
   | exact ih1 _ _ _ _ _ _
   | exact ih2 _ _ _ _ _ _ _ _ _ _
   | exact LeO.none _
   | refine LeO.ite ?_ ?_
   | refine LeO.bind ?_ (fun _ => ?_)
  ·intro y0 y1 y2 y3 y4 y5
   unfold spec_l13Paths.l0
   repeat' first
   | (with_reducible exact ih0 _ _ _ _)
   | (with_reducible exact ih1 _ _ _ _ _ _)
   | (with_reducible exact ih2 _ _ _ _ _ _ _ _ _ _)
   | (with_reducible exact LeO.refl _)
   | (with_reducible exact LeO.none _)
   | (with_reducible refine LeO.ite ?_ ?_)
   | (with_reducible refine LeO.bind ?_ (fun _ => ?_))
   | exact ih0 _ _ _ _
   | exact ih1 _ _ _ _ _ _
   | exact ih2 _ _ _ _ _ _ _ _ _ _
   | exact LeO.none _
   | refine LeO.ite ?_ ?_
   | refine LeO.bind ?_ (fun _ => ?_)
  ·intro y0 y1 y2 y3 y4 y5 y6 y7 y8 y9
   unfold spec_l13Paths.l1
   repeat' first
   | (with_reducible exact ih0 _ _ _ _)
   | (with_reducible exact ih1 _ _ _ _ _ _)
   | (with_reducible exact ih2 _ _ _ _ _ _ _ _ _ _)
   | (with_reducible exact LeO.refl _)
   | (with_reducible exact LeO.none _)
   | (with_reducible refine LeO.ite ?_ ?_)
   | (with_reducible refine LeO.bind ?_ (fun _ => ?_))
   | exact ih0 _ _ _ _
   | exact ih1 _ _ _ _ _ _
   | exact ih2 _ _ _ _ _ _ _ _ _ _
   | exact LeO.none _
   | refine LeO.ite ?_ ?_
   | refine LeO.bind ?_ (fun _ => ?_)
theorem spec_l13Paths.mono : ∀ a0 a1 a2 a3 k, LeO (spec_l13Paths.f k a0 a1 a2 a3) (spec_l13Paths.f (k + 1) a0 a1 a2 a3) := by
 intro a0 a1 a2 a3 k
 obtain ⟨ih0, ih1, ih2⟩ := spec_l13Paths.mono_l k
 exact ih0 a0 a1 a2 a3
set_option maxHeartbeats 8000000 in
set_option maxRecDepth 100000 in
theorem spec_l13Paths.calls (k : Nat) : ∀ (A0_0 : Option Addr) (c0_0 : Nat) (l0_0 : List (S76)) (a1 : Int) (a2 : ByteArray) (P3_ : Nat → Prop) (A3 : Option Addr) (c3 : Nat) (l3 : List ByteArray) (r : List ByteArray) (w : World) (hr0_0 : Kd.C k76 w A0_0 l0_0.length l0_0) (hc0_0 : l0_0.length ≤ c0_0) (hs3 : Kd.V Kd.string 9 w w.heap.size (fun k_ => P3_ k_) (.slice A3 l3.length c3) l3) (h : spec_l13Paths.f k l0_0 a1 a2 l3 = some r),
  Calls Tryd.prog 50 #[.agg #[.slice A0_0 l0_0.length c0_0], .int .i64 a1, .string a2, .slice A3 l3.length c3] w fun e w' => ∃ v0_ : Value, e = .returned (v0_) ∧ Kd.V Kd.string 9 w' w.heap.size (fun k_ => (P3_ k_ ∨ w.heap.size ≤ k_)) v0_ r ∧ Below w.heap.size w w' := by
 induction k using Nat.strongRecOn with
 | _ k ih =>
 intro A0_0 c0_0 l0_0 a1 a2 P3_ A3 c3 l3 r w hr0_0 hc0_0 hs3 h
 cases k with
 | zero => exact absurd h (by simp [spec_l13Paths.f])
 | succ k =>
 simp only [spec_l13Paths.f] at h
 have hu30 := Tryd.underlying30
 have hu60 := Tryd.underlying60
 have HR0_0 := Aside0.mk hr0_0
 have HC0_0 := Aside0.mk hc0_0
 clear hr0_0 hc0_0
 have HO3 := Aside0.mk (show Kd.V Kd.string 9 w w.heap.size (fun k_ => (P3_ k_ ∨ w.heap.size ≤ k_)) (.slice A3 l3.length c3) l3 from Kd.V_mono hs3 (fun k_ hk => .inl hk))
 have HB := Aside0.mk (Below.refl w.heap.size w)
 have H : (if 0 ≤ a1 then (if a1 < (l0_0.length : Int) then (spec_l13Paths.l0 k a2 l3 ((rd_T76 l0_0 a1).f2) (((rd_T76 l0_0 a1).f2).length : Int) 0 l0_0) else (none)) else (none)) = some r := h
 clear h
 by_cases c5 : 0 ≤ a1
 ·rw [if_pos c5] at H
  have c5b0 : decide (0 ≤ a1) = true := decide_eq_true c5
  clear c5
  by_cases c6 : a1 < (l0_0.length : Int)
  ·rw [if_pos c6] at H
   have c6b0 : decide (a1 < (l0_0.length : Int)) = true := decide_eq_true c6
   clear c6
   have H' := Aside0.mk H
   clear H
   go_enter Tryd.func50, Tryd.ntmps50
   go_wp2_with (first | ((with_reducible refine gate_dst (N := 4) rfl ?_); refine box_event ?hg (N := 4) ?hd (cs := #[.slice A0_0 l0_0.length c0_0]) (t := 30) ?hr ?_; (case hd => rfl); (case hg => rfl); (case hr => first | (go_simp; done) | (go_simp; rfl)); intro gb307 hg w7 hbox hb; replace HO3 := Aside0.mk (Kd.V_below (Kd.V_elderB (by (with_reducible repeat (first | apply Kd.V_alloc | apply Kd.V_drewN | apply Kd.V_drew)); exact HO3.out) gb307 (Nat.le_of_eq hg.symm)) hb); have BK307 := Aside0.mk (hbox); have GW307 := Aside0.mk ((by rw [hg]; exact (below_size (by with_reducible repeat (first | exact HB.out | apply below_alloc | apply pw_below_drewN | apply below_drew1))) : w.heap.size ≤ gb307)); have GE307 := Aside0.mk ((by rw [hg]; exact (below_size (by with_reducible repeat (first | exact HB.out | apply below_alloc | apply pw_below_drewN | apply below_drew1))) : w.heap.size ≤ gb307)); replace HB := Aside0.mk (below_step (by with_reducible repeat (first | exact HB.out | apply below_alloc | apply pw_below_drewN | apply below_drew1)) hb); clear hb hbox hg; have hcz8_0 : w7.cell? ⟨gb307, 0, none⟩ = some (.slice A0_0 l0_0.length c0_0) := (blk_cell BK307.out 0).trans rfl; have hfz8_0 := blk_frozen BK307.out 0; have p308 : 0 ≤ (a1 : Int) := of_decide_eq_true (by assumption); have q308 : a1 < (l0_0.length : Int) := of_decide_eq_true (by assumption); obtain ⟨ad308, A308_2, c308_2, e308, hx308_0, hx308_1, hx308_2, hl308_2, hi308_2⟩ := at_T76 HR0_0.out a1 p308 q308; cases e308; replace hx308_0 := (HB.out.cell (World.block_lt_of_cell? w _ hx308_0)).trans hx308_0; replace hx308_1 := (HB.out.cell (World.block_lt_of_cell? w _ hx308_1)).trans hx308_1; replace hx308_2 := (HB.out.cell (World.block_lt_of_cell? w _ hx308_2)).trans hx308_2; have HR308_2 := Aside0.mk hi308_2; have HC308_2 := Aside0.mk hl308_2; clear hi308_2 hl308_2; replace p308 := eq_true p308; replace q308 := eq_true q308))
   go_loopg [3, 21] k (fun kq v3 v21 w' => ∃ (x3_1 : List ByteArray) (x21_1 : Int), v21 = .int .i64 x21_1 ∧ Aside0 (spec_l13Paths.l0 kq a2 x3_1 ((rd_T76 l0_0 a1).f2) (((rd_T76 l0_0 a1).f2).length : Int) x21_1 l0_0 = some r) ∧ Aside0 (kq ≤ k) ∧ Aside0 (Kd.V Kd.string 9 w' w.heap.size (fun k_ => (P3_ k_ ∨ w.heap.size ≤ k_) ∧ k_ ≠ gb307) v3 x3_1) ∧ Aside0 (w'.heap[gb307]? = some (.cells #[(.slice (some ad308) l0_0.length c0_0)] 30 (0, 0))) ∧ Aside0 (Below w.heap.size w w'))
   case atStart => exact ⟨(l3), (0), (by first | rfl | (simp; done) | (simp [*]; done)), H', ⟨Nat.le_refl _⟩, ⟨by (with_reducible repeat (first | apply Kd.V_alloc | apply Kd.V_drewN | apply Kd.V_drew)); exact HO3.out⟩, ⟨by (with_reducible repeat (first | refine blk_drewN ?_ _ | refine blk_drew ?_ | refine blk_alloc ?_ _)); exact BK307.out⟩, ⟨by with_reducible repeat (first | exact HB.out | apply below_alloc | apply pw_below_drewN | apply below_drew1 | refine below_set ?_ GE307.out)⟩⟩
   case round =>
    clear H'
    try clear p2
    try clear c3
    try clear p3
    try clear q3
    try clear hx3
    try clear c5
    try clear c5b0
    try clear c6
    try clear c6b0
    try clear hcz8_0
    try clear hfz8_0
    try clear hx308_0
    try clear hx308_1
    try clear hx308_2
    try clear p308
    try clear q308
    obtain ⟨x3_1, x21_1, rfl, HA, HK1, HO_3, BK307, HB⟩ := hrel
    cases gk with
    | zero => exact absurd HA.out (by simp [spec_l13Paths.l0])
    | succ k1 =>
     have H := HA.out
     clear HA
     simp only [spec_l13Paths.l0] at H
     by_cases c9 : x21_1 < (((rd_T76 l0_0 a1).f2).length : Int)
     ·rw [if_pos c9] at H
      have c9b0 : decide (x21_1 < (((rd_T76 l0_0 a1).f2).length : Int)) = true := decide_eq_true c9
      clear c9
      by_cases c10 : 0 ≤ x21_1
      ·rw [if_pos c10] at H
       have c10b0 : decide (0 ≤ x21_1) = true := decide_eq_true c10
       clear c10
       by_cases c11 : x21_1 < (((rd_T76 l0_0 a1).f2).length : Int)
       ·rw [if_pos c11] at H
        have c11b0 : decide (x21_1 < (((rd_T76 l0_0 a1).f2).length : Int)) = true := decide_eq_true c11
        clear c11
        by_cases c12 : a2.size + 1 ≤ 9223372036854775807
        ·rw [if_pos c12] at H
         have c12b0 := eq_true c12
         have c12b1 : decide (a2.size + 1 ≤ 9223372036854775807) = true := decide_eq_true c12
         try have c12b2 : (9223372036854775807 < a2.size + 1) = False := eq_false (Nat.not_lt.2 c12)
         by_cases c13 : (a2 ++ (⟨#[47]⟩ : ByteArray)).size + ((rd_T60 ((rd_T76 l0_0 a1).f2) x21_1).f0).size ≤ 9223372036854775807
         ·rw [if_pos c13] at H
          have c13b0 := eq_true c13
          have c13b1 : decide ((a2 ++ (⟨#[47]⟩ : ByteArray)).size + ((rd_T60 ((rd_T76 l0_0 a1).f2) x21_1).f0).size ≤ 9223372036854775807) = true := decide_eq_true c13
          try have c13b2 : (9223372036854775807 < (a2 ++ (⟨#[47]⟩ : ByteArray)).size + ((rd_T60 ((rd_T76 l0_0 a1).f2) x21_1).f0).size) = False := eq_false (Nat.not_lt.2 c13)
          have H' := Aside0.mk H
          clear H
          have p309 : 0 ≤ (x21_1 : Int) := of_decide_eq_true (by assumption)
          have q309 : x21_1 < (((rd_T76 l0_0 a1).f2).length : Int) := of_decide_eq_true (by assumption)
          obtain ⟨ad309, e309, hx309_0, hx309_1⟩ := at_T60 HR308_2.out x21_1 p309 q309
          cases e309
          replace hx309_0 := (HB.out.cell (World.block_lt_of_cell? w _ hx309_0)).trans hx309_0
          replace hx309_1 := (HB.out.cell (World.block_lt_of_cell? w _ hx309_1)).trans hx309_1
          replace p309 := eq_true p309
          replace q309 := eq_true q309
          go_wp2_with (first | ((with_reducible refine gate_dst (N := 10) rfl ?_); refine box_event ?hg (N := 10) ?hd (cs := #[.string (⟨#[]⟩ : ByteArray), .int .i64 0]) (t := 60) ?hr ?_; (case hd => rfl); (case hg => rfl); (case hr => first | (go_simp; done) | (go_simp; rfl)); intro gb310 hg w14 hbox hb; replace HO_3 := Aside0.mk (Kd.V_below (Kd.V_elderB (by (with_reducible repeat (first | apply Kd.V_alloc | apply Kd.V_drewN | apply Kd.V_drew)); exact HO_3.out) gb310 (Nat.le_of_eq hg.symm)) hb); have BK310 := Aside0.mk (hbox); have GW310 := Aside0.mk ((by rw [hg]; exact (below_size (by with_reducible repeat (first | exact HB.out | apply below_alloc | apply pw_below_drewN | apply below_drew1 | refine below_set ?_ GE307.out))) : w.heap.size ≤ gb310)); have GE310 := Aside0.mk ((by rw [hg]; exact (below_size (by with_reducible repeat (first | exact HB.out | apply below_alloc | apply pw_below_drewN | apply below_drew1 | refine below_set ?_ GE307.out))) : w.heap.size ≤ gb310)); replace HB := Aside0.mk (below_step (by with_reducible repeat (first | exact HB.out | apply below_alloc | apply pw_below_drewN | apply below_drew1 | refine below_set ?_ GE307.out)) hb); have NB307_310 := Aside0.mk ((by rw [hg]; exact Nat.ne_of_lt (blk_lt (g := gb307) (o := .cells #[.slice (some ad308) l0_0.length c0_0] 30 (0, 0)) (by (with_reducible repeat (first | refine blk_drewN ?_ _ | refine blk_drew ?_ | refine blk_alloc ?_ _)); exact BK307.out)) : gb307 ≠ gb310)); have NB310_307 := Aside0.mk ((by rw [hg]; exact Nat.ne_of_gt (blk_lt (g := gb307) (o := .cells #[.slice (some ad308) l0_0.length c0_0] 30 (0, 0)) (by (with_reducible repeat (first | refine blk_drewN ?_ _ | refine blk_drew ?_ | refine blk_alloc ?_ _)); exact BK307.out)) : gb310 ≠ gb307)); replace BK307 := Aside0.mk (blk_below (g := gb307) (o := .cells #[.slice (some ad308) l0_0.length c0_0] 30 (0, 0)) (by (with_reducible repeat (first | refine blk_drewN ?_ _ | refine blk_drew ?_ | refine blk_alloc ?_ _)); exact BK307.out) hb); clear hb hbox hg; have hnb15 := NB310_307.out; have hnc15 := NB307_310.out; have hcz16_0 : w14.cell? ⟨gb310, 0, none⟩ = some (.string (⟨#[]⟩ : ByteArray)) := (blk_cell BK310.out 0).trans rfl; have hcz16_1 : w14.cell? ⟨gb310, 1, none⟩ = some (.int .i64 0) := (blk_cell BK310.out 1).trans rfl; have hfz16_0 := blk_frozen BK310.out 0; have hfz16_1 := blk_frozen BK310.out 1))
          go_loopg [12] k1 (fun kq v12 w' => ∃ (x12_2 : Int), v12 = .int .i64 x12_2 ∧ Aside0 (spec_l13Paths.l1 kq a2 x3_1 ((a2 ++ (⟨#[47]⟩ : ByteArray)) ++ ((rd_T60 ((rd_T76 l0_0 a1).f2) x21_1).f0)) x12_2 ((rd_T76 l0_0 a1).f2) (((rd_T76 l0_0 a1).f2).length : Int) x21_1 l0_0 ((rd_T60 ((rd_T76 l0_0 a1).f2) x21_1).f0) ((rd_T60 ((rd_T76 l0_0 a1).f2) x21_1).f1) = some r) ∧ Aside0 (kq ≤ k1) ∧ Aside0 (Kd.V Kd.string 9 w' w.heap.size (fun k_ => (P3_ k_ ∨ w.heap.size ≤ k_) ∧ k_ ≠ gb307 ∧ k_ ≠ gb310) u3 x3_1) ∧ Aside0 (w'.heap[gb307]? = some (.cells #[(.slice (some ad308) l0_0.length c0_0)] 30 (0, 0))) ∧ Aside0 (w'.heap[gb310]? = some (.cells #[.string ((rd_T60 ((rd_T76 l0_0 a1).f2) x21_1).f0), .int .i64 ((rd_T60 ((rd_T76 l0_0 a1).f2) x21_1).f1)] 60 (0, 0))) ∧ Aside0 (Below w.heap.size w w'))
          case atStart => exact ⟨(0), (by first | rfl | (simp; done) | (simp [*]; done)), H', ⟨Nat.le_refl _⟩, ⟨by (with_reducible repeat (first | apply Kd.V_alloc | apply Kd.V_drewN | apply Kd.V_drew)); exact Kd.V_mono (Kd.V_far (p := ⟨gb310, 1, none⟩) (Kd.V_far (p := ⟨gb310, 0, none⟩) (Kd.V_mono HO_3.out (fun k_ hk => (⟨hk, hk.2⟩ : _ ∧ k_ ≠ gb310))) (fun _ hk => hk.2) (.string ((rd_T60 ((rd_T76 l0_0 a1).f2) x21_1).f0))) (fun _ hk => hk.2) (.int .i64 ((rd_T60 ((rd_T76 l0_0 a1).f2) x21_1).f1))) (fun _ hk => ⟨hk.1.1.1, ⟨hk.1.1.2, hk.1.2⟩⟩)⟩, ⟨by (with_reducible repeat (first | refine blk_drewN ?_ _ | refine blk_drew ?_ | refine blk_alloc ?_ _)); refine blk_far ?_ NB307_310.out _; (with_reducible repeat (first | refine blk_drewN ?_ _ | refine blk_drew ?_ | refine blk_alloc ?_ _)); refine blk_far ?_ NB307_310.out _; (with_reducible repeat (first | refine blk_drewN ?_ _ | refine blk_drew ?_ | refine blk_alloc ?_ _)); exact BK307.out⟩, ⟨by (with_reducible repeat (first | refine blk_drewN ?_ _ | refine blk_drew ?_ | refine blk_alloc ?_ _)); refine blk_put (cs := #[.string ((rd_T60 ((rd_T76 l0_0 a1).f2) x21_1).f0), .int .i64 0]) ?_ 1 _ rfl; (with_reducible repeat (first | refine blk_drewN ?_ _ | refine blk_drew ?_ | refine blk_alloc ?_ _)); refine blk_put (cs := #[.string (⟨#[]⟩ : ByteArray), .int .i64 0]) ?_ 0 _ rfl; (with_reducible repeat (first | refine blk_drewN ?_ _ | refine blk_drew ?_ | refine blk_alloc ?_ _)); exact BK310.out⟩, ⟨by with_reducible repeat (first | exact HB.out | apply below_alloc | apply pw_below_drewN | apply below_drew1 | refine below_set ?_ GE307.out | refine below_set ?_ GE310.out)⟩⟩
          case round =>
           clear H'
           try clear c1
           try clear p2
           try clear c3
           try clear p3
           try clear q3
           try clear hx3
           try clear c5
           try clear c5b0
           try clear c6
           try clear c6b0
           try clear c9
           try clear c9b0
           try clear c10
           try clear c10b0
           try clear c11
           try clear c11b0
           try clear c12
           try clear c12b0
           try clear c12b1
           try clear c12b2
           try clear c13
           try clear c13b0
           try clear c13b1
           try clear c13b2
           try clear c15
           try clear hcz16_0
           try clear hcz16_1
           try clear hcz8_0
           try clear hfz16_0
           try clear hfz16_1
           try clear hfz8_0
           try clear hx308_0
           try clear hx308_1
           try clear hx308_2
           try clear hx309_0
           try clear hx309_1
           try clear p2
           try clear p3
           try clear p308
           try clear p309
           try clear q3
           try clear q308
           try clear q309
           obtain ⟨x12_2, rfl, HA, HK2, HO_3, BK307, BK310, HB⟩ := hrel
           cases gk with
           | zero => exact absurd HA.out (by simp [spec_l13Paths.l1])
           | succ k2 =>
            have H := HA.out
            clear HA
            simp only [spec_l13Paths.l1] at H
            by_cases c17 : x12_2 < (x3_1.length : Int)
            ·rw [if_pos c17] at H
             have c17b0 : decide (x12_2 < (x3_1.length : Int)) = true := decide_eq_true c17
             clear c17
             by_cases c18 : 0 ≤ x12_2
             ·rw [if_pos c18] at H
              have c18b0 : decide (0 ≤ x12_2) = true := decide_eq_true c18
              clear c18
              by_cases c19 : (Op.bytesLess ((rdOf ByteArray.empty x3_1 x12_2).toList) ((a2 ++ (⟨#[47]⟩ : ByteArray)) ++ ((rd_T60 ((rd_T76 l0_0 a1).f2) x21_1).f0)).toList) = true
              ·rw [if_pos c19] at H
               have c19b0 : (Op.bytesLess ((rdOf ByteArray.empty x3_1 x12_2).toList) ((a2 ++ (⟨#[47]⟩ : ByteArray)) ++ ((rd_T60 ((rd_T76 l0_0 a1).f2) x21_1).f0)).toList) = true := c19
               clear c19
               have H' := Aside0.mk H
               clear H
               obtain ⟨Ao20, co20, eo20⟩ := Kd.V_slice HO_3.out
               subst eo20
               have p311 : 0 ≤ (x12_2 : Int) := of_decide_eq_true (by assumption)
               have q311 : x12_2 < (x3_1.length : Int) := of_decide_eq_true (by assumption)
               obtain ⟨ad311, e311, hx311_0⟩ := Kd.at_string (Kd.V_reads' HO_3.out).2.2 x12_2 p311 q311
               cases e311
               replace p311 := eq_true p311
               replace q311 := eq_true q311
               go_wp2
               go_roundg k2
               case measure => have := HK1.out; have := HK2.out; omega
               case rel => exact ⟨(wrap64 (x12_2 + 1)), (by first | rfl | (simp; done) | (simp [*]; done)), H', ⟨by have := HK1.out; have := HK2.out; omega⟩, ⟨by (with_reducible repeat (first | apply Kd.V_alloc | apply Kd.V_drewN | apply Kd.V_drew)); exact HO_3.out⟩, ⟨by (with_reducible repeat (first | refine blk_drewN ?_ _ | refine blk_drew ?_ | refine blk_alloc ?_ _)); exact BK307.out⟩, ⟨by (with_reducible repeat (first | refine blk_drewN ?_ _ | refine blk_drew ?_ | refine blk_alloc ?_ _)); exact BK310.out⟩, ⟨by with_reducible repeat (first | exact HB.out | apply below_alloc | apply pw_below_drewN | apply below_drew1 | refine below_set ?_ GE307.out | refine below_set ?_ GE310.out)⟩⟩
              ·rw [if_neg c19] at H
               have c19b0 : (Op.bytesLess ((rdOf ByteArray.empty x3_1 x12_2).toList) ((a2 ++ (⟨#[47]⟩ : ByteArray)) ++ ((rd_T60 ((rd_T76 l0_0 a1).f2) x21_1).f0)).toList) = false := by simpa using c19
               clear c19
               have c21b0 := eq_true (of_decide_eq_true (by assumption) : 0 ≤ x12_2)
               by_cases c22 : x12_2 ≤ (x3_1.length : Int)
               ·rw [if_pos c22] at H
                have c22b0 := eq_true c22
                have c22b1 : decide (x12_2 ≤ (x3_1.length : Int)) = true := decide_eq_true c22
                clear c22
                obtain ⟨y312, hy312⟩ : ∃ y_ : List ByteArray, y_ = (x3_1.take (x12_2 : Int).toNat) := ⟨_, rfl⟩
                replace H : (if ([] : List ByteArray).length + y312.length < 8796093022208 then ((some (([] : List ByteArray) ++ y312 : List ByteArray)).bind fun y317 => (if y317.length < 8796093022208 then ((some (y317 ++ [((a2 ++ (⟨#[47]⟩ : ByteArray)) ++ ((rd_T60 ((rd_T76 l0_0 a1).f2) x21_1).f0))] : List ByteArray)).bind fun y320 => ((some (x3_1.drop (x12_2 : Int).toNat : List ByteArray)).bind fun y323 => (if y320.length + y323.length < 8796093022208 then ((spec_l13Paths.f k2 l0_0 ((rd_T60 ((rd_T76 l0_0 a1).f2) x21_1).f1) ((a2 ++ (⟨#[47]⟩ : ByteArray)) ++ ((rd_T60 ((rd_T76 l0_0 a1).f2) x21_1).f0)) (y320 ++ y323)).bind fun t331 => (spec_l13Paths.l0 k2 a2 t331 ((rd_T76 l0_0 a1).f2) (((rd_T76 l0_0 a1).f2).length : Int) (wrap64 (x21_1 + 1)) l0_0)) else (none)))) else (none))) else (none)) = some r := by first | (rw [hy312]; with_reducible exact H) | (have H2_ := (Option.bind_some _ _).symm.trans H; rw [hy312]; with_reducible exact H2_) | (have H2_ := (Option.bind_some _ _).symm.trans H; with_reducible exact H2_) | with_reducible exact H | (rw [hy312]; exact H) | exact H
                have Ny312 := Aside0.mk hy312
                clear hy312
                by_cases c23 : ([] : List ByteArray).length + y312.length < 8796093022208
                ·rw [if_pos c23] at H
                 have LMc23 := Aside0.mk c23
                 clear c23
                 obtain ⟨y317, hy317⟩ : ∃ y_ : List ByteArray, y_ = (([] : List ByteArray) ++ y312) := ⟨_, rfl⟩
                 replace H : (if y317.length < 8796093022208 then ((some (y317 ++ [((a2 ++ (⟨#[47]⟩ : ByteArray)) ++ ((rd_T60 ((rd_T76 l0_0 a1).f2) x21_1).f0))] : List ByteArray)).bind fun y320 => ((some (x3_1.drop (x12_2 : Int).toNat : List ByteArray)).bind fun y323 => (if y320.length + y323.length < 8796093022208 then ((spec_l13Paths.f k2 l0_0 ((rd_T60 ((rd_T76 l0_0 a1).f2) x21_1).f1) ((a2 ++ (⟨#[47]⟩ : ByteArray)) ++ ((rd_T60 ((rd_T76 l0_0 a1).f2) x21_1).f0)) (y320 ++ y323)).bind fun t331 => (spec_l13Paths.l0 k2 a2 t331 ((rd_T76 l0_0 a1).f2) (((rd_T76 l0_0 a1).f2).length : Int) (wrap64 (x21_1 + 1)) l0_0)) else (none)))) else (none)) = some r := by first | (rw [hy317]; with_reducible exact H) | (have H2_ := (Option.bind_some _ _).symm.trans H; rw [hy317]; with_reducible exact H2_) | (have H2_ := (Option.bind_some _ _).symm.trans H; with_reducible exact H2_) | with_reducible exact H | (rw [hy317]; exact H) | exact H
                 have Ny317 := Aside0.mk hy317
                 clear hy317
                 by_cases c24 : y317.length < 8796093022208
                 ·rw [if_pos c24] at H
                  have LMc24 := Aside0.mk c24
                  clear c24
                  obtain ⟨y320, hy320⟩ : ∃ y_ : List ByteArray, y_ = (y317 ++ [((a2 ++ (⟨#[47]⟩ : ByteArray)) ++ ((rd_T60 ((rd_T76 l0_0 a1).f2) x21_1).f0))]) := ⟨_, rfl⟩
                  replace H : ((some (x3_1.drop (x12_2 : Int).toNat : List ByteArray)).bind fun y323 => (if y320.length + y323.length < 8796093022208 then ((spec_l13Paths.f k2 l0_0 ((rd_T60 ((rd_T76 l0_0 a1).f2) x21_1).f1) ((a2 ++ (⟨#[47]⟩ : ByteArray)) ++ ((rd_T60 ((rd_T76 l0_0 a1).f2) x21_1).f0)) (y320 ++ y323)).bind fun t331 => (spec_l13Paths.l0 k2 a2 t331 ((rd_T76 l0_0 a1).f2) (((rd_T76 l0_0 a1).f2).length : Int) (wrap64 (x21_1 + 1)) l0_0)) else (none))) = some r := by first | (rw [hy320]; with_reducible exact H) | (have H2_ := (Option.bind_some _ _).symm.trans H; rw [hy320]; with_reducible exact H2_) | (have H2_ := (Option.bind_some _ _).symm.trans H; with_reducible exact H2_) | with_reducible exact H | (rw [hy320]; exact H) | exact H
                  have Ny320 := Aside0.mk hy320
                  clear hy320
                  have c25b0 := eq_true (of_decide_eq_true (by assumption) : 0 ≤ x12_2)
                  have c26b0 := eq_true (of_decide_eq_true (by assumption) : x12_2 ≤ (x3_1.length : Int))
                  obtain ⟨y323, hy323⟩ : ∃ y_ : List ByteArray, y_ = (x3_1.drop (x12_2 : Int).toNat) := ⟨_, rfl⟩
                  replace H : (if y320.length + y323.length < 8796093022208 then ((spec_l13Paths.f k2 l0_0 ((rd_T60 ((rd_T76 l0_0 a1).f2) x21_1).f1) ((a2 ++ (⟨#[47]⟩ : ByteArray)) ++ ((rd_T60 ((rd_T76 l0_0 a1).f2) x21_1).f0)) (y320 ++ y323)).bind fun t331 => (spec_l13Paths.l0 k2 a2 t331 ((rd_T76 l0_0 a1).f2) (((rd_T76 l0_0 a1).f2).length : Int) (wrap64 (x21_1 + 1)) l0_0)) else (none)) = some r := by first | (rw [hy323]; with_reducible exact H) | (have H2_ := (Option.bind_some _ _).symm.trans H; rw [hy323]; with_reducible exact H2_) | (have H2_ := (Option.bind_some _ _).symm.trans H; with_reducible exact H2_) | with_reducible exact H | (rw [hy323]; exact H) | exact H
                  have Ny323 := Aside0.mk hy323
                  clear hy323
                  by_cases c27 : y320.length + y323.length < 8796093022208
                  ·rw [if_pos c27] at H
                   have LMc27 := Aside0.mk c27
                   clear c27
                   obtain ⟨y328, hy328⟩ : ∃ y_ : List ByteArray, y_ = (y320 ++ y323) := ⟨_, rfl⟩
                   replace H : ((spec_l13Paths.f k2 l0_0 ((rd_T60 ((rd_T76 l0_0 a1).f2) x21_1).f1) ((a2 ++ (⟨#[47]⟩ : ByteArray)) ++ ((rd_T60 ((rd_T76 l0_0 a1).f2) x21_1).f0)) y328).bind fun t331 => (spec_l13Paths.l0 k2 a2 t331 ((rd_T76 l0_0 a1).f2) (((rd_T76 l0_0 a1).f2).length : Int) (wrap64 (x21_1 + 1)) l0_0)) = some r := by first | (rw [hy328]; with_reducible exact H) | (have H2_ := (Option.bind_some _ _).symm.trans H; rw [hy328]; with_reducible exact H2_) | (have H2_ := (Option.bind_some _ _).symm.trans H; with_reducible exact H2_) | with_reducible exact H | (rw [hy328]; exact H) | exact H
                   have Ny328 := Aside0.mk hy328
                   clear hy328
                   replace H := Option.bind_eq_some_iff.mp H
                   obtain ⟨t331, A280, H⟩ := H
                   replace H : (spec_l13Paths.l0 k2 a2 t331 ((rd_T76 l0_0 a1).f2) (((rd_T76 l0_0 a1).f2).length : Int) (wrap64 (x21_1 + 1)) l0_0) = some r := H
                   have A28 := Aside0.mk A280
                   clear A280
                   have H' := Aside0.mk H
                   clear H
                   obtain ⟨Ao29, co29, eo29⟩ := Kd.V_slice HO_3.out
                   subst eo29
                   have p311 : 0 ≤ (x12_2 : Int) := of_decide_eq_true (by assumption)
                   have q311 : x12_2 < (x3_1.length : Int) := of_decide_eq_true (by assumption)
                   obtain ⟨ad311, e311, hx311_0⟩ := Kd.at_string (Kd.V_reads' HO_3.out).2.2 x12_2 p311 q311
                   cases e311
                   replace p311 := eq_true p311
                   replace q311 := eq_true q311
                   have q30 : (x12_2 : Int) ≤ ((x3_1.length : Int) : Int) := of_decide_eq_true (by assumption)
                   obtain ⟨i030, hi030, _, hsz30, _⟩ := info_parts info9
                   have hroom30 : x3_1.length ≤ co29 := (Kd.V_reads' HO_3.out).2.1
                   have hC30 : Kd.F Kd.string _ _ (some ad311) x3_1.length x3_1 := (Kd.V_at (base := w.heap.size) HO_3.out).2.2
                   have hcut30 := cut_to (P := Tryd.prog) 40 9 .i64 Tryd.underlying40 hi030 (some ad311) x3_1.length co29 x12_2 (of_decide_eq_true (by assumption)) q30 hroom30
                   have hr30 := Kd.F_take (m := (x12_2 : Int).toNat) hC30 (by omega)
                   have hy30 : y312.length = (x12_2 : Int).toNat := (by rw [Ny312.out, List.length_take]; omega)
                   rw [← Ny312.out] at hr30
                   rw [← hy30] at hcut30
                   have HO316 := Aside0.mk (show Kd.V Kd.string 9 _ w.heap.size _ (.slice (some ad311) y312.length co29) y312 from Kd.V_mk (by omega) hr30)
                   have HC316 := Aside0.mk (show y312.length ≤ co29 from by omega)
                   clear hr30 hC30 hroom30 hi030 hsz30
                   have KY30 := Aside0.mk hy30
                   clear hy30
                   replace q30 := eq_true q30
                   go_wp2_with (first | ((with_reducible refine gate_builtin (b := .append) (xs := #[.tmp 44, .tmp 47]) rfl ?_); at_builtin; refine Kd.R_append_rows Kd.string (w0 := w) w.heap.size rfl (.tmp 44) (.tmp 47) 40 9 (.string ⟨#[]⟩) 16 rfl Tryd.underlying40 info9 rfl (by decide) (by omega) (.slice none 0 0) ([] : List ByteArray) y312 _ _ _ (fun k_ => (w.heap.size ≤ k_)) (fun _ => False) rfl rfl ?aO ?aR (fun _ _ h => h) (fun _ h => h.elim) ?aF ?aB ?aS ?aL ?_; (case aR => repeat (first | exact (Kd.V_reads' HO316.out).2.2 | (with_reducible refine Kd.C_alloc ?_ _) | (with_reducible refine Kd.C_drewN ?_ _) | (with_reducible refine Kd.C_drew ?_))); (case aB => exact (by with_reducible repeat (first | exact HB.out | apply below_alloc | apply pw_below_drewN | apply below_drew1 | refine below_set ?_ GE307.out | refine below_set ?_ GE310.out))); (case aF => exact (fun k_ hk => (Nat.le_trans (below_size (by with_reducible repeat (first | exact HB.out | apply below_alloc | apply pw_below_drewN | apply below_drew1 | refine below_set ?_ GE307.out | refine below_set ?_ GE310.out))) hk))); (case aO => exact ((Kd.R_nil _ _ _ _ (fun k_ => (w.heap.size ≤ k_))))); (case aS => exact (below_size (by with_reducible repeat (first | exact HB.out | apply below_alloc | apply pw_below_drewN | apply below_drew1 | refine below_set ?_ GE307.out | refine below_set ?_ GE310.out)))); (case aL => have := LMc23.out; omega); intro v318 w31 ho hb hg hat; rw [← Ny317.out] at ho; replace HO_3 := Aside0.mk (Kd.V_afterv (Kd.V_apart_nil (by (with_reducible repeat (first | apply Kd.V_alloc | apply Kd.V_drewN | apply Kd.V_drew)); exact HO_3.out)) hg hat); replace BK307 := Aside0.mk (blk_grown (g := gb307) (o := .cells #[.slice (some ad308) l0_0.length c0_0] 30 (0, 0)) (by (with_reducible repeat (first | refine blk_drewN ?_ _ | refine blk_drew ?_ | refine blk_alloc ?_ _)); exact BK307.out) hg (by simp [Value.ownBlock])); replace BK310 := Aside0.mk (blk_grown (g := gb310) (o := .cells #[.string ((rd_T60 ((rd_T76 l0_0 a1).f2) x21_1).f0), .int .i64 ((rd_T60 ((rd_T76 l0_0 a1).f2) x21_1).f1)] 60 (0, 0)) (by (with_reducible repeat (first | refine blk_drewN ?_ _ | refine blk_drew ?_ | refine blk_alloc ?_ _)); exact BK310.out) hg (by simp [Value.ownBlock])); replace HO316 := Aside0.mk (Kd.V_afterv (Kd.V_apart_nil (by (with_reducible repeat (first | apply Kd.V_alloc | apply Kd.V_drewN | apply Kd.V_drew)); exact HO316.out)) hg hat); replace HB := Aside0.mk (hb); have HO319 := Aside0.mk (ho); clear ho hb hg hat) | ((with_reducible refine gate_builtin (b := .append) (xs := #[.tmp 49, .tmp 51]) rfl ?_); at_builtin; refine Kd.R_append Kd.string (w0 := w) w.heap.size rfl (.tmp 49) (.tmp 51) 40 9 (.string ⟨#[]⟩) 16 rfl Tryd.underlying40 info9 rfl (by decide) (by omega) v318 y317 ((a2 ++ (⟨#[47]⟩ : ByteArray)) ++ ((rd_T60 ((rd_T76 l0_0 a1).f2) x21_1).f0)) [.string ((a2 ++ (⟨#[47]⟩ : ByteArray)) ++ ((rd_T60 ((rd_T76 l0_0 a1).f2) x21_1).f0))] (fun k_ => (w.heap.size ≤ k_)) (fun _ => False) rfl rfl ?aP (fun _ hk => hk.elim) ?aF ?aO ?aB ?aS ?aL ?_; (case aP => exact rfl); (case aB => exact (by with_reducible repeat (first | exact HB.out | apply below_alloc | apply pw_below_drewN | apply below_drew1 | refine below_set ?_ GE307.out | refine below_set ?_ GE310.out))); (case aF => exact (fun k_ hk => (Nat.le_trans (below_size (by with_reducible repeat (first | exact HB.out | apply below_alloc | apply pw_below_drewN | apply below_drew1 | refine below_set ?_ GE307.out | refine below_set ?_ GE310.out))) hk))); (case aO => exact (by (with_reducible repeat (first | apply Kd.R_alloc | apply Kd.R_drewN | apply Kd.R_drew)); exact HO319.out)); (case aS => exact (below_size (by with_reducible repeat (first | exact HB.out | apply below_alloc | apply pw_below_drewN | apply below_drew1 | refine below_set ?_ GE307.out | refine below_set ?_ GE310.out)))); (case aL => have := LMc24.out; omega); intro v321 w32 ho hb hg hat; rw [← Ny320.out] at ho; replace HO_3 := Aside0.mk (Kd.V_afterv (ok := (fun k_ => (P3_ k_ ∨ w.heap.size ≤ k_) ∧ k_ ≠ gb307 ∧ k_ ≠ gb310)) (by (with_reducible repeat (first | apply Kd.V_alloc | apply Kd.V_drewN | apply Kd.V_drew)); exact HO_3.out) hg hat); replace BK307 := Aside0.mk (blk_grown (g := gb307) (o := .cells #[.slice (some ad308) l0_0.length c0_0] 30 (0, 0)) (by (with_reducible repeat (first | refine blk_drewN ?_ _ | refine blk_drew ?_ | refine blk_alloc ?_ _)); exact BK307.out) hg (Kd.R_ne HO319.out BK307.out (by decide))); replace BK310 := Aside0.mk (blk_grown (g := gb310) (o := .cells #[.string ((rd_T60 ((rd_T76 l0_0 a1).f2) x21_1).f0), .int .i64 ((rd_T60 ((rd_T76 l0_0 a1).f2) x21_1).f1)] 60 (0, 0)) (by (with_reducible repeat (first | refine blk_drewN ?_ _ | refine blk_drew ?_ | refine blk_alloc ?_ _)); exact BK310.out) hg (Kd.R_ne HO319.out BK310.out (by decide))); replace HO316 := Aside0.mk (Kd.V_afterv (ok := (fun k_ => (P3_ k_ ∨ w.heap.size ≤ k_) ∧ k_ ≠ gb307 ∧ k_ ≠ gb310)) (by (with_reducible repeat (first | apply Kd.V_alloc | apply Kd.V_drewN | apply Kd.V_drew)); exact HO316.out) hg hat); replace HB := Aside0.mk (hb); have HO322 := Aside0.mk (ho); clear HO319; clear ho hb hg hat; have q33 : (x12_2 : Int) ≤ ((x3_1.length : Int) : Int) := of_decide_eq_true (by assumption); obtain ⟨i033, hi033, _, hsz33, _⟩ := info_parts info9; have hroom33 : x3_1.length ≤ co29 := (Kd.V_reads' HO_3.out).2.1; have hC33 : Kd.F Kd.string _ _ (some ad311) x3_1.length x3_1 := (Kd.V_at (base := w.heap.size) HO_3.out).2.2; have q033 : (0 : Int) ≤ (x12_2 : Int) := of_decide_eq_true (by assumption); have hcut33 := cut_from (P := Tryd.prog) 40 9 .i64 Tryd.underlying40 hi033 1 hsz33 (some ad311) x3_1.length co29 x12_2 q033 q33; have hr33 := Kd.F_cut (m := (x12_2 : Int).toNat) (c := co29) hC33 (by omega) hroom33; obtain ⟨A33, hA33⟩ : ∃ A1, A1 = (if co29 = (x12_2 : Int).toNat then (some ad311) else ((some ad311) : Option Addr).map (·.add ((x12_2 : Int).toNat * 1))) := ⟨_, rfl⟩; obtain ⟨c33, hc33⟩ : ∃ c1, c1 = co29 - (x12_2 : Int).toNat := ⟨_, rfl⟩; have hy33 : y323.length = x3_1.length - (x12_2 : Int).toNat := (by rw [Ny323.out, List.length_drop] <;> omega); rw [show (x3_1).drop (x12_2 : Int).toNat = y323 from Ny323.out.symm] at hr33; replace hr33 : Kd.F Kd.string _ _ A33 y323.length y323 := (by rw [hA33]; exact hr33); rw [← hy33, ← hA33, ← hc33] at hcut33; have HO327 := Aside0.mk (show Kd.V Kd.string 9 _ w.heap.size _ (.slice A33 y323.length c33) y323 from Kd.V_mk (by rw [hy33, hc33]; exact Nat.sub_le_sub_right hroom33 _) hr33); have HC327 := Aside0.mk (show y323.length ≤ c33 from by rw [hy33, hc33]; exact Nat.sub_le_sub_right hroom33 _); clear hr33 hC33 hroom33 hi033 hsz33 hc33; have KY33 := Aside0.mk hy33; have KA33 := Aside0.mk hA33; clear hy33 hA33; replace q33 := eq_true q33) | ((with_reducible refine gate_builtin (b := .append) (xs := #[.tmp 53, .tmp 56]) rfl ?_); at_builtin; refine Kd.R_append_rows Kd.string (w0 := w) w.heap.size rfl (.tmp 53) (.tmp 56) 40 9 (.string ⟨#[]⟩) 16 rfl Tryd.underlying40 info9 rfl (by decide) (by omega) v321 y320 y323 _ _ _ (fun k_ => (w.heap.size ≤ k_)) (fun _ => False) rfl rfl ?aO ?aR (fun _ _ h => h) (fun _ h => h.elim) ?aF ?aB ?aS ?aL ?_; (case aR => repeat (first | exact (Kd.V_reads' HO327.out).2.2 | (with_reducible refine Kd.C_alloc ?_ _) | (with_reducible refine Kd.C_drewN ?_ _) | (with_reducible refine Kd.C_drew ?_))); (case aB => exact (by with_reducible repeat (first | exact HB.out | apply below_alloc | apply pw_below_drewN | apply below_drew1 | refine below_set ?_ GE307.out | refine below_set ?_ GE310.out))); (case aF => exact (fun k_ hk => (Nat.le_trans (below_size (by with_reducible repeat (first | exact HB.out | apply below_alloc | apply pw_below_drewN | apply below_drew1 | refine below_set ?_ GE307.out | refine below_set ?_ GE310.out))) hk))); (case aO => exact (by (with_reducible repeat (first | apply Kd.R_alloc | apply Kd.R_drewN | apply Kd.R_drew)); exact HO322.out)); (case aS => exact (below_size (by with_reducible repeat (first | exact HB.out | apply below_alloc | apply pw_below_drewN | apply below_drew1 | refine below_set ?_ GE307.out | refine below_set ?_ GE310.out)))); (case aL => have := LMc27.out; omega); intro v329 w34 ho hb hg hat; rw [← Ny328.out] at ho; replace HO_3 := Aside0.mk (Kd.V_afterv (ok := (fun k_ => (P3_ k_ ∨ w.heap.size ≤ k_) ∧ k_ ≠ gb307 ∧ k_ ≠ gb310)) (by (with_reducible repeat (first | apply Kd.V_alloc | apply Kd.V_drewN | apply Kd.V_drew)); exact HO_3.out) hg hat); replace BK307 := Aside0.mk (blk_grown (g := gb307) (o := .cells #[.slice (some ad308) l0_0.length c0_0] 30 (0, 0)) (by (with_reducible repeat (first | refine blk_drewN ?_ _ | refine blk_drew ?_ | refine blk_alloc ?_ _)); exact BK307.out) hg (Kd.R_ne HO322.out BK307.out (by decide))); replace BK310 := Aside0.mk (blk_grown (g := gb310) (o := .cells #[.string ((rd_T60 ((rd_T76 l0_0 a1).f2) x21_1).f0), .int .i64 ((rd_T60 ((rd_T76 l0_0 a1).f2) x21_1).f1)] 60 (0, 0)) (by (with_reducible repeat (first | refine blk_drewN ?_ _ | refine blk_drew ?_ | refine blk_alloc ?_ _)); exact BK310.out) hg (Kd.R_ne HO322.out BK310.out (by decide))); replace HO316 := Aside0.mk (Kd.V_afterv (ok := (fun k_ => (P3_ k_ ∨ w.heap.size ≤ k_) ∧ k_ ≠ gb307 ∧ k_ ≠ gb310)) (by (with_reducible repeat (first | apply Kd.V_alloc | apply Kd.V_drewN | apply Kd.V_drew)); exact HO316.out) hg hat); replace HO327 := Aside0.mk (Kd.V_afterv (ok := (fun k_ => (P3_ k_ ∨ w.heap.size ≤ k_) ∧ k_ ≠ gb307 ∧ k_ ≠ gb310)) (by (with_reducible repeat (first | apply Kd.V_alloc | apply Kd.V_drewN | apply Kd.V_drew)); exact HO327.out) hg hat); replace HB := Aside0.mk (hb); have HO330 := Aside0.mk (ho); clear HO322; clear ho hb hg hat; have hnb35 := NB307_310.out; have hnc35 := NB310_307.out; have hcz36_0 : w34.cell? ⟨gb307, 0, none⟩ = some (.slice (some ad308) l0_0.length c0_0) := (blk_cell BK307.out 0).trans rfl; have hfz36_0 := blk_frozen BK307.out 0; have hcz37_0 : w34.cell? ⟨gb310, 0, none⟩ = some (.string ((rd_T60 ((rd_T76 l0_0 a1).f2) x21_1).f0)) := (blk_cell BK310.out 0).trans rfl; have hcz37_1 : w34.cell? ⟨gb310, 1, none⟩ = some (.int .i64 ((rd_T60 ((rd_T76 l0_0 a1).f2) x21_1).f1)) := (blk_cell BK310.out 1).trans rfl; have hfz37_0 := blk_frozen BK310.out 0; have hfz37_1 := blk_frozen BK310.out 1; obtain ⟨Ao38, co38, eo38⟩ := Kd.R_slice HO330.out; subst eo38) | ((with_reducible refine gate_callee (f := 50) rfl ?_); refine goesL_ (some 63) rfl rfl Tryd.func50 (by kernel_rfl) rfl #[.agg #[.slice (some ad308) l0_0.length c0_0], .int .i64 ((rd_T60 ((rd_T76 l0_0 a1).f2) x21_1).f1), .string ((a2 ++ (⟨#[47]⟩ : ByteArray)) ++ ((rd_T60 ((rd_T76 l0_0 a1).f2) x21_1).f0)), .slice Ao38 y328.length co38] rfl (by (try simp only [List.map_toArray, List.map_cons, List.map_nil]); first | done | rfl | (simp only [List.length_drop, List.length_take]; rfl)) ?_; (with_reducible refine (ih k2 (by have := HK1.out; have := HK2.out; omega) _ _ l0_0 ((rd_T60 ((rd_T76 l0_0 a1).f2) x21_1).f1) ((a2 ++ (⟨#[47]⟩ : ByteArray)) ++ ((rd_T60 ((rd_T76 l0_0 a1).f2) x21_1).f0)) (fun k_ => some k_ = (.slice Ao38 y328.length co38 : Value).ownBlock) _ _ y328 t331 _ ?side1 ?side2 ?side3 A28.out).mono ?_); (case side1 => repeat (first | exact (Kd.C_below HR0_0.out HB.out) | (with_reducible refine Kd.C_alloc ?_ _) | (with_reducible refine Kd.C_drewN ?_ _) | (with_reducible refine Kd.C_drew ?_))); (case side2 => exact HC0_0.out); (case side3 => exact Kd.R_V (Kd.R_tight rfl (Kd.R_types (Kd.R_types (HO330.out) BK307.out (by decide)) BK310.out (by decide)))); rintro e w39 ⟨v332, rfl, ho0, hb⟩; refine ⟨_, rfl, ?_⟩; replace HO_3 := Aside0.mk (Kd.V_below (by (with_reducible repeat (first | apply Kd.V_alloc | apply Kd.V_drewN | apply Kd.V_drew)); exact HO_3.out) hb); replace HO316 := Aside0.mk (Kd.V_below (by (with_reducible repeat (first | apply Kd.V_alloc | apply Kd.V_drewN | apply Kd.V_drew)); exact HO316.out) hb); replace HO327 := Aside0.mk (Kd.V_below (by (with_reducible repeat (first | apply Kd.V_alloc | apply Kd.V_drewN | apply Kd.V_drew)); exact HO327.out) hb); have HO333 := Aside0.mk (Kd.V_lower (Kd.V_mono (ok' := fun k_ => (P3_ k_ ∨ w.heap.size ≤ k_) ∧ k_ ≠ gb307 ∧ k_ ≠ gb310) ho0 (fun k_ hk_ => ⟨Or.elim hk_ (fun hs_ => (.inr (((Kd.R_types (Kd.R_types (HO330.out) BK307.out (by decide)) BK310.out (by decide)).1 k_ hs_.symm).1.1))) (fun hn_ => (.inr (Nat.le_trans (below_size (by with_reducible repeat (first | exact HB.out | apply below_alloc | apply pw_below_drewN | apply below_drew1 | refine below_set ?_ GE307.out | refine below_set ?_ GE310.out))) hn_))), Or.elim hk_ (fun hs_ => ((Kd.R_types (Kd.R_types (HO330.out) BK307.out (by decide)) BK310.out (by decide)).1 k_ hs_.symm).1.2) (fun hn_ => (Kd.freshB (g := gb307) (o := .cells #[.slice (some ad308) l0_0.length c0_0] 30 (0, 0)) (by (with_reducible repeat (first | refine blk_drewN ?_ _ | refine blk_drew ?_ | refine blk_alloc ?_ _)); exact BK307.out) k_ hn_)), Or.elim hk_ (fun hs_ => ((Kd.R_types (Kd.R_types (HO330.out) BK307.out (by decide)) BK310.out (by decide)).1 k_ hs_.symm).2) (fun hn_ => (Kd.freshB (g := gb310) (o := .cells #[.string ((rd_T60 ((rd_T76 l0_0 a1).f2) x21_1).f0), .int .i64 ((rd_T60 ((rd_T76 l0_0 a1).f2) x21_1).f1)] 60 (0, 0)) (by (with_reducible repeat (first | refine blk_drewN ?_ _ | refine blk_drew ?_ | refine blk_alloc ?_ _)); exact BK310.out) k_ hn_))⟩)) (below_size (by with_reducible repeat (first | exact HB.out | apply below_alloc | apply pw_below_drewN | apply below_drew1 | refine below_set ?_ GE307.out | refine below_set ?_ GE310.out)))); replace HO330 := Aside0.mk (Kd.R_below (by (with_reducible repeat (first | apply Kd.R_alloc | apply Kd.R_drewN | apply Kd.R_drew)); exact HO330.out) hb); replace BK307 := Aside0.mk (blk_below (g := gb307) (o := .cells #[.slice (some ad308) l0_0.length c0_0] 30 (0, 0)) (by (with_reducible repeat (first | refine blk_drewN ?_ _ | refine blk_drew ?_ | refine blk_alloc ?_ _)); exact BK307.out) hb); replace BK310 := Aside0.mk (blk_below (g := gb310) (o := .cells #[.string ((rd_T60 ((rd_T76 l0_0 a1).f2) x21_1).f0), .int .i64 ((rd_T60 ((rd_T76 l0_0 a1).f2) x21_1).f1)] 60 (0, 0)) (by (with_reducible repeat (first | refine blk_drewN ?_ _ | refine blk_drew ?_ | refine blk_alloc ?_ _)); exact BK310.out) hb); replace HB := Aside0.mk (below_step (by with_reducible repeat (first | exact HB.out | apply below_alloc | apply pw_below_drewN | apply below_drew1 | refine below_set ?_ GE307.out | refine below_set ?_ GE310.out)) hb); (try clear hb); (try clear hb2); (try clear hk); (try clear hi); (try clear ho0)))
                   go_roundg k2
                   case measure => have := HK1.out; have := HK2.out; omega
                   case rel => exact ⟨(t331), (wrap64 (x21_1 + 1)), (by first | rfl | (simp; done) | (simp [*]; done)), H', ⟨by have := HK1.out; have := HK2.out; omega⟩, ⟨by (with_reducible repeat (first | apply Kd.V_alloc | apply Kd.V_drewN | apply Kd.V_drew)); exact Kd.V_mono HO333.out (fun _ hk => ⟨hk.1, hk.2.1⟩)⟩, ⟨by (with_reducible repeat (first | refine blk_drewN ?_ _ | refine blk_drew ?_ | refine blk_alloc ?_ _)); exact BK307.out⟩, ⟨by with_reducible repeat (first | exact HB.out | apply below_alloc | apply pw_below_drewN | apply below_drew1 | refine below_set ?_ GE307.out | refine below_set ?_ GE310.out)⟩⟩
                  ·rw [if_neg c27] at H
                   exact absurd H (by simp)
                 ·rw [if_neg c24] at H
                  exact absurd H (by simp)
                ·rw [if_neg c23] at H
                 exact absurd H (by simp)
               ·rw [if_neg c22] at H
                exact absurd H (by simp)
             ·rw [if_neg c18] at H
              exact absurd H (by simp)
            ·rw [if_neg c17] at H
             have c17b0 : decide (x12_2 < (x3_1.length : Int)) = false := decide_eq_false c17
             clear c17
             by_cases c40 : 0 ≤ x12_2
             ·rw [if_pos c40] at H
              have c40b0 := eq_true c40
              have c40b1 : decide (0 ≤ x12_2) = true := decide_eq_true c40
              clear c40
              by_cases c41 : x12_2 ≤ (x3_1.length : Int)
              ·rw [if_pos c41] at H
               have c41b0 := eq_true c41
               have c41b1 : decide (x12_2 ≤ (x3_1.length : Int)) = true := decide_eq_true c41
               clear c41
               obtain ⟨y334, hy334⟩ : ∃ y_ : List ByteArray, y_ = (x3_1.take (x12_2 : Int).toNat) := ⟨_, rfl⟩
               replace H : (if ([] : List ByteArray).length + y334.length < 8796093022208 then ((some (([] : List ByteArray) ++ y334 : List ByteArray)).bind fun y339 => (if y339.length < 8796093022208 then ((some (y339 ++ [((a2 ++ (⟨#[47]⟩ : ByteArray)) ++ ((rd_T60 ((rd_T76 l0_0 a1).f2) x21_1).f0))] : List ByteArray)).bind fun y342 => ((some (x3_1.drop (x12_2 : Int).toNat : List ByteArray)).bind fun y345 => (if y342.length + y345.length < 8796093022208 then ((spec_l13Paths.f k2 l0_0 ((rd_T60 ((rd_T76 l0_0 a1).f2) x21_1).f1) ((a2 ++ (⟨#[47]⟩ : ByteArray)) ++ ((rd_T60 ((rd_T76 l0_0 a1).f2) x21_1).f0)) (y342 ++ y345)).bind fun t353 => (spec_l13Paths.l0 k2 a2 t353 ((rd_T76 l0_0 a1).f2) (((rd_T76 l0_0 a1).f2).length : Int) (wrap64 (x21_1 + 1)) l0_0)) else (none)))) else (none))) else (none)) = some r := by first | (rw [hy334]; with_reducible exact H) | (have H2_ := (Option.bind_some _ _).symm.trans H; rw [hy334]; with_reducible exact H2_) | (have H2_ := (Option.bind_some _ _).symm.trans H; with_reducible exact H2_) | with_reducible exact H | (rw [hy334]; exact H) | exact H
               have Ny334 := Aside0.mk hy334
               clear hy334
               by_cases c42 : ([] : List ByteArray).length + y334.length < 8796093022208
               ·rw [if_pos c42] at H
                have LMc42 := Aside0.mk c42
                clear c42
                obtain ⟨y339, hy339⟩ : ∃ y_ : List ByteArray, y_ = (([] : List ByteArray) ++ y334) := ⟨_, rfl⟩
                replace H : (if y339.length < 8796093022208 then ((some (y339 ++ [((a2 ++ (⟨#[47]⟩ : ByteArray)) ++ ((rd_T60 ((rd_T76 l0_0 a1).f2) x21_1).f0))] : List ByteArray)).bind fun y342 => ((some (x3_1.drop (x12_2 : Int).toNat : List ByteArray)).bind fun y345 => (if y342.length + y345.length < 8796093022208 then ((spec_l13Paths.f k2 l0_0 ((rd_T60 ((rd_T76 l0_0 a1).f2) x21_1).f1) ((a2 ++ (⟨#[47]⟩ : ByteArray)) ++ ((rd_T60 ((rd_T76 l0_0 a1).f2) x21_1).f0)) (y342 ++ y345)).bind fun t353 => (spec_l13Paths.l0 k2 a2 t353 ((rd_T76 l0_0 a1).f2) (((rd_T76 l0_0 a1).f2).length : Int) (wrap64 (x21_1 + 1)) l0_0)) else (none)))) else (none)) = some r := by first | (rw [hy339]; with_reducible exact H) | (have H2_ := (Option.bind_some _ _).symm.trans H; rw [hy339]; with_reducible exact H2_) | (have H2_ := (Option.bind_some _ _).symm.trans H; with_reducible exact H2_) | with_reducible exact H | (rw [hy339]; exact H) | exact H
                have Ny339 := Aside0.mk hy339
                clear hy339
                by_cases c43 : y339.length < 8796093022208
                ·rw [if_pos c43] at H
                 have LMc43 := Aside0.mk c43
                 clear c43
                 obtain ⟨y342, hy342⟩ : ∃ y_ : List ByteArray, y_ = (y339 ++ [((a2 ++ (⟨#[47]⟩ : ByteArray)) ++ ((rd_T60 ((rd_T76 l0_0 a1).f2) x21_1).f0))]) := ⟨_, rfl⟩
                 replace H : ((some (x3_1.drop (x12_2 : Int).toNat : List ByteArray)).bind fun y345 => (if y342.length + y345.length < 8796093022208 then ((spec_l13Paths.f k2 l0_0 ((rd_T60 ((rd_T76 l0_0 a1).f2) x21_1).f1) ((a2 ++ (⟨#[47]⟩ : ByteArray)) ++ ((rd_T60 ((rd_T76 l0_0 a1).f2) x21_1).f0)) (y342 ++ y345)).bind fun t353 => (spec_l13Paths.l0 k2 a2 t353 ((rd_T76 l0_0 a1).f2) (((rd_T76 l0_0 a1).f2).length : Int) (wrap64 (x21_1 + 1)) l0_0)) else (none))) = some r := by first | (rw [hy342]; with_reducible exact H) | (have H2_ := (Option.bind_some _ _).symm.trans H; rw [hy342]; with_reducible exact H2_) | (have H2_ := (Option.bind_some _ _).symm.trans H; with_reducible exact H2_) | with_reducible exact H | (rw [hy342]; exact H) | exact H
                 have Ny342 := Aside0.mk hy342
                 clear hy342
                 have c44b0 := eq_true (of_decide_eq_true (by assumption) : 0 ≤ x12_2)
                 have c45b0 := eq_true (of_decide_eq_true (by assumption) : x12_2 ≤ (x3_1.length : Int))
                 obtain ⟨y345, hy345⟩ : ∃ y_ : List ByteArray, y_ = (x3_1.drop (x12_2 : Int).toNat) := ⟨_, rfl⟩
                 replace H : (if y342.length + y345.length < 8796093022208 then ((spec_l13Paths.f k2 l0_0 ((rd_T60 ((rd_T76 l0_0 a1).f2) x21_1).f1) ((a2 ++ (⟨#[47]⟩ : ByteArray)) ++ ((rd_T60 ((rd_T76 l0_0 a1).f2) x21_1).f0)) (y342 ++ y345)).bind fun t353 => (spec_l13Paths.l0 k2 a2 t353 ((rd_T76 l0_0 a1).f2) (((rd_T76 l0_0 a1).f2).length : Int) (wrap64 (x21_1 + 1)) l0_0)) else (none)) = some r := by first | (rw [hy345]; with_reducible exact H) | (have H2_ := (Option.bind_some _ _).symm.trans H; rw [hy345]; with_reducible exact H2_) | (have H2_ := (Option.bind_some _ _).symm.trans H; with_reducible exact H2_) | with_reducible exact H | (rw [hy345]; exact H) | exact H
                 have Ny345 := Aside0.mk hy345
                 clear hy345
                 by_cases c46 : y342.length + y345.length < 8796093022208
                 ·rw [if_pos c46] at H
                  have LMc46 := Aside0.mk c46
                  clear c46
                  obtain ⟨y350, hy350⟩ : ∃ y_ : List ByteArray, y_ = (y342 ++ y345) := ⟨_, rfl⟩
                  replace H : ((spec_l13Paths.f k2 l0_0 ((rd_T60 ((rd_T76 l0_0 a1).f2) x21_1).f1) ((a2 ++ (⟨#[47]⟩ : ByteArray)) ++ ((rd_T60 ((rd_T76 l0_0 a1).f2) x21_1).f0)) y350).bind fun t353 => (spec_l13Paths.l0 k2 a2 t353 ((rd_T76 l0_0 a1).f2) (((rd_T76 l0_0 a1).f2).length : Int) (wrap64 (x21_1 + 1)) l0_0)) = some r := by first | (rw [hy350]; with_reducible exact H) | (have H2_ := (Option.bind_some _ _).symm.trans H; rw [hy350]; with_reducible exact H2_) | (have H2_ := (Option.bind_some _ _).symm.trans H; with_reducible exact H2_) | with_reducible exact H | (rw [hy350]; exact H) | exact H
                  have Ny350 := Aside0.mk hy350
                  clear hy350
                  replace H := Option.bind_eq_some_iff.mp H
                  obtain ⟨t353, A470, H⟩ := H
                  replace H : (spec_l13Paths.l0 k2 a2 t353 ((rd_T76 l0_0 a1).f2) (((rd_T76 l0_0 a1).f2).length : Int) (wrap64 (x21_1 + 1)) l0_0) = some r := H
                  have A47 := Aside0.mk A470
                  clear A470
                  have H' := Aside0.mk H
                  clear H
                  obtain ⟨Ao48, co48, eo48⟩ := Kd.V_slice HO_3.out
                  subst eo48
                  have q49 : (x12_2 : Int) ≤ ((x3_1.length : Int) : Int) := of_decide_eq_true (by assumption)
                  obtain ⟨i049, hi049, _, hsz49, _⟩ := info_parts info9
                  have hroom49 : x3_1.length ≤ co48 := (Kd.V_reads' HO_3.out).2.1
                  have hC49 : Kd.F Kd.string _ _ Ao48 x3_1.length x3_1 := (Kd.V_at (base := w.heap.size) HO_3.out).2.2
                  have hcut49 := cut_to (P := Tryd.prog) 40 9 .i64 Tryd.underlying40 hi049 Ao48 x3_1.length co48 x12_2 (of_decide_eq_true (by assumption)) q49 hroom49
                  have hr49 := Kd.F_take (m := (x12_2 : Int).toNat) hC49 (by omega)
                  have hy49 : y334.length = (x12_2 : Int).toNat := (by rw [Ny334.out, List.length_take]; omega)
                  rw [← Ny334.out] at hr49
                  rw [← hy49] at hcut49
                  have HO338 := Aside0.mk (show Kd.V Kd.string 9 _ w.heap.size _ (.slice Ao48 y334.length co48) y334 from Kd.V_mk (by omega) hr49)
                  have HC338 := Aside0.mk (show y334.length ≤ co48 from by omega)
                  clear hr49 hC49 hroom49 hi049 hsz49
                  have KY49 := Aside0.mk hy49
                  clear hy49
                  replace q49 := eq_true q49
                  go_wp2_with (first | ((with_reducible refine gate_builtin (b := .append) (xs := #[.tmp 44, .tmp 47]) rfl ?_); at_builtin; refine Kd.R_append_rows Kd.string (w0 := w) w.heap.size rfl (.tmp 44) (.tmp 47) 40 9 (.string ⟨#[]⟩) 16 rfl Tryd.underlying40 info9 rfl (by decide) (by omega) (.slice none 0 0) ([] : List ByteArray) y334 _ _ _ (fun k_ => (w.heap.size ≤ k_)) (fun _ => False) rfl rfl ?aO ?aR (fun _ _ h => h) (fun _ h => h.elim) ?aF ?aB ?aS ?aL ?_; (case aR => repeat (first | exact (Kd.V_reads' HO338.out).2.2 | (with_reducible refine Kd.C_alloc ?_ _) | (with_reducible refine Kd.C_drewN ?_ _) | (with_reducible refine Kd.C_drew ?_))); (case aB => exact (by with_reducible repeat (first | exact HB.out | apply below_alloc | apply pw_below_drewN | apply below_drew1 | refine below_set ?_ GE307.out | refine below_set ?_ GE310.out))); (case aF => exact (fun k_ hk => (Nat.le_trans (below_size (by with_reducible repeat (first | exact HB.out | apply below_alloc | apply pw_below_drewN | apply below_drew1 | refine below_set ?_ GE307.out | refine below_set ?_ GE310.out))) hk))); (case aO => exact ((Kd.R_nil _ _ _ _ (fun k_ => (w.heap.size ≤ k_))))); (case aS => exact (below_size (by with_reducible repeat (first | exact HB.out | apply below_alloc | apply pw_below_drewN | apply below_drew1 | refine below_set ?_ GE307.out | refine below_set ?_ GE310.out)))); (case aL => have := LMc42.out; omega); intro v340 w50 ho hb hg hat; rw [← Ny339.out] at ho; replace HO_3 := Aside0.mk (Kd.V_afterv (Kd.V_apart_nil (by (with_reducible repeat (first | apply Kd.V_alloc | apply Kd.V_drewN | apply Kd.V_drew)); exact HO_3.out)) hg hat); replace BK307 := Aside0.mk (blk_grown (g := gb307) (o := .cells #[.slice (some ad308) l0_0.length c0_0] 30 (0, 0)) (by (with_reducible repeat (first | refine blk_drewN ?_ _ | refine blk_drew ?_ | refine blk_alloc ?_ _)); exact BK307.out) hg (by simp [Value.ownBlock])); replace BK310 := Aside0.mk (blk_grown (g := gb310) (o := .cells #[.string ((rd_T60 ((rd_T76 l0_0 a1).f2) x21_1).f0), .int .i64 ((rd_T60 ((rd_T76 l0_0 a1).f2) x21_1).f1)] 60 (0, 0)) (by (with_reducible repeat (first | refine blk_drewN ?_ _ | refine blk_drew ?_ | refine blk_alloc ?_ _)); exact BK310.out) hg (by simp [Value.ownBlock])); replace HO338 := Aside0.mk (Kd.V_afterv (Kd.V_apart_nil (by (with_reducible repeat (first | apply Kd.V_alloc | apply Kd.V_drewN | apply Kd.V_drew)); exact HO338.out)) hg hat); replace HB := Aside0.mk (hb); have HO341 := Aside0.mk (ho); clear ho hb hg hat) | ((with_reducible refine gate_builtin (b := .append) (xs := #[.tmp 49, .tmp 51]) rfl ?_); at_builtin; refine Kd.R_append Kd.string (w0 := w) w.heap.size rfl (.tmp 49) (.tmp 51) 40 9 (.string ⟨#[]⟩) 16 rfl Tryd.underlying40 info9 rfl (by decide) (by omega) v340 y339 ((a2 ++ (⟨#[47]⟩ : ByteArray)) ++ ((rd_T60 ((rd_T76 l0_0 a1).f2) x21_1).f0)) [.string ((a2 ++ (⟨#[47]⟩ : ByteArray)) ++ ((rd_T60 ((rd_T76 l0_0 a1).f2) x21_1).f0))] (fun k_ => (w.heap.size ≤ k_)) (fun _ => False) rfl rfl ?aP (fun _ hk => hk.elim) ?aF ?aO ?aB ?aS ?aL ?_; (case aP => exact rfl); (case aB => exact (by with_reducible repeat (first | exact HB.out | apply below_alloc | apply pw_below_drewN | apply below_drew1 | refine below_set ?_ GE307.out | refine below_set ?_ GE310.out))); (case aF => exact (fun k_ hk => (Nat.le_trans (below_size (by with_reducible repeat (first | exact HB.out | apply below_alloc | apply pw_below_drewN | apply below_drew1 | refine below_set ?_ GE307.out | refine below_set ?_ GE310.out))) hk))); (case aO => exact (by (with_reducible repeat (first | apply Kd.R_alloc | apply Kd.R_drewN | apply Kd.R_drew)); exact HO341.out)); (case aS => exact (below_size (by with_reducible repeat (first | exact HB.out | apply below_alloc | apply pw_below_drewN | apply below_drew1 | refine below_set ?_ GE307.out | refine below_set ?_ GE310.out)))); (case aL => have := LMc43.out; omega); intro v343 w51 ho hb hg hat; rw [← Ny342.out] at ho; replace HO_3 := Aside0.mk (Kd.V_afterv (ok := (fun k_ => (P3_ k_ ∨ w.heap.size ≤ k_) ∧ k_ ≠ gb307 ∧ k_ ≠ gb310)) (by (with_reducible repeat (first | apply Kd.V_alloc | apply Kd.V_drewN | apply Kd.V_drew)); exact HO_3.out) hg hat); replace BK307 := Aside0.mk (blk_grown (g := gb307) (o := .cells #[.slice (some ad308) l0_0.length c0_0] 30 (0, 0)) (by (with_reducible repeat (first | refine blk_drewN ?_ _ | refine blk_drew ?_ | refine blk_alloc ?_ _)); exact BK307.out) hg (Kd.R_ne HO341.out BK307.out (by decide))); replace BK310 := Aside0.mk (blk_grown (g := gb310) (o := .cells #[.string ((rd_T60 ((rd_T76 l0_0 a1).f2) x21_1).f0), .int .i64 ((rd_T60 ((rd_T76 l0_0 a1).f2) x21_1).f1)] 60 (0, 0)) (by (with_reducible repeat (first | refine blk_drewN ?_ _ | refine blk_drew ?_ | refine blk_alloc ?_ _)); exact BK310.out) hg (Kd.R_ne HO341.out BK310.out (by decide))); replace HO338 := Aside0.mk (Kd.V_afterv (ok := (fun k_ => (P3_ k_ ∨ w.heap.size ≤ k_) ∧ k_ ≠ gb307 ∧ k_ ≠ gb310)) (by (with_reducible repeat (first | apply Kd.V_alloc | apply Kd.V_drewN | apply Kd.V_drew)); exact HO338.out) hg hat); replace HB := Aside0.mk (hb); have HO344 := Aside0.mk (ho); clear HO341; clear ho hb hg hat; have q52 : (x12_2 : Int) ≤ ((x3_1.length : Int) : Int) := of_decide_eq_true (by assumption); obtain ⟨i052, hi052, _, hsz52, _⟩ := info_parts info9; have hroom52 : x3_1.length ≤ co48 := (Kd.V_reads' HO_3.out).2.1; have hC52 : Kd.F Kd.string _ _ Ao48 x3_1.length x3_1 := (Kd.V_at (base := w.heap.size) HO_3.out).2.2; have q052 : (0 : Int) ≤ (x12_2 : Int) := of_decide_eq_true (by assumption); have hcut52 := cut_from (P := Tryd.prog) 40 9 .i64 Tryd.underlying40 hi052 1 hsz52 Ao48 x3_1.length co48 x12_2 q052 q52; have hr52 := Kd.F_cut (m := (x12_2 : Int).toNat) (c := co48) hC52 (by omega) hroom52; obtain ⟨A52, hA52⟩ : ∃ A1, A1 = (if co48 = (x12_2 : Int).toNat then Ao48 else (Ao48 : Option Addr).map (·.add ((x12_2 : Int).toNat * 1))) := ⟨_, rfl⟩; obtain ⟨c52, hc52⟩ : ∃ c1, c1 = co48 - (x12_2 : Int).toNat := ⟨_, rfl⟩; have hy52 : y345.length = x3_1.length - (x12_2 : Int).toNat := (by rw [Ny345.out, List.length_drop] <;> omega); rw [show (x3_1).drop (x12_2 : Int).toNat = y345 from Ny345.out.symm] at hr52; replace hr52 : Kd.F Kd.string _ _ A52 y345.length y345 := (by rw [hA52]; exact hr52); rw [← hy52, ← hA52, ← hc52] at hcut52; have HO349 := Aside0.mk (show Kd.V Kd.string 9 _ w.heap.size _ (.slice A52 y345.length c52) y345 from Kd.V_mk (by rw [hy52, hc52]; exact Nat.sub_le_sub_right hroom52 _) hr52); have HC349 := Aside0.mk (show y345.length ≤ c52 from by rw [hy52, hc52]; exact Nat.sub_le_sub_right hroom52 _); clear hr52 hC52 hroom52 hi052 hsz52 hc52; have KY52 := Aside0.mk hy52; have KA52 := Aside0.mk hA52; clear hy52 hA52; replace q52 := eq_true q52) | ((with_reducible refine gate_builtin (b := .append) (xs := #[.tmp 53, .tmp 56]) rfl ?_); at_builtin; refine Kd.R_append_rows Kd.string (w0 := w) w.heap.size rfl (.tmp 53) (.tmp 56) 40 9 (.string ⟨#[]⟩) 16 rfl Tryd.underlying40 info9 rfl (by decide) (by omega) v343 y342 y345 _ _ _ (fun k_ => (w.heap.size ≤ k_)) (fun _ => False) rfl rfl ?aO ?aR (fun _ _ h => h) (fun _ h => h.elim) ?aF ?aB ?aS ?aL ?_; (case aR => repeat (first | exact (Kd.V_reads' HO349.out).2.2 | (with_reducible refine Kd.C_alloc ?_ _) | (with_reducible refine Kd.C_drewN ?_ _) | (with_reducible refine Kd.C_drew ?_))); (case aB => exact (by with_reducible repeat (first | exact HB.out | apply below_alloc | apply pw_below_drewN | apply below_drew1 | refine below_set ?_ GE307.out | refine below_set ?_ GE310.out))); (case aF => exact (fun k_ hk => (Nat.le_trans (below_size (by with_reducible repeat (first | exact HB.out | apply below_alloc | apply pw_below_drewN | apply below_drew1 | refine below_set ?_ GE307.out | refine below_set ?_ GE310.out))) hk))); (case aO => exact (by (with_reducible repeat (first | apply Kd.R_alloc | apply Kd.R_drewN | apply Kd.R_drew)); exact HO344.out)); (case aS => exact (below_size (by with_reducible repeat (first | exact HB.out | apply below_alloc | apply pw_below_drewN | apply below_drew1 | refine below_set ?_ GE307.out | refine below_set ?_ GE310.out)))); (case aL => have := LMc46.out; omega); intro v351 w53 ho hb hg hat; rw [← Ny350.out] at ho; replace HO_3 := Aside0.mk (Kd.V_afterv (ok := (fun k_ => (P3_ k_ ∨ w.heap.size ≤ k_) ∧ k_ ≠ gb307 ∧ k_ ≠ gb310)) (by (with_reducible repeat (first | apply Kd.V_alloc | apply Kd.V_drewN | apply Kd.V_drew)); exact HO_3.out) hg hat); replace BK307 := Aside0.mk (blk_grown (g := gb307) (o := .cells #[.slice (some ad308) l0_0.length c0_0] 30 (0, 0)) (by (with_reducible repeat (first | refine blk_drewN ?_ _ | refine blk_drew ?_ | refine blk_alloc ?_ _)); exact BK307.out) hg (Kd.R_ne HO344.out BK307.out (by decide))); replace BK310 := Aside0.mk (blk_grown (g := gb310) (o := .cells #[.string ((rd_T60 ((rd_T76 l0_0 a1).f2) x21_1).f0), .int .i64 ((rd_T60 ((rd_T76 l0_0 a1).f2) x21_1).f1)] 60 (0, 0)) (by (with_reducible repeat (first | refine blk_drewN ?_ _ | refine blk_drew ?_ | refine blk_alloc ?_ _)); exact BK310.out) hg (Kd.R_ne HO344.out BK310.out (by decide))); replace HO338 := Aside0.mk (Kd.V_afterv (ok := (fun k_ => (P3_ k_ ∨ w.heap.size ≤ k_) ∧ k_ ≠ gb307 ∧ k_ ≠ gb310)) (by (with_reducible repeat (first | apply Kd.V_alloc | apply Kd.V_drewN | apply Kd.V_drew)); exact HO338.out) hg hat); replace HO349 := Aside0.mk (Kd.V_afterv (ok := (fun k_ => (P3_ k_ ∨ w.heap.size ≤ k_) ∧ k_ ≠ gb307 ∧ k_ ≠ gb310)) (by (with_reducible repeat (first | apply Kd.V_alloc | apply Kd.V_drewN | apply Kd.V_drew)); exact HO349.out) hg hat); replace HB := Aside0.mk (hb); have HO352 := Aside0.mk (ho); clear HO344; clear ho hb hg hat; have hnb54 := NB307_310.out; have hnc54 := NB310_307.out; have hcz55_0 : w53.cell? ⟨gb307, 0, none⟩ = some (.slice (some ad308) l0_0.length c0_0) := (blk_cell BK307.out 0).trans rfl; have hfz55_0 := blk_frozen BK307.out 0; have hcz56_0 : w53.cell? ⟨gb310, 0, none⟩ = some (.string ((rd_T60 ((rd_T76 l0_0 a1).f2) x21_1).f0)) := (blk_cell BK310.out 0).trans rfl; have hcz56_1 : w53.cell? ⟨gb310, 1, none⟩ = some (.int .i64 ((rd_T60 ((rd_T76 l0_0 a1).f2) x21_1).f1)) := (blk_cell BK310.out 1).trans rfl; have hfz56_0 := blk_frozen BK310.out 0; have hfz56_1 := blk_frozen BK310.out 1; obtain ⟨Ao57, co57, eo57⟩ := Kd.R_slice HO352.out; subst eo57) | ((with_reducible refine gate_callee (f := 50) rfl ?_); refine goesL_ (some 63) rfl rfl Tryd.func50 (by kernel_rfl) rfl #[.agg #[.slice (some ad308) l0_0.length c0_0], .int .i64 ((rd_T60 ((rd_T76 l0_0 a1).f2) x21_1).f1), .string ((a2 ++ (⟨#[47]⟩ : ByteArray)) ++ ((rd_T60 ((rd_T76 l0_0 a1).f2) x21_1).f0)), .slice Ao57 y350.length co57] rfl (by (try simp only [List.map_toArray, List.map_cons, List.map_nil]); first | done | rfl | (simp only [List.length_drop, List.length_take]; rfl)) ?_; (with_reducible refine (ih k2 (by have := HK1.out; have := HK2.out; omega) _ _ l0_0 ((rd_T60 ((rd_T76 l0_0 a1).f2) x21_1).f1) ((a2 ++ (⟨#[47]⟩ : ByteArray)) ++ ((rd_T60 ((rd_T76 l0_0 a1).f2) x21_1).f0)) (fun k_ => some k_ = (.slice Ao57 y350.length co57 : Value).ownBlock) _ _ y350 t353 _ ?side1 ?side2 ?side3 A47.out).mono ?_); (case side1 => repeat (first | exact (Kd.C_below HR0_0.out HB.out) | (with_reducible refine Kd.C_alloc ?_ _) | (with_reducible refine Kd.C_drewN ?_ _) | (with_reducible refine Kd.C_drew ?_))); (case side2 => exact HC0_0.out); (case side3 => exact Kd.R_V (Kd.R_tight rfl (Kd.R_types (Kd.R_types (HO352.out) BK307.out (by decide)) BK310.out (by decide)))); rintro e w58 ⟨v354, rfl, ho0, hb⟩; refine ⟨_, rfl, ?_⟩; replace HO_3 := Aside0.mk (Kd.V_below (by (with_reducible repeat (first | apply Kd.V_alloc | apply Kd.V_drewN | apply Kd.V_drew)); exact HO_3.out) hb); replace HO338 := Aside0.mk (Kd.V_below (by (with_reducible repeat (first | apply Kd.V_alloc | apply Kd.V_drewN | apply Kd.V_drew)); exact HO338.out) hb); replace HO349 := Aside0.mk (Kd.V_below (by (with_reducible repeat (first | apply Kd.V_alloc | apply Kd.V_drewN | apply Kd.V_drew)); exact HO349.out) hb); have HO355 := Aside0.mk (Kd.V_lower (Kd.V_mono (ok' := fun k_ => (P3_ k_ ∨ w.heap.size ≤ k_) ∧ k_ ≠ gb307 ∧ k_ ≠ gb310) ho0 (fun k_ hk_ => ⟨Or.elim hk_ (fun hs_ => (.inr (((Kd.R_types (Kd.R_types (HO352.out) BK307.out (by decide)) BK310.out (by decide)).1 k_ hs_.symm).1.1))) (fun hn_ => (.inr (Nat.le_trans (below_size (by with_reducible repeat (first | exact HB.out | apply below_alloc | apply pw_below_drewN | apply below_drew1 | refine below_set ?_ GE307.out | refine below_set ?_ GE310.out))) hn_))), Or.elim hk_ (fun hs_ => ((Kd.R_types (Kd.R_types (HO352.out) BK307.out (by decide)) BK310.out (by decide)).1 k_ hs_.symm).1.2) (fun hn_ => (Kd.freshB (g := gb307) (o := .cells #[.slice (some ad308) l0_0.length c0_0] 30 (0, 0)) (by (with_reducible repeat (first | refine blk_drewN ?_ _ | refine blk_drew ?_ | refine blk_alloc ?_ _)); exact BK307.out) k_ hn_)), Or.elim hk_ (fun hs_ => ((Kd.R_types (Kd.R_types (HO352.out) BK307.out (by decide)) BK310.out (by decide)).1 k_ hs_.symm).2) (fun hn_ => (Kd.freshB (g := gb310) (o := .cells #[.string ((rd_T60 ((rd_T76 l0_0 a1).f2) x21_1).f0), .int .i64 ((rd_T60 ((rd_T76 l0_0 a1).f2) x21_1).f1)] 60 (0, 0)) (by (with_reducible repeat (first | refine blk_drewN ?_ _ | refine blk_drew ?_ | refine blk_alloc ?_ _)); exact BK310.out) k_ hn_))⟩)) (below_size (by with_reducible repeat (first | exact HB.out | apply below_alloc | apply pw_below_drewN | apply below_drew1 | refine below_set ?_ GE307.out | refine below_set ?_ GE310.out)))); replace HO352 := Aside0.mk (Kd.R_below (by (with_reducible repeat (first | apply Kd.R_alloc | apply Kd.R_drewN | apply Kd.R_drew)); exact HO352.out) hb); replace BK307 := Aside0.mk (blk_below (g := gb307) (o := .cells #[.slice (some ad308) l0_0.length c0_0] 30 (0, 0)) (by (with_reducible repeat (first | refine blk_drewN ?_ _ | refine blk_drew ?_ | refine blk_alloc ?_ _)); exact BK307.out) hb); replace BK310 := Aside0.mk (blk_below (g := gb310) (o := .cells #[.string ((rd_T60 ((rd_T76 l0_0 a1).f2) x21_1).f0), .int .i64 ((rd_T60 ((rd_T76 l0_0 a1).f2) x21_1).f1)] 60 (0, 0)) (by (with_reducible repeat (first | refine blk_drewN ?_ _ | refine blk_drew ?_ | refine blk_alloc ?_ _)); exact BK310.out) hb); replace HB := Aside0.mk (below_step (by with_reducible repeat (first | exact HB.out | apply below_alloc | apply pw_below_drewN | apply below_drew1 | refine below_set ?_ GE307.out | refine below_set ?_ GE310.out)) hb); (try clear hb); (try clear hb2); (try clear hk); (try clear hi); (try clear ho0)))
                  go_roundg k2
                  case measure => have := HK1.out; have := HK2.out; omega
                  case rel => exact ⟨(t353), (wrap64 (x21_1 + 1)), (by first | rfl | (simp; done) | (simp [*]; done)), H', ⟨by have := HK1.out; have := HK2.out; omega⟩, ⟨by (with_reducible repeat (first | apply Kd.V_alloc | apply Kd.V_drewN | apply Kd.V_drew)); exact Kd.V_mono HO355.out (fun _ hk => ⟨hk.1, hk.2.1⟩)⟩, ⟨by (with_reducible repeat (first | refine blk_drewN ?_ _ | refine blk_drew ?_ | refine blk_alloc ?_ _)); exact BK307.out⟩, ⟨by with_reducible repeat (first | exact HB.out | apply below_alloc | apply pw_below_drewN | apply below_drew1 | refine below_set ?_ GE307.out | refine below_set ?_ GE310.out)⟩⟩
                 ·rw [if_neg c46] at H
                  exact absurd H (by simp)
                ·rw [if_neg c43] at H
                 exact absurd H (by simp)
               ·rw [if_neg c42] at H
                exact absurd H (by simp)
              ·rw [if_neg c41] at H
               exact absurd H (by simp)
             ·rw [if_neg c40] at H
              exact absurd H (by simp)
         ·rw [if_neg c13] at H
          exact absurd H (by simp)
        ·rw [if_neg c12] at H
         exact absurd H (by simp)
       ·rw [if_neg c11] at H
        exact absurd H (by simp)
      ·rw [if_neg c10] at H
       exact absurd H (by simp)
     ·rw [if_neg c9] at H
      have c9b0 : decide (x21_1 < (((rd_T76 l0_0 a1).f2).length : Int)) = false := decide_eq_false c9
      clear c9
      obtain rfl := Option.some.inj H
      go_wp2
      go_ret
      exact ⟨_, by first | rfl | (simp [errW_none, errW_some] <;> rfl) | (simp [*, errW_none, errW_some] <;> rfl) | (simp [E.isEmpty_bne]; done) | (rw [E.bne_empty]), by (with_reducible repeat (first | apply Kd.V_alloc | apply Kd.V_drewN | apply Kd.V_drew)); exact Kd.V_mono HO_3.out (fun _ hk => hk.1), by with_reducible repeat (first | exact HB.out | apply below_alloc | apply pw_below_drewN | apply below_drew1 | refine below_set ?_ GE307.out)⟩
  ·rw [if_neg c6] at H
   exact absurd H (by simp)
 ·rw [if_neg c5] at H
  exact absurd H (by simp)

end Go.Proofs.YthljjgolloiamaaDoor.PNam
