-- of this session: its walks are told by a program (wip/ext.py) out of the translation
import Derived.Test.YthljjgolloiamaaDoorYNamx0
import Derived.Test.YthljjgolloiamaaDoorXNamFind
namespace Go.Proofs.YthljjgolloiamaaDoor.PNam
open Go.RowKit Go.Proofs.YthljjgolloiamaaDoorW.PrintWords Go.Proofs.YthljjgolloiamaaDoorW.PrintLast Go.Proofs.YthljjgolloiamaaDoorW.PrintMore
attribute [local go_sem] max2_int min2_int max_two min_two max_three min_three max_four min_four   -- for this text's walks alone
set_option linter.unusedVariables false
set_option linter.unusedSimpArgs false

/-! ### impl_Names_walk: function 89 -/
def impl_Names_walk.l0 : Nat → Int → List ByteArray → Int → Int → List (S76) → Option (Int × Int)
 | 0, _, _, _, _, _ => none
 | k + 1, x6, x11, x12, x13, x214000 => if x13 < x12 then (if 0 ≤ x13 then (if x13 < (x11.length : Int) then (if 0 ≤ x6 then (if x6 < (x214000.length : Int) then (if ((rd_T76 x214000 x6).f0 = true) then ((impl_Inode_find.f ((rd_T76 x214000 x6).f0) ((rd_T76 x214000 x6).f1) ((rd_T76 x214000 x6).f2) (rdOf ByteArray.empty x11 x13)).bind fun bt217 => (if bt217.2 = true then (if 0 ≤ bt217.1 then (if bt217.1 < (((rd_T76 x214000 x6).f2).length : Int) then (impl_Names_walk.l0 k ((rd_T60 ((rd_T76 x214000 x6).f2) bt217.1).f1) x11 x12 (wrap64 (x13 + 1)) x214000) else (none)) else (none)) else (some (0, 2)))) else (some (0, 4))) else (none)) else (none)) else (none)) else (none)) else (some (x6, 0))
def impl_Names_walk.f (k : Nat) (l0_0 : List (S76)) (l1 : List ByteArray) : Option (Int × Int) := impl_Names_walk.l0 k 0 l1 (l1.length : Int) 0 l0_0
theorem impl_Names_walk.mono_l : ∀ k, (∀ y0 y1 y2 y3 y4, LeO (impl_Names_walk.l0 k y0 y1 y2 y3 y4) (impl_Names_walk.l0 (k + 1) y0 y1 y2 y3 y4))
 | 0 => fun _ _ _ _ _ r h => by simp [impl_Names_walk.l0] at h
 | k + 1 => by
  have ih0 := impl_Names_walk.mono_l k
  ·intro y0 y1 y2 y3 y4
   unfold impl_Names_walk.l0
   repeat' first
   | (with_reducible exact ih0 _ _ _ _ _)
   | (with_reducible exact LeO.refl _)
   | (with_reducible exact LeO.none _)
   | (with_reducible refine LeO.ite ?_ ?_)
   | (with_reducible refine LeO.bind ?_ (fun _ => ?_))
   | exact ih0 _ _ _ _ _
   | exact LeO.none _
   | refine LeO.ite ?_ ?_
   | refine LeO.bind ?_ (fun _ => ?_)
theorem impl_Names_walk.mono : ∀ a0 a1 k, LeO (impl_Names_walk.f k a0 a1) (impl_Names_walk.f (k + 1) a0 a1) := by
 intro a0 a1 k
 have ih0 := impl_Names_walk.mono_l k
 unfold impl_Names_walk.f
 repeat' first
   | (with_reducible exact ih0 _ _ _ _ _)
   | (with_reducible exact LeO.refl _)
   | (with_reducible exact LeO.none _)
   | (with_reducible refine LeO.ite ?_ ?_)
   | (with_reducible refine LeO.bind ?_ (fun _ => ?_))
   | exact ih0 _ _ _ _ _
   | exact LeO.none _
   | refine LeO.ite ?_ ?_
   | refine LeO.bind ?_ (fun _ => ?_)
set_option maxHeartbeats 8000000 in
set_option maxRecDepth 100000 in
theorem impl_Names_walk.calls (k : Nat) (A0_0 : Option Addr) (c0_0 : Nat) (l0_0 : List (S76)) (A1 : Option Addr) (c1 : Nat) (l1 : List ByteArray) (r1 : Int) (r2 : Int) (w : World) (hr0_0 : Kd.C k76 w A0_0 l0_0.length l0_0) (hc0_0 : l0_0.length ≤ c0_0) (hr1 : Kd.C Kd.string w A1 l1.length l1) (hc1 : l1.length ≤ c1) (h : impl_Names_walk.f k l0_0 l1 = some (r1, r2)) :
  Calls Tryd.prog 89 #[.agg #[.slice A0_0 l0_0.length c0_0], .slice A1 l1.length c1] w fun e w' => e = .returned (.tuple #[.int .i64 r1, .int .i64 r2]) ∧ Below w.heap.size w w' := by
 have hu30 := Tryd.underlying30
 have hu76 := Tryd.underlying76
 have HR0_0 := Aside0.mk hr0_0
 have HC0_0 := Aside0.mk hc0_0
 clear hr0_0 hc0_0
 have HR1 := Aside0.mk hr1
 have HC1 := Aside0.mk hc1
 clear hr1 hc1
 have HB := Aside0.mk (Below.refl w.heap.size w)
 have H : (impl_Names_walk.l0 k 0 l1 (l1.length : Int) 0 l0_0) = some (r1, r2) := h
 clear h
 have H' := Aside0.mk H
 clear H
 go_enter Tryd.func89, Tryd.ntmps89
 go_wp2_with (first | ((with_reducible refine gate_dst (N := 2) rfl ?_); refine box_event ?hg (N := 2) ?hd (cs := #[.slice A0_0 l0_0.length c0_0]) (t := 30) ?hr ?_; (case hd => rfl); (case hg => rfl); (case hr => first | (go_simp; done) | (go_simp; rfl)); intro gb213 hg w3 hbox hb; have BK213 := Aside0.mk (hbox); have GW213 := Aside0.mk ((by rw [hg]; exact (below_size (by with_reducible repeat (first | exact HB.out | apply below_alloc | apply pw_below_drewN | apply below_drew1))) : w.heap.size ≤ gb213)); have GE213 := Aside0.mk ((by rw [hg]; exact (below_size (by with_reducible repeat (first | exact HB.out | apply below_alloc | apply pw_below_drewN | apply below_drew1))) : w.heap.size ≤ gb213)); replace HB := Aside0.mk (below_step (by with_reducible repeat (first | exact HB.out | apply below_alloc | apply pw_below_drewN | apply below_drew1)) hb); clear hb hbox hg))
 go_loopg [6, 13] k (fun kq v6 v13 w' => ∃ (x6_1 : Int) (x13_1 : Int), v6 = .int .i64 x6_1 ∧ v13 = .int .i64 x13_1 ∧ Aside0 (impl_Names_walk.l0 kq x6_1 l1 (l1.length : Int) x13_1 l0_0 = some (r1, r2)) ∧ Aside0 (kq ≤ k) ∧ Aside0 (w'.heap[gb213]? = some (.cells #[(.slice A0_0 l0_0.length c0_0)] 30 (0, 0))) ∧ Aside0 (Below w.heap.size w w'))
 case atStart => exact ⟨(0), (0), (by first | rfl | (simp; done) | (simp [*]; done)), (by first | rfl | (simp; done) | (simp [*]; done)), H', ⟨Nat.le_refl _⟩, ⟨by (with_reducible repeat (first | refine blk_drewN ?_ _ | refine blk_drew ?_ | refine blk_alloc ?_ _)); exact BK213.out⟩, ⟨by with_reducible repeat (first | exact HB.out | apply below_alloc | apply pw_below_drewN | apply below_drew1 | refine below_set ?_ GE213.out)⟩⟩
 case round =>
  clear H'
  try clear c1
  try clear p2
  obtain ⟨x6_1, x13_1, rfl, rfl, HA, HK1, BK213, HB⟩ := hrel
  cases gk with
  | zero => exact absurd HA.out (by simp [impl_Names_walk.l0])
  | succ k1 =>
   have H := HA.out
   clear HA
   simp only [impl_Names_walk.l0] at H
   by_cases c4 : x13_1 < (l1.length : Int)
   ·rw [if_pos c4] at H
    have c4b0 : decide (x13_1 < (l1.length : Int)) = true := decide_eq_true c4
    clear c4
    by_cases c5 : 0 ≤ x13_1
    ·rw [if_pos c5] at H
     have c5b0 : decide (0 ≤ x13_1) = true := decide_eq_true c5
     clear c5
     by_cases c6 : x13_1 < (l1.length : Int)
     ·rw [if_pos c6] at H
      have c6b0 : decide (x13_1 < (l1.length : Int)) = true := decide_eq_true c6
      clear c6
      by_cases c7 : 0 ≤ x6_1
      ·rw [if_pos c7] at H
       have c7b0 : decide (0 ≤ x6_1) = true := decide_eq_true c7
       clear c7
       by_cases c8 : x6_1 < (l0_0.length : Int)
       ·rw [if_pos c8] at H
        have c8b0 : decide (x6_1 < (l0_0.length : Int)) = true := decide_eq_true c8
        clear c8
        obtain ⟨bq9, hbq9⟩ : ∃ b_ : Bool, b_ = ((rd_T76 l0_0 x6_1).f0) := ⟨_, rfl⟩
        replace H : (if (bq9 = true) then ((impl_Inode_find.f (bq9) ((rd_T76 l0_0 x6_1).f1) ((rd_T76 l0_0 x6_1).f2) (rdOf ByteArray.empty l1 x13_1)).bind fun bt217 => (if bt217.2 = true then (if 0 ≤ bt217.1 then (if bt217.1 < (((rd_T76 l0_0 x6_1).f2).length : Int) then (impl_Names_walk.l0 k1 ((rd_T60 ((rd_T76 l0_0 x6_1).f2) bt217.1).f1) l1 (l1.length : Int) (wrap64 (x13_1 + 1)) l0_0) else (none)) else (none)) else (some (0, 2)))) else (some (0, 4))) = some (r1, r2) := by rw [← hbq9] at H; exact H
        have Nbq9 := Aside0.mk hbq9
        clear hbq9
        by_cases c10 : (bq9 = true)
        ·subst c10
         have H1 : ((impl_Inode_find.f (true) ((rd_T76 l0_0 x6_1).f1) ((rd_T76 l0_0 x6_1).f2) (rdOf ByteArray.empty l1 x13_1)).bind fun bt217 => (if bt217.2 = true then (if 0 ≤ bt217.1 then (if bt217.1 < (((rd_T76 l0_0 x6_1).f2).length : Int) then (impl_Names_walk.l0 k1 ((rd_T60 ((rd_T76 l0_0 x6_1).f2) bt217.1).f1) l1 (l1.length : Int) (wrap64 (x13_1 + 1)) l0_0) else (none)) else (none)) else (some (0, 2)))) = some (r1, r2) := by rw [if_pos rfl] at H; exact H
         clear H
         have H := H1
         clear H1
         replace H := Option.bind_eq_some_iff.mp H
         obtain ⟨⟨t217, t218⟩, A110, H⟩ := H
         replace H : (if t218 = true then (if 0 ≤ t217 then (if t217 < (((rd_T76 l0_0 x6_1).f2).length : Int) then (impl_Names_walk.l0 k1 ((rd_T60 ((rd_T76 l0_0 x6_1).f2) t217).f1) l1 (l1.length : Int) (wrap64 (x13_1 + 1)) l0_0) else (none)) else (none)) else (some (0, 2))) = some (r1, r2) := H
         have A11 := Aside0.mk A110
         clear A110
         by_cases c12 : t218 = true
         ·subst c12
          have H1 : (if 0 ≤ t217 then (if t217 < (((rd_T76 l0_0 x6_1).f2).length : Int) then (impl_Names_walk.l0 k1 ((rd_T60 ((rd_T76 l0_0 x6_1).f2) t217).f1) l1 (l1.length : Int) (wrap64 (x13_1 + 1)) l0_0) else (none)) else (none)) = some (r1, r2) := by rw [if_pos rfl] at H; exact H
          clear H
          have H := H1
          clear H1
          by_cases c13 : 0 ≤ t217
          ·rw [if_pos c13] at H
           have c13b0 : decide (0 ≤ t217) = true := decide_eq_true c13
           clear c13
           by_cases c14 : t217 < (((rd_T76 l0_0 x6_1).f2).length : Int)
           ·rw [if_pos c14] at H
            have c14b0 : decide (t217 < (((rd_T76 l0_0 x6_1).f2).length : Int)) = true := decide_eq_true c14
            clear c14
            have H' := Aside0.mk H
            clear H
            have p214 : 0 ≤ (x13_1 : Int) := of_decide_eq_true (by assumption)
            have q214 : x13_1 < (l1.length : Int) := of_decide_eq_true (by assumption)
            obtain ⟨ad214, e214, hx214_0⟩ := Kd.at_string HR1.out x13_1 p214 q214
            cases e214
            replace hx214_0 := (HB.out.cell (World.block_lt_of_cell? w _ hx214_0)).trans hx214_0
            replace p214 := eq_true p214
            replace q214 := eq_true q214
            have hcz15_0 : wr.cell? ⟨gb213, 0, none⟩ = some (.slice A0_0 l0_0.length c0_0) := (blk_cell BK213.out 0).trans rfl
            have hfz15_0 := blk_frozen BK213.out 0
            have p215 : 0 ≤ (x6_1 : Int) := of_decide_eq_true (by assumption)
            have q215 : x6_1 < (l0_0.length : Int) := of_decide_eq_true (by assumption)
            obtain ⟨ad215, A215_2, c215_2, e215, hx215_0, hx215_1, hx215_2, hl215_2, hi215_2⟩ := at_T76 HR0_0.out x6_1 p215 q215
            (try rw [← Nbq9.out] at hx215_0)
            cases e215
            replace hx215_0 := (HB.out.cell (World.block_lt_of_cell? w _ hx215_0)).trans hx215_0
            replace hx215_1 := (HB.out.cell (World.block_lt_of_cell? w _ hx215_1)).trans hx215_1
            replace hx215_2 := (HB.out.cell (World.block_lt_of_cell? w _ hx215_2)).trans hx215_2
            have HR215_2 := Aside0.mk hi215_2
            have HC215_2 := Aside0.mk hl215_2
            clear hi215_2 hl215_2
            replace p215 := eq_true p215
            replace q215 := eq_true q215
            have p216 : 0 ≤ (x6_1 : Int) := of_decide_eq_true (by assumption)
            have q216 : x6_1 < (l0_0.length : Int) := of_decide_eq_true (by assumption)
            obtain ⟨ad216, A216_2, c216_2, e216, hx216_0, hx216_1, hx216_2, hl216_2, hi216_2⟩ := at_T76 HR0_0.out x6_1 p216 q216
            (try rw [← Nbq9.out] at hx216_0)
            obtain rfl : ad215 = ad216 := (by injection e216)
            replace hx216_0 := (HB.out.cell (World.block_lt_of_cell? w _ hx216_0)).trans hx216_0
            replace hx216_1 := (HB.out.cell (World.block_lt_of_cell? w _ hx216_1)).trans hx216_1
            replace hx216_2 := (HB.out.cell (World.block_lt_of_cell? w _ hx216_2)).trans hx216_2
            have HR216_2 := Aside0.mk hi216_2
            have HC216_2 := Aside0.mk hl216_2
            clear hi216_2 hl216_2
            replace p216 := eq_true p216
            replace q216 := eq_true q216
            have ea_ := Option.some.inj (hx215_2.symm.trans hx216_2)
            injection ea_ with ea_ en_ ec_
            subst ea_
            subst ec_
            clear en_
            go_wp2_with (first | ((with_reducible refine gate_callee (f := 118) rfl ?_); refine goesL_ (some 31) rfl rfl Tryd.func118 (by kernel_rfl) rfl #[.agg #[.bool true, .int .i64 ((rd_T76 l0_0 x6_1).f1), .slice A215_2 ((rd_T76 l0_0 x6_1).f2).length c215_2], .string (rdOf ByteArray.empty l1 x13_1)] rfl (by (try simp only [List.map_toArray, List.map_cons, List.map_nil]); first | done | rfl | (simp only [List.length_drop, List.length_take]; rfl)) ?_; (with_reducible refine (impl_Inode_find.calls true ((rd_T76 l0_0 x6_1).f1) _ _ ((rd_T76 l0_0 x6_1).f2) (rdOf ByteArray.empty l1 x13_1) t217 true _ ?side1 ?side2 A11.out).mono ?_); (case side1 => repeat (first | exact (Kd.C_below HR216_2.out HB.out) | (with_reducible refine Kd.C_alloc ?_ _) | (with_reducible refine Kd.C_drewN ?_ _) | (with_reducible refine Kd.C_drew ?_))); (case side2 => exact HC216_2.out); rintro e w16 ⟨rfl, hb⟩; refine ⟨_, rfl, ?_⟩; replace BK213 := Aside0.mk (blk_below (g := gb213) (o := .cells #[.slice (some ad215) l0_0.length c0_0] 30 (0, 0)) (by (with_reducible repeat (first | refine blk_drewN ?_ _ | refine blk_drew ?_ | refine blk_alloc ?_ _)); exact BK213.out) hb); replace HB := Aside0.mk (below_step (by with_reducible repeat (first | exact HB.out | apply below_alloc | apply pw_below_drewN | apply below_drew1 | refine below_set ?_ GE213.out)) hb); (try clear hb); (try clear hb2); (try clear hk); (try clear hi); have hcz17_0 : w16.cell? ⟨gb213, 0, none⟩ = some (.slice (some ad215) l0_0.length c0_0) := (blk_cell BK213.out 0).trans rfl; have hfz17_0 := blk_frozen BK213.out 0; have p219 : 0 ≤ (x6_1 : Int) := of_decide_eq_true (by assumption); have q219 : x6_1 < (l0_0.length : Int) := of_decide_eq_true (by assumption); obtain ⟨ad219, A219_2, c219_2, e219, hx219_0, hx219_1, hx219_2, hl219_2, hi219_2⟩ := at_T76 HR0_0.out x6_1 p219 q219; (try rw [← Nbq9.out] at hx219_0); obtain rfl : ad215 = ad219 := (by injection e219); replace hx219_0 := (HB.out.cell (World.block_lt_of_cell? w _ hx219_0)).trans hx219_0; replace hx219_1 := (HB.out.cell (World.block_lt_of_cell? w _ hx219_1)).trans hx219_1; replace hx219_2 := (HB.out.cell (World.block_lt_of_cell? w _ hx219_2)).trans hx219_2; have HR219_2 := Aside0.mk hi219_2; have HC219_2 := Aside0.mk hl219_2; clear hi219_2 hl219_2; replace p219 := eq_true p219; replace q219 := eq_true q219; have p220 : 0 ≤ (t217 : Int) := of_decide_eq_true (by assumption); have q220 : t217 < (((rd_T76 l0_0 x6_1).f2).length : Int) := of_decide_eq_true (by assumption); obtain ⟨ad220, e220, hx220_0, hx220_1⟩ := at_T60 HR219_2.out t217 p220 q220; cases e220; replace hx220_0 := (HB.out.cell (World.block_lt_of_cell? w _ hx220_0)).trans hx220_0; replace hx220_1 := (HB.out.cell (World.block_lt_of_cell? w _ hx220_1)).trans hx220_1; replace p220 := eq_true p220; replace q220 := eq_true q220))
            go_roundg k1
            case measure => have := HK1.out; omega
            case rel => exact ⟨((rd_T60 ((rd_T76 l0_0 x6_1).f2) t217).f1), (wrap64 (x13_1 + 1)), (by first | rfl | (simp; done) | (simp [*]; done)), (by first | rfl | (simp; done) | (simp [*]; done)), H', ⟨by have := HK1.out; omega⟩, ⟨by (with_reducible repeat (first | refine blk_drewN ?_ _ | refine blk_drew ?_ | refine blk_alloc ?_ _)); exact BK213.out⟩, ⟨by with_reducible repeat (first | exact HB.out | apply below_alloc | apply pw_below_drewN | apply below_drew1 | refine below_set ?_ GE213.out)⟩⟩
           ·rw [if_neg c14] at H
            exact absurd H (by simp)
          ·rw [if_neg c13] at H
           exact absurd H (by simp)
         ·replace c12 := Bool.eq_false_iff.mpr c12
          subst c12
          have H1 : (some (0, 2)) = some (r1, r2) := by rw [if_neg (show ¬ (false = true) by decide)] at H; exact H
          clear H
          have H := H1
          clear H1
          simp only [Option.some.injEq, Prod.mk.injEq] at H
          obtain ⟨rfl, rfl⟩ := H
          have p214 : 0 ≤ (x13_1 : Int) := of_decide_eq_true (by assumption)
          have q214 : x13_1 < (l1.length : Int) := of_decide_eq_true (by assumption)
          obtain ⟨ad214, e214, hx214_0⟩ := Kd.at_string HR1.out x13_1 p214 q214
          cases e214
          replace hx214_0 := (HB.out.cell (World.block_lt_of_cell? w _ hx214_0)).trans hx214_0
          replace p214 := eq_true p214
          replace q214 := eq_true q214
          have hcz18_0 : wr.cell? ⟨gb213, 0, none⟩ = some (.slice A0_0 l0_0.length c0_0) := (blk_cell BK213.out 0).trans rfl
          have hfz18_0 := blk_frozen BK213.out 0
          have p215 : 0 ≤ (x6_1 : Int) := of_decide_eq_true (by assumption)
          have q215 : x6_1 < (l0_0.length : Int) := of_decide_eq_true (by assumption)
          obtain ⟨ad215, A215_2, c215_2, e215, hx215_0, hx215_1, hx215_2, hl215_2, hi215_2⟩ := at_T76 HR0_0.out x6_1 p215 q215
          (try rw [← Nbq9.out] at hx215_0)
          cases e215
          replace hx215_0 := (HB.out.cell (World.block_lt_of_cell? w _ hx215_0)).trans hx215_0
          replace hx215_1 := (HB.out.cell (World.block_lt_of_cell? w _ hx215_1)).trans hx215_1
          replace hx215_2 := (HB.out.cell (World.block_lt_of_cell? w _ hx215_2)).trans hx215_2
          have HR215_2 := Aside0.mk hi215_2
          have HC215_2 := Aside0.mk hl215_2
          clear hi215_2 hl215_2
          replace p215 := eq_true p215
          replace q215 := eq_true q215
          have p216 : 0 ≤ (x6_1 : Int) := of_decide_eq_true (by assumption)
          have q216 : x6_1 < (l0_0.length : Int) := of_decide_eq_true (by assumption)
          obtain ⟨ad216, A216_2, c216_2, e216, hx216_0, hx216_1, hx216_2, hl216_2, hi216_2⟩ := at_T76 HR0_0.out x6_1 p216 q216
          (try rw [← Nbq9.out] at hx216_0)
          obtain rfl : ad215 = ad216 := (by injection e216)
          replace hx216_0 := (HB.out.cell (World.block_lt_of_cell? w _ hx216_0)).trans hx216_0
          replace hx216_1 := (HB.out.cell (World.block_lt_of_cell? w _ hx216_1)).trans hx216_1
          replace hx216_2 := (HB.out.cell (World.block_lt_of_cell? w _ hx216_2)).trans hx216_2
          have HR216_2 := Aside0.mk hi216_2
          have HC216_2 := Aside0.mk hl216_2
          clear hi216_2 hl216_2
          replace p216 := eq_true p216
          replace q216 := eq_true q216
          have ea_ := Option.some.inj (hx215_2.symm.trans hx216_2)
          injection ea_ with ea_ en_ ec_
          subst ea_
          subst ec_
          clear en_
          go_wp2_with (first | ((with_reducible refine gate_callee (f := 118) rfl ?_); refine goesL_ (some 31) rfl rfl Tryd.func118 (by kernel_rfl) rfl #[.agg #[.bool true, .int .i64 ((rd_T76 l0_0 x6_1).f1), .slice A215_2 ((rd_T76 l0_0 x6_1).f2).length c215_2], .string (rdOf ByteArray.empty l1 x13_1)] rfl (by (try simp only [List.map_toArray, List.map_cons, List.map_nil]); first | done | rfl | (simp only [List.length_drop, List.length_take]; rfl)) ?_; (with_reducible refine (impl_Inode_find.calls true ((rd_T76 l0_0 x6_1).f1) _ _ ((rd_T76 l0_0 x6_1).f2) (rdOf ByteArray.empty l1 x13_1) t217 false _ ?side1 ?side2 A11.out).mono ?_); (case side1 => repeat (first | exact (Kd.C_below HR216_2.out HB.out) | (with_reducible refine Kd.C_alloc ?_ _) | (with_reducible refine Kd.C_drewN ?_ _) | (with_reducible refine Kd.C_drew ?_))); (case side2 => exact HC216_2.out); rintro e w19 ⟨rfl, hb⟩; refine ⟨_, rfl, ?_⟩; replace BK213 := Aside0.mk (blk_below (g := gb213) (o := .cells #[.slice (some ad215) l0_0.length c0_0] 30 (0, 0)) (by (with_reducible repeat (first | refine blk_drewN ?_ _ | refine blk_drew ?_ | refine blk_alloc ?_ _)); exact BK213.out) hb); replace HB := Aside0.mk (below_step (by with_reducible repeat (first | exact HB.out | apply below_alloc | apply pw_below_drewN | apply below_drew1 | refine below_set ?_ GE213.out)) hb); (try clear hb); (try clear hb2); (try clear hk); (try clear hi)))
          go_ret2
          exact ⟨by first | rfl | (simp [errW_none, errW_some] <;> rfl) | (simp [*, errW_none, errW_some] <;> rfl) | (simp [E.isEmpty_bne]; done) | (rw [E.bne_empty]), by with_reducible repeat (first | exact HB.out | apply below_alloc | apply pw_below_drewN | apply below_drew1 | refine below_set ?_ GE213.out)⟩
        ·replace c10 := Bool.eq_false_iff.mpr c10
         subst c10
         have H1 : (some (0, 4)) = some (r1, r2) := by rw [if_neg (show ¬ (false = true) by decide)] at H; exact H
         clear H
         have H := H1
         clear H1
         simp only [Option.some.injEq, Prod.mk.injEq] at H
         obtain ⟨rfl, rfl⟩ := H
         have p214 : 0 ≤ (x13_1 : Int) := of_decide_eq_true (by assumption)
         have q214 : x13_1 < (l1.length : Int) := of_decide_eq_true (by assumption)
         obtain ⟨ad214, e214, hx214_0⟩ := Kd.at_string HR1.out x13_1 p214 q214
         cases e214
         replace hx214_0 := (HB.out.cell (World.block_lt_of_cell? w _ hx214_0)).trans hx214_0
         replace p214 := eq_true p214
         replace q214 := eq_true q214
         have hcz20_0 : wr.cell? ⟨gb213, 0, none⟩ = some (.slice A0_0 l0_0.length c0_0) := (blk_cell BK213.out 0).trans rfl
         have hfz20_0 := blk_frozen BK213.out 0
         have p215 : 0 ≤ (x6_1 : Int) := of_decide_eq_true (by assumption)
         have q215 : x6_1 < (l0_0.length : Int) := of_decide_eq_true (by assumption)
         obtain ⟨ad215, A215_2, c215_2, e215, hx215_0, hx215_1, hx215_2, hl215_2, hi215_2⟩ := at_T76 HR0_0.out x6_1 p215 q215
         (try rw [← Nbq9.out] at hx215_0)
         cases e215
         replace hx215_0 := (HB.out.cell (World.block_lt_of_cell? w _ hx215_0)).trans hx215_0
         replace hx215_1 := (HB.out.cell (World.block_lt_of_cell? w _ hx215_1)).trans hx215_1
         replace hx215_2 := (HB.out.cell (World.block_lt_of_cell? w _ hx215_2)).trans hx215_2
         have HR215_2 := Aside0.mk hi215_2
         have HC215_2 := Aside0.mk hl215_2
         clear hi215_2 hl215_2
         replace p215 := eq_true p215
         replace q215 := eq_true q215
         go_wp2
         go_ret2
         exact ⟨by first | rfl | (simp [errW_none, errW_some] <;> rfl) | (simp [*, errW_none, errW_some] <;> rfl) | (simp [E.isEmpty_bne]; done) | (rw [E.bne_empty]), by with_reducible repeat (first | exact HB.out | apply below_alloc | apply pw_below_drewN | apply below_drew1 | refine below_set ?_ GE213.out)⟩
       ·rw [if_neg c8] at H
        exact absurd H (by simp)
      ·rw [if_neg c7] at H
       exact absurd H (by simp)
     ·rw [if_neg c6] at H
      exact absurd H (by simp)
    ·rw [if_neg c5] at H
     exact absurd H (by simp)
   ·rw [if_neg c4] at H
    have c4b0 : decide (x13_1 < (l1.length : Int)) = false := decide_eq_false c4
    clear c4
    simp only [Option.some.injEq, Prod.mk.injEq] at H
    obtain ⟨rfl, rfl⟩ := H
    go_wp2
    go_ret2
    exact ⟨by first | rfl | (simp [errW_none, errW_some] <;> rfl) | (simp [*, errW_none, errW_some] <;> rfl) | (simp [E.isEmpty_bne]; done) | (rw [E.bne_empty]), by with_reducible repeat (first | exact HB.out | apply below_alloc | apply pw_below_drewN | apply below_drew1 | refine below_set ?_ GE213.out)⟩

end Go.Proofs.YthljjgolloiamaaDoor.PNam
