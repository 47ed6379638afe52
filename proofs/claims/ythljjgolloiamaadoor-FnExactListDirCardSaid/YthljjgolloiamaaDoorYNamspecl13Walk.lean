-- of this session: its walks are told by a program (wip/ext.py) out of the translation
import Derived.Test.YthljjgolloiamaaDoorYNamx0
import Derived.Test.YthljjgolloiamaaDoorYNamspecl8At
namespace Go.Proofs.YthljjgolloiamaaDoor.PNam
open Go.RowKit Go.Proofs.YthljjgolloiamaaDoorW.PrintWords Go.Proofs.YthljjgolloiamaaDoorW.PrintLast Go.Proofs.YthljjgolloiamaaDoorW.PrintMore
attribute [local go_sem] max2_int min2_int max_two min_two max_three min_three max_four min_four   -- for this text's walks alone
set_option linter.unusedVariables false
set_option linter.unusedSimpArgs false

/-! ### spec_l13Walk: function 86 -/
def spec_l13Walk.l0 : Nat → Int → List ByteArray → Int → Int → List (S76) → Option (Int × Int)
 | 0, _, _, _, _, _ => none
 | k + 1, x6, x11, x12, x13, x132000 => if x13 < x12 then (if 0 ≤ x13 then (if x13 < (x11.length : Int) then (if 0 ≤ x6 then (if x6 < (x132000.length : Int) then (if ((rd_T76 x132000 x6).f0 = true) then ((spec_l8At.f k ((rd_T76 x132000 x6).f2) (rdOf ByteArray.empty x11 x13)).bind fun bt135 => (if bt135.2 = true then (if 0 ≤ bt135.1 then (if bt135.1 < (((rd_T76 x132000 x6).f2).length : Int) then (spec_l13Walk.l0 k ((rd_T60 ((rd_T76 x132000 x6).f2) bt135.1).f1) x11 x12 (wrap64 (x13 + 1)) x132000) else (none)) else (none)) else (some (0, 2)))) else (some (0, 4))) else (none)) else (none)) else (none)) else (none)) else (some (x6, 0))
def spec_l13Walk.f (k : Nat) (l0_0 : List (S76)) (l1 : List ByteArray) : Option (Int × Int) := spec_l13Walk.l0 k 0 l1 (l1.length : Int) 0 l0_0
theorem spec_l13Walk.mono_l : ∀ k, (∀ y0 y1 y2 y3 y4, LeO (spec_l13Walk.l0 k y0 y1 y2 y3 y4) (spec_l13Walk.l0 (k + 1) y0 y1 y2 y3 y4))
 | 0 => fun _ _ _ _ _ r h => by simp [spec_l13Walk.l0] at h
 | k + 1 => by
  have ih0 := spec_l13Walk.mono_l k
  ·intro y0 y1 y2 y3 y4
   unfold spec_l13Walk.l0
   repeat' first
   | (with_reducible exact ih0 _ _ _ _ _)
   | (with_reducible exact spec_l8At.mono _ _ _)
   | (with_reducible exact LeO.refl _)
   | (with_reducible exact LeO.none _)
   | (with_reducible refine LeO.ite ?_ ?_)
   | (with_reducible refine LeO.bind ?_ (fun _ => ?_))
   | exact ih0 _ _ _ _ _
   | exact spec_l8At.mono _ _ _
   | exact LeO.none _
   | refine LeO.ite ?_ ?_
   | refine LeO.bind ?_ (fun _ => ?_)
theorem spec_l13Walk.mono : ∀ a0 a1 k, LeO (spec_l13Walk.f k a0 a1) (spec_l13Walk.f (k + 1) a0 a1) := by
 intro a0 a1 k
 have ih0 := spec_l13Walk.mono_l k
 unfold spec_l13Walk.f
 repeat' first
   | (with_reducible exact ih0 _ _ _ _ _)
   | (with_reducible exact spec_l8At.mono _ _ _)
   | (with_reducible exact LeO.refl _)
   | (with_reducible exact LeO.none _)
   | (with_reducible refine LeO.ite ?_ ?_)
   | (with_reducible refine LeO.bind ?_ (fun _ => ?_))
   | exact ih0 _ _ _ _ _
   | exact spec_l8At.mono _ _ _
   | exact LeO.none _
   | refine LeO.ite ?_ ?_
   | refine LeO.bind ?_ (fun _ => ?_)
set_option maxHeartbeats 8000000 in
set_option maxRecDepth 100000 in
theorem spec_l13Walk.calls (k : Nat) (A0_0 : Option Addr) (c0_0 : Nat) (l0_0 : List (S76)) (A1 : Option Addr) (c1 : Nat) (l1 : List ByteArray) (r1 : Int) (r2 : Int) (w : World) (hr0_0 : Kd.C k76 w A0_0 l0_0.length l0_0) (hc0_0 : l0_0.length ≤ c0_0) (hr1 : Kd.C Kd.string w A1 l1.length l1) (hc1 : l1.length ≤ c1) (h : spec_l13Walk.f k l0_0 l1 = some (r1, r2)) :
  Calls Tryd.prog 86 #[.agg #[.slice A0_0 l0_0.length c0_0], .slice A1 l1.length c1] w fun e w' => e = .returned (.tuple #[.int .i64 r1, .int .i64 r2]) ∧ Below w.heap.size w w' := by
 have hu30 := Tryd.underlying30
 have HR0_0 := Aside0.mk hr0_0
 have HC0_0 := Aside0.mk hc0_0
 clear hr0_0 hc0_0
 have HR1 := Aside0.mk hr1
 have HC1 := Aside0.mk hc1
 clear hr1 hc1
 have HB := Aside0.mk (Below.refl w.heap.size w)
 have H : (spec_l13Walk.l0 k 0 l1 (l1.length : Int) 0 l0_0) = some (r1, r2) := h
 clear h
 have H' := Aside0.mk H
 clear H
 go_enter Tryd.func86, Tryd.ntmps86
 go_wp2_with (first | ((with_reducible refine gate_dst (N := 2) rfl ?_); refine box_event ?hg (N := 2) ?hd (cs := #[.slice A0_0 l0_0.length c0_0]) (t := 30) ?hr ?_; (case hd => rfl); (case hg => rfl); (case hr => first | (go_simp; done) | (go_simp; rfl)); intro gb131 hg w3 hbox hb; have BK131 := Aside0.mk (hbox); have GW131 := Aside0.mk ((by rw [hg]; exact (below_size (by with_reducible repeat (first | exact HB.out | apply below_alloc | apply pw_below_drewN | apply below_drew1))) : w.heap.size ≤ gb131)); have GE131 := Aside0.mk ((by rw [hg]; exact (below_size (by with_reducible repeat (first | exact HB.out | apply below_alloc | apply pw_below_drewN | apply below_drew1))) : w.heap.size ≤ gb131)); replace HB := Aside0.mk (below_step (by with_reducible repeat (first | exact HB.out | apply below_alloc | apply pw_below_drewN | apply below_drew1)) hb); clear hb hbox hg))
 go_loopg [6, 13] k (fun kq v6 v13 w' => ∃ (x6_1 : Int) (x13_1 : Int), v6 = .int .i64 x6_1 ∧ v13 = .int .i64 x13_1 ∧ Aside0 (spec_l13Walk.l0 kq x6_1 l1 (l1.length : Int) x13_1 l0_0 = some (r1, r2)) ∧ Aside0 (kq ≤ k) ∧ Aside0 (w'.heap[gb131]? = some (.cells #[(.slice A0_0 l0_0.length c0_0)] 30 (0, 0))) ∧ Aside0 (Below w.heap.size w w'))
 case atStart => exact ⟨(0), (0), (by first | rfl | (simp; done) | (simp [*]; done)), (by first | rfl | (simp; done) | (simp [*]; done)), H', ⟨Nat.le_refl _⟩, ⟨by (with_reducible repeat (first | refine blk_drewN ?_ _ | refine blk_drew ?_ | refine blk_alloc ?_ _)); exact BK131.out⟩, ⟨by with_reducible repeat (first | exact HB.out | apply below_alloc | apply pw_below_drewN | apply below_drew1 | refine below_set ?_ GE131.out)⟩⟩
 case round =>
  clear H'
  try clear c1
  try clear p2
  obtain ⟨x6_1, x13_1, rfl, rfl, HA, HK1, BK131, HB⟩ := hrel
  cases gk with
  | zero => exact absurd HA.out (by simp [spec_l13Walk.l0])
  | succ k1 =>
   have H := HA.out
   clear HA
   simp only [spec_l13Walk.l0] at H
   by_cases c4 : x13_1 < (l1.length : Int)
   ·rw [if_pos c4] at H
    have c4b0 : decide (x13_1 < (l1.length : Int)) = true := decide_eq_true c4
    clear c4
    by_cases c5 : 0 ≤ x13_1
    ·rw [if_pos c5] at H
     have c5b0 : decide (0 ≤ x13_1) = true := decide_eq_true c5
     clear c5
     by_cases c6 : x13_1 < (l1.length : Int)
     ·rw [if_pos c6] at H
      have c6b0 : decide (x13_1 < (l1.length : Int)) = true := decide_eq_true c6
      clear c6
      by_cases c7 : 0 ≤ x6_1
      ·rw [if_pos c7] at H
       have c7b0 : decide (0 ≤ x6_1) = true := decide_eq_true c7
       clear c7
       by_cases c8 : x6_1 < (l0_0.length : Int)
       ·rw [if_pos c8] at H
        have c8b0 : decide (x6_1 < (l0_0.length : Int)) = true := decide_eq_true c8
        clear c8
        obtain ⟨bq9, hbq9⟩ : ∃ b_ : Bool, b_ = ((rd_T76 l0_0 x6_1).f0) := ⟨_, rfl⟩
        replace H : (if (bq9 = true) then ((spec_l8At.f k1 ((rd_T76 l0_0 x6_1).f2) (rdOf ByteArray.empty l1 x13_1)).bind fun bt135 => (if bt135.2 = true then (if 0 ≤ bt135.1 then (if bt135.1 < (((rd_T76 l0_0 x6_1).f2).length : Int) then (spec_l13Walk.l0 k1 ((rd_T60 ((rd_T76 l0_0 x6_1).f2) bt135.1).f1) l1 (l1.length : Int) (wrap64 (x13_1 + 1)) l0_0) else (none)) else (none)) else (some (0, 2)))) else (some (0, 4))) = some (r1, r2) := by rw [← hbq9] at H; exact H
        have Nbq9 := Aside0.mk hbq9
        clear hbq9
        by_cases c10 : (bq9 = true)
        ·subst c10
         have H1 : ((spec_l8At.f k1 ((rd_T76 l0_0 x6_1).f2) (rdOf ByteArray.empty l1 x13_1)).bind fun bt135 => (if bt135.2 = true then (if 0 ≤ bt135.1 then (if bt135.1 < (((rd_T76 l0_0 x6_1).f2).length : Int) then (spec_l13Walk.l0 k1 ((rd_T60 ((rd_T76 l0_0 x6_1).f2) bt135.1).f1) l1 (l1.length : Int) (wrap64 (x13_1 + 1)) l0_0) else (none)) else (none)) else (some (0, 2)))) = some (r1, r2) := by rw [if_pos rfl] at H; exact H
         clear H
         have H := H1
         clear H1
         replace H := Option.bind_eq_some_iff.mp H
         obtain ⟨⟨t135, t136⟩, A110, H⟩ := H
         replace H : (if t136 = true then (if 0 ≤ t135 then (if t135 < (((rd_T76 l0_0 x6_1).f2).length : Int) then (spec_l13Walk.l0 k1 ((rd_T60 ((rd_T76 l0_0 x6_1).f2) t135).f1) l1 (l1.length : Int) (wrap64 (x13_1 + 1)) l0_0) else (none)) else (none)) else (some (0, 2))) = some (r1, r2) := H
         have A11 := Aside0.mk A110
         clear A110
         by_cases c12 : t136 = true
         ·subst c12
          have H1 : (if 0 ≤ t135 then (if t135 < (((rd_T76 l0_0 x6_1).f2).length : Int) then (spec_l13Walk.l0 k1 ((rd_T60 ((rd_T76 l0_0 x6_1).f2) t135).f1) l1 (l1.length : Int) (wrap64 (x13_1 + 1)) l0_0) else (none)) else (none)) = some (r1, r2) := by rw [if_pos rfl] at H; exact H
          clear H
          have H := H1
          clear H1
          by_cases c13 : 0 ≤ t135
          ·rw [if_pos c13] at H
           have c13b0 : decide (0 ≤ t135) = true := decide_eq_true c13
           clear c13
           by_cases c14 : t135 < (((rd_T76 l0_0 x6_1).f2).length : Int)
           ·rw [if_pos c14] at H
            have c14b0 : decide (t135 < (((rd_T76 l0_0 x6_1).f2).length : Int)) = true := decide_eq_true c14
            clear c14
            have H' := Aside0.mk H
            clear H
            have p132 : 0 ≤ (x13_1 : Int) := of_decide_eq_true (by assumption)
            have q132 : x13_1 < (l1.length : Int) := of_decide_eq_true (by assumption)
            obtain ⟨ad132, e132, hx132_0⟩ := Kd.at_string HR1.out x13_1 p132 q132
            cases e132
            replace hx132_0 := (HB.out.cell (World.block_lt_of_cell? w _ hx132_0)).trans hx132_0
            replace p132 := eq_true p132
            replace q132 := eq_true q132
            have hcz15_0 : wr.cell? ⟨gb131, 0, none⟩ = some (.slice A0_0 l0_0.length c0_0) := (blk_cell BK131.out 0).trans rfl
            have hfz15_0 := blk_frozen BK131.out 0
            have p133 : 0 ≤ (x6_1 : Int) := of_decide_eq_true (by assumption)
            have q133 : x6_1 < (l0_0.length : Int) := of_decide_eq_true (by assumption)
            obtain ⟨ad133, A133_2, c133_2, e133, hx133_0, hx133_1, hx133_2, hl133_2, hi133_2⟩ := at_T76 HR0_0.out x6_1 p133 q133
            (try rw [← Nbq9.out] at hx133_0)
            cases e133
            replace hx133_0 := (HB.out.cell (World.block_lt_of_cell? w _ hx133_0)).trans hx133_0
            replace hx133_1 := (HB.out.cell (World.block_lt_of_cell? w _ hx133_1)).trans hx133_1
            replace hx133_2 := (HB.out.cell (World.block_lt_of_cell? w _ hx133_2)).trans hx133_2
            have HR133_2 := Aside0.mk hi133_2
            have HC133_2 := Aside0.mk hl133_2
            clear hi133_2 hl133_2
            replace p133 := eq_true p133
            replace q133 := eq_true q133
            have p134 : 0 ≤ (x6_1 : Int) := of_decide_eq_true (by assumption)
            have q134 : x6_1 < (l0_0.length : Int) := of_decide_eq_true (by assumption)
            obtain ⟨ad134, A134_2, c134_2, e134, hx134_0, hx134_1, hx134_2, hl134_2, hi134_2⟩ := at_T76 HR0_0.out x6_1 p134 q134
            (try rw [← Nbq9.out] at hx134_0)
            obtain rfl : ad133 = ad134 := (by injection e134)
            replace hx134_0 := (HB.out.cell (World.block_lt_of_cell? w _ hx134_0)).trans hx134_0
            replace hx134_1 := (HB.out.cell (World.block_lt_of_cell? w _ hx134_1)).trans hx134_1
            replace hx134_2 := (HB.out.cell (World.block_lt_of_cell? w _ hx134_2)).trans hx134_2
            have HR134_2 := Aside0.mk hi134_2
            have HC134_2 := Aside0.mk hl134_2
            clear hi134_2 hl134_2
            replace p134 := eq_true p134
            replace q134 := eq_true q134
            have ea_ := Option.some.inj (hx133_2.symm.trans hx134_2)
            injection ea_ with ea_ en_ ec_
            subst ea_
            subst ec_
            clear en_
            go_wp2_with (first | ((with_reducible refine gate_callee (f := 61) rfl ?_); refine goesL_ (some 32) rfl rfl Tryd.func61 (by kernel_rfl) rfl #[.slice A133_2 ((rd_T76 l0_0 x6_1).f2).length c133_2, .string (rdOf ByteArray.empty l1 x13_1)] rfl (by (try simp only [List.map_toArray, List.map_cons, List.map_nil]); first | done | rfl | (simp only [List.length_drop, List.length_take]; rfl)) ?_; (with_reducible refine (spec_l8At.calls k1 _ _ ((rd_T76 l0_0 x6_1).f2) (rdOf ByteArray.empty l1 x13_1) t135 true _ ?side1 ?side2 A11.out).mono ?_); (case side1 => repeat (first | exact (Kd.C_below HR134_2.out HB.out) | (with_reducible refine Kd.C_alloc ?_ _) | (with_reducible refine Kd.C_drewN ?_ _) | (with_reducible refine Kd.C_drew ?_))); (case side2 => exact HC134_2.out); rintro e w' ⟨rfl, ⟨nd, rfl⟩⟩; refine ⟨_, rfl, ?_⟩; have p137 : 0 ≤ (x6_1 : Int) := of_decide_eq_true (by assumption); have q137 : x6_1 < (l0_0.length : Int) := of_decide_eq_true (by assumption); obtain ⟨ad137, A137_2, c137_2, e137, hx137_0, hx137_1, hx137_2, hl137_2, hi137_2⟩ := at_T76 HR0_0.out x6_1 p137 q137; (try rw [← Nbq9.out] at hx137_0); obtain rfl : ad133 = ad137 := (by injection e137); replace hx137_0 := (HB.out.cell (World.block_lt_of_cell? w _ hx137_0)).trans hx137_0; replace hx137_1 := (HB.out.cell (World.block_lt_of_cell? w _ hx137_1)).trans hx137_1; replace hx137_2 := (HB.out.cell (World.block_lt_of_cell? w _ hx137_2)).trans hx137_2; have HR137_2 := Aside0.mk hi137_2; have HC137_2 := Aside0.mk hl137_2; clear hi137_2 hl137_2; replace p137 := eq_true p137; replace q137 := eq_true q137; have ea_ := Option.some.inj (hx133_2.symm.trans hx137_2); injection ea_ with ea_ en_ ec_; subst ea_; subst ec_; clear en_; have p138 : 0 ≤ (t135 : Int) := of_decide_eq_true (by assumption); have q138 : t135 < (((rd_T76 l0_0 x6_1).f2).length : Int) := of_decide_eq_true (by assumption); obtain ⟨ad138, e138, hx138_0, hx138_1⟩ := at_T60 HR137_2.out t135 p138 q138; cases e138; replace hx138_0 := (HB.out.cell (World.block_lt_of_cell? w _ hx138_0)).trans hx138_0; replace hx138_1 := (HB.out.cell (World.block_lt_of_cell? w _ hx138_1)).trans hx138_1; replace p138 := eq_true p138; replace q138 := eq_true q138))
            go_roundg k1
            case measure => have := HK1.out; omega
            case rel => exact ⟨((rd_T60 ((rd_T76 l0_0 x6_1).f2) t135).f1), (wrap64 (x13_1 + 1)), (by first | rfl | (simp; done) | (simp [*]; done)), (by first | rfl | (simp; done) | (simp [*]; done)), H', ⟨by have := HK1.out; omega⟩, ⟨by (with_reducible repeat (first | refine blk_drewN ?_ _ | refine blk_drew ?_ | refine blk_alloc ?_ _)); exact BK131.out⟩, ⟨by with_reducible repeat (first | exact HB.out | apply below_alloc | apply pw_below_drewN | apply below_drew1 | refine below_set ?_ GE131.out)⟩⟩
           ·rw [if_neg c14] at H
            exact absurd H (by simp)
          ·rw [if_neg c13] at H
           exact absurd H (by simp)
         ·replace c12 := Bool.eq_false_iff.mpr c12
          subst c12
          have H1 : (some (0, 2)) = some (r1, r2) := by rw [if_neg (show ¬ (false = true) by decide)] at H; exact H
          clear H
          have H := H1
          clear H1
          simp only [Option.some.injEq, Prod.mk.injEq] at H
          obtain ⟨rfl, rfl⟩ := H
          have p132 : 0 ≤ (x13_1 : Int) := of_decide_eq_true (by assumption)
          have q132 : x13_1 < (l1.length : Int) := of_decide_eq_true (by assumption)
          obtain ⟨ad132, e132, hx132_0⟩ := Kd.at_string HR1.out x13_1 p132 q132
          cases e132
          replace hx132_0 := (HB.out.cell (World.block_lt_of_cell? w _ hx132_0)).trans hx132_0
          replace p132 := eq_true p132
          replace q132 := eq_true q132
          have hcz16_0 : wr.cell? ⟨gb131, 0, none⟩ = some (.slice A0_0 l0_0.length c0_0) := (blk_cell BK131.out 0).trans rfl
          have hfz16_0 := blk_frozen BK131.out 0
          have p133 : 0 ≤ (x6_1 : Int) := of_decide_eq_true (by assumption)
          have q133 : x6_1 < (l0_0.length : Int) := of_decide_eq_true (by assumption)
          obtain ⟨ad133, A133_2, c133_2, e133, hx133_0, hx133_1, hx133_2, hl133_2, hi133_2⟩ := at_T76 HR0_0.out x6_1 p133 q133
          (try rw [← Nbq9.out] at hx133_0)
          cases e133
          replace hx133_0 := (HB.out.cell (World.block_lt_of_cell? w _ hx133_0)).trans hx133_0
          replace hx133_1 := (HB.out.cell (World.block_lt_of_cell? w _ hx133_1)).trans hx133_1
          replace hx133_2 := (HB.out.cell (World.block_lt_of_cell? w _ hx133_2)).trans hx133_2
          have HR133_2 := Aside0.mk hi133_2
          have HC133_2 := Aside0.mk hl133_2
          clear hi133_2 hl133_2
          replace p133 := eq_true p133
          replace q133 := eq_true q133
          have p134 : 0 ≤ (x6_1 : Int) := of_decide_eq_true (by assumption)
          have q134 : x6_1 < (l0_0.length : Int) := of_decide_eq_true (by assumption)
          obtain ⟨ad134, A134_2, c134_2, e134, hx134_0, hx134_1, hx134_2, hl134_2, hi134_2⟩ := at_T76 HR0_0.out x6_1 p134 q134
          (try rw [← Nbq9.out] at hx134_0)
          obtain rfl : ad133 = ad134 := (by injection e134)
          replace hx134_0 := (HB.out.cell (World.block_lt_of_cell? w _ hx134_0)).trans hx134_0
          replace hx134_1 := (HB.out.cell (World.block_lt_of_cell? w _ hx134_1)).trans hx134_1
          replace hx134_2 := (HB.out.cell (World.block_lt_of_cell? w _ hx134_2)).trans hx134_2
          have HR134_2 := Aside0.mk hi134_2
          have HC134_2 := Aside0.mk hl134_2
          clear hi134_2 hl134_2
          replace p134 := eq_true p134
          replace q134 := eq_true q134
          have ea_ := Option.some.inj (hx133_2.symm.trans hx134_2)
          injection ea_ with ea_ en_ ec_
          subst ea_
          subst ec_
          clear en_
          go_wp2_with (first | ((with_reducible refine gate_callee (f := 61) rfl ?_); refine goesL_ (some 32) rfl rfl Tryd.func61 (by kernel_rfl) rfl #[.slice A133_2 ((rd_T76 l0_0 x6_1).f2).length c133_2, .string (rdOf ByteArray.empty l1 x13_1)] rfl (by (try simp only [List.map_toArray, List.map_cons, List.map_nil]); first | done | rfl | (simp only [List.length_drop, List.length_take]; rfl)) ?_; (with_reducible refine (spec_l8At.calls k1 _ _ ((rd_T76 l0_0 x6_1).f2) (rdOf ByteArray.empty l1 x13_1) t135 false _ ?side1 ?side2 A11.out).mono ?_); (case side1 => repeat (first | exact (Kd.C_below HR134_2.out HB.out) | (with_reducible refine Kd.C_alloc ?_ _) | (with_reducible refine Kd.C_drewN ?_ _) | (with_reducible refine Kd.C_drew ?_))); (case side2 => exact HC134_2.out); rintro e w' ⟨rfl, ⟨nd, rfl⟩⟩; refine ⟨_, rfl, ?_⟩))
          go_ret2
          exact ⟨by first | rfl | (simp [errW_none, errW_some] <;> rfl) | (simp [*, errW_none, errW_some] <;> rfl) | (simp [E.isEmpty_bne]; done) | (rw [E.bne_empty]), by with_reducible repeat (first | exact HB.out | apply below_alloc | apply pw_below_drewN | apply below_drew1 | refine below_set ?_ GE131.out)⟩
        ·replace c10 := Bool.eq_false_iff.mpr c10
         subst c10
         have H1 : (some (0, 4)) = some (r1, r2) := by rw [if_neg (show ¬ (false = true) by decide)] at H; exact H
         clear H
         have H := H1
         clear H1
         simp only [Option.some.injEq, Prod.mk.injEq] at H
         obtain ⟨rfl, rfl⟩ := H
         have p132 : 0 ≤ (x13_1 : Int) := of_decide_eq_true (by assumption)
         have q132 : x13_1 < (l1.length : Int) := of_decide_eq_true (by assumption)
         obtain ⟨ad132, e132, hx132_0⟩ := Kd.at_string HR1.out x13_1 p132 q132
         cases e132
         replace hx132_0 := (HB.out.cell (World.block_lt_of_cell? w _ hx132_0)).trans hx132_0
         replace p132 := eq_true p132
         replace q132 := eq_true q132
         have hcz17_0 : wr.cell? ⟨gb131, 0, none⟩ = some (.slice A0_0 l0_0.length c0_0) := (blk_cell BK131.out 0).trans rfl
         have hfz17_0 := blk_frozen BK131.out 0
         have p133 : 0 ≤ (x6_1 : Int) := of_decide_eq_true (by assumption)
         have q133 : x6_1 < (l0_0.length : Int) := of_decide_eq_true (by assumption)
         obtain ⟨ad133, A133_2, c133_2, e133, hx133_0, hx133_1, hx133_2, hl133_2, hi133_2⟩ := at_T76 HR0_0.out x6_1 p133 q133
         (try rw [← Nbq9.out] at hx133_0)
         cases e133
         replace hx133_0 := (HB.out.cell (World.block_lt_of_cell? w _ hx133_0)).trans hx133_0
         replace hx133_1 := (HB.out.cell (World.block_lt_of_cell? w _ hx133_1)).trans hx133_1
         replace hx133_2 := (HB.out.cell (World.block_lt_of_cell? w _ hx133_2)).trans hx133_2
         have HR133_2 := Aside0.mk hi133_2
         have HC133_2 := Aside0.mk hl133_2
         clear hi133_2 hl133_2
         replace p133 := eq_true p133
         replace q133 := eq_true q133
         go_wp2
         go_ret2
         exact ⟨by first | rfl | (simp [errW_none, errW_some] <;> rfl) | (simp [*, errW_none, errW_some] <;> rfl) | (simp [E.isEmpty_bne]; done) | (rw [E.bne_empty]), by with_reducible repeat (first | exact HB.out | apply below_alloc | apply pw_below_drewN | apply below_drew1 | refine below_set ?_ GE131.out)⟩
       ·rw [if_neg c8] at H
        exact absurd H (by simp)
      ·rw [if_neg c7] at H
       exact absurd H (by simp)
     ·rw [if_neg c6] at H
      exact absurd H (by simp)
    ·rw [if_neg c5] at H
     exact absurd H (by simp)
   ·rw [if_neg c4] at H
    have c4b0 : decide (x13_1 < (l1.length : Int)) = false := decide_eq_false c4
    clear c4
    simp only [Option.some.injEq, Prod.mk.injEq] at H
    obtain ⟨rfl, rfl⟩ := H
    go_wp2
    go_ret2
    exact ⟨by first | rfl | (simp [errW_none, errW_some] <;> rfl) | (simp [*, errW_none, errW_some] <;> rfl) | (simp [E.isEmpty_bne]; done) | (rw [E.bne_empty]), by with_reducible repeat (first | exact HB.out | apply below_alloc | apply pw_below_drewN | apply below_drew1 | refine below_set ?_ GE131.out)⟩

end Go.Proofs.YthljjgolloiamaaDoor.PNam
