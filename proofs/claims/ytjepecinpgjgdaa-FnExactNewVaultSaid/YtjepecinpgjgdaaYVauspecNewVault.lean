-- of this session: its walks are told by a program (wip/ext.py) out of the translation
import Derived.Test.YtjepecinpgjgdaaYVaux0
import Derived.Test.YtjepecinpgjgdaaYVauspecPutText
namespace Go.Proofs.Ytjepecinpgjgdaa.PVau
open Go.RowKit Go.Proofs.YtjepecinpgjgdaaW.PrintWords Go.Proofs.YtjepecinpgjgdaaW.PrintLast Go.Proofs.YtjepecinpgjgdaaW.PrintMore
attribute [local go_sem] max2_int min2_int max_two min_two max_three min_three max_four min_four   -- for this text's walks alone
set_option linter.unusedVariables false
set_option linter.unusedSimpArgs false

/-! ### spec_NewVault: function 47 -/
def spec_NewVault.l0 : Nat → List ByteArray → Int → Int → List (S89) → List (S87) → Option ((List (S89)) × (List (S87)) × Bool)
 | 0, _, _, _, _, _ => none
 | k + 1, x10, x11, x12, x449000, x449001 => if x12 < x11 then (if 0 ≤ x12 then (if x12 < (x10.length : Int) then ((spec_PutText.f k x449000 x449001 (rdOf ByteArray.empty x10 x12)).bind fun bt450 => (if bt450.2.2 = true then (spec_NewVault.l0 k x10 x11 (wrap64 (x12 + 1)) bt450.1 bt450.2.1) else (some (([] : List (S89)), ([] : List (S87)), false)))) else (none)) else (none)) else (some (x449000, x449001, true))
def spec_NewVault.f (k : Nat) (l0 : List ByteArray) : Option ((List (S89)) × (List (S87)) × Bool) := spec_NewVault.l0 k l0 (l0.length : Int) 0 ([] : List (S89)) ([] : List (S87))
theorem spec_NewVault.mono_l : ∀ k, (∀ y0 y1 y2 y3 y4, LeO (spec_NewVault.l0 k y0 y1 y2 y3 y4) (spec_NewVault.l0 (k + 1) y0 y1 y2 y3 y4))
 | 0 => fun _ _ _ _ _ r h => by simp [spec_NewVault.l0] at h
 | k + 1 => by
  have ih0 := spec_NewVault.mono_l k
  ·intro y0 y1 y2 y3 y4
   unfold spec_NewVault.l0
   repeat' first
   | (with_reducible exact ih0 _ _ _ _ _)
   | (with_reducible exact spec_PutText.mono _ _ _ _)
   | (with_reducible exact LeO.refl _)
   | (with_reducible exact LeO.none _)
   | (with_reducible refine LeO.ite ?_ ?_)
   | (with_reducible refine LeO.bind ?_ (fun _ => ?_))
   | exact ih0 _ _ _ _ _
   | exact spec_PutText.mono _ _ _ _
   | exact LeO.none _
   | refine LeO.ite ?_ ?_
   | refine LeO.bind ?_ (fun _ => ?_)
theorem spec_NewVault.mono : ∀ a0 k, LeO (spec_NewVault.f k a0) (spec_NewVault.f (k + 1) a0) := by
 intro a0 k
 have ih0 := spec_NewVault.mono_l k
 unfold spec_NewVault.f
 repeat' first
   | (with_reducible exact ih0 _ _ _ _ _)
   | (with_reducible exact spec_PutText.mono _ _ _ _)
   | (with_reducible exact LeO.refl _)
   | (with_reducible exact LeO.none _)
   | (with_reducible refine LeO.ite ?_ ?_)
   | (with_reducible refine LeO.bind ?_ (fun _ => ?_))
   | exact ih0 _ _ _ _ _
   | exact spec_PutText.mono _ _ _ _
   | exact LeO.none _
   | refine LeO.ite ?_ ?_
   | refine LeO.bind ?_ (fun _ => ?_)
set_option maxHeartbeats 8000000 in
set_option maxRecDepth 100000 in
theorem spec_NewVault.calls (k : Nat) (A0 : Option Addr) (c0 : Nat) (l0 : List ByteArray) (r1 : List (S89)) (r2 : List (S87)) (r3 : Bool) (w : World) (hr0 : Kd.C Kd.string w A0 l0.length l0) (hc0 : l0.length ≤ c0) (h : spec_NewVault.f k l0 = some (r1, r2, r3)) :
  Calls Try.prog 47 #[.slice A0 l0.length c0] w fun e w' => ∃ v0_ v1_ : Value, e = .returned (.tuple #[.agg #[v0_, v1_], .bool r3]) ∧ Kd.R k89 89 w' w.heap.size (fun _ => True) v0_ r1 ∧ Kd.S k87 87 w' w.heap.size (fun _ => True) v1_ r2 ∧ Below w.heap.size w w' := by
 have hu51 := Try.underlying51
 have HR0 := Aside0.mk hr0
 have HC0 := Aside0.mk hc0
 clear hr0 hc0
 have HB := Aside0.mk (Below.refl w.heap.size w)
 have H : (spec_NewVault.l0 k l0 (l0.length : Int) 0 ([] : List (S89)) ([] : List (S87))) = some (r1, r2, r3) := h
 clear h
 have H' := Aside0.mk H
 clear H
 go_enter Try.func47, Try.ntmps47
 go_wp2_with (first | ((with_reducible refine gate_dst (N := 2) rfl ?_); refine box_event ?hg (N := 2) ?hd (cs := #[.slice none 0 0, .slice none 0 0]) (t := 51) ?hr ?_; (case hd => rfl); (case hg => rfl); (case hr => first | (go_simp; done) | (go_simp; rfl)); intro gb447 hg w2 hbox hb; have BK447 := Aside0.mk (hbox); have GW447 := Aside0.mk ((by rw [hg]; exact (below_size (by with_reducible repeat (first | exact HB.out | apply below_alloc | apply pw_below_drewN | apply below_drew1))) : w.heap.size ≤ gb447)); have GE447 := Aside0.mk ((by rw [hg]; exact (below_size (by with_reducible repeat (first | exact HB.out | apply below_alloc | apply pw_below_drewN | apply below_drew1))) : w.heap.size ≤ gb447)); replace HB := Aside0.mk (below_step (by with_reducible repeat (first | exact HB.out | apply below_alloc | apply pw_below_drewN | apply below_drew1)) hb); clear hb hbox hg) | ((with_reducible refine gate_dst (N := 4) rfl ?_); refine box_event ?hg (N := 4) ?hd (cs := #[.slice none 0 0, .slice none 0 0]) (t := 51) ?hr ?_; (case hd => rfl); (case hg => rfl); (case hr => first | (go_simp; done) | (go_simp; rfl)); intro gb448 hg w3 hbox hb; have BK448 := Aside0.mk (hbox); have GW448 := Aside0.mk ((by rw [hg]; exact (below_size (by with_reducible repeat (first | exact HB.out | apply below_alloc | apply pw_below_drewN | apply below_drew1 | refine below_set ?_ GE447.out))) : w.heap.size ≤ gb448)); have GE448 := Aside0.mk ((by rw [hg]; exact (below_size (by with_reducible repeat (first | exact HB.out | apply below_alloc | apply pw_below_drewN | apply below_drew1 | refine below_set ?_ GE447.out))) : w.heap.size ≤ gb448)); replace HB := Aside0.mk (below_step (by with_reducible repeat (first | exact HB.out | apply below_alloc | apply pw_below_drewN | apply below_drew1 | refine below_set ?_ GE447.out)) hb); have NB447_448 := Aside0.mk ((by rw [hg]; exact Nat.ne_of_lt (blk_lt (g := gb447) (o := .cells #[.slice none 0 0, .slice none 0 0] 51 (0, 0)) (by (with_reducible repeat (first | refine blk_drewN ?_ _ | refine blk_drew ?_ | refine blk_alloc ?_ _)); exact BK447.out)) : gb447 ≠ gb448)); have NB448_447 := Aside0.mk ((by rw [hg]; exact Nat.ne_of_gt (blk_lt (g := gb447) (o := .cells #[.slice none 0 0, .slice none 0 0] 51 (0, 0)) (by (with_reducible repeat (first | refine blk_drewN ?_ _ | refine blk_drew ?_ | refine blk_alloc ?_ _)); exact BK447.out)) : gb448 ≠ gb447)); replace BK447 := Aside0.mk (blk_below (g := gb447) (o := .cells #[.slice none 0 0, .slice none 0 0] 51 (0, 0)) (by (with_reducible repeat (first | refine blk_drewN ?_ _ | refine blk_drew ?_ | refine blk_alloc ?_ _)); exact BK447.out) hb); clear hb hbox hg; have hnb4 := NB448_447.out; have hnc4 := NB447_448.out; have hcz5_0 : w3.cell? ⟨gb448, 0, none⟩ = some (.slice none 0 0) := (blk_cell BK448.out 0).trans rfl; have hcz5_1 : w3.cell? ⟨gb448, 1, none⟩ = some (.slice none 0 0) := (blk_cell BK448.out 1).trans rfl; have hfz5_0 := blk_frozen BK448.out 0; have hfz5_1 := blk_frozen BK448.out 1))
 go_loopg [12] k (fun kq v12 w' => ∃ (x12_1 : Int) (x449000_1 : List (S89)) (x449001_1 : List (S87)) (u449000 : Value) (u449001 : Value), v12 = .int .i64 x12_1 ∧ Aside0 (spec_NewVault.l0 kq l0 (l0.length : Int) x12_1 x449000_1 x449001_1 = some (r1, r2, r3)) ∧ Aside0 (kq ≤ k) ∧ Aside0 (Kd.R k89 89 w' w.heap.size (fun _ => True) u449000 x449000_1) ∧ Aside0 (Kd.S k87 87 w' w.heap.size (fun _ => True) u449001 x449001_1) ∧ Aside0 (w'.heap[gb447]? = some (.cells #[(.slice none 0 0), (.slice none 0 0)] 51 (0, 0))) ∧ Aside0 (w'.heap[gb448]? = some (.cells #[u449000, u449001] 51 (0, 0))) ∧ Aside0 (Below w.heap.size w w'))
 case atStart => exact ⟨(0), (([] : List (S89))), (([] : List (S87))), (.slice none 0 0), (.slice none 0 0), (by first | rfl | (simp; done) | (simp [*]; done)), H', ⟨Nat.le_refl _⟩, ⟨by first | exact Kd.R_nil _ _ _ _ _ | exact Kd.N_nil _ _ _ _ _ | exact Kd.V_nil _ _ _ _ _ | exact Kd.Q_nil _ _ _ _ _ | exact Kd.S_nil _ _ _ _ _⟩, ⟨by first | exact Kd.S_nil _ _ _ _ _ | exact Kd.N_nil _ _ _ _ _ | exact Kd.V_nil _ _ _ _ _ | exact Kd.Q_nil _ _ _ _ _ | exact Kd.R_nil _ _ _ _ _⟩, ⟨by (with_reducible repeat (first | refine blk_drewN ?_ _ | refine blk_drew ?_ | refine blk_alloc ?_ _)); refine blk_far ?_ NB447_448.out _; (with_reducible repeat (first | refine blk_drewN ?_ _ | refine blk_drew ?_ | refine blk_alloc ?_ _)); refine blk_far ?_ NB447_448.out _; (with_reducible repeat (first | refine blk_drewN ?_ _ | refine blk_drew ?_ | refine blk_alloc ?_ _)); exact BK447.out⟩, ⟨by (with_reducible repeat (first | refine blk_drewN ?_ _ | refine blk_drew ?_ | refine blk_alloc ?_ _)); refine blk_put (cs := #[.slice none 0 0, .slice none 0 0]) ?_ 1 _ rfl; (with_reducible repeat (first | refine blk_drewN ?_ _ | refine blk_drew ?_ | refine blk_alloc ?_ _)); refine blk_put (cs := #[.slice none 0 0, .slice none 0 0]) ?_ 0 _ rfl; (with_reducible repeat (first | refine blk_drewN ?_ _ | refine blk_drew ?_ | refine blk_alloc ?_ _)); exact BK448.out⟩, ⟨by with_reducible repeat (first | exact HB.out | apply below_alloc | apply pw_below_drewN | apply below_drew1 | refine below_set ?_ GE447.out | refine below_set ?_ GE448.out)⟩⟩
 case round =>
  clear H'
  try clear p2
  try clear c4
  try clear hcz5_0
  try clear hcz5_1
  try clear hfz5_0
  try clear hfz5_1
  obtain ⟨x12_1, x449000_1, x449001_1, u449000, u449001, rfl, HA, HK1, HO_449000, HO_449001, BK447, BK448, HB⟩ := hrel
  cases gk with
  | zero => exact absurd HA.out (by simp [spec_NewVault.l0])
  | succ k1 =>
   have H := HA.out
   clear HA
   simp only [spec_NewVault.l0] at H
   by_cases c6 : x12_1 < (l0.length : Int)
   ·rw [if_pos c6] at H
    have c6b0 : decide (x12_1 < (l0.length : Int)) = true := decide_eq_true c6
    clear c6
    by_cases c7 : 0 ≤ x12_1
    ·rw [if_pos c7] at H
     have c7b0 : decide (0 ≤ x12_1) = true := decide_eq_true c7
     clear c7
     by_cases c8 : x12_1 < (l0.length : Int)
     ·rw [if_pos c8] at H
      have c8b0 : decide (x12_1 < (l0.length : Int)) = true := decide_eq_true c8
      clear c8
      replace H := Option.bind_eq_some_iff.mp H
      obtain ⟨⟨t450, t453, t456⟩, A90, H⟩ := H
      replace H : (if t456 = true then (spec_NewVault.l0 k1 l0 (l0.length : Int) (wrap64 (x12_1 + 1)) t450 t453) else (some (([] : List (S89)), ([] : List (S87)), false))) = some (r1, r2, r3) := H
      have A9 := Aside0.mk A90
      clear A90
      by_cases c10 : t456 = true
      ·subst c10
       have H1 : (spec_NewVault.l0 k1 l0 (l0.length : Int) (wrap64 (x12_1 + 1)) t450 t453) = some (r1, r2, r3) := by rw [if_pos rfl] at H; exact H
       clear H
       have H := H1
       clear H1
       have H' := Aside0.mk H
       clear H
       have p449 : 0 ≤ (x12_1 : Int) := of_decide_eq_true (by assumption)
       have q449 : x12_1 < (l0.length : Int) := of_decide_eq_true (by assumption)
       obtain ⟨ad449, e449, hx449_0⟩ := Kd.at_string HR0.out x12_1 p449 q449
       cases e449
       replace hx449_0 := (HB.out.cell (World.block_lt_of_cell? w _ hx449_0)).trans hx449_0
       replace p449 := eq_true p449
       replace q449 := eq_true q449
       have hnb11 := NB448_447.out
       have hnc11 := NB447_448.out
       have hcz12_0 : wr.cell? ⟨gb448, 0, none⟩ = some (u449000) := (blk_cell BK448.out 0).trans rfl
       have hcz12_1 : wr.cell? ⟨gb448, 1, none⟩ = some (u449001) := (blk_cell BK448.out 1).trans rfl
       have hfz12_0 := blk_frozen BK448.out 0
       have hfz12_1 := blk_frozen BK448.out 1
       obtain ⟨Ao13, co13, eo13⟩ := Kd.R_slice HO_449000.out
       subst eo13
       obtain ⟨Ao14, co14, eo14⟩ := Kd.S_slice HO_449001.out
       subst eo14
       go_wp2_with (first | ((with_reducible refine gate_callee (f := 50) rfl ?_); refine goesL_ (some 19) rfl rfl Try.func50 (by kernel_rfl) rfl #[.agg #[.slice Ao13 x449000_1.length co13, .slice Ao14 x449001_1.length co14], .string (rdOf ByteArray.empty l0 x12_1)] rfl (by (try simp only [List.map_toArray, List.map_cons, List.map_nil]); first | done | rfl | (simp only [List.length_drop, List.length_take]; rfl)) ?_; (with_reducible refine (spec_PutText.calls k1 _ _ x449000_1 _ _ x449001_1 (rdOf ByteArray.empty l0 x12_1) t450 t453 true _ ?side1 ?side2 ?side3 ?side4 A9.out).mono ?_); (case side1 => repeat (first | exact (Kd.R_reads' HO_449000.out).2.2 | (with_reducible refine Kd.C_alloc ?_ _) | (with_reducible refine Kd.C_drewN ?_ _) | (with_reducible refine Kd.C_drew ?_))); (case side2 => exact (Kd.R_reads' HO_449000.out).2.1); (case side3 => repeat (first | exact (Kd.S_reads' HO_449001.out).2.2 | (with_reducible refine Kd.C_alloc ?_ _) | (with_reducible refine Kd.C_drewN ?_ _) | (with_reducible refine Kd.C_drew ?_))); (case side4 => exact (Kd.S_reads' HO_449001.out).2.1); rintro e w15 ⟨v451, v454, rfl, ho0, ho1, hb⟩; refine ⟨_, rfl, ?_⟩; have HO452 := Aside0.mk (Kd.R_lower (Kd.R_new' ho0 (Kd.R_lt (by (with_reducible repeat (first | apply Kd.R_alloc | apply Kd.R_drewN | apply Kd.R_drew)); exact HO_449000.out))) (below_size (by with_reducible repeat (first | exact HB.out | apply below_alloc | apply pw_below_drewN | apply below_drew1 | refine below_set ?_ GE447.out | refine below_set ?_ GE448.out)))); replace HO_449000 := Aside0.mk (Kd.R_elder' (by (with_reducible repeat (first | apply Kd.R_alloc | apply Kd.R_drewN | apply Kd.R_drew)); exact HO_449000.out) (Kd.R_base ho0) hb); have HO455 := Aside0.mk (Kd.S_lower (Kd.S_new' ho1 (Kd.S_lt (by (with_reducible repeat (first | apply Kd.S_alloc | apply Kd.S_drewN | apply Kd.S_drew)); exact HO_449001.out))) (below_size (by with_reducible repeat (first | exact HB.out | apply below_alloc | apply pw_below_drewN | apply below_drew1 | refine below_set ?_ GE447.out | refine below_set ?_ GE448.out)))); replace HO_449001 := Aside0.mk (Kd.S_elder' (by (with_reducible repeat (first | apply Kd.S_alloc | apply Kd.S_drewN | apply Kd.S_drew)); exact HO_449001.out) (Kd.S_base ho1) hb); replace BK447 := Aside0.mk (blk_below (g := gb447) (o := .cells #[.slice none 0 0, .slice none 0 0] 51 (0, 0)) (by (with_reducible repeat (first | refine blk_drewN ?_ _ | refine blk_drew ?_ | refine blk_alloc ?_ _)); exact BK447.out) hb); replace BK448 := Aside0.mk (blk_below (g := gb448) (o := .cells #[.slice Ao13 x449000_1.length co13, .slice Ao14 x449001_1.length co14] 51 (0, 0)) (by (with_reducible repeat (first | refine blk_drewN ?_ _ | refine blk_drew ?_ | refine blk_alloc ?_ _)); exact BK448.out) hb); replace HB := Aside0.mk (below_step (by with_reducible repeat (first | exact HB.out | apply below_alloc | apply pw_below_drewN | apply below_drew1 | refine below_set ?_ GE447.out | refine below_set ?_ GE448.out)) hb); (try clear hb); (try clear hb2); (try clear hk); (try clear hi); (try clear ho0); (try clear ho1)) | ((with_reducible refine gate_dst (N := 7) rfl ?_); refine box_event ?hg (N := 7) ?hd (cs := #[.slice none 0 0, .slice none 0 0]) (t := 51) ?hr ?_; (case hd => rfl); (case hg => rfl); (case hr => first | (go_simp; done) | (go_simp; rfl)); intro gb457 hg w16 hbox hb; replace HO_449000 := Aside0.mk (Kd.R_below (by (with_reducible repeat (first | apply Kd.R_alloc | apply Kd.R_drewN | apply Kd.R_drew)); exact HO_449000.out) hb); replace HO_449001 := Aside0.mk (Kd.S_below (by (with_reducible repeat (first | apply Kd.S_alloc | apply Kd.S_drewN | apply Kd.S_drew)); exact HO_449001.out) hb); replace HO452 := Aside0.mk (Kd.R_below (by (with_reducible repeat (first | apply Kd.R_alloc | apply Kd.R_drewN | apply Kd.R_drew)); exact HO452.out) hb); replace HO455 := Aside0.mk (Kd.S_below (by (with_reducible repeat (first | apply Kd.S_alloc | apply Kd.S_drewN | apply Kd.S_drew)); exact HO455.out) hb); have BK457 := Aside0.mk (hbox); have GW457 := Aside0.mk ((by rw [hg]; exact (below_size (by with_reducible repeat (first | exact HB.out | apply below_alloc | apply pw_below_drewN | apply below_drew1 | refine below_set ?_ GE447.out | refine below_set ?_ GE448.out))) : w.heap.size ≤ gb457)); have GE457 := Aside0.mk ((by rw [hg]; exact (below_size (by with_reducible repeat (first | exact HB.out | apply below_alloc | apply pw_below_drewN | apply below_drew1 | refine below_set ?_ GE447.out | refine below_set ?_ GE448.out))) : w.heap.size ≤ gb457)); replace HB := Aside0.mk (below_step (by with_reducible repeat (first | exact HB.out | apply below_alloc | apply pw_below_drewN | apply below_drew1 | refine below_set ?_ GE447.out | refine below_set ?_ GE448.out)) hb); have NB447_457 := Aside0.mk ((by rw [hg]; exact Nat.ne_of_lt (blk_lt (g := gb447) (o := .cells #[.slice none 0 0, .slice none 0 0] 51 (0, 0)) (by (with_reducible repeat (first | refine blk_drewN ?_ _ | refine blk_drew ?_ | refine blk_alloc ?_ _)); exact BK447.out)) : gb447 ≠ gb457)); have NB457_447 := Aside0.mk ((by rw [hg]; exact Nat.ne_of_gt (blk_lt (g := gb447) (o := .cells #[.slice none 0 0, .slice none 0 0] 51 (0, 0)) (by (with_reducible repeat (first | refine blk_drewN ?_ _ | refine blk_drew ?_ | refine blk_alloc ?_ _)); exact BK447.out)) : gb457 ≠ gb447)); replace BK447 := Aside0.mk (blk_below (g := gb447) (o := .cells #[.slice none 0 0, .slice none 0 0] 51 (0, 0)) (by (with_reducible repeat (first | refine blk_drewN ?_ _ | refine blk_drew ?_ | refine blk_alloc ?_ _)); exact BK447.out) hb); have NB448_457 := Aside0.mk ((by rw [hg]; exact Nat.ne_of_lt (blk_lt (g := gb448) (o := .cells #[.slice Ao13 x449000_1.length co13, .slice Ao14 x449001_1.length co14] 51 (0, 0)) (by (with_reducible repeat (first | refine blk_drewN ?_ _ | refine blk_drew ?_ | refine blk_alloc ?_ _)); exact BK448.out)) : gb448 ≠ gb457)); have NB457_448 := Aside0.mk ((by rw [hg]; exact Nat.ne_of_gt (blk_lt (g := gb448) (o := .cells #[.slice Ao13 x449000_1.length co13, .slice Ao14 x449001_1.length co14] 51 (0, 0)) (by (with_reducible repeat (first | refine blk_drewN ?_ _ | refine blk_drew ?_ | refine blk_alloc ?_ _)); exact BK448.out)) : gb457 ≠ gb448)); replace BK448 := Aside0.mk (blk_below (g := gb448) (o := .cells #[.slice Ao13 x449000_1.length co13, .slice Ao14 x449001_1.length co14] 51 (0, 0)) (by (with_reducible repeat (first | refine blk_drewN ?_ _ | refine blk_drew ?_ | refine blk_alloc ?_ _)); exact BK448.out) hb); clear hb hbox hg; obtain ⟨Ao17, co17, eo17⟩ := Kd.R_slice HO452.out; subst eo17; have hnb18 := NB457_447.out; have hnc18 := NB447_457.out; have hnb19 := NB457_448.out; have hnc19 := NB448_457.out; have hcz20_0 : w16.cell? ⟨gb457, 0, none⟩ = some (.slice none 0 0) := (blk_cell BK457.out 0).trans rfl; have hcz20_1 : w16.cell? ⟨gb457, 1, none⟩ = some (.slice none 0 0) := (blk_cell BK457.out 1).trans rfl; have hfz20_0 := blk_frozen BK457.out 0; have hfz20_1 := blk_frozen BK457.out 1; obtain ⟨Ao21, co21, eo21⟩ := Kd.S_slice HO455.out; subst eo21; have hcz22_0 : w16.cell? ⟨gb448, 0, none⟩ = some (.slice Ao13 x449000_1.length co13) := (blk_cell BK448.out 0).trans rfl; have hcz22_1 : w16.cell? ⟨gb448, 1, none⟩ = some (.slice Ao14 x449001_1.length co14) := (blk_cell BK448.out 1).trans rfl; have hfz22_0 := blk_frozen BK448.out 0; have hfz22_1 := blk_frozen BK448.out 1))
       go_roundg k1
       case measure => have := HK1.out; omega
       case rel => exact ⟨(wrap64 (x12_1 + 1)), (t450), (t453), (.slice Ao17 t450.length co17), (.slice Ao21 t453.length co21), (by first | rfl | (simp; done) | (simp [*]; done)), H', ⟨by have := HK1.out; omega⟩, ⟨by (with_reducible repeat (first | apply Kd.R_alloc | apply Kd.R_drewN | apply Kd.R_drew)); exact Kd.R_mono (Kd.R_far (p := ⟨gb448, 1, none⟩) (Kd.R_far (p := ⟨gb448, 0, none⟩) (Kd.R_far (p := ⟨gb457, 1, none⟩) (Kd.R_far (p := ⟨gb457, 0, none⟩) (Kd.R_types (Kd.R_types HO452.out BK457.out (by decide)) BK448.out (by decide)) (fun _ hk => hk.1.2) (.slice Ao17 t450.length co17)) (fun _ hk => hk.1.2) (.slice Ao21 t453.length co21)) (fun _ hk => hk.2) (.slice Ao17 t450.length co17)) (fun _ hk => hk.2) (.slice Ao21 t453.length co21)) (fun _ hk => trivial)⟩, ⟨by (with_reducible repeat (first | apply Kd.S_alloc | apply Kd.S_drewN | apply Kd.S_drew)); exact Kd.S_mono (Kd.S_far (p := ⟨gb448, 1, none⟩) (Kd.S_far (p := ⟨gb448, 0, none⟩) (Kd.S_far (p := ⟨gb457, 1, none⟩) (Kd.S_far (p := ⟨gb457, 0, none⟩) (Kd.S_types (Kd.S_types HO455.out BK457.out (by decide)) BK448.out (by decide)) (fun _ hk => hk.1.2) (.slice Ao17 t450.length co17)) (fun _ hk => hk.1.2) (.slice Ao21 t453.length co21)) (fun _ hk => hk.2) (.slice Ao17 t450.length co17)) (fun _ hk => hk.2) (.slice Ao21 t453.length co21)) (fun _ hk => trivial)⟩, ⟨by (with_reducible repeat (first | refine blk_drewN ?_ _ | refine blk_drew ?_ | refine blk_alloc ?_ _)); refine blk_far ?_ NB447_448.out _; (with_reducible repeat (first | refine blk_drewN ?_ _ | refine blk_drew ?_ | refine blk_alloc ?_ _)); refine blk_far ?_ NB447_448.out _; (with_reducible repeat (first | refine blk_drewN ?_ _ | refine blk_drew ?_ | refine blk_alloc ?_ _)); refine blk_far ?_ NB447_457.out _; (with_reducible repeat (first | refine blk_drewN ?_ _ | refine blk_drew ?_ | refine blk_alloc ?_ _)); refine blk_far ?_ NB447_457.out _; (with_reducible repeat (first | refine blk_drewN ?_ _ | refine blk_drew ?_ | refine blk_alloc ?_ _)); exact BK447.out⟩, ⟨by (with_reducible repeat (first | refine blk_drewN ?_ _ | refine blk_drew ?_ | refine blk_alloc ?_ _)); refine blk_put (cs := #[.slice Ao17 t450.length co17, .slice Ao14 x449001_1.length co14]) ?_ 1 _ rfl; (with_reducible repeat (first | refine blk_drewN ?_ _ | refine blk_drew ?_ | refine blk_alloc ?_ _)); refine blk_put (cs := #[.slice Ao13 x449000_1.length co13, .slice Ao14 x449001_1.length co14]) ?_ 0 _ rfl; (with_reducible repeat (first | refine blk_drewN ?_ _ | refine blk_drew ?_ | refine blk_alloc ?_ _)); refine blk_far ?_ NB448_457.out _; (with_reducible repeat (first | refine blk_drewN ?_ _ | refine blk_drew ?_ | refine blk_alloc ?_ _)); refine blk_far ?_ NB448_457.out _; (with_reducible repeat (first | refine blk_drewN ?_ _ | refine blk_drew ?_ | refine blk_alloc ?_ _)); exact BK448.out⟩, ⟨by with_reducible repeat (first | exact HB.out | apply below_alloc | apply pw_below_drewN | apply below_drew1 | refine below_set ?_ GE447.out | refine below_set ?_ GE448.out | refine below_set ?_ GE457.out)⟩⟩
      ·replace c10 := Bool.eq_false_iff.mpr c10
       subst c10
       have H1 : (some (([] : List (S89)), ([] : List (S87)), false)) = some (r1, r2, r3) := by rw [if_neg (show ¬ (false = true) by decide)] at H; exact H
       clear H
       have H := H1
       clear H1
       simp only [Option.some.injEq, Prod.mk.injEq] at H
       obtain ⟨rfl, rfl, rfl⟩ := H
       have p449 : 0 ≤ (x12_1 : Int) := of_decide_eq_true (by assumption)
       have q449 : x12_1 < (l0.length : Int) := of_decide_eq_true (by assumption)
       obtain ⟨ad449, e449, hx449_0⟩ := Kd.at_string HR0.out x12_1 p449 q449
       cases e449
       replace hx449_0 := (HB.out.cell (World.block_lt_of_cell? w _ hx449_0)).trans hx449_0
       replace p449 := eq_true p449
       replace q449 := eq_true q449
       have hnb23 := NB448_447.out
       have hnc23 := NB447_448.out
       have hcz24_0 : wr.cell? ⟨gb448, 0, none⟩ = some (u449000) := (blk_cell BK448.out 0).trans rfl
       have hcz24_1 : wr.cell? ⟨gb448, 1, none⟩ = some (u449001) := (blk_cell BK448.out 1).trans rfl
       have hfz24_0 := blk_frozen BK448.out 0
       have hfz24_1 := blk_frozen BK448.out 1
       obtain ⟨Ao25, co25, eo25⟩ := Kd.R_slice HO_449000.out
       subst eo25
       obtain ⟨Ao26, co26, eo26⟩ := Kd.S_slice HO_449001.out
       subst eo26
       go_wp2_with (first | ((with_reducible refine gate_callee (f := 50) rfl ?_); refine goesL_ (some 19) rfl rfl Try.func50 (by kernel_rfl) rfl #[.agg #[.slice Ao25 x449000_1.length co25, .slice Ao26 x449001_1.length co26], .string (rdOf ByteArray.empty l0 x12_1)] rfl (by (try simp only [List.map_toArray, List.map_cons, List.map_nil]); first | done | rfl | (simp only [List.length_drop, List.length_take]; rfl)) ?_; (with_reducible refine (spec_PutText.calls k1 _ _ x449000_1 _ _ x449001_1 (rdOf ByteArray.empty l0 x12_1) t450 t453 false _ ?side1 ?side2 ?side3 ?side4 A9.out).mono ?_); (case side1 => repeat (first | exact (Kd.R_reads' HO_449000.out).2.2 | (with_reducible refine Kd.C_alloc ?_ _) | (with_reducible refine Kd.C_drewN ?_ _) | (with_reducible refine Kd.C_drew ?_))); (case side2 => exact (Kd.R_reads' HO_449000.out).2.1); (case side3 => repeat (first | exact (Kd.S_reads' HO_449001.out).2.2 | (with_reducible refine Kd.C_alloc ?_ _) | (with_reducible refine Kd.C_drewN ?_ _) | (with_reducible refine Kd.C_drew ?_))); (case side4 => exact (Kd.S_reads' HO_449001.out).2.1); rintro e w27 ⟨v451, v454, rfl, ho0, ho1, hb⟩; refine ⟨_, rfl, ?_⟩; have HO452 := Aside0.mk (Kd.R_lower (Kd.R_new' ho0 (Kd.R_lt (by (with_reducible repeat (first | apply Kd.R_alloc | apply Kd.R_drewN | apply Kd.R_drew)); exact HO_449000.out))) (below_size (by with_reducible repeat (first | exact HB.out | apply below_alloc | apply pw_below_drewN | apply below_drew1 | refine below_set ?_ GE447.out | refine below_set ?_ GE448.out)))); replace HO_449000 := Aside0.mk (Kd.R_elder' (by (with_reducible repeat (first | apply Kd.R_alloc | apply Kd.R_drewN | apply Kd.R_drew)); exact HO_449000.out) (Kd.R_base ho0) hb); have HO455 := Aside0.mk (Kd.S_lower (Kd.S_new' ho1 (Kd.S_lt (by (with_reducible repeat (first | apply Kd.S_alloc | apply Kd.S_drewN | apply Kd.S_drew)); exact HO_449001.out))) (below_size (by with_reducible repeat (first | exact HB.out | apply below_alloc | apply pw_below_drewN | apply below_drew1 | refine below_set ?_ GE447.out | refine below_set ?_ GE448.out)))); replace HO_449001 := Aside0.mk (Kd.S_elder' (by (with_reducible repeat (first | apply Kd.S_alloc | apply Kd.S_drewN | apply Kd.S_drew)); exact HO_449001.out) (Kd.S_base ho1) hb); replace BK447 := Aside0.mk (blk_below (g := gb447) (o := .cells #[.slice none 0 0, .slice none 0 0] 51 (0, 0)) (by (with_reducible repeat (first | refine blk_drewN ?_ _ | refine blk_drew ?_ | refine blk_alloc ?_ _)); exact BK447.out) hb); replace BK448 := Aside0.mk (blk_below (g := gb448) (o := .cells #[.slice Ao25 x449000_1.length co25, .slice Ao26 x449001_1.length co26] 51 (0, 0)) (by (with_reducible repeat (first | refine blk_drewN ?_ _ | refine blk_drew ?_ | refine blk_alloc ?_ _)); exact BK448.out) hb); replace HB := Aside0.mk (below_step (by with_reducible repeat (first | exact HB.out | apply below_alloc | apply pw_below_drewN | apply below_drew1 | refine below_set ?_ GE447.out | refine below_set ?_ GE448.out)) hb); (try clear hb); (try clear hb2); (try clear hk); (try clear hi); (try clear ho0); (try clear ho1)) | ((with_reducible refine gate_dst (N := 7) rfl ?_); refine box_event ?hg (N := 7) ?hd (cs := #[.slice none 0 0, .slice none 0 0]) (t := 51) ?hr ?_; (case hd => rfl); (case hg => rfl); (case hr => first | (go_simp; done) | (go_simp; rfl)); intro gb457 hg w28 hbox hb; replace HO_449000 := Aside0.mk (Kd.R_below (by (with_reducible repeat (first | apply Kd.R_alloc | apply Kd.R_drewN | apply Kd.R_drew)); exact HO_449000.out) hb); replace HO_449001 := Aside0.mk (Kd.S_below (by (with_reducible repeat (first | apply Kd.S_alloc | apply Kd.S_drewN | apply Kd.S_drew)); exact HO_449001.out) hb); replace HO452 := Aside0.mk (Kd.R_below (by (with_reducible repeat (first | apply Kd.R_alloc | apply Kd.R_drewN | apply Kd.R_drew)); exact HO452.out) hb); replace HO455 := Aside0.mk (Kd.S_below (by (with_reducible repeat (first | apply Kd.S_alloc | apply Kd.S_drewN | apply Kd.S_drew)); exact HO455.out) hb); have BK457 := Aside0.mk (hbox); have GW457 := Aside0.mk ((by rw [hg]; exact (below_size (by with_reducible repeat (first | exact HB.out | apply below_alloc | apply pw_below_drewN | apply below_drew1 | refine below_set ?_ GE447.out | refine below_set ?_ GE448.out))) : w.heap.size ≤ gb457)); have GE457 := Aside0.mk ((by rw [hg]; exact (below_size (by with_reducible repeat (first | exact HB.out | apply below_alloc | apply pw_below_drewN | apply below_drew1 | refine below_set ?_ GE447.out | refine below_set ?_ GE448.out))) : w.heap.size ≤ gb457)); replace HB := Aside0.mk (below_step (by with_reducible repeat (first | exact HB.out | apply below_alloc | apply pw_below_drewN | apply below_drew1 | refine below_set ?_ GE447.out | refine below_set ?_ GE448.out)) hb); have NB447_457 := Aside0.mk ((by rw [hg]; exact Nat.ne_of_lt (blk_lt (g := gb447) (o := .cells #[.slice none 0 0, .slice none 0 0] 51 (0, 0)) (by (with_reducible repeat (first | refine blk_drewN ?_ _ | refine blk_drew ?_ | refine blk_alloc ?_ _)); exact BK447.out)) : gb447 ≠ gb457)); have NB457_447 := Aside0.mk ((by rw [hg]; exact Nat.ne_of_gt (blk_lt (g := gb447) (o := .cells #[.slice none 0 0, .slice none 0 0] 51 (0, 0)) (by (with_reducible repeat (first | refine blk_drewN ?_ _ | refine blk_drew ?_ | refine blk_alloc ?_ _)); exact BK447.out)) : gb457 ≠ gb447)); replace BK447 := Aside0.mk (blk_below (g := gb447) (o := .cells #[.slice none 0 0, .slice none 0 0] 51 (0, 0)) (by (with_reducible repeat (first | refine blk_drewN ?_ _ | refine blk_drew ?_ | refine blk_alloc ?_ _)); exact BK447.out) hb); have NB448_457 := Aside0.mk ((by rw [hg]; exact Nat.ne_of_lt (blk_lt (g := gb448) (o := .cells #[.slice Ao25 x449000_1.length co25, .slice Ao26 x449001_1.length co26] 51 (0, 0)) (by (with_reducible repeat (first | refine blk_drewN ?_ _ | refine blk_drew ?_ | refine blk_alloc ?_ _)); exact BK448.out)) : gb448 ≠ gb457)); have NB457_448 := Aside0.mk ((by rw [hg]; exact Nat.ne_of_gt (blk_lt (g := gb448) (o := .cells #[.slice Ao25 x449000_1.length co25, .slice Ao26 x449001_1.length co26] 51 (0, 0)) (by (with_reducible repeat (first | refine blk_drewN ?_ _ | refine blk_drew ?_ | refine blk_alloc ?_ _)); exact BK448.out)) : gb457 ≠ gb448)); replace BK448 := Aside0.mk (blk_below (g := gb448) (o := .cells #[.slice Ao25 x449000_1.length co25, .slice Ao26 x449001_1.length co26] 51 (0, 0)) (by (with_reducible repeat (first | refine blk_drewN ?_ _ | refine blk_drew ?_ | refine blk_alloc ?_ _)); exact BK448.out) hb); clear hb hbox hg; obtain ⟨Ao29, co29, eo29⟩ := Kd.R_slice HO452.out; subst eo29; have hnb30 := NB457_447.out; have hnc30 := NB447_457.out; have hnb31 := NB457_448.out; have hnc31 := NB448_457.out; have hcz32_0 : w28.cell? ⟨gb457, 0, none⟩ = some (.slice none 0 0) := (blk_cell BK457.out 0).trans rfl; have hcz32_1 : w28.cell? ⟨gb457, 1, none⟩ = some (.slice none 0 0) := (blk_cell BK457.out 1).trans rfl; have hfz32_0 := blk_frozen BK457.out 0; have hfz32_1 := blk_frozen BK457.out 1; obtain ⟨Ao33, co33, eo33⟩ := Kd.S_slice HO455.out; subst eo33; have hcz34_0 : w28.cell? ⟨gb447, 0, none⟩ = some (.slice none 0 0) := (blk_cell BK447.out 0).trans rfl; have hcz34_1 : w28.cell? ⟨gb447, 1, none⟩ = some (.slice none 0 0) := (blk_cell BK447.out 1).trans rfl; have hfz34_0 := blk_frozen BK447.out 0; have hfz34_1 := blk_frozen BK447.out 1))
       refine bodyPost_ret (results_ct rfl _ _ gb447 51 #[.slice none 0 0, .slice none 0 0] (0, 0) _ rfl (by (with_reducible repeat (first | refine blk_drewN ?_ _ | refine blk_drew ?_ | refine blk_alloc ?_ _)); refine blk_put (cs := #[.slice none 0 0, .slice none 0 0]) ?_ 1 _ rfl; (with_reducible repeat (first | refine blk_drewN ?_ _ | refine blk_drew ?_ | refine blk_alloc ?_ _)); refine blk_put (cs := #[.slice none 0 0, .slice none 0 0]) ?_ 0 _ rfl; (with_reducible repeat (first | refine blk_drewN ?_ _ | refine blk_drew ?_ | refine blk_alloc ?_ _)); refine blk_far ?_ NB447_457.out _; (with_reducible repeat (first | refine blk_drewN ?_ _ | refine blk_drew ?_ | refine blk_alloc ?_ _)); refine blk_far ?_ NB447_457.out _; (with_reducible repeat (first | refine blk_drewN ?_ _ | refine blk_drew ?_ | refine blk_alloc ?_ _)); exact BK447.out) Try.underlying51 rfl (by kernel_rfl)) rfl ?_
       exact ⟨_, _, by first | rfl | (simp [errW_none, errW_some] <;> rfl) | (simp [*, errW_none, errW_some] <;> rfl) | (simp [E.isEmpty_bne]; done) | (rw [E.bne_empty]), by first | exact Kd.R_nil _ _ _ _ _ | exact Kd.N_nil _ _ _ _ _ | exact Kd.V_nil _ _ _ _ _ | exact Kd.Q_nil _ _ _ _ _ | exact Kd.S_nil _ _ _ _ _, by first | exact Kd.S_nil _ _ _ _ _ | exact Kd.N_nil _ _ _ _ _ | exact Kd.V_nil _ _ _ _ _ | exact Kd.Q_nil _ _ _ _ _ | exact Kd.R_nil _ _ _ _ _, by with_reducible repeat (first | exact HB.out | apply below_alloc | apply pw_below_drewN | apply below_drew1 | refine below_set ?_ GE447.out | refine below_set ?_ GE448.out | refine below_set ?_ GE457.out)⟩
     ·rw [if_neg c8] at H
      exact absurd H (by simp)
    ·rw [if_neg c7] at H
     exact absurd H (by simp)
   ·rw [if_neg c6] at H
    have c6b0 : decide (x12_1 < (l0.length : Int)) = false := decide_eq_false c6
    clear c6
    simp only [Option.some.injEq, Prod.mk.injEq] at H
    obtain ⟨rfl, rfl, rfl⟩ := H
    have hnb35 := NB448_447.out
    have hnc35 := NB447_448.out
    have hcz36_0 : wr.cell? ⟨gb448, 0, none⟩ = some (u449000) := (blk_cell BK448.out 0).trans rfl
    have hcz36_1 : wr.cell? ⟨gb448, 1, none⟩ = some (u449001) := (blk_cell BK448.out 1).trans rfl
    have hfz36_0 := blk_frozen BK448.out 0
    have hfz36_1 := blk_frozen BK448.out 1
    obtain ⟨Ao37, co37, eo37⟩ := Kd.R_slice HO_449000.out
    subst eo37
    have hcz38_0 : wr.cell? ⟨gb447, 0, none⟩ = some (.slice none 0 0) := (blk_cell BK447.out 0).trans rfl
    have hcz38_1 : wr.cell? ⟨gb447, 1, none⟩ = some (.slice none 0 0) := (blk_cell BK447.out 1).trans rfl
    have hfz38_0 := blk_frozen BK447.out 0
    have hfz38_1 := blk_frozen BK447.out 1
    obtain ⟨Ao39, co39, eo39⟩ := Kd.S_slice HO_449001.out
    subst eo39
    go_wp2
    refine bodyPost_ret (results_ct rfl _ _ gb447 51 #[.slice Ao37 x449000_1.length co37, .slice Ao39 x449001_1.length co39] (0, 0) _ rfl (by (with_reducible repeat (first | refine blk_drewN ?_ _ | refine blk_drew ?_ | refine blk_alloc ?_ _)); refine blk_put (cs := #[.slice Ao37 x449000_1.length co37, .slice none 0 0]) ?_ 1 _ rfl; (with_reducible repeat (first | refine blk_drewN ?_ _ | refine blk_drew ?_ | refine blk_alloc ?_ _)); refine blk_put (cs := #[.slice none 0 0, .slice none 0 0]) ?_ 0 _ rfl; (with_reducible repeat (first | refine blk_drewN ?_ _ | refine blk_drew ?_ | refine blk_alloc ?_ _)); exact BK447.out) Try.underlying51 rfl (by kernel_rfl)) rfl ?_
    exact ⟨_, _, by first | rfl | (simp [errW_none, errW_some] <;> rfl) | (simp [*, errW_none, errW_some] <;> rfl) | (simp [E.isEmpty_bne]; done) | (rw [E.bne_empty]), by (with_reducible repeat (first | apply Kd.R_alloc | apply Kd.R_drewN | apply Kd.R_drew)); exact Kd.R_mono (Kd.R_far (p := ⟨gb447, 1, none⟩) (Kd.R_far (p := ⟨gb447, 0, none⟩) (Kd.R_types HO_449000.out BK447.out (by decide)) (fun _ hk => hk.2) (.slice Ao37 x449000_1.length co37)) (fun _ hk => hk.2) (.slice Ao39 x449001_1.length co39)) (fun _ hk => trivial), by (with_reducible repeat (first | apply Kd.S_alloc | apply Kd.S_drewN | apply Kd.S_drew)); exact Kd.S_mono (Kd.S_far (p := ⟨gb447, 1, none⟩) (Kd.S_far (p := ⟨gb447, 0, none⟩) (Kd.S_types HO_449001.out BK447.out (by decide)) (fun _ hk => hk.2) (.slice Ao37 x449000_1.length co37)) (fun _ hk => hk.2) (.slice Ao39 x449001_1.length co39)) (fun _ hk => trivial), by with_reducible repeat (first | exact HB.out | apply below_alloc | apply pw_below_drewN | apply below_drew1 | refine below_set ?_ GE447.out | refine below_set ?_ GE448.out)⟩

end Go.Proofs.Ytjepecinpgjgdaa.PVau
