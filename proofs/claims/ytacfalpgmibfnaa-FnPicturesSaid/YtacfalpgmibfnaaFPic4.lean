import Derived.Test.YtacfalpgmibfnaaFPic3
namespace Go.Proofs.Ytacfalpgmibfnaa.PCow
open Go.RowKit Go.Proofs.YtacfalpgmibfnaaW.PrintWords Go.Proofs.YtacfalpgmibfnaaW.PrintLast Go.Proofs.YtacfalpgmibfnaaW.PrintMore
attribute [local go_sem] max2_int min2_int max_two min_two max_three min_three max_four min_four
set_option linter.unusedVariables false
set_option linter.unusedSimpArgs false
def spec_LeafAt.f (k : Nat) (l0_0 : List (S68)) (l0_1 : List Int) (a0_2 : Int) (a1 : Int) (a2 : Int) : Option (ByteArray × Bool) := (spec_GoodCow.f k l0_0 l0_1 a0_2).bind fun t214 => (if t214 = true then ((spec_l1In.f a1 0 (wrap64 ((l0_1.length : Int) - 1))).bind fun t215 => (if t215 = true then ((spec_l14Places.f k l0_0 l0_1 a0_2).bind fun t216 => ((spec_l1In.f a2 0 (wrap64 (t216 - 1))).bind fun t217 => (if t217 = true then (if 0 ≤ a1 then (if a1 < (l0_1.length : Int) then ((spec_l14Leaf.f k l0_0 l0_1 a0_2 (rd l0_1 a1) a2).bind fun t219 => (some (t219, true))) else (none)) else (none)) else (some ((⟨#[]⟩ : ByteArray), false))))) else (some ((⟨#[]⟩ : ByteArray), false)))) else (some ((⟨#[]⟩ : ByteArray), false)))
def spec_LeafAt.T3 : Bool × List (List Nat × List Nat) := (true, [([], []), ([], []), ([1], [1]), ([], []), ([2, 3], [2, 3]), ([4], [4]), ([], []), ([0, 5, 6], [0, 5, 6]), ([7, 7, 0, 1, 2, 3, 4, 5, 6, 7], [7]), ([8, 0, 1, 2, 3, 4, 5, 6, 7, 8], [])])
def spec_LeafAt.B3 : List Nat := [0, 0, 2, 0, 14, 30, 0, 127, 255, 511]
theorem spec_LeafAt.tab3 : rtab .any (opsOf Try.f25 3) = spec_LeafAt.T3 := by kernel_rfl
theorem spec_LeafAt.bits3 : waitsOk spec_LeafAt.T3.2 spec_LeafAt.B3 = true := by kernel_rfl
def impl_LeafAt.f (k : Nat) (l0_0 : List (S68)) (l0_1 : List Int) (a0_2 : Int) (a1 : Int) (a2 : Int) : Option (ByteArray × Bool) := (impl_isRoot.f l0_0 l0_1 a0_2 a1).bind fun t232 => (if t232 = true then ((impl_Cow_places.f l0_0 l0_1 a0_2).bind fun t233 => ((impl_within.f a2 0 (wrap64 (t233 - 1))).bind fun t234 => (if t234 = true then ((impl_Cow_leafAt.f k l0_0 l0_1 a0_2 a1 a2).bind fun t235 => (some (t235, true))) else (some ((⟨#[]⟩ : ByteArray), false))))) else (some ((⟨#[]⟩ : ByteArray), false)))
set_option maxHeartbeats 8000000 in
set_option maxRecDepth 100000 in
theorem impl_LeafAt.calls (k : Nat) (A0_0 : Option Addr) (c0_0 : Nat) (l0_0 : List (S68)) (A0_1 : Option Addr) (c0_1 : Nat) (l0_1 : List Int) (a0_2 : Int) (a1 : Int) (a2 : Int) (r1 : ByteArray) (r2 : Bool) (w : World) (hr0_0 : Kd.C k68 w A0_0 l0_0.length l0_0) (hc0_0 : l0_0.length ≤ c0_0) (hr0_1 : Kd.C (Kd.int .i64) w A0_1 l0_1.length l0_1) (hc0_1 : l0_1.length ≤ c0_1) (h : impl_LeafAt.f k l0_0 l0_1 a0_2 a1 a2 = some (r1, r2)) :
  Calls Try.prog 26 #[.agg #[.slice A0_0 l0_0.length c0_0, .slice A0_1 l0_1.length c0_1, .int .i64 a0_2], .int .i64 a1, .int .i64 a2] w fun e w' => e = .returned (.tuple #[.string r1, .bool r2]) ∧ Below w.heap.size w w' := by
 have hu25 := Try.underlying25
 have HR0_0 := Aside0.mk hr0_0
 have HC0_0 := Aside0.mk hc0_0
 clear hr0_0 hc0_0
 have HR0_1 := Aside0.mk hr0_1
 have HC0_1 := Aside0.mk hc0_1
 clear hr0_1 hc0_1
 have HB := Aside0.mk (Below.refl w.heap.size w)
 have H : ((impl_isRoot.f l0_0 l0_1 a0_2 a1).bind fun t232 => (if t232 = true then ((impl_Cow_places.f l0_0 l0_1 a0_2).bind fun t233 => ((impl_within.f a2 0 (wrap64 (t233 - 1))).bind fun t234 => (if t234 = true then ((impl_Cow_leafAt.f k l0_0 l0_1 a0_2 a1 a2).bind fun t235 => (some (t235, true))) else (some ((⟨#[]⟩ : ByteArray), false))))) else (some ((⟨#[]⟩ : ByteArray), false)))) = some (r1, r2) := h
 clear h
 replace H := Option.bind_eq_some_iff.mp H
 obtain ⟨t232, A40, H⟩ := H
 replace H : (if t232 = true then ((impl_Cow_places.f l0_0 l0_1 a0_2).bind fun t233 => ((impl_within.f a2 0 (wrap64 (t233 - 1))).bind fun t234 => (if t234 = true then ((impl_Cow_leafAt.f k l0_0 l0_1 a0_2 a1 a2).bind fun t235 => (some (t235, true))) else (some ((⟨#[]⟩ : ByteArray), false))))) else (some ((⟨#[]⟩ : ByteArray), false))) = some (r1, r2) := H
 have A4 := Aside0.mk A40
 clear A40
 by_cases c5 : t232 = true
 ·subst c5
  have H1 : ((impl_Cow_places.f l0_0 l0_1 a0_2).bind fun t233 => ((impl_within.f a2 0 (wrap64 (t233 - 1))).bind fun t234 => (if t234 = true then ((impl_Cow_leafAt.f k l0_0 l0_1 a0_2 a1 a2).bind fun t235 => (some (t235, true))) else (some ((⟨#[]⟩ : ByteArray), false))))) = some (r1, r2) := by rw [if_pos rfl] at H; exact H
  clear H
  have H := H1
  clear H1
  replace H := Option.bind_eq_some_iff.mp H
  obtain ⟨t233, A60, H⟩ := H
  replace H : ((impl_within.f a2 0 (wrap64 (t233 - 1))).bind fun t234 => (if t234 = true then ((impl_Cow_leafAt.f k l0_0 l0_1 a0_2 a1 a2).bind fun t235 => (some (t235, true))) else (some ((⟨#[]⟩ : ByteArray), false)))) = some (r1, r2) := H
  have A6 := Aside0.mk A60
  clear A60
  replace H := Option.bind_eq_some_iff.mp H
  obtain ⟨t234, A70, H⟩ := H
  replace H : (if t234 = true then ((impl_Cow_leafAt.f k l0_0 l0_1 a0_2 a1 a2).bind fun t235 => (some (t235, true))) else (some ((⟨#[]⟩ : ByteArray), false))) = some (r1, r2) := H
  have A7 := Aside0.mk A70
  clear A70
  by_cases c8 : t234 = true
  ·subst c8
   have H1 : ((impl_Cow_leafAt.f k l0_0 l0_1 a0_2 a1 a2).bind fun t235 => (some (t235, true))) = some (r1, r2) := by rw [if_pos rfl] at H; exact H
   clear H
   have H := H1
   clear H1
   replace H := Option.bind_eq_some_iff.mp H
   obtain ⟨t235, A90, H⟩ := H
   replace H : (some (t235, true)) = some (r1, r2) := H
   have A9 := Aside0.mk A90
   clear A90
   simp only [Option.some.injEq, Prod.mk.injEq] at H
   obtain ⟨rfl, rfl⟩ := H
   go_enter Try.func26, Try.ntmps26
   go_wp2_with (first | ((with_reducible refine gate_dst (N := 3) rfl ?_); refine box_event ?hg (N := 3) ?hd (cs := #[.slice A0_0 l0_0.length c0_0, .slice A0_1 l0_1.length c0_1, .int .i64 a0_2]) (t := 25) ?hr ?_; (case hd => rfl); (case hg => rfl); (case hr => first | (go_simp; done) | (go_simp; rfl)); intro gb231 hg w10 hbox hb; have BK231 := Aside0.mk (hbox); have GW231 := Aside0.mk ((by rw [hg]; exact (below_size (by with_reducible repeat (first | exact HB.out | apply below_alloc | apply pw_below_drewN | apply below_drew1))) : w.heap.size ≤ gb231)); have GE231 := Aside0.mk ((by rw [hg]; exact (below_size (by with_reducible repeat (first | exact HB.out | apply below_alloc | apply pw_below_drewN | apply below_drew1))) : w.heap.size ≤ gb231)); replace HB := Aside0.mk (below_step (by with_reducible repeat (first | exact HB.out | apply below_alloc | apply pw_below_drewN | apply below_drew1)) hb); clear hb hbox hg; have hcz11_0 : w10.cell? ⟨gb231, 0, none⟩ = some (.slice A0_0 l0_0.length c0_0) := (blk_cell BK231.out 0).trans rfl; have hcz11_1 : w10.cell? ⟨gb231, 1, none⟩ = some (.slice A0_1 l0_1.length c0_1) := (blk_cell BK231.out 1).trans rfl; have hcz11_2 : w10.cell? ⟨gb231, 2, none⟩ = some (.int .i64 a0_2) := (blk_cell BK231.out 2).trans rfl; have hfz11_0 := blk_frozen BK231.out 0; have hfz11_1 := blk_frozen BK231.out 1; have hfz11_2 := blk_frozen BK231.out 2) | ((with_reducible refine gate_callee (f := 63) rfl ?_); refine goesL_ (some 10) rfl rfl Try.func63 (by kernel_rfl) rfl #[.agg #[.slice A0_0 l0_0.length c0_0, .slice A0_1 l0_1.length c0_1, .int .i64 a0_2], .int .i64 a1] rfl (by (try simp only [List.map_toArray, List.map_cons, List.map_nil]); first | done | rfl | (simp only [List.length_drop, List.length_take]; rfl)) ?_; (with_reducible refine (impl_isRoot.calls _ _ l0_0 _ _ l0_1 a0_2 a1 true _ ?side1 ?side2 ?side3 ?side4 A4.out).mono ?_); (case side1 => repeat (first | exact (Kd.C_below HR0_0.out HB.out) | (with_reducible refine Kd.C_alloc ?_ _) | (with_reducible refine Kd.C_drewN ?_ _) | (with_reducible refine Kd.C_drew ?_))); (case side2 => exact HC0_0.out); (case side3 => repeat (first | exact (Kd.C_below HR0_1.out HB.out) | (with_reducible refine Kd.C_alloc ?_ _) | (with_reducible refine Kd.C_drewN ?_ _) | (with_reducible refine Kd.C_drew ?_))); (case side4 => exact HC0_1.out); rintro e w12 ⟨rfl, hb⟩; refine ⟨_, rfl, ?_⟩; replace BK231 := Aside0.mk (blk_below (g := gb231) (o := .cells #[.slice A0_0 l0_0.length c0_0, .slice A0_1 l0_1.length c0_1, .int .i64 a0_2] 25 (0, 0)) (by (with_reducible repeat (first | refine blk_drewN ?_ _ | refine blk_drew ?_ | refine blk_alloc ?_ _)); exact BK231.out) hb); replace HB := Aside0.mk (below_step (by with_reducible repeat (first | exact HB.out | apply below_alloc | apply pw_below_drewN | apply below_drew1 | refine below_set ?_ GE231.out)) hb); (try clear hb); (try clear hb2); (try clear hk); (try clear hi); have hcz13_0 : w12.cell? ⟨gb231, 0, none⟩ = some (.slice A0_0 l0_0.length c0_0) := (blk_cell BK231.out 0).trans rfl; have hcz13_1 : w12.cell? ⟨gb231, 1, none⟩ = some (.slice A0_1 l0_1.length c0_1) := (blk_cell BK231.out 1).trans rfl; have hcz13_2 : w12.cell? ⟨gb231, 2, none⟩ = some (.int .i64 a0_2) := (blk_cell BK231.out 2).trans rfl; have hfz13_0 := blk_frozen BK231.out 0; have hfz13_1 := blk_frozen BK231.out 1; have hfz13_2 := blk_frozen BK231.out 2) | (go_at_call 64; (with_reducible refine (impl_Cow_places.calls _ _ l0_0 _ _ l0_1 a0_2 t233 _ ?side1 ?side2 ?side3 ?side4 A6.out).mono ?_); (case side1 => repeat (first | exact (Kd.C_below HR0_0.out HB.out) | (with_reducible refine Kd.C_alloc ?_ _) | (with_reducible refine Kd.C_drewN ?_ _) | (with_reducible refine Kd.C_drew ?_))); (case side2 => exact HC0_0.out); (case side3 => repeat (first | exact (Kd.C_below HR0_1.out HB.out) | (with_reducible refine Kd.C_alloc ?_ _) | (with_reducible refine Kd.C_drewN ?_ _) | (with_reducible refine Kd.C_drew ?_))); (case side4 => exact HC0_1.out); rintro e w14 ⟨rfl, hb⟩; replace BK231 := Aside0.mk (blk_below (g := gb231) (o := .cells #[.slice A0_0 l0_0.length c0_0, .slice A0_1 l0_1.length c0_1, .int .i64 a0_2] 25 (0, 0)) (by (with_reducible repeat (first | refine blk_drewN ?_ _ | refine blk_drew ?_ | refine blk_alloc ?_ _)); exact BK231.out) hb); replace HB := Aside0.mk (below_step (by with_reducible repeat (first | exact HB.out | apply below_alloc | apply pw_below_drewN | apply below_drew1 | refine below_set ?_ GE231.out)) hb); (try clear hb); (try clear hb2); (try clear hk); (try clear hi)) | (go_at_call 45; (with_reducible refine (impl_within.calls a2 0 (wrap64 (t233 - 1)) true _ A7.out).mono ?_); rintro e w' ⟨rfl, ⟨nd, rfl⟩⟩; have hcz15_0 : w14.cell? ⟨gb231, 0, none⟩ = some (.slice A0_0 l0_0.length c0_0) := (blk_cell BK231.out 0).trans rfl; have hcz15_1 : w14.cell? ⟨gb231, 1, none⟩ = some (.slice A0_1 l0_1.length c0_1) := (blk_cell BK231.out 1).trans rfl; have hcz15_2 : w14.cell? ⟨gb231, 2, none⟩ = some (.int .i64 a0_2) := (blk_cell BK231.out 2).trans rfl; have hfz15_0 := blk_frozen BK231.out 0; have hfz15_1 := blk_frozen BK231.out 1; have hfz15_2 := blk_frozen BK231.out 2) | ((with_reducible refine gate_callee (f := 65) rfl ?_); refine goesL_ (some 23) rfl rfl Try.func65 (by kernel_rfl) rfl #[.agg #[.slice A0_0 l0_0.length c0_0, .slice A0_1 l0_1.length c0_1, .int .i64 a0_2], .int .i64 a1, .int .i64 a2] rfl (by (try simp only [List.map_toArray, List.map_cons, List.map_nil]); first | done | rfl | (simp only [List.length_drop, List.length_take]; rfl)) ?_; (with_reducible refine (impl_Cow_leafAt.calls k _ _ l0_0 _ _ l0_1 a0_2 a1 a2 t235 _ ?side1 ?side2 ?side3 ?side4 A9.out).mono ?_); (case side1 => repeat (first | exact (Kd.C_below HR0_0.out (by with_reducible repeat (first | exact HB.out | apply below_alloc | apply pw_below_drewN | apply below_drew1 | refine below_set ?_ GE231.out))) | (with_reducible refine Kd.C_alloc ?_ _) | (with_reducible refine Kd.C_drewN ?_ _) | (with_reducible refine Kd.C_drew ?_))); (case side2 => exact HC0_0.out); (case side3 => repeat (first | exact (Kd.C_below HR0_1.out (by with_reducible repeat (first | exact HB.out | apply below_alloc | apply pw_below_drewN | apply below_drew1 | refine below_set ?_ GE231.out))) | (with_reducible refine Kd.C_alloc ?_ _) | (with_reducible refine Kd.C_drewN ?_ _) | (with_reducible refine Kd.C_drew ?_))); (case side4 => exact HC0_1.out); rintro e w16 ⟨rfl, hb⟩; refine ⟨_, rfl, ?_⟩; replace BK231 := Aside0.mk (blk_below (g := gb231) (o := .cells #[.slice A0_0 l0_0.length c0_0, .slice A0_1 l0_1.length c0_1, .int .i64 a0_2] 25 (0, 0)) (by (with_reducible repeat (first | refine blk_drewN ?_ _ | refine blk_drew ?_ | refine blk_alloc ?_ _)); exact BK231.out) hb); replace HB := Aside0.mk (below_step (by with_reducible repeat (first | exact HB.out | apply below_alloc | apply pw_below_drewN | apply below_drew1 | refine below_set ?_ GE231.out)) hb); (try clear hb); (try clear hb2); (try clear hk); (try clear hi)))
   go_ret2
   exact ⟨by first | rfl | (simp [errW_none, errW_some] <;> rfl) | (simp [*, errW_none, errW_some] <;> rfl) | (simp [E.isEmpty_bne]; done) | (rw [E.bne_empty]), by with_reducible repeat (first | exact HB.out | apply below_alloc | apply pw_below_drewN | apply below_drew1 | refine below_set ?_ GE231.out)⟩
  ·replace c8 := Bool.eq_false_iff.mpr c8
   subst c8
   have H1 : (some ((⟨#[]⟩ : ByteArray), false)) = some (r1, r2) := by rw [if_neg (show ¬ (false = true) by decide)] at H; exact H
   clear H
   have H := H1
   clear H1
   simp only [Option.some.injEq, Prod.mk.injEq] at H
   obtain ⟨rfl, rfl⟩ := H
   go_enter Try.func26, Try.ntmps26
   go_wp2_with (first | ((with_reducible refine gate_dst (N := 3) rfl ?_); refine box_event ?hg (N := 3) ?hd (cs := #[.slice A0_0 l0_0.length c0_0, .slice A0_1 l0_1.length c0_1, .int .i64 a0_2]) (t := 25) ?hr ?_; (case hd => rfl); (case hg => rfl); (case hr => first | (go_simp; done) | (go_simp; rfl)); intro gb231 hg w17 hbox hb; have BK231 := Aside0.mk (hbox); have GW231 := Aside0.mk ((by rw [hg]; exact (below_size (by with_reducible repeat (first | exact HB.out | apply below_alloc | apply pw_below_drewN | apply below_drew1))) : w.heap.size ≤ gb231)); have GE231 := Aside0.mk ((by rw [hg]; exact (below_size (by with_reducible repeat (first | exact HB.out | apply below_alloc | apply pw_below_drewN | apply below_drew1))) : w.heap.size ≤ gb231)); replace HB := Aside0.mk (below_step (by with_reducible repeat (first | exact HB.out | apply below_alloc | apply pw_below_drewN | apply below_drew1)) hb); clear hb hbox hg; have hcz18_0 : w17.cell? ⟨gb231, 0, none⟩ = some (.slice A0_0 l0_0.length c0_0) := (blk_cell BK231.out 0).trans rfl; have hcz18_1 : w17.cell? ⟨gb231, 1, none⟩ = some (.slice A0_1 l0_1.length c0_1) := (blk_cell BK231.out 1).trans rfl; have hcz18_2 : w17.cell? ⟨gb231, 2, none⟩ = some (.int .i64 a0_2) := (blk_cell BK231.out 2).trans rfl; have hfz18_0 := blk_frozen BK231.out 0; have hfz18_1 := blk_frozen BK231.out 1; have hfz18_2 := blk_frozen BK231.out 2) | ((with_reducible refine gate_callee (f := 63) rfl ?_); refine goesL_ (some 10) rfl rfl Try.func63 (by kernel_rfl) rfl #[.agg #[.slice A0_0 l0_0.length c0_0, .slice A0_1 l0_1.length c0_1, .int .i64 a0_2], .int .i64 a1] rfl (by (try simp only [List.map_toArray, List.map_cons, List.map_nil]); first | done | rfl | (simp only [List.length_drop, List.length_take]; rfl)) ?_; (with_reducible refine (impl_isRoot.calls _ _ l0_0 _ _ l0_1 a0_2 a1 true _ ?side1 ?side2 ?side3 ?side4 A4.out).mono ?_); (case side1 => repeat (first | exact (Kd.C_below HR0_0.out HB.out) | (with_reducible refine Kd.C_alloc ?_ _) | (with_reducible refine Kd.C_drewN ?_ _) | (with_reducible refine Kd.C_drew ?_))); (case side2 => exact HC0_0.out); (case side3 => repeat (first | exact (Kd.C_below HR0_1.out HB.out) | (with_reducible refine Kd.C_alloc ?_ _) | (with_reducible refine Kd.C_drewN ?_ _) | (with_reducible refine Kd.C_drew ?_))); (case side4 => exact HC0_1.out); rintro e w19 ⟨rfl, hb⟩; refine ⟨_, rfl, ?_⟩; replace BK231 := Aside0.mk (blk_below (g := gb231) (o := .cells #[.slice A0_0 l0_0.length c0_0, .slice A0_1 l0_1.length c0_1, .int .i64 a0_2] 25 (0, 0)) (by (with_reducible repeat (first | refine blk_drewN ?_ _ | refine blk_drew ?_ | refine blk_alloc ?_ _)); exact BK231.out) hb); replace HB := Aside0.mk (below_step (by with_reducible repeat (first | exact HB.out | apply below_alloc | apply pw_below_drewN | apply below_drew1 | refine below_set ?_ GE231.out)) hb); (try clear hb); (try clear hb2); (try clear hk); (try clear hi); have hcz20_0 : w19.cell? ⟨gb231, 0, none⟩ = some (.slice A0_0 l0_0.length c0_0) := (blk_cell BK231.out 0).trans rfl; have hcz20_1 : w19.cell? ⟨gb231, 1, none⟩ = some (.slice A0_1 l0_1.length c0_1) := (blk_cell BK231.out 1).trans rfl; have hcz20_2 : w19.cell? ⟨gb231, 2, none⟩ = some (.int .i64 a0_2) := (blk_cell BK231.out 2).trans rfl; have hfz20_0 := blk_frozen BK231.out 0; have hfz20_1 := blk_frozen BK231.out 1; have hfz20_2 := blk_frozen BK231.out 2) | (go_at_call 64; (with_reducible refine (impl_Cow_places.calls _ _ l0_0 _ _ l0_1 a0_2 t233 _ ?side1 ?side2 ?side3 ?side4 A6.out).mono ?_); (case side1 => repeat (first | exact (Kd.C_below HR0_0.out HB.out) | (with_reducible refine Kd.C_alloc ?_ _) | (with_reducible refine Kd.C_drewN ?_ _) | (with_reducible refine Kd.C_drew ?_))); (case side2 => exact HC0_0.out); (case side3 => repeat (first | exact (Kd.C_below HR0_1.out HB.out) | (with_reducible refine Kd.C_alloc ?_ _) | (with_reducible refine Kd.C_drewN ?_ _) | (with_reducible refine Kd.C_drew ?_))); (case side4 => exact HC0_1.out); rintro e w21 ⟨rfl, hb⟩; replace BK231 := Aside0.mk (blk_below (g := gb231) (o := .cells #[.slice A0_0 l0_0.length c0_0, .slice A0_1 l0_1.length c0_1, .int .i64 a0_2] 25 (0, 0)) (by (with_reducible repeat (first | refine blk_drewN ?_ _ | refine blk_drew ?_ | refine blk_alloc ?_ _)); exact BK231.out) hb); replace HB := Aside0.mk (below_step (by with_reducible repeat (first | exact HB.out | apply below_alloc | apply pw_below_drewN | apply below_drew1 | refine below_set ?_ GE231.out)) hb); (try clear hb); (try clear hb2); (try clear hk); (try clear hi)) | (go_at_call 45; (with_reducible refine (impl_within.calls a2 0 (wrap64 (t233 - 1)) false _ A7.out).mono ?_); rintro e w' ⟨rfl, ⟨nd, rfl⟩⟩))
   go_ret2
   exact ⟨by first | rfl | (simp [errW_none, errW_some] <;> rfl) | (simp [*, errW_none, errW_some] <;> rfl) | (simp [E.isEmpty_bne]; done) | (rw [E.bne_empty]), by with_reducible repeat (first | exact HB.out | apply below_alloc | apply pw_below_drewN | apply below_drew1 | refine below_set ?_ GE231.out)⟩
 ·replace c5 := Bool.eq_false_iff.mpr c5
  subst c5
  have H1 : (some ((⟨#[]⟩ : ByteArray), false)) = some (r1, r2) := by rw [if_neg (show ¬ (false = true) by decide)] at H; exact H
  clear H
  have H := H1
  clear H1
  simp only [Option.some.injEq, Prod.mk.injEq] at H
  obtain ⟨rfl, rfl⟩ := H
  go_enter Try.func26, Try.ntmps26
  go_wp2_with (first | ((with_reducible refine gate_dst (N := 3) rfl ?_); refine box_event ?hg (N := 3) ?hd (cs := #[.slice A0_0 l0_0.length c0_0, .slice A0_1 l0_1.length c0_1, .int .i64 a0_2]) (t := 25) ?hr ?_; (case hd => rfl); (case hg => rfl); (case hr => first | (go_simp; done) | (go_simp; rfl)); intro gb231 hg w22 hbox hb; have BK231 := Aside0.mk (hbox); have GW231 := Aside0.mk ((by rw [hg]; exact (below_size (by with_reducible repeat (first | exact HB.out | apply below_alloc | apply pw_below_drewN | apply below_drew1))) : w.heap.size ≤ gb231)); have GE231 := Aside0.mk ((by rw [hg]; exact (below_size (by with_reducible repeat (first | exact HB.out | apply below_alloc | apply pw_below_drewN | apply below_drew1))) : w.heap.size ≤ gb231)); replace HB := Aside0.mk (below_step (by with_reducible repeat (first | exact HB.out | apply below_alloc | apply pw_below_drewN | apply below_drew1)) hb); clear hb hbox hg; have hcz23_0 : w22.cell? ⟨gb231, 0, none⟩ = some (.slice A0_0 l0_0.length c0_0) := (blk_cell BK231.out 0).trans rfl; have hcz23_1 : w22.cell? ⟨gb231, 1, none⟩ = some (.slice A0_1 l0_1.length c0_1) := (blk_cell BK231.out 1).trans rfl; have hcz23_2 : w22.cell? ⟨gb231, 2, none⟩ = some (.int .i64 a0_2) := (blk_cell BK231.out 2).trans rfl; have hfz23_0 := blk_frozen BK231.out 0; have hfz23_1 := blk_frozen BK231.out 1; have hfz23_2 := blk_frozen BK231.out 2) | ((with_reducible refine gate_callee (f := 63) rfl ?_); refine goesL_ (some 10) rfl rfl Try.func63 (by kernel_rfl) rfl #[.agg #[.slice A0_0 l0_0.length c0_0, .slice A0_1 l0_1.length c0_1, .int .i64 a0_2], .int .i64 a1] rfl (by (try simp only [List.map_toArray, List.map_cons, List.map_nil]); first | done | rfl | (simp only [List.length_drop, List.length_take]; rfl)) ?_; (with_reducible refine (impl_isRoot.calls _ _ l0_0 _ _ l0_1 a0_2 a1 false _ ?side1 ?side2 ?side3 ?side4 A4.out).mono ?_); (case side1 => repeat (first | exact (Kd.C_below HR0_0.out HB.out) | (with_reducible refine Kd.C_alloc ?_ _) | (with_reducible refine Kd.C_drewN ?_ _) | (with_reducible refine Kd.C_drew ?_))); (case side2 => exact HC0_0.out); (case side3 => repeat (first | exact (Kd.C_below HR0_1.out HB.out) | (with_reducible refine Kd.C_alloc ?_ _) | (with_reducible refine Kd.C_drewN ?_ _) | (with_reducible refine Kd.C_drew ?_))); (case side4 => exact HC0_1.out); rintro e w24 ⟨rfl, hb⟩; refine ⟨_, rfl, ?_⟩; replace BK231 := Aside0.mk (blk_below (g := gb231) (o := .cells #[.slice A0_0 l0_0.length c0_0, .slice A0_1 l0_1.length c0_1, .int .i64 a0_2] 25 (0, 0)) (by (with_reducible repeat (first | refine blk_drewN ?_ _ | refine blk_drew ?_ | refine blk_alloc ?_ _)); exact BK231.out) hb); replace HB := Aside0.mk (below_step (by with_reducible repeat (first | exact HB.out | apply below_alloc | apply pw_below_drewN | apply below_drew1 | refine below_set ?_ GE231.out)) hb); (try clear hb); (try clear hb2); (try clear hk); (try clear hi)))
  go_ret2
  exact ⟨by first | rfl | (simp [errW_none, errW_some] <;> rfl) | (simp [*, errW_none, errW_some] <;> rfl) | (simp [E.isEmpty_bne]; done) | (rw [E.bne_empty]), by with_reducible repeat (first | exact HB.out | apply below_alloc | apply pw_below_drewN | apply below_drew1 | refine below_set ?_ GE231.out)⟩
open Go.RowKit Go.Proofs.YtacfalpgmibfnaaW.PrintWords Go.Proofs.YtacfalpgmibfnaaW.PrintLast Go.Proofs.YtacfalpgmibfnaaW.PrintMore Go.Proofs.Ytacfalpgmibfnaa.E
def freeFrom : List CL → Nat → Int
 | [], _ => -1
 | x :: l, i => if x.f0 = 0 then (i : Int) else freeFrom l (i + 1)
def freeK (l : List CL) : Int := freeFrom l 0
theorem rd_cl_nat {l : List CL} {j : Nat} (h : j < l.length) : rd_T68 l (j : Int) = l[j] := by
 rw [rd_cl, Int.toNat_natCast, List.getD_eq_getElem?_getD, List.getElem?_eq_getElem h]
 rfl
theorem free_hit : ∀ (l : List CL) (i j : Nat), j < l.length → (rd_T68 l (j : Int)).f0 = 0 → (∀ n : Nat, n < j → (rd_T68 l (n : Int)).f0 ≠ 0) → freeFrom l i = ((i + j : Nat) : Int)
 | [], i, j, hj, _, _ => absurd hj (Nat.not_lt_zero _)
 | x :: l, i, 0, hj, h0, hn => by
  rw [rd_cl_nat hj] at h0
  replace h0 : x.f0 = 0 := h0
  unfold freeFrom
  rw [if_pos h0]
  simp
 | x :: l, i, j + 1, hj, h0, hn => by
  have h1 := hn 0 (by omega)
  rw [rd_cl_nat (by simp)] at h1
  replace h1 : x.f0 ≠ 0 := h1
  unfold freeFrom
  rw [if_neg h1]
  have hl : j < l.length := by simpa using hj
  rw [free_hit l (i + 1) j hl (by rw [rd_cl_nat hj] at h0; rw [rd_cl_nat hl]; exact h0) (fun n hn2 => by
   have h3 := hn (n + 1) (by omega)
   have h4 : n < l.length := by omega
   rw [rd_cl_nat (by simp; omega)] at h3
   rw [rd_cl_nat h4]
   exact h3)]
  congr 1
  omega
theorem free_miss : ∀ (l : List CL) (i : Nat), (∀ n : Nat, n < l.length → (rd_T68 l (n : Int)).f0 ≠ 0) → freeFrom l i = -1
 | [], i, _ => rfl
 | x :: l, i, hn => by
  have h1 := hn 0 (by simp)
  rw [rd_cl_nat (by simp)] at h1
  replace h1 : x.f0 ≠ 0 := h1
  unfold freeFrom
  rw [if_neg h1]
  exact free_miss l (i + 1) (fun n h2 => by
   have h3 := hn (n + 1) (by simp; omega)
   rw [rd_cl_nat (by simp; omega)] at h3
   rw [rd_cl_nat h2]
   exact h3)
theorem freeFrom_lt : ∀ (l : List CL) (i : Nat), freeFrom l i = -1 ∨ ∃ j, ∃ h : j < l.length, freeFrom l i = ((i + j : Nat) : Int) ∧ (l[j]).f0 = 0
 | [], i => .inl rfl
 | x :: l, i => by
  unfold freeFrom
  split
  ·rename_i h
   exact .inr ⟨0, by simp, by simp, h⟩
  ·rcases freeFrom_lt l (i + 1) with h | ⟨j, hj, h1, h2⟩
   ·exact .inl h
   ·exact .inr ⟨j + 1, by simp; omega, by rw [h1]; omega, by simpa using h2⟩
set_option maxHeartbeats 2000000 in
set_option maxRecDepth 100000 in
theorem slices_IndexFunc_cells.calls (A0 : Option Addr) (c0 : Nat) (l0 : List CL) (w : World) (hr0 : Kd.C k68 w A0 l0.length l0) (hc0 : l0.length ≤ c0) (hl : l0.length ≤ 1048576) :
  Calls Try.prog 95 #[.slice A0 l0.length c0, .func (.func 96) #[] #[]] w fun e w' => e = .returned (.int .i64 (freeK l0)) ∧ Below w.heap.size w w' := by
 have hu := Try.underlying68
 have hu2 := Try.underlying22
 have HR := Aside0.mk hr0
 have hl2 : l0.length ≤ 9223372036854775807 := by omega
 clear hr0 hc0 hl
 go_enter Try.func95, Try.ntmps95
 go_wp2
 go_loopw [5, 8] (fun v5 vi wr => ∃ q : Nat, q ≤ l0.length ∧ vi = .int .i64 q ∧ Aside0 (∀ n : Nat, n < q → (rd_T68 l0 (n : Int)).f0 ≠ 0) ∧ Aside0 (Below w.heap.size w wr)) (fun _ vi _ => l0.length - (intOf vi).toNat)
 case atStart => exact ⟨0, Nat.zero_le _, rfl, ⟨fun n h => by omega⟩, ⟨Below.refl _ _⟩⟩
 case round =>
  obtain ⟨q, hq, rfl, HN, HW⟩ := hrel
  by_cases hql : q < l0.length
  ·have hqq : ((q : Int) < (l0.length : Int)) = True := eq_true (by omega)
   obtain ⟨ad, A2, c2, e4, x0, x1, x2, hc2, _⟩ := at_T68 (Kd.C_below HR.out HW.out) (q : Int) (by omega) (by omega)
   subst e4
   obtain ⟨x, hx⟩ : ∃ x, rd_T68 l0 (q : Int) = x := ⟨_, rfl⟩
   rw [hx] at x0 x1 x2
   simp only [Int.toNat_natCast] at x0 x1 x2
   have HX := Aside0.mk hx
   have HB' := Aside0.mk (below_alloc (Below.refl wr.heap.size wr) (.cells #[.int .i64 x.f0, .string x.f1, .slice A2 x.f2.length c2] 68))
   clear hx hc2
   by_cases he : x.f0 = 0
   ·have hE : (x.f0 == 0) = true := beq_iff_eq.2 he
    have hE2 : (x.f0 = 0) = True := eq_true he
    have HE := Aside0.mk he
    clear he
    go_wp2
    go_ret
    refine ⟨?_, below_step HW.out HB'.out⟩
    show _ = Ending.returned (Value.int .i64 (freeFrom l0 0))
    rw [free_hit l0 0 q hql (by rw [HX.out]; exact HE.out) HN.out]
    simp
   ·have hE : (x.f0 == 0) = false := beq_eq_false_iff_ne.2 he
    have hE2 : (x.f0 = 0) = False := eq_false he
    have HE := Aside0.mk he
    clear he
    go_wp2
    go_roundw
    case rel => exact ⟨q + 1, hql, by go_num, ⟨fun n hn => by
     by_cases h : n = q
     ·subst h; rw [HX.out]; exact HE.out
     ·exact HN.out n (by omega)⟩, ⟨below_step HW.out HB'.out⟩⟩
    case measure => simp [intOf]; omega
  ·have hqq : ((q : Int) < (l0.length : Int)) = False := eq_false (by omega)
   go_wp2
   go_ret
   refine ⟨?_, HW.out⟩
   show _ = Ending.returned (Value.int .i64 (freeFrom l0 0))
   rw [free_miss l0 0 (fun n hn => HN.out n (by omega))]
   rfl
def newC (C : List CL) (x : CL) : List CL × Nat := if freeK C < 0 then (C ++ [x], C.length) else (C.set (freeK C).toNat x, (freeK C).toNat)
theorem freeK_lt (C : List CL) (h : ¬ freeK C < 0) : (freeK C).toNat < C.length := by
 rcases freeFrom_lt C 0 with e | ⟨j, hj, e, _⟩
 ·exact absurd (show freeK C < 0 by unfold freeK; omega) h
 ·have : freeK C = (j : Int) := by unfold freeK; omega
  omega
theorem newC_lt (C : List CL) (x : CL) : (newC C x).2 < (newC C x).1.length := by
 unfold newC
 split
 ·simp
 ·rename_i h
  have := freeK_lt C h
  simpa using this
theorem newC_len (C : List CL) (x : CL) : C.length ≤ (newC C x).1.length ∧ (newC C x).1.length ≤ C.length + 1 := by
 unfold newC
 split <;> simp
def incL : List Int → List CL → Option (List CL)
 | [], C => some C
 | n :: r, C => if 0 ≤ n then (if n < (C.length : Int) then incL r (C.set n.toNat ⟨wrap64 ((rd_T68 C n).f0 + 1), (rd_T68 C n).f1, (rd_T68 C n).f2⟩) else none) else incL r C
def ownM (C : List CL) (k : Int) (level : Nat) : Option (List CL × Nat) :=
 if C.length ≤ 1000000 then
  (if k < 0 then some (newC C ⟨1, ⟨#[]⟩, if level = 1 then [] else [-1, -1, -1, -1]⟩)
  else if k < (C.length : Int) then
   (if (rd_T68 C k).f0 = 1 then some (C, k.toNat)
   else if (rd_T68 C k).f2.length ≤ 1048576 then (incL (rd_T68 C k).f2 (C.set k.toNat ⟨wrap64 ((rd_T68 C k).f0 - 1), (rd_T68 C k).f1, (rd_T68 C k).f2⟩)).bind fun D => some (newC D ⟨1, (rd_T68 C k).f1, (rd_T68 C k).f2⟩)
   else none)
  else none)
 else none
theorem ownM_lt (C : List CL) (k : Int) (level : Nat) (o : List CL × Nat) (h : ownM C k level = some o) : o.2 < o.1.length := by
 unfold ownM at h
 split at h
 ·split at h
  ·rw [← Option.some.inj h]; exact newC_lt _ _
  ·split at h
   ·split at h
    ·rw [← Option.some.inj h]; show k.toNat < C.length; omega
    ·split at h
     ·obtain ⟨D, _, h2⟩ := Option.bind_eq_some_iff.1 h
      rw [← Option.some.inj h2]; exact newC_lt _ _
     ·cases h
   ·cases h
 ·cases h
def putM (dg : Nat → Int) (leaf : ByteArray) : Nat → List CL → Int → Option (List CL × Int)
 | 0, _, _ => none
 | l + 1, C, k => if leaf.size = 0 ∧ k < 0 then none else (ownM C k (l + 1)).bind fun o =>
  if l = 0 then (if leaf.size = 0 then some (o.1.set o.2 z68, -1) else some (o.1.set o.2 ⟨(rd_T68 o.1 o.2).f0, leaf, (rd_T68 o.1 o.2).f2⟩, (o.2 : Int)))
  else if 0 ≤ dg (l + 1) ∧ dg (l + 1) < 4 ∧ (rd_T68 o.1 o.2).f2.length = 4 then
   (putM dg leaf l o.1 (rd (rd_T68 o.1 o.2).f2 (dg (l + 1)))).bind fun q =>
    if o.2 < q.1.length ∧ (rd_T68 q.1 o.2).f2.length = 4 ∧ (rd_T68 q.1 o.2).f1.size = 0 then
     (if someKid ((rd_T68 q.1 o.2).f2.set (dg (l + 1)).toNat q.2) = true then some (q.1.set o.2 ⟨(rd_T68 q.1 o.2).f0, (rd_T68 q.1 o.2).f1, (rd_T68 q.1 o.2).f2.set (dg (l + 1)).toNat q.2⟩, (o.2 : Int))
     else some (q.1.set o.2 z68, -1))
    else none
  else none
def CB (w : World) (base gb : Nat) (v1 : Value) (L : Int) (P : Nat → Prop) (C : List CL) : Prop := ∃ A c, w.heap[gb]? = some (.cells #[.slice A C.length c, v1, .int .i64 L] 25 (0, 0)) ∧ CS w base P (.slice A C.length c) C
theorem cb_map {w W : World} {base gb : Nat} {v1 : Value} {L : Int} {P : Nat → Prop} {C : List CL} (h : CB w base gb v1 L P C) (hm : ∀ k, P k ∨ k = gb → k < w.heap.size → W.heap[k]? = w.heap[k]?) : CB W base gb v1 L P C := by
 obtain ⟨A, c, h1, h2⟩ := h
 exact ⟨A, c, (hm gb (.inr rfl) (blk_lt h1)).trans h1, Kd.S_step h2 (fun k hk hl => hm k (.inl hk) hl)⟩
set_option maxHeartbeats 4000000 in
set_option maxRecDepth 100000 in
theorem create_calls (v1 : Value) (L : Int) (gb c : Nat) (A : Option Addr) (C : List CL) (P : Nat → Prop) (x : CL) (vx : Value) (w0 w : World) (hB : Below w0.heap.size w0 w) (hG : w.heap[gb]? = some (.cells #[.slice A C.length c, v1, .int .i64 L] 25 (0, 0))) (hS : CS w w0.heap.size (fun k => P k ∧ ¬ some k = vx.ownBlock) (.slice A C.length c) C) (hx : IR w w0.heap.size (fun k => some k = vx.ownBlock) vx x.f2) (hxP : ∀ k, some k = vx.ownBlock → P k) (hgP : ∀ k, P k → k ≠ gb) (hgb : w0.heap.size ≤ gb) (hfP : ∀ k, w.heap.size ≤ k → P k) (hn : C.length ≤ 1000000) :
  Calls Try.prog 93 #[.pointer (some ⟨gb, 0, none⟩), .agg #[.int .i64 x.f0, .string x.f1, vx]] w fun e w' => e = .returned (.int .i64 ((newC C ⟨1, x.f1, x.f2⟩).2 : Int)) ∧ CB w' w0.heap.size gb v1 L P (newC C ⟨1, x.f1, x.f2⟩).1 ∧ Below w0.heap.size w0 w' ∧ Kept w w' (fun j => j = gb ∨ P j) := by
 have hu25 := Try.underlying25
 have hu68 := Try.underlying68
 have hu22 := Try.underlying22
 obtain ⟨Ax, cx, rfl⟩ := Kd.R_slice hx
 obtain ⟨xb, hxb⟩ : ∃ xb, w.heap.size = xb := ⟨_, rfl⟩
 have hgx : gb < xb := hxb ▸ blk_lt hG
 have LX := Aside0.mk (show ∀ k, some k = (Value.slice Ax x.f2.length cx).ownBlock → k < xb from fun k hk => hxb ▸ Kd.R_lt hx k hk.symm)
 have XP := Aside0.mk hxP
 have GP := Aside0.mk hgP
 have GE := Aside0.mk hgb
 have HN := Aside0.mk hn
 have FP := Aside0.mk (show ∀ k, xb ≤ k → P k from fun k hk => hfP k (hxb ▸ hk))
 have BX := Aside0.mk (show w0.heap.size ≤ xb from hxb ▸ hB.size)
 have GX := Aside0.mk hgx
 have hl : C.length ≤ 9223372036854775807 := by omega
 obtain ⟨W1, hW1⟩ : ∃ W, w.alloc (.cells #[.int .i64 x.f0, .string x.f1, .slice Ax x.f2.length cx] 68) = W := ⟨_, rfl⟩
 have hb1 : Below w.heap.size w W1 := by rw [← hW1]; exact below_alloc (Below.refl _ _) _
 have Y := Aside0.mk (show W1.heap[xb]? = some (.cells #[.int .i64 x.f0, .string x.f1, .slice Ax x.f2.length cx] 68 (0, 0)) by rw [← hW1, ← hxb]; exact heap_alloc_new w _)
 have S1 := Aside0.mk (show CS W1 w0.heap.size (fun k => (P k ∧ ¬ some k = (Value.slice Ax x.f2.length cx).ownBlock) ∧ k ≠ xb) (.slice A C.length c) C from Kd.S_below (Kd.S_mono (Kd.S_bound hS) (fun k hk => ⟨hk.1, by have := hk.2.2.1; omega⟩)) hb1)
 have X1 := Aside0.mk (Kd.R_below hx hb1)
 have G1 := Aside0.mk (blk_below hG hb1)
 have B1 := Aside0.mk (below_then hB hB.size hb1)
 have K1 := Aside0.mk (Kept.of_below hb1 (fun j => j = gb ∨ P j))
 have hsz : w.heap.size = xb := hxb
 clear hb1 hG hS hB hx hxP hgP hn hfP hgb hgx hxb
 have d0 : W1.cell? ⟨gb, 0, none⟩ = some (.slice A C.length c) := (blk_cell G1.out 0).trans rfl
 have TT := Aside0.mk (slices_IndexFunc_cells.calls A c C W1 (Kd.S_reads' S1.out).2.2 (Kd.S_reads' S1.out).2.1 (by have := HN.out; omega))
 go_enter Try.func93, Try.ntmps93
 go_wp2_with (go_at_call 95; refine TT.out.mono ?_)
 (first | rintro e w2 rfl hb | rintro e w2 ⟨rfl, hb⟩)
 clear TT d0 hW1
 replace S1 := Aside0.mk (Kd.S_below S1.out hb)
 replace X1 := Aside0.mk (Kd.R_below X1.out hb)
 replace G1 := Aside0.mk (blk_below G1.out hb)
 replace Y := Aside0.mk (blk_below Y.out hb)
 replace B1 := Aside0.mk (below_then B1.out B1.out.size hb)
 replace K1 := Aside0.mk (K1.out.below hb)
 clear hb
 by_cases hk : freeK C < 0
 ·have t1 : (freeK C < 0) = True := eq_true hk
  have d0 : w2.cell? ⟨gb, 0, none⟩ = some (.slice A C.length c) := (blk_cell G1.out 0).trans rfl
  have HK := Aside0.mk hk
  clear hk
  go_wp2_with ((with_reducible refine gate_builtin (b := .append) (xs := #[.tmp 22, .tmp 24]) rfl ?_); at_builtin; refine Kd.S_append k68 (w0 := w0) (W := w2) w0.heap.size rfl (.tmp 22) (.tmp 24) 22 68 (.agg #[(.int .i64 0), (.string ⟨#[]⟩), (.slice none 0 0)]) 48 rfl Try.underlying22 info68 rfl (by decide) (by omega) (.slice A C.length c) C z68 [.int .i64 0, .string ⟨#[]⟩, .slice none 0 0] (fun k => (P k ∧ ¬ some k = (Value.slice Ax x.f2.length cx).ownBlock) ∧ k ≠ xb) (fun _ => False) rfl rfl ?aP ?aK ?aF ?aO B1.out B1.out.size ?aL ?_; (case aP => exact cl_M.2 ⟨_, rfl, Kd.R_nil _ _ _ _ _⟩); (case aK => exact fun _ hk => hk.elim); (case aF => exact fun k hk => (have h_ := blk_lt Y.out; ⟨⟨FP.out k (by omega), fun e_ => by have := LX.out k e_; omega⟩, by omega⟩)); (case aO => exact Kd.S_mono S1.out (fun _ hk => ⟨hk, id⟩)); (case aL => have := HN.out; omega); intro v3 w3 ho hb hg hat; (have hgg : some gb ≠ (Value.slice A C.length c).ownBlock := fun e_ => GP.out gb ((Kd.S_R S1.out).1 gb e_.symm).1.1 rfl); (obtain ⟨A3, c3, e3⟩ := Kd.S_slice ho); (rw [List.length_append] at e3; replace e3 : v3 = .slice A3 (C.length + 1) c3 := e3; subst e3); (have G3 := Aside0.mk (blk_grown G1.out hg hgg)); (have Y3 := Aside0.mk (blk_grown Y.out hg (fun e_ => ((Kd.S_R S1.out).1 xb e_.symm).2 rfl))); (have X3 := Aside0.mk (Kd.R_grown X1.out hg (fun k hk e_ => ((Kd.S_R S1.out).1 k e_.symm).1.2 hk))); (have K3 := Aside0.mk (K1.out.of_grown hg (fun k hk => .inl (.inr ((Kd.S_R S1.out).1 k hk.symm.symm).1.1)))); (have S3 := Aside0.mk ho); (have B3 := Aside0.mk hb); clear hg hat hgg ho hb S1 X1 G1 Y B1 K1 d0; (obtain ⟨w4, hw4⟩ : ∃ W, w3.setCell ⟨gb, 0, none⟩ (.slice A3 (C.length + 1) c3) = W := ⟨_, rfl⟩); (have d0 : w3.cell? ⟨gb, 0, none⟩ = some (.slice A C.length c) := (blk_cell G3.out 0).trans rfl); (have f0 := blk_frozen G3.out 0); (have S1 := Aside0.mk (show CS w4 w0.heap.size (fun k => (P k ∧ ¬ some k = (Value.slice Ax x.f2.length cx).ownBlock) ∧ k ≠ xb) (.slice A3 (C.length + 1) c3) (C ++ [z68]) by rw [← hw4]; exact Kd.S_far (p := ⟨gb, 0, none⟩) S3.out (fun k hk => GP.out k hk.1.1) _)); (have X1 := Aside0.mk (show IR w4 w0.heap.size (fun k => some k = (Value.slice Ax x.f2.length cx).ownBlock) (.slice Ax x.f2.length cx) x.f2 by rw [← hw4]; exact Kd.R_far (p := ⟨gb, 0, none⟩) X3.out (fun k hk => GP.out k (XP.out k hk)) _)); (have G1 := Aside0.mk (show w4.heap[gb]? = some (.cells #[.slice A3 (C.length + 1) c3, v1, .int .i64 L] 25 (0, 0)) by rw [← hw4]; exact blk_put (cs := #[.slice A C.length c, v1, .int .i64 L]) G3.out 0 _ rfl)); (have Y := Aside0.mk (show w4.heap[xb]? = some (.cells #[.int .i64 x.f0, .string x.f1, .slice Ax x.f2.length cx] 68 (0, 0)) by rw [← hw4]; exact blk_far (p := ⟨gb, 0, none⟩) Y3.out (Nat.ne_of_gt GX.out) _)); (have B1 := Aside0.mk (show Below w0.heap.size w0 w4 by rw [← hw4]; exact below_set B3.out GE.out)); (have K1 := Aside0.mk (show Kept w w4 (fun j => j = gb ∨ P j) by rw [← hw4]; exact K3.out.setCell (p := ⟨gb, 0, none⟩) (.inl (.inl rfl)) _)); clear G3 Y3 X3 K3 S3 B3; (obtain ⟨g3, cap3, hv3, _, _, _⟩ := Kd.S_form S1.out (by simp)); (injection hv3 with hA hn_ hc); (subst hA hc); clear hn_; (have p1 : C.length < (C ++ [z68]).length := by simp); (have p3 : ((C.length : Int) < (C.length : Int) + 1) = True := eq_true (by omega)); (obtain ⟨W5, hW5⟩ : ∃ W, w4.setCell ⟨xb, 0, none⟩ (.int .i64 1) = W := ⟨_, rfl⟩); (have y0 : w4.cell? ⟨xb, 0, none⟩ = some (.int .i64 x.f0) := (blk_cell Y.out 0).trans rfl); (have z0 := blk_frozen Y.out 0); (replace S1 := Aside0.mk (show CS W5 w0.heap.size (fun k => (P k ∧ ¬ some k = (Value.slice Ax x.f2.length cx).ownBlock) ∧ k ≠ xb) (.slice (some ⟨g3, 0, none⟩) (C.length + 1) c3) (C ++ [z68]) by rw [← hW5]; exact Kd.S_far (p := ⟨xb, 0, none⟩) S1.out (fun k hk => hk.2) _)); (replace X1 := Aside0.mk (show IR W5 w0.heap.size (fun k => some k = (Value.slice Ax x.f2.length cx).ownBlock) (.slice Ax x.f2.length cx) x.f2 by rw [← hW5]; exact Kd.R_far (p := ⟨xb, 0, none⟩) X1.out (fun k hk => Nat.ne_of_lt (LX.out k hk)) _)); (replace G1 := Aside0.mk (show W5.heap[gb]? = some (.cells #[(.slice (some ⟨g3, 0, none⟩) (C.length + 1) c3), v1, .int .i64 L] 25 (0, 0)) by rw [← hW5]; exact blk_far G1.out (p := ⟨xb, 0, none⟩) (Nat.ne_of_lt GX.out) _)); (replace Y := Aside0.mk (show W5.heap[xb]? = some (.cells #[.int .i64 1, .string x.f1, .slice Ax x.f2.length cx] 68 (0, 0)) by rw [← hW5]; exact blk_put (cs := #[.int .i64 x.f0, .string x.f1, .slice Ax x.f2.length cx]) Y.out 0 _ rfl)); (replace B1 := Aside0.mk (show Below w0.heap.size w0 W5 by rw [← hW5]; exact below_set B1.out BX.out)); (replace K1 := Aside0.mk (show Kept w W5 (fun j => j = gb ∨ P j) by rw [← hW5]; exact K1.out.setCell (p := ⟨xb, 0, none⟩) (.inr (Nat.le_of_eq hsz)) _)))
  clear y0 z0 hW5
  refine start_ (n := 8) (S := fun w' => w'.cell? ⟨gb, 0, none⟩ = some ((.slice (some ⟨g3, 0, none⟩) (C.length + 1) c3)) ∧ w'.cell? ⟨xb, 0, none⟩ = some (.int .i64 1) ∧ w'.cell? ⟨xb, 1, none⟩ = some (.string x.f1) ∧ w'.cell? ⟨xb, 2, none⟩ = some (.slice Ax x.f2.length cx)) (ds := [7]) #[false, false, false, false, false, false, false, false] (by kernel_rfl) rfl rfl ⟨(blk_cell G1.out 0).trans rfl, (blk_cell Y.out 0).trans rfl, (blk_cell Y.out 1).trans rfl, (blk_cell Y.out 2).trans rfl⟩ (fun hHeld => ?_)
  replace S1 := Aside0.mk (Kd.S_drew S1.out)
  replace X1 := Aside0.mk (Kd.R_drew X1.out)
  replace G1 := Aside0.mk (blk_drew G1.out)
  replace Y := Aside0.mk (blk_drew Y.out)
  replace B1 := Aside0.mk (below_drew1 B1.out)
  replace K1 := Aside0.mk (K1.out.drew)
  generalize W5.drew = W6 at S1 X1 G1 Y B1 K1 hHeld ⊢
  refine take_ (i := 0) (N := some 29) (v := ?_) (a' := ?_) #[true, false, false, false, false, false, false, false] rfl rfl (by kernel_rfl) (fun _ _ _ h => h) (Or.inl ⟨by rfl, ?_⟩) hHeld ?_ ?_
  rotate_left
  ·rintro w' ⟨s0, s1, s2, s3⟩
   go_simp
   with_reducible rfl
  rotate_left
  ·simp only [apu_]
   rfl
  refine take_ (i := 1) (N := some 30) (v := ?_) (a' := ?_) #[true, true, false, false, false, false, false, false] rfl rfl (by kernel_rfl) (fun _ _ _ h => h) (Or.inl ⟨by rfl, ?_⟩) hHeld ?_ ?_
  rotate_left
  ·rintro w' ⟨s0, s1, s2, s3⟩
   go_simp
   with_reducible rfl
  rotate_left
  ·simp only [apu_]
   rfl
  refine take_ (i := 2) (N := some 31) (v := ?_) (a' := ?_) #[true, true, true, false, false, false, false, false] rfl rfl (by kernel_rfl) (fun _ _ _ h => h) (Or.inl ⟨by rfl, ?_⟩) hHeld ?_ ?_
  rotate_left
  ·rintro w' ⟨s0, s1, s2, s3⟩
   go_simp
   with_reducible rfl
  rotate_left
  ·simp only [apu_]
   rfl
  refine take_ (i := 3) (N := some 32) (v := ?_) (a' := ?_) #[true, true, true, true, false, false, false, false] rfl rfl (by kernel_rfl) (fun _ _ _ h => h) (Or.inl ⟨by rfl, ?_⟩) hHeld ?_ ?_
  rotate_left
  ·rintro w' ⟨s0, s1, s2, s3⟩
   go_simp
   with_reducible rfl
  rotate_left
  ·simp only [apu_]
   rfl
  refine take_ (i := 4) (N := some 33) (v := ?_) (a' := ?_) #[true, true, true, true, true, false, false, false] rfl rfl (by kernel_rfl) (fun _ _ _ h => h) (Or.inl ⟨by rfl, ?_⟩) hHeld ?_ ?_
  rotate_left
  ·rintro w' ⟨s0, s1, s2, s3⟩
   go_simp
   with_reducible rfl
  rotate_left
  ·simp only [apu_]
   rfl
  refine take_ (i := 5) (N := some 34) (v := ?_) (a' := ?_) #[true, true, true, true, true, true, false, false] rfl rfl (by kernel_rfl) (fun _ _ _ h => h) (Or.inl ⟨by rfl, ?_⟩) hHeld ?_ ?_
  rotate_left
  ·rintro w' ⟨s0, s1, s2, s3⟩
   go_simp
   with_reducible rfl
  rotate_left
  ·simp only [apu_]
   rfl
  refine take_ (i := 6) (N := some 35) (v := ?_) (a' := ?_) #[true, true, true, true, true, true, true, false] rfl rfl (by kernel_rfl) (fun _ _ _ h => h) (Or.inl ⟨by rfl, ?_⟩) hHeld ?_ ?_
  rotate_left
  ·rintro w' ⟨s0, s1, s2, s3⟩
   go_simp
   with_reducible rfl
  rotate_left
  ·simp only [apu_]
   rfl
  have hgP := (Kd.S_R S1.out).1 g3 rfl
  obtain ⟨_, _, e0, e1, e2, hfr, _, _, _⟩ := cs_elem S1.out (C.length : Int) (by omega) (by omega)
  simp only [Int.toNat_natCast] at e0 e1 e2 hfr
  have fr0 : W6.frozen? ⟨g3, C.length * 3, none⟩ = false := hfr 0
  have fr1 := hfr 1
  have fr2 := hfr 2
  clear hfr
  refine last_ (i := 7) (N := none) #[true, true, true, true, true, true, true, true] rfl rfl (by kernel_rfl) (by decide) (fun K hK => ?_)
  refine skip_ (w1 := ((W6.setCell ⟨g3, C.length * 3, none⟩ (.int .i64 1)).setCell ⟨g3, C.length * 3 + 1, none⟩ (.string x.f1)).setCell ⟨g3, C.length * 3 + 2, none⟩ (.slice Ax x.f2.length cx)) (by rfl) rfl ?_ ?_
  ·first | (go_simp; done) | (go_simp; rfl)
  refine hK.out _ _ ?_
  clear hK K
  refine done_ (by kernel_rfl) ?_
  clear hHeld
  clear e0 e1 e2 fr0 fr1 fr2
  have S7 := cs_all (ok := P) (okg := fun k => some k = (Value.slice Ax x.f2.length cx).ownBlock) (Kd.S_mono S1.out (fun k hk => hk.1)) (C.length : Int) (by omega) (by omega) ⟨1, x.f1, x.f2⟩ _ X1.out (fun k hk => ⟨XP.out k hk, fun e_ => hgP.1.2 (e_ ▸ hk)⟩)
  simp only [Int.toNat_natCast] at S7
  have G7 : (((W6.setCell ⟨g3, C.length * 3, none⟩ (.int .i64 1)).setCell ⟨g3, C.length * 3 + 1, none⟩ (.string x.f1)).setCell ⟨g3, C.length * 3 + 2, none⟩ (.slice Ax x.f2.length cx)).heap[gb]? = some (.cells #[(.slice (some ⟨g3, 0, none⟩) (C.length + 1) c3), v1, .int .i64 L] 25 (0, 0)) := blk_far (p := ⟨g3, C.length * 3 + 2, none⟩) (blk_far (p := ⟨g3, C.length * 3 + 1, none⟩) (blk_far (p := ⟨g3, C.length * 3, none⟩) G1.out (Ne.symm (GP.out g3 hgP.1.1)) _) (Ne.symm (GP.out g3 hgP.1.1)) _) (Ne.symm (GP.out g3 hgP.1.1)) _
  have B7 : Below w0.heap.size w0 (((W6.setCell ⟨g3, C.length * 3, none⟩ (.int .i64 1)).setCell ⟨g3, C.length * 3 + 1, none⟩ (.string x.f1)).setCell ⟨g3, C.length * 3 + 2, none⟩ (.slice Ax x.f2.length cx)) := have h_ := Kd.S_base S1.out g3 rfl; below_set (below_set (below_set B1.out h_) h_) h_
  have K7 : Kept w (((W6.setCell ⟨g3, C.length * 3, none⟩ (.int .i64 1)).setCell ⟨g3, C.length * 3 + 1, none⟩ (.string x.f1)).setCell ⟨g3, C.length * 3 + 2, none⟩ (.slice Ax x.f2.length cx)) (fun j => j = gb ∨ P j) := ((K1.out.setCell (p := ⟨g3, C.length * 3, none⟩) (.inl (.inr hgP.1.1)) _).setCell (p := ⟨g3, C.length * 3 + 1, none⟩) (.inl (.inr hgP.1.1)) _).setCell (p := ⟨g3, C.length * 3 + 2, none⟩) (.inl (.inr hgP.1.1)) _
  generalize ((W6.setCell ⟨g3, C.length * 3, none⟩ (.int .i64 1)).setCell ⟨g3, C.length * 3 + 1, none⟩ (.string x.f1)).setCell ⟨g3, C.length * 3 + 2, none⟩ (.slice Ax x.f2.length cx) = W7 at S7 G7 B7 K7 ⊢
  have S7 := Aside0.mk S7
  have G7 := Aside0.mk G7
  have B7 := Aside0.mk B7
  have K7 := Aside0.mk K7
  clear S1 X1 G1 Y B1 K1 hgP
  try go_wp2
  go_ret
  have e_ : newC C ⟨1, x.f1, x.f2⟩ = (C ++ [⟨1, x.f1, x.f2⟩], C.length) := by unfold newC; rw [if_pos HK.out]
  rw [e_]
  refine ⟨rfl, ⟨some ⟨g3, 0, none⟩, c3, ?_, ?_⟩, B7.out, K7.out⟩
  ·show _ = some (Obj.cells #[.slice _ (C ++ [_]).length _, _, _] _ _)
   rw [List.length_append]
   exact G7.out
  ·have h_ := S7.out
   rw [show (C ++ [z68]).set C.length (⟨1, x.f1, x.f2⟩ : CL) = C ++ [⟨1, x.f1, x.f2⟩] by simp [List.set_append]] at h_
   show CS _ _ _ (.slice _ (C ++ [_]).length _) _
   rw [List.length_append]
   exact h_
 ·have t1 : (freeK C < 0) = False := eq_false hk
  obtain ⟨kk, hkk⟩ : ∃ kk, (freeK C).toNat = kk := ⟨_, rfl⟩
  have p1 : kk < C.length := hkk ▸ freeK_lt C hk
  have hfk : freeK C = (kk : Int) := by omega
  obtain ⟨g3, cap3, hv3, _, _, _⟩ := Kd.S_form S1.out (by omega)
  injection hv3 with hA hn_ hc
  subst hA hc
  clear hn_
  have p3 : ((kk : Int) < (C.length : Int)) = True := eq_true (by omega)
  obtain ⟨W5, hW5⟩ : ∃ W, w2.setCell ⟨xb, 0, none⟩ (.int .i64 1) = W := ⟨_, rfl⟩
  have y0 : w2.cell? ⟨xb, 0, none⟩ = some (.int .i64 x.f0) := (blk_cell Y.out 0).trans rfl
  have z0 := blk_frozen Y.out 0
  replace S1 := Aside0.mk (show CS W5 w0.heap.size (fun k => (P k ∧ ¬ some k = (Value.slice Ax x.f2.length cx).ownBlock) ∧ k ≠ xb) (.slice (some ⟨g3, 0, none⟩) C.length c) C by rw [← hW5]; exact Kd.S_far (p := ⟨xb, 0, none⟩) S1.out (fun k hk => hk.2) _)
  replace X1 := Aside0.mk (show IR W5 w0.heap.size (fun k => some k = (Value.slice Ax x.f2.length cx).ownBlock) (.slice Ax x.f2.length cx) x.f2 by rw [← hW5]; exact Kd.R_far (p := ⟨xb, 0, none⟩) X1.out (fun k hk => Nat.ne_of_lt (LX.out k hk)) _)
  replace G1 := Aside0.mk (show W5.heap[gb]? = some (.cells #[(.slice (some ⟨g3, 0, none⟩) C.length c), v1, .int .i64 L] 25 (0, 0)) by rw [← hW5]; exact blk_far G1.out (p := ⟨xb, 0, none⟩) (Nat.ne_of_lt GX.out) _)
  replace Y := Aside0.mk (show W5.heap[xb]? = some (.cells #[.int .i64 1, .string x.f1, .slice Ax x.f2.length cx] 68 (0, 0)) by rw [← hW5]; exact blk_put (cs := #[.int .i64 x.f0, .string x.f1, .slice Ax x.f2.length cx]) Y.out 0 _ rfl)
  replace B1 := Aside0.mk (show Below w0.heap.size w0 W5 by rw [← hW5]; exact below_set B1.out BX.out)
  replace K1 := Aside0.mk (show Kept w W5 (fun j => j = gb ∨ P j) by rw [← hW5]; exact K1.out.setCell (p := ⟨xb, 0, none⟩) (.inr (Nat.le_of_eq hsz)) _)
  go_wp2
  clear y0 z0 hW5
  refine start_ (n := 8) (S := fun w' => w'.cell? ⟨gb, 0, none⟩ = some ((.slice (some ⟨g3, 0, none⟩) C.length c)) ∧ w'.cell? ⟨xb, 0, none⟩ = some (.int .i64 1) ∧ w'.cell? ⟨xb, 1, none⟩ = some (.string x.f1) ∧ w'.cell? ⟨xb, 2, none⟩ = some (.slice Ax x.f2.length cx)) (ds := [7]) #[false, false, false, false, false, false, false, false] (by kernel_rfl) rfl rfl ⟨(blk_cell G1.out 0).trans rfl, (blk_cell Y.out 0).trans rfl, (blk_cell Y.out 1).trans rfl, (blk_cell Y.out 2).trans rfl⟩ (fun hHeld => ?_)
  replace S1 := Aside0.mk (Kd.S_drew S1.out)
  replace X1 := Aside0.mk (Kd.R_drew X1.out)
  replace G1 := Aside0.mk (blk_drew G1.out)
  replace Y := Aside0.mk (blk_drew Y.out)
  replace B1 := Aside0.mk (below_drew1 B1.out)
  replace K1 := Aside0.mk (K1.out.drew)
  generalize W5.drew = W6 at S1 X1 G1 Y B1 K1 hHeld ⊢
  refine take_ (i := 0) (N := some 29) (v := ?_) (a' := ?_) #[true, false, false, false, false, false, false, false] rfl rfl (by kernel_rfl) (fun _ _ _ h => h) (Or.inl ⟨by rfl, ?_⟩) hHeld ?_ ?_
  rotate_left
  ·rintro w' ⟨s0, s1, s2, s3⟩
   go_simp
   with_reducible rfl
  rotate_left
  ·simp only [apu_]
   rfl
  refine take_ (i := 1) (N := some 30) (v := ?_) (a' := ?_) #[true, true, false, false, false, false, false, false] rfl rfl (by kernel_rfl) (fun _ _ _ h => h) (Or.inl ⟨by rfl, ?_⟩) hHeld ?_ ?_
  rotate_left
  ·rintro w' ⟨s0, s1, s2, s3⟩
   go_simp
   with_reducible rfl
  rotate_left
  ·simp only [apu_]
   rfl
  refine take_ (i := 2) (N := some 31) (v := ?_) (a' := ?_) #[true, true, true, false, false, false, false, false] rfl rfl (by kernel_rfl) (fun _ _ _ h => h) (Or.inl ⟨by rfl, ?_⟩) hHeld ?_ ?_
  rotate_left
  ·rintro w' ⟨s0, s1, s2, s3⟩
   go_simp
   with_reducible rfl
  rotate_left
  ·simp only [apu_]
   rfl
  refine take_ (i := 3) (N := some 32) (v := ?_) (a' := ?_) #[true, true, true, true, false, false, false, false] rfl rfl (by kernel_rfl) (fun _ _ _ h => h) (Or.inl ⟨by rfl, ?_⟩) hHeld ?_ ?_
  rotate_left
  ·rintro w' ⟨s0, s1, s2, s3⟩
   go_simp
   with_reducible rfl
  rotate_left
  ·simp only [apu_]
   rfl
  refine take_ (i := 4) (N := some 33) (v := ?_) (a' := ?_) #[true, true, true, true, true, false, false, false] rfl rfl (by kernel_rfl) (fun _ _ _ h => h) (Or.inl ⟨by rfl, ?_⟩) hHeld ?_ ?_
  rotate_left
  ·rintro w' ⟨s0, s1, s2, s3⟩
   go_simp
   with_reducible rfl
  rotate_left
  ·simp only [apu_]
   rfl
  refine take_ (i := 5) (N := some 34) (v := ?_) (a' := ?_) #[true, true, true, true, true, true, false, false] rfl rfl (by kernel_rfl) (fun _ _ _ h => h) (Or.inl ⟨by rfl, ?_⟩) hHeld ?_ ?_
  rotate_left
  ·rintro w' ⟨s0, s1, s2, s3⟩
   go_simp
   with_reducible rfl
  rotate_left
  ·simp only [apu_]
   rfl
  refine take_ (i := 6) (N := some 35) (v := ?_) (a' := ?_) #[true, true, true, true, true, true, true, false] rfl rfl (by kernel_rfl) (fun _ _ _ h => h) (Or.inl ⟨by rfl, ?_⟩) hHeld ?_ ?_
  rotate_left
  ·rintro w' ⟨s0, s1, s2, s3⟩
   go_simp
   with_reducible rfl
  rotate_left
  ·simp only [apu_]
   rfl
  have hgP := (Kd.S_R S1.out).1 g3 rfl
  obtain ⟨_, _, e0, e1, e2, hfr, _, _, _⟩ := cs_elem S1.out (kk : Int) (by omega) (by omega)
  simp only [Int.toNat_natCast] at e0 e1 e2 hfr
  have fr0 : W6.frozen? ⟨g3, kk * 3, none⟩ = false := hfr 0
  have fr1 := hfr 1
  have fr2 := hfr 2
  clear hfr
  refine last_ (i := 7) (N := none) #[true, true, true, true, true, true, true, true] rfl rfl (by kernel_rfl) (by decide) (fun K hK => ?_)
  refine skip_ (w1 := ((W6.setCell ⟨g3, kk * 3, none⟩ (.int .i64 1)).setCell ⟨g3, kk * 3 + 1, none⟩ (.string x.f1)).setCell ⟨g3, kk * 3 + 2, none⟩ (.slice Ax x.f2.length cx)) (by rfl) rfl ?_ ?_
  ·first | (go_simp; done) | (go_simp; rfl)
  refine hK.out _ _ ?_
  clear hK K
  refine done_ (by kernel_rfl) ?_
  clear hHeld
  clear e0 e1 e2 fr0 fr1 fr2
  have S7 := cs_all (ok := P) (okg := fun k => some k = (Value.slice Ax x.f2.length cx).ownBlock) (Kd.S_mono S1.out (fun k hk => hk.1)) (kk : Int) (by omega) (by omega) ⟨1, x.f1, x.f2⟩ _ X1.out (fun k hk => ⟨XP.out k hk, fun e_ => hgP.1.2 (e_ ▸ hk)⟩)
  simp only [Int.toNat_natCast] at S7
  have G7 : (((W6.setCell ⟨g3, kk * 3, none⟩ (.int .i64 1)).setCell ⟨g3, kk * 3 + 1, none⟩ (.string x.f1)).setCell ⟨g3, kk * 3 + 2, none⟩ (.slice Ax x.f2.length cx)).heap[gb]? = some (.cells #[(.slice (some ⟨g3, 0, none⟩) C.length c), v1, .int .i64 L] 25 (0, 0)) := blk_far (p := ⟨g3, kk * 3 + 2, none⟩) (blk_far (p := ⟨g3, kk * 3 + 1, none⟩) (blk_far (p := ⟨g3, kk * 3, none⟩) G1.out (Ne.symm (GP.out g3 hgP.1.1)) _) (Ne.symm (GP.out g3 hgP.1.1)) _) (Ne.symm (GP.out g3 hgP.1.1)) _
  have B7 : Below w0.heap.size w0 (((W6.setCell ⟨g3, kk * 3, none⟩ (.int .i64 1)).setCell ⟨g3, kk * 3 + 1, none⟩ (.string x.f1)).setCell ⟨g3, kk * 3 + 2, none⟩ (.slice Ax x.f2.length cx)) := have h_ := Kd.S_base S1.out g3 rfl; below_set (below_set (below_set B1.out h_) h_) h_
  have K7 : Kept w (((W6.setCell ⟨g3, kk * 3, none⟩ (.int .i64 1)).setCell ⟨g3, kk * 3 + 1, none⟩ (.string x.f1)).setCell ⟨g3, kk * 3 + 2, none⟩ (.slice Ax x.f2.length cx)) (fun j => j = gb ∨ P j) := ((K1.out.setCell (p := ⟨g3, kk * 3, none⟩) (.inl (.inr hgP.1.1)) _).setCell (p := ⟨g3, kk * 3 + 1, none⟩) (.inl (.inr hgP.1.1)) _).setCell (p := ⟨g3, kk * 3 + 2, none⟩) (.inl (.inr hgP.1.1)) _
  generalize ((W6.setCell ⟨g3, kk * 3, none⟩ (.int .i64 1)).setCell ⟨g3, kk * 3 + 1, none⟩ (.string x.f1)).setCell ⟨g3, kk * 3 + 2, none⟩ (.slice Ax x.f2.length cx) = W7 at S7 G7 B7 K7 ⊢
  have S7 := Aside0.mk S7
  have G7 := Aside0.mk G7
  have B7 := Aside0.mk B7
  have K7 := Aside0.mk K7
  clear S1 X1 G1 Y B1 K1 hgP
  try go_wp2
  go_ret
  have e_ : newC C ⟨1, x.f1, x.f2⟩ = (C.set kk ⟨1, x.f1, x.f2⟩, kk) := by unfold newC; rw [if_neg (by omega), hkk]
  rw [e_]
  refine ⟨rfl, ⟨some ⟨g3, 0, none⟩, c, ?_, ?_⟩, B7.out, K7.out⟩
  ·show _ = some (Obj.cells #[.slice _ (C.set kk _).length _, _, _] _ _)
   rw [List.length_set]
   exact G7.out
  ·show CS _ _ _ (.slice _ (C.set kk _).length _) _
   rw [List.length_set]
   exact S7.out
theorem mul64_calls (w : World) : Calls Try.prog 99 #[.int .u64 1, .int .u64 4] w fun e w' => e = .returned (.tuple #[.int .u64 0, .int .u64 4]) ∧ Below w.heap.size w w' := by
 go_enter Try.func99, Try.ntmps99
 go_wp2
 go_ret2
 exact ⟨rfl, Below.refl _ _⟩
theorem mul_calls (w : World) : Calls Try.prog 97 #[.int .u64 1, .int .u64 4] w fun e w' => e = .returned (.tuple #[.int .u64 0, .int .u64 4]) ∧ Below w.heap.size w w' := by
 have TT := Aside0.mk (mul64_calls w)
 go_enter Try.func97, Try.ntmps97
 go_wp2_with (go_at_call 99; refine TT.out.mono ?_)
 (first | rintro e w1 rfl hb | rintro e w1 ⟨rfl, hb⟩)
 go_wp2
 go_ret2
 exact ⟨rfl, hb⟩
theorem rep_copy {w5 : World} {base g cap : Nat} {l : List Int} (n : Nat) (cs : List Value) (hcs : cs = List.replicate n (.int .i64 (-1))) (h : IR w5 base (fun _ => True) (.slice (some ⟨g, 0, none⟩) 4 cap) l) (hl : l.length = 4) (hn : n = 1 ∨ n = 2) (hm : ∀ j : Nat, j < n → rd l (j : Int) = -1) :
  (Builtin.copy_ #[23, 23] 3 #[.slice (some ⟨g, n, none⟩) (4 - n) (cap - n), .slice (some ⟨g, 0, none⟩) n cap]).run Try.prog w5 = .ok (goInt (n : Nat)) (w5.setCells g n cs) := by
 subst hcs
 obtain ⟨g', cap', hv, _, _, cells, hcl⟩ := Kd.R_form h (by omega)
 simp only [Value.slice.injEq, Option.some.injEq, Addr.mk.injEq] at hv
 obtain rfl := hv.1.1
 have hadd : ∀ j : Nat, (⟨g, 0, none⟩ : Addr).add j = ⟨g, j, none⟩ := fun j => by by_cases h : j = 0 <;> simp [Addr.add, h]
 have hat : ∀ j : Nat, j < 4 → w5.cell? ⟨g, j, none⟩ = some (.int .i64 (rd l (j : Int))) := fun j hj => by
  obtain ⟨ad, e, hy⟩ := Kd.at_int (Kd.R_reads' h).2.2 (j : Int) (by omega) (by omega)
  injection e with e
  subst e
  rw [hadd] at hy
  simpa using hy
 have hlen : (List.replicate n (Value.int .i64 (-1))).length = n := List.length_replicate ..
 have := run_copy_cells (P := Try.prog) w5 23 23 3 3 g n (4 - n) (cap - n) ⟨g, 0, none⟩ n cap (List.replicate n (.int .i64 (-1))) Try.underlying23 (by kernel_rfl) (by rw [hlen]; rcases hn with rfl | rfl <;> rfl)
  (fun j v hj => by
   have hjn : j < n := by
    have := (List.getElem?_eq_some_iff.1 hj).1
    rwa [hlen] at this
   rw [List.getElem?_replicate, if_pos hjn] at hj
   obtain rfl := Option.some.inj hj
   have h2 := hat j (by omega)
   rw [hm j hjn] at h2
   rw [hadd]
   exact h2)
  (fun j hj => by rw [hlen] at hj; rw [hat (n + j) (by omega)]; rfl)
  (fun j hj => blk_frozen hcl (n + j))
  (fun v hv => by rw [List.eq_of_mem_replicate hv]; rfl)
 rw [hlen] at this
 exact this
theorem rep_row {w5 : World} {base g cap : Nat} {l : List Int} (n : Nat) (h : IR w5 base (fun _ => True) (.slice (some ⟨g, 0, none⟩) 4 cap) l) (hn : n = 1 ∨ n = 2) :
  IR (w5.setCells g n (List.replicate n (.int .i64 (-1)))) base (fun _ => True) (.slice (some ⟨g, 0, none⟩) 4 cap) (if n = 1 then l.set 1 (-1) else (l.set 2 (-1)).set 3 (-1)) ∧ w5.grownBy (w5.setCells g n (List.replicate n (.int .i64 (-1)))) (some g) := by
 rcases hn with rfl | rfl
 ·exact ⟨Kd.R_putn h 1 (-1), (Kd.R_putg h 1 (-1)).2⟩
 ·exact ⟨Kd.R_putn (Kd.R_putn h 2 (-1)) 3 (-1), (Kd.R_putg h 2 (-1)).2.trans (Kd.R_putg (Kd.R_putn h 2 (-1)) 3 (-1)).2⟩
def fl (n m : Nat) : Array Bool := ((List.range n).map m.testBit).toArray
set_option maxHeartbeats 4000000 in
set_option maxRecDepth 100000 in
theorem repeat4_calls (A : Option Addr) (c : Nat) (w : World) (hr : Kd.C (Kd.int .i64) w A 1 [-1]) (hc : 1 ≤ c) :
  Calls Try.prog 94 #[.slice A 1 c, .int .i64 4] w fun e w' => ∃ v, e = .returned v ∧ IR w' w.heap.size (fun _ => True) v [-1, -1, -1, -1] ∧ Below w.heap.size w w' := by
 have hu := Try.underlying23
 have hu2 := Try.underlying3
 have TT := Aside0.mk (mul_calls w)
 have HR := Aside0.mk hr
 clear hr
 go_enter Try.func94, Try.ntmps94
 go_wp2_with (go_at_call 97; refine TT.out.mono ?_)
 (first | rintro e w1 rfl hb | rintro e w1 ⟨rfl, hb⟩)
 have HB1 := Aside0.mk hb
 clear TT hb
 go_wp2_with ((with_reducible refine gate_dst (N := 30) rfl ?_); (try (refine gate_guard (by rfl) ?_; dsimp only)); refine Kd.R_make (Kd.int .i64) _ 3 rfl (N := 30) rfl 23 _ _ rfl (4 : Int) rfl rfl Try.underlying23 (.int .i64 0) 8 info3 rfl (by decide) (by omega) 0 (ok := fun _ => True) (okp := fun _ => True) rfl (fun _ hk => hk) trivial (by omega) (by omega) (Below.refl _ _) (Nat.le_refl _) ?_)
 intro v7 w2 ho hb2 hg hnew _ _
 have HB2 := Aside0.mk (below_step HB1.out hb2)
 have HO := Aside0.mk (show IR w2 w.heap.size (fun _ => True) v7 [0, 0, 0, 0] from Kd.R_lower ho HB1.out.size)
 clear ho hb2 hg
 obtain ⟨g, cap, hv, hge, _, _⟩ := Kd.R_form HO.out (by simp)
 subst hv
 have GE := Aside0.mk hge
 clear hge
 have CAP := Aside0.mk (show 4 ≤ cap from (Kd.R_reads' HO.out).2.1)
 have HC2 := Aside0.mk (Kd.C_below HR.out HB2.out)
 go_wp2_with (refine Kd.R_copy (0 : Int) (w0 := w) w.heap.size rfl _ _ _ _ 3 rfl Try.underlying23 (by rfl) _ [0, 0, 0, 0] [-1] A 1 c (fun _ => True) rfl rfl HO.out HC2.out HB2.out HB2.out.size ?_)
 intro w3 ho3 hb3 hg3
 have H3 := Aside0.mk (show IR w3 w.heap.size (fun _ => True) (.slice (some ⟨g, 0, none⟩) 4 cap) [-1, 0, 0, 0] from ho3)
 have B3 := Aside0.mk hb3
 clear ho3 hb3 hg3 HO HB2 HC2
 go_wp2
 go_loopw [8] (fun vi wr => ∃ (n : Nat) (l : List Int), vi = .int .i64 n ∧ Aside0 ((n = 1 ∧ l = [-1, 0, 0, 0]) ∨ (n = 2 ∧ l = [-1, -1, 0, 0]) ∨ (n = 4 ∧ l = [-1, -1, -1, -1])) ∧ Aside0 (IR wr w.heap.size (fun _ => True) (.slice (some ⟨g, 0, none⟩) 4 cap) l) ∧ Aside0 (Below w.heap.size w wr)) (fun vi _ => 4 - (intOf vi).toNat)
 case atStart => exact ⟨1, _, by first | rfl | (simp; done), ⟨.inl ⟨rfl, rfl⟩⟩, H3, B3⟩
 case round =>
  obtain ⟨n, l, rfl, HN, HRw, HB⟩ := hrel
  rcases HN.out with ⟨rfl, rfl⟩ | ⟨rfl, rfl⟩ | ⟨rfl, rfl⟩
  ·go_wp2
   refine start_ (n := 10) (S := fun w' => True ∧ True) (ds := []) (fl 10 0) (by kernel_rfl) rfl (by kernel_rfl) ⟨trivial, trivial⟩ (fun hHeld => ?_)
   have HB5 := Aside0.mk (below_drew1 HB.out)
   have HR5 := Aside0.mk (Kd.R_drew HRw.out)
   generalize wr.drew = w5 at HB5 HR5 hHeld ⊢
   have v2_ : wrap64 2 = 2 := w64 (by omega) (by omega)
   have v4_ : wrap64 4 = 4 := w64 (by omega) (by omega)
   have kc : (cap = 1) = False := eq_false (by have := CAP.out; omega)
   have kd : (1 ≤ (cap : Int)) = True := eq_true (by have := CAP.out; omega)
   refine pure_ (i := 0) (N := some 38) (v := ?_) (a' := ?_) (fl 10 1) rfl rfl (by kernel_rfl) (fun _ _ _ h => h) (Or.inl ⟨by rfl, ?_⟩) ?_ ?_
   rotate_left
   ·intro w'
    go_simp
    with_reducible rfl
   rotate_left
   ·simp only [apu_]
    rfl
   refine pure_ (i := 1) (N := some 39) (v := ?_) (a' := ?_) (fl 10 3) rfl rfl (by kernel_rfl) (fun _ _ _ h => h) (Or.inl ⟨by rfl, ?_⟩) ?_ ?_
   rotate_left
   ·intro w'
    go_simp
    with_reducible rfl
   rotate_left
   ·simp only [apu_]
    rfl
   refine pure_ (i := 2) (N := some 40) (v := ?_) (a' := ?_) (fl 10 7) rfl rfl (by kernel_rfl) (fun _ _ _ h => h) (Or.inl ⟨by rfl, ?_⟩) ?_ ?_
   rotate_left
   ·intro w'
    go_simp
    with_reducible rfl
   rotate_left
   ·simp only [apu_]
    rfl
   refine pure_ (i := 3) (N := some 41) (v := ?_) (a' := ?_) (fl 10 15) rfl rfl (by kernel_rfl) (fun _ _ _ h => h) (Or.inl ⟨by rfl, ?_⟩) ?_ ?_
   rotate_left
   ·intro w'
    go_simp
    with_reducible rfl
   rotate_left
   ·simp only [apu_]
    rfl
   refine pure_ (i := 4) (N := some 42) (v := ?_) (a' := ?_) (fl 10 31) rfl rfl (by kernel_rfl) (fun _ _ _ h => h) (Or.inl ⟨by rfl, ?_⟩) ?_ ?_
   rotate_left
   ·intro w'
    go_simp
    with_reducible rfl
   rotate_left
   ·simp only [apu_]
    rfl
   refine pure_ (i := 5) (N := some 43) (v := ?_) (a' := ?_) (fl 10 63) rfl rfl (by kernel_rfl) (fun _ _ _ h => h) (Or.inl ⟨by rfl, ?_⟩) ?_ ?_
   rotate_left
   ·intro w'
    go_simp
    with_reducible rfl
   rotate_left
   ·simp only [apu_]
    rfl
   refine pure_ (i := 6) (N := some 44) (v := ?_) (a' := ?_) (fl 10 127) rfl rfl (by kernel_rfl) (fun _ _ _ h => h) (Or.inl ⟨by rfl, ?_⟩) ?_ ?_
   rotate_left
   ·intro w'
    go_simp
    with_reducible rfl
   rotate_left
   ·simp only [apu_]
    rfl
   have hcp := rep_copy 1 [.int .i64 (-1)] rfl HR5.out rfl (by omega) (fun j hj => by rcases (show j = 0 ∨ (j = 1 ∧ 1 = 2) by omega) with rfl | ⟨rfl, _⟩ <;> first | rfl | omega)
   have hrow := rep_row 1 HR5.out (by omega)
   obtain ⟨hrow, hgr⟩ := hrow
   refine one_ (i := 7) (N := some 45) (fl 10 255) rfl rfl (by kernel_rfl) (by decide) (fun K hK => ?_)
   refine event_step (by rfl) (v := .int .i64 1) (w1 := w5.setCells g 1 [.int .i64 (-1)]) ?_ ?_
   ·first | (go_simp; done) | (go_simp; rw [hcp])
   clear hcp
   have B6 := Aside0.mk (HB5.out.grown hgr HB5.out.size (fun k hk => by injection hk with hk; rw [← hk]; exact GE.out))
   have H6 := Aside0.mk hrow
   clear hrow hgr
   refine hK.out _ _ ⟨trivial, trivial⟩ (fun hHeld => ?_)
   clear hK K
   refine norm_ (a' := ?_) ?_ ?_
   rotate_left
   ·show Act.put _ (some 45) _ = _
    simp only [apu_]
    rfl
   refine pure_ (i := 8) (N := some 46) (v := ?_) (a' := ?_) (fl 10 511) rfl rfl (by kernel_rfl) (fun _ _ _ h => h) (Or.inl ⟨by rfl, ?_⟩) ?_ ?_
   rotate_left
   ·intro w'
    go_simp
    with_reducible rfl
   rotate_left
   ·simp only [apu_]
    rfl
   refine pure_ (i := 9) (N := some 8) (v := ?_) (a' := ?_) (fl 10 1023) rfl rfl (by kernel_rfl) (fun _ _ _ h => h) (Or.inl ⟨by rfl, ?_⟩) ?_ ?_
   rotate_left
   ·intro w'
    go_simp
    with_reducible rfl
   rotate_left
   ·simp only [apu_]
    rfl
   refine done_ (by kernel_rfl) ?_
   clear hHeld
   try go_wp2
   go_roundw
   case rel => exact ⟨2, [-1, -1, 0, 0], by go_num, ⟨.inr (.inl ⟨rfl, rfl⟩)⟩, H6, B6⟩
   case measure => first | (simp [intOf]; done) | (simp [intOf]; omega)
  ·go_wp2
   refine start_ (n := 10) (S := fun w' => True ∧ True) (ds := []) (fl 10 0) (by kernel_rfl) rfl (by kernel_rfl) ⟨trivial, trivial⟩ (fun hHeld => ?_)
   have HB5 := Aside0.mk (below_drew1 HB.out)
   have HR5 := Aside0.mk (Kd.R_drew HRw.out)
   generalize wr.drew = w5 at HB5 HR5 hHeld ⊢
   have v2_ : wrap64 2 = 2 := w64 (by omega) (by omega)
   have v4_ : wrap64 4 = 4 := w64 (by omega) (by omega)
   have kc : (cap = 2) = False := eq_false (by have := CAP.out; omega)
   have kd : (2 ≤ (cap : Int)) = True := eq_true (by have := CAP.out; omega)
   refine pure_ (i := 0) (N := some 38) (v := ?_) (a' := ?_) (fl 10 1) rfl rfl (by kernel_rfl) (fun _ _ _ h => h) (Or.inl ⟨by rfl, ?_⟩) ?_ ?_
   rotate_left
   ·intro w'
    go_simp
    with_reducible rfl
   rotate_left
   ·simp only [apu_]
    rfl
   refine pure_ (i := 1) (N := some 39) (v := ?_) (a' := ?_) (fl 10 3) rfl rfl (by kernel_rfl) (fun _ _ _ h => h) (Or.inl ⟨by rfl, ?_⟩) ?_ ?_
   rotate_left
   ·intro w'
    go_simp
    with_reducible rfl
   rotate_left
   ·simp only [apu_]
    rfl
   refine pure_ (i := 2) (N := some 40) (v := ?_) (a' := ?_) (fl 10 7) rfl rfl (by kernel_rfl) (fun _ _ _ h => h) (Or.inl ⟨by rfl, ?_⟩) ?_ ?_
   rotate_left
   ·intro w'
    go_simp
    with_reducible rfl
   rotate_left
   ·simp only [apu_]
    rfl
   refine pure_ (i := 3) (N := some 41) (v := ?_) (a' := ?_) (fl 10 15) rfl rfl (by kernel_rfl) (fun _ _ _ h => h) (Or.inl ⟨by rfl, ?_⟩) ?_ ?_
   rotate_left
   ·intro w'
    go_simp
    with_reducible rfl
   rotate_left
   ·simp only [apu_]
    rfl
   refine pure_ (i := 4) (N := some 42) (v := ?_) (a' := ?_) (fl 10 31) rfl rfl (by kernel_rfl) (fun _ _ _ h => h) (Or.inl ⟨by rfl, ?_⟩) ?_ ?_
   rotate_left
   ·intro w'
    go_simp
    with_reducible rfl
   rotate_left
   ·simp only [apu_]
    rfl
   refine pure_ (i := 5) (N := some 43) (v := ?_) (a' := ?_) (fl 10 63) rfl rfl (by kernel_rfl) (fun _ _ _ h => h) (Or.inl ⟨by rfl, ?_⟩) ?_ ?_
   rotate_left
   ·intro w'
    go_simp
    with_reducible rfl
   rotate_left
   ·simp only [apu_]
    rfl
   refine pure_ (i := 6) (N := some 44) (v := ?_) (a' := ?_) (fl 10 127) rfl rfl (by kernel_rfl) (fun _ _ _ h => h) (Or.inl ⟨by rfl, ?_⟩) ?_ ?_
   rotate_left
   ·intro w'
    go_simp
    with_reducible rfl
   rotate_left
   ·simp only [apu_]
    rfl
   have hcp := rep_copy 2 [.int .i64 (-1), .int .i64 (-1)] rfl HR5.out rfl (by omega) (fun j hj => by rcases (show j = 0 ∨ (j = 1 ∧ 2 = 2) by omega) with rfl | ⟨rfl, _⟩ <;> first | rfl | omega)
   have hrow := rep_row 2 HR5.out (by omega)
   obtain ⟨hrow, hgr⟩ := hrow
   refine one_ (i := 7) (N := some 45) (fl 10 255) rfl rfl (by kernel_rfl) (by decide) (fun K hK => ?_)
   refine event_step (by rfl) (v := .int .i64 2) (w1 := w5.setCells g 2 [.int .i64 (-1), .int .i64 (-1)]) ?_ ?_
   ·first | (go_simp; done) | (go_simp; rw [hcp])
   clear hcp
   have B6 := Aside0.mk (HB5.out.grown hgr HB5.out.size (fun k hk => by injection hk with hk; rw [← hk]; exact GE.out))
   have H6 := Aside0.mk hrow
   clear hrow hgr
   refine hK.out _ _ ⟨trivial, trivial⟩ (fun hHeld => ?_)
   clear hK K
   refine norm_ (a' := ?_) ?_ ?_
   rotate_left
   ·show Act.put _ (some 45) _ = _
    simp only [apu_]
    rfl
   refine pure_ (i := 8) (N := some 46) (v := ?_) (a' := ?_) (fl 10 511) rfl rfl (by kernel_rfl) (fun _ _ _ h => h) (Or.inl ⟨by rfl, ?_⟩) ?_ ?_
   rotate_left
   ·intro w'
    go_simp
    with_reducible rfl
   rotate_left
   ·simp only [apu_]
    rfl
   refine pure_ (i := 9) (N := some 8) (v := ?_) (a' := ?_) (fl 10 1023) rfl rfl (by kernel_rfl) (fun _ _ _ h => h) (Or.inl ⟨by rfl, ?_⟩) ?_ ?_
   rotate_left
   ·intro w'
    go_simp
    with_reducible rfl
   rotate_left
   ·simp only [apu_]
    rfl
   refine done_ (by kernel_rfl) ?_
   clear hHeld
   try go_wp2
   go_roundw
   case rel => exact ⟨4, [-1, -1, -1, -1], by go_num, ⟨.inr (.inr ⟨rfl, rfl⟩)⟩, H6, B6⟩
   case measure => first | (simp [intOf]; done) | (simp [intOf]; omega)
  ·go_wp2
   go_ret
   exact ⟨_, rfl, HRw.out, HB.out⟩
theorem put3t {W : World} {g t : Nat} {a b c : Value} (h : W.heap[g]? = some (.cells #[a, b, c] t (0, 0))) (x y z : Value) : (((W.setCell ⟨g, 0, none⟩ x).setCell ⟨g, 1, none⟩ y).setCell ⟨g, 2, none⟩ z).heap[g]? = some (.cells #[x, y, z] t (0, 0)) :=
 blk_put (cs := #[x, y, c]) (blk_put (cs := #[x, b, c]) (blk_put (cs := #[a, b, c]) h 0 x rfl) 1 y rfl) 2 z rfl
theorem local_cell (w : World) (a b c : Value) : ∃ W1 W2, w.alloc (.cells #[.int .i64 0, .string ⟨#[]⟩, .slice none 0 0] 68) = W1 ∧ ((W1.setCell ⟨w.heap.size, 0, none⟩ a).setCell ⟨w.heap.size, 1, none⟩ b).setCell ⟨w.heap.size, 2, none⟩ c = W2 ∧
  W1.cell? ⟨w.heap.size, 0, none⟩ = some (.int .i64 0) ∧ W1.cell? ⟨w.heap.size, 1, none⟩ = some (.string ⟨#[]⟩) ∧ W1.cell? ⟨w.heap.size, 2, none⟩ = some (.slice none 0 0) ∧ W1.frozen? ⟨w.heap.size, 0, none⟩ = false ∧ W1.frozen? ⟨w.heap.size, 1, none⟩ = false ∧ W1.frozen? ⟨w.heap.size, 2, none⟩ = false ∧
  Aside0 (W2.heap[w.heap.size]? = some (.cells #[a, b, c] 68 (0, 0))) ∧ Aside0 (Below w.heap.size w W2) := by
 have h1 := heap_alloc_new w (.cells #[.int .i64 0, .string ⟨#[]⟩, .slice none 0 0] 68)
 have hb := below_alloc (Below.refl w.heap.size w) (.cells #[.int .i64 0, .string ⟨#[]⟩, .slice none 0 0] 68)
 exact ⟨_, _, rfl, rfl, (blk_cell h1 0).trans rfl, (blk_cell h1 1).trans rfl, (blk_cell h1 2).trans rfl, blk_frozen h1 0, blk_frozen h1 1, blk_frozen h1 2, ⟨put3t h1 a b c⟩, ⟨below_set (below_set (below_set hb (Nat.le_refl _)) (Nat.le_refl _)) (Nat.le_refl _)⟩⟩
set_option maxHeartbeats 4000000 in
set_option maxRecDepth 100000 in
theorem own_calls (v1 : Value) (L : Int) (gb : Nat) (C : List CL) (P : Nat → Prop) (k : Int) (level : Nat) (o : List CL × Nat) (w0 w : World) (hB : Below w0.heap.size w0 w) (hC : CB w w0.heap.size gb v1 L P C) (hgP : ∀ k, P k → k ≠ gb) (hgb : w0.heap.size ≤ gb) (hfP : ∀ k, w.heap.size ≤ k → P k) (hlv : level ≤ 1000) (h : ownM C k level = some o) :
  Calls Try.prog 89 #[.pointer (some ⟨gb, 0, none⟩), .int .i64 k, .int .i64 level] w fun e w' => e = .returned (.int .i64 (o.2 : Int)) ∧ CB w' w0.heap.size gb v1 L P o.1 ∧ Below w0.heap.size w0 w' ∧ Kept w w' (fun j => j = gb ∨ P j) := by
 have hu25 := Try.underlying25
 have hu68 := Try.underlying68
 have hu22 := Try.underlying22
 have hu23 := Try.underlying23
 have GP := Aside0.mk hgP
 have GE := Aside0.mk hgb
 have FP := Aside0.mk hfP
 unfold ownM at h
 by_cases hn : C.length ≤ 1000000
 ·rw [if_pos hn] at h
  have HN := Aside0.mk hn
  have CC := hC
  obtain ⟨A, c, hG, hS⟩ := hC
  by_cases hk0 : k < 0
  ·rw [if_pos hk0] at h
   have t1 : (k < 0) = True := eq_true hk0
   by_cases hl1 : level = 1
   ·subst hl1
    have e_ := Option.some.inj h
    subst e_
    have TT := Aside0.mk (create_calls v1 L gb c A C P ⟨0, ⟨#[]⟩, []⟩ (.slice none 0 0) w0 w hB hG (Kd.S_mono hS (fun k hk => ⟨hk, fun e_ => by cases e_⟩)) (Kd.R_nil _ _ _ _ _) (fun k hk => by cases hk) hgP hgb hfP hn)
    clear h hk0 hB hG hS hgP hgb hfP hn CC hlv
    go_enter Try.func89, Try.ntmps89
    go_wp2_with (go_at_call 93; refine TT.out.mono ?_)
    (first | rintro e w2 rfl h1 h2 h3 | rintro e w2 ⟨rfl, h1, h2, h3⟩)
    go_wp2
    go_ret
    exact ⟨rfl, h1, h2, h3⟩
   ·rw [if_neg hl1] at h
    have e_ := Option.some.inj h
    subst e_
    have hq : ((level : Int) = 1) = False := eq_false (by omega)
    have hq2 : ((level : Int) == 1) = false := beq_eq_false_iff_ne.2 (by omega)
    have S := Aside0.mk hS
    have G := Aside0.mk hG
    have B := Aside0.mk hB
    clear h hk0 hB hG hS hgP hgb hfP hn CC hlv hl1
    obtain ⟨W1, hW1⟩ : ∃ W, w.alloc (.cells #[.int .i64 (-1)] 3) = W := ⟨_, rfl⟩
    have hb1 : Below w.heap.size w W1 := by rw [← hW1]; exact below_alloc (Below.refl _ _) _
    have hr1 : IR W1 w.heap.size (fun _ => True) (.slice (some ⟨w.heap.size, 0, none⟩) 1 1) [-1] := by
     rw [← hW1]
     have h_ : (w.alloc (Obj.cells #[Value.int IntKind.i64 (-1)] 3)).ownsRow w.heap.size 3 1 (Value.slice (some ⟨w.heap.size, 0, none⟩) 1 1) 1 [Value.int IntKind.i64 (-1)] := by simpa using World.ownsRow_lit (base := w.heap.size) (e := 3) (size := 1) w #[.int .i64 (-1)] 1 (Nat.le_refl _) (by decide) (by simp)
     exact Kd.R_of_own (xs := [(-1 : Int)]) (enc := Value.int .i64) h_ (fun _ _ => trivial)
    have TT := Aside0.mk (repeat4_calls (some ⟨w.heap.size, 0, none⟩) 1 W1 (Kd.R_reads' hr1).2.2 (by omega))
    have SZ := Aside0.mk (show w.heap.size ≤ W1.heap.size from hb1.size)
    have S1 := Aside0.mk (Kd.S_below S.out hb1)
    have G1 := Aside0.mk (blk_below G.out hb1)
    have B1 := Aside0.mk (below_then B.out B.out.size hb1)
    have K1 := Aside0.mk (Kept.of_below hb1 (fun j => j = gb ∨ P j))
    clear hr1 hb1
    go_enter Try.func89, Try.ntmps89
    go_wp2_with (first
     | (go_at_call 94; refine TT.out.mono ?_; (first | rintro e w2 ⟨v, rfl, hr, hb⟩ | rintro e w2 v rfl hr hb); (obtain ⟨A6, c6, rfl⟩ := Kd.R_slice hr); (have T2 := Aside0.mk (create_calls v1 L gb c A C P ⟨0, ⟨#[]⟩, [-1, -1, -1, -1]⟩ (.slice A6 4 c6) w0 w2 (below_then B1.out B1.out.size hb) (blk_below G1.out hb) (Kd.S_mono (Kd.S_below (Kd.S_bound S1.out) hb) (fun k hk => ⟨hk.1, fun e_ => by have := Kd.R_base hr k e_.symm; have := hk.2.2.1; omega⟩)) (Kd.R_of_own (Kd.own_of_R (Kd.R_lower hr B1.out.size)) (fun k hk => hk.symm)) (fun k hk => FP.out k (by have := Kd.R_base hr k hk.symm; have := SZ.out; omega)) GP.out GE.out (fun k hk => FP.out k (by have := hb.size; have := SZ.out; omega)) HN.out)); (have K2 := Aside0.mk (K1.out.below hb)); clear TT hr hb S1 G1 B1 K1)
     | (go_at_call 93; refine T2.out.mono ?_))
    (first | rintro e w3 rfl h1 h2 h3 | rintro e w3 ⟨rfl, h1, h2, h3⟩)
    go_wp2
    go_ret
    exact ⟨rfl, h1, h2, K2.out.then_ h3 (fun j hj => .inl hj)⟩
  ·rw [if_neg hk0] at h
   by_cases hkC : k < (C.length : Int)
   ·rw [if_pos hkC] at h
    obtain ⟨g, cap, hv, _, hglt, _⟩ := Kd.S_form hS (by omega)
    injection hv with hA hn_ hc
    subst hA hc
    clear hn_
    obtain ⟨oki, v, e0, e1, e2, hfr, hokg, hR, hH⟩ := cs_elem hS k (by omega) hkC
    obtain ⟨Ak, ck, rfl⟩ := Kd.R_slice hR
    have d0 : w.cell? ⟨gb, 0, none⟩ = some (.slice (some ⟨g, 0, none⟩) C.length c) := (blk_cell hG 0).trans rfl
    have t1 : (k < 0) = False := eq_false hk0
    have t2 : (0 ≤ k) = True := eq_true (by omega)
    have t3 : (k < (C.length : Int)) = True := eq_true hkC
    obtain ⟨x, hx⟩ : ∃ x, rd_T68 C k = x := ⟨_, rfl⟩
    rw [hx] at e0 e1 e2 h hR
    by_cases h1 : x.f0 = 1
    ·rw [if_pos h1] at h
     have e_ := Option.some.inj h
     subst e_
     have t4 : (x.f0 = 1) = True := eq_true h1
     have t5 : (x.f0 == 1) = true := by simpa using h1
     have HK := Aside0.mk hk0
     clear h1 h hk0 e1 e2 hfr hR hH hG hS hgP hgb hfP hn hkC hlv hx
     have CC := Aside0.mk CC
     have HB := Aside0.mk hB
     clear hB
     go_enter Try.func89, Try.ntmps89
     go_wp2
     go_ret
     have := HK.out
     exact ⟨by rw [show max k 0 = k by omega]; rfl, CC.out, HB.out, Kept.refl _ _⟩
    ·rw [if_neg h1] at h
     by_cases hkl : x.f2.length ≤ 1048576
     ·rw [if_pos hkl] at h
      obtain ⟨D, hD, h⟩ := Option.bind_eq_some_iff.1 h
      have e_ := Option.some.inj h
      subst e_
      obtain ⟨y, hy⟩ : ∃ y, wrap64 (x.f0 - 1) = y := ⟨_, rfl⟩
      rw [hy] at hD
      have t4 : (x.f0 = 1) = False := eq_false h1
      have t5 : (x.f0 == 1) = false := beq_eq_false_iff_ne.2 h1
      have hgb2 := blk_lt hG
      obtain ⟨W1, W2, hW1, hW2, y0, y1, y2, z0, z1, z2, Y, BL⟩ := local_cell w (.int .i64 x.f0) (.string x.f1) (.slice Ak x.f2.length ck)
      obtain ⟨xb, hxb⟩ : ∃ xb, w.heap.size = xb := ⟨_, rfl⟩
      rw [hxb] at Y hW2 y0 y1 y2 z0 z1 z2 hgb2
      have HXB := Aside0.mk hxb
      have GX := Aside0.mk hgb2
      have S2 : CS W2 w0.heap.size (fun j => P j ∧ j < xb) (.slice (some ⟨g, 0, none⟩) C.length c) C := Kd.S_below (Kd.S_mono (Kd.S_bound hS) (fun j hj => ⟨hj.1, hxb ▸ hj.2.2.1⟩)) BL.out
      obtain ⟨_, v_, f0, f1, f2, hfr2, _, _, _⟩ := cs_elem S2 k (by omega) hkC
      rw [hx] at f0 f1
      have fr0 : W2.frozen? ⟨g, k.toNat * 3, none⟩ = false := hfr2 0
      have g0 : W2.cell? ⟨gb, 0, none⟩ = some (.slice (some ⟨g, 0, none⟩) C.length c) := (blk_cell (blk_below hG BL.out) 0).trans rfl
      obtain ⟨W3, hW3⟩ : ∃ W, W2.setCell ⟨g, k.toNat * 3, none⟩ (.int .i64 y) = W := ⟨_, rfl⟩
      have hPg := (Kd.S_R S2).1 g rfl
      have hngb := GP.out g hPg.1
      have S3 := Aside0.mk (show CS W3 w0.heap.size (fun j => P j ∧ j < xb) (.slice (some ⟨g, 0, none⟩) C.length c) (C.set k.toNat ⟨y, x.f1, x.f2⟩) by rw [← hW3]; have h_ := cs_put0 S2 k (by omega) hkC y; rw [hx] at h_; exact h_)
      have G3 := Aside0.mk (show W3.heap[gb]? = some (.cells #[.slice (some ⟨g, 0, none⟩) C.length c, v1, .int .i64 L] 25 (0, 0)) by rw [← hW3]; exact blk_far (blk_below hG BL.out) (p := ⟨g, k.toNat * 3, none⟩) (Ne.symm hngb) _)
      have Y3 := Aside0.mk (show W3.heap[xb]? = some (.cells #[.int .i64 x.f0, .string x.f1, .slice Ak x.f2.length ck] 68 (0, 0)) by rw [← hW3]; exact blk_far Y.out (p := ⟨g, k.toNat * 3, none⟩) (Nat.ne_of_gt hPg.2) _)
      have B3 := Aside0.mk (show Below w0.heap.size w0 W3 by rw [← hW3]; exact below_set (below_then hB hB.size BL.out) (Kd.S_base S2 g rfl))
      have K3 := Aside0.mk (show Kept w W3 (fun j => j = gb ∨ P j) by rw [← hW3]; exact (Kept.of_below BL.out _).setCell (p := ⟨g, k.toNat * 3, none⟩) (.inl (.inr hPg.1)) _)
      have C3 := Aside0.mk (show (Kd.int .i64).C W3 Ak x.f2.length x.f2 from Kd.C_kept_own (S := fun j => j = g) hR (fun j hj e_ => (hokg j hj).2 e_) W3 (by rw [← hW3]; exact (Kept.of_below BL.out (fun j => j = g)).setCell (p := ⟨g, k.toNat * 3, none⟩) (.inl rfl) _))
      have XS := Aside0.mk (show xb < W3.heap.size from blk_lt Y3.out)
      have x2 : W3.cell? ⟨xb, 2, none⟩ = some (.slice Ak x.f2.length ck) := (blk_cell Y3.out 2).trans rfl
      have TT := Aside0.mk (slices_Clone_int_int.calls Ak ck x.f2 x.f2 W3 C3.out (Kd.R_reads' hR).2.1 (by unfold slices_Clone_int_int.f; rw [if_pos hkl]))
      have HD := Aside0.mk hD
      have NE := Aside0.mk hngb
      have HKL := Aside0.mk hkl
      have NL := Aside0.mk (show C.length = C.length from rfl)
      generalize hnn : C.length = n at *
      replace NL := Aside0.mk hnn
      clear h1 h hk0 hfr hR hH hG hS hgP hgb hfP hn hkC hlv hx hD hkl hgb2 S2 f2 hfr2 hPg hngb hB CC BL Y hnn
      go_enter Try.func89, Try.ntmps89
      go_wp2_with (go_at_call 87; refine TT.out.mono ?_)
      rintro e w4 ⟨vc, rfl, hr, hb⟩
      clear TT e0 e1 e2 fr0 f0 f1 g0 d0 x2 y0 y1 y2 z0 z1 z2 hW1 hW2 hW3
      obtain ⟨Ac, cc, rfl⟩ := Kd.R_slice hr
      obtain ⟨w5, hw5⟩ : ∃ W, w4.setCell ⟨xb, 2, none⟩ (.slice Ac x.f2.length cc) = W := ⟨_, rfl⟩
      have Y4 := blk_below Y3.out hb
      have x2 : w4.cell? ⟨xb, 2, none⟩ = some (.slice Ak x.f2.length ck) := (blk_cell Y4 2).trans rfl
      have z2 := blk_frozen Y4 2
      have VC := Aside0.mk (show ∀ j, some j = (Value.slice Ac x.f2.length cc).ownBlock → xb < j from fun j hj => by have := Kd.R_base hr j hj.symm; have := XS.out; omega)
      have S5 := Aside0.mk (show CS w5 w0.heap.size (fun j => P j ∧ j < xb) (.slice (some ⟨g, 0, none⟩) n c) (C.set k.toNat ⟨y, x.f1, x.f2⟩) by rw [← hw5]; exact Kd.S_far (p := ⟨xb, 2, none⟩) (Kd.S_below S3.out hb) (fun j hj => Nat.ne_of_lt hj.2) _)
      have G5 := Aside0.mk (show w5.heap[gb]? = some (.cells #[.slice (some ⟨g, 0, none⟩) n c, v1, .int .i64 L] 25 (0, 0)) by rw [← hw5]; exact blk_far (blk_below G3.out hb) (p := ⟨xb, 2, none⟩) (Nat.ne_of_lt GX.out) _)
      have Y5 := Aside0.mk (show w5.heap[xb]? = some (.cells #[.int .i64 x.f0, .string x.f1, .slice Ac x.f2.length cc] 68 (0, 0)) by rw [← hw5]; exact blk_put (cs := #[.int .i64 x.f0, .string x.f1, .slice Ak x.f2.length ck]) Y4 2 _ rfl)
      have R5 := Aside0.mk (show IR w5 w0.heap.size (fun j => some j = (Value.slice Ac x.f2.length cc).ownBlock) (.slice Ac x.f2.length cc) x.f2 by rw [← hw5]; exact Kd.R_far (p := ⟨xb, 2, none⟩) (Kd.R_of_own (Kd.own_of_R (Kd.R_lower hr B3.out.size)) (fun j hj => hj.symm)) (fun j hj => Nat.ne_of_gt (VC.out j hj)) _)
      have B5 := Aside0.mk (show Below w0.heap.size w0 w5 by rw [← hw5]; exact below_set (below_then B3.out B3.out.size hb) (Nat.le_trans GE.out (Nat.le_of_lt GX.out)))
      have K5 := Aside0.mk (show Kept w w5 (fun j => j = gb ∨ P j) by rw [← hw5]; exact (K3.out.below hb).setCell (p := ⟨xb, 2, none⟩) (.inr (Nat.le_of_eq HXB.out)) _)
      have x5 : w5.cell? ⟨xb, 2, none⟩ = some (.slice Ac x.f2.length cc) := (blk_cell Y5.out 2).trans rfl
      clear Y4 hr hb S3 G3 Y3 B3 K3 C3
      go_wp2
      clear x2 z2 hw5 x5
      have hkl2 : x.f2.length ≤ 9223372036854775807 := by have := HKL.out; omega
      go_loopw [9, 64] (fun v9 vi wr => ∃ (q : Nat) (E : List CL), q ≤ x.f2.length ∧ vi = .int .i64 q ∧ Aside0 (incL (x.f2.drop q) E = some D) ∧ Aside0 (CS wr w0.heap.size (fun j => P j ∧ j < xb) (.slice (some ⟨g, 0, none⟩) n c) E) ∧ Aside0 (wr.heap[gb]? = some (.cells #[.slice (some ⟨g, 0, none⟩) n c, v1, .int .i64 L] 25 (0, 0))) ∧ Aside0 (wr.heap[xb]? = some (.cells #[.int .i64 x.f0, .string x.f1, .slice Ac x.f2.length cc] 68 (0, 0))) ∧ Aside0 (IR wr w0.heap.size (fun j => some j = (Value.slice Ac x.f2.length cc).ownBlock) (.slice Ac x.f2.length cc) x.f2) ∧ Aside0 (Below w0.heap.size w0 wr) ∧ Aside0 (Kept w wr (fun j => j = gb ∨ P j))) (fun v9 vi _ => x.f2.length - (intOf vi).toNat)
      case atStart => exact ⟨0, _, Nat.zero_le _, rfl, ⟨by rw [List.drop_zero]; exact HD.out⟩, S5, G5, Y5, R5, B5, K5⟩
      case round =>
       clear HD S5 G5 Y5 R5 B5 K5
       obtain ⟨q, E, hq, rfl, HL, S3, G3, Y3, R3, B3, K3⟩ := hrel
       by_cases hql : q < x.f2.length
       ·have hqq : ((q : Int) < (x.f2.length : Int)) = True := eq_true (by omega)
        obtain ⟨ad2, e3, hy2⟩ := Kd.at_int (Kd.R_reads' R3.out).2.2 (q : Int) (by omega) (by omega)
        subst e3
        simp only [Int.toNat_natCast] at hy2
        obtain ⟨z, hz⟩ : ∃ z, rd x.f2 (q : Int) = z := ⟨_, rfl⟩
        rw [hz] at hy2
        have hd : x.f2.drop q = z :: x.f2.drop (q + 1) := by
         rw [List.drop_eq_getElem_cons hql, ← hz]
         congr 1
         unfold rd
         rw [List.getD_eq_getElem?_getD, Int.toNat_natCast, List.getElem?_eq_getElem hql]
         rfl
        have h2 := HL.out
        rw [hd] at h2
        simp only [incL] at h2
        clear hd hz HL
        by_cases hz0 : 0 ≤ z
        ·rw [if_pos hz0] at h2
         by_cases hzE : z < (E.length : Int)
         ·rw [if_pos hzE] at h2
          have hEn := cs_len S3.out
          obtain ⟨_, _, e0, _, _, hfr, _, _, _⟩ := cs_elem S3.out z hz0 (by omega)
          have fr0 : wr.frozen? ⟨g, z.toNat * 3, none⟩ = false := hfr 0
          obtain ⟨y, hy⟩ : ∃ y, wrap64 ((rd_T68 E z).f0 + 1) = y := ⟨_, rfl⟩
          rw [hy] at h2
          have s1 : (z ≥ 0) = True := eq_true hz0
          have s2 : (0 ≤ z) = True := eq_true hz0
          have s3 : (z < (n : Int)) = True := eq_true (by omega)
          have d0 : wr.cell? ⟨gb, 0, none⟩ = some (.slice (some ⟨g, 0, none⟩) n c) := (blk_cell G3.out 0).trans rfl
          obtain ⟨w6, hw6⟩ : ∃ W, wr.setCell ⟨g, z.toNat * 3, none⟩ (.int .i64 y) = W := ⟨_, rfl⟩
          have hPg := (Kd.S_R S3.out).1 g rfl
          have S4 := Aside0.mk (show CS w6 w0.heap.size (fun j => P j ∧ j < xb) (.slice (some ⟨g, 0, none⟩) n c) (E.set z.toNat ⟨y, (rd_T68 E z).f1, (rd_T68 E z).f2⟩) by rw [← hw6]; exact cs_put0 S3.out z hz0 (by omega) y)
          have G4 := Aside0.mk (show w6.heap[gb]? = some (.cells #[.slice (some ⟨g, 0, none⟩) n c, v1, .int .i64 L] 25 (0, 0)) by rw [← hw6]; exact blk_far G3.out (p := ⟨g, z.toNat * 3, none⟩) (Ne.symm NE.out) _)
          have Y4 := Aside0.mk (show w6.heap[xb]? = some (.cells #[.int .i64 x.f0, .string x.f1, .slice (some ad2) x.f2.length cc] 68 (0, 0)) by rw [← hw6]; exact blk_far Y3.out (p := ⟨g, z.toNat * 3, none⟩) (Nat.ne_of_gt hPg.2) _)
          have R4 := Aside0.mk (show IR w6 w0.heap.size (fun j => some j = (Value.slice (some ad2) x.f2.length cc).ownBlock) (.slice (some ad2) x.f2.length cc) x.f2 by rw [← hw6]; exact Kd.R_far (p := ⟨g, z.toNat * 3, none⟩) R3.out (fun j hj => by have := VC.out j hj; have := hPg.2; show j ≠ g; omega) _)
          have B4 := Aside0.mk (show Below w0.heap.size w0 w6 by rw [← hw6]; exact below_set B3.out (Kd.S_base S3.out g rfl))
          have K4 := Aside0.mk (show Kept w w6 (fun j => j = gb ∨ P j) by rw [← hw6]; exact K3.out.setCell (p := ⟨g, z.toNat * 3, none⟩) (.inl (.inr hPg.1)) _)
          have H2 := Aside0.mk h2
          clear h2 hfr hPg S3 G3 Y3 R3 B3 K3 hz0 hzE hEn hq
          go_wp2
          clear e0 fr0 d0 hw6 hy hy2 s1 s2 s3 hqq
          go_roundw
          case rel => exact ⟨q + 1, _, hql, by go_num, H2, S4, G4, Y4, R4, B4, K4⟩
          case measure => simp [intOf]; omega
         ·rw [if_neg hzE] at h2
          cases h2
        ·rw [if_neg hz0] at h2
         have s1 : (z ≥ 0) = False := eq_false hz0
         have s2 : (0 ≤ z) = False := eq_false hz0
         have H2 := Aside0.mk h2
         clear h2 hz0 hq
         go_wp2
         clear hy2 s1 s2 hqq
         go_roundw
         case rel => exact ⟨q + 1, E, hql, by go_num, H2, S3, G3, Y3, R3, B3, K3⟩
         case measure => simp [intOf]; omega
       ·have hqq : ((q : Int) < (x.f2.length : Int)) = False := eq_false (by omega)
        have h3 := HL.out
        rw [List.drop_of_length_le (by omega)] at h3
        simp only [incL, Option.some.injEq] at h3
        subst h3
        have hEn := cs_len S3.out
        clear hql hq HL
        subst hEn
        have hsz := K3.out.1
        have T2 := Aside0.mk (create_calls v1 L gb c (some ⟨g, 0, none⟩) E P x (.slice Ac x.f2.length cc) w0 wr B3.out G3.out (Kd.S_mono S3.out (fun j hj => ⟨hj.1, fun e_ => by have := VC.out j e_; have := hj.2; omega⟩)) R3.out (fun j hj => FP.out j (by have := VC.out j hj; have := HXB.out; omega)) GP.out GE.out (fun j hj => FP.out j (by omega)) HN.out)
        have y0 : wr.cell? ⟨xb, 0, none⟩ = some (.int .i64 x.f0) := (blk_cell Y3.out 0).trans rfl
        have y1 : wr.cell? ⟨xb, 1, none⟩ = some (.string x.f1) := (blk_cell Y3.out 1).trans rfl
        have y2 : wr.cell? ⟨xb, 2, none⟩ = some (.slice Ac x.f2.length cc) := (blk_cell Y3.out 2).trans rfl
        have HSZ := Aside0.mk hsz
        clear S3 G3 Y3 R3 B3 hsz
        go_wp2_with (go_at_call 93; refine T2.out.mono ?_)
        (first | rintro e w3 rfl h1 h2 h3 | rintro e w3 ⟨rfl, h1, h2, h3⟩)
        go_wp2
        go_ret
        exact ⟨rfl, h1, h2, K3.out.then_ h3 (fun j hj => .inl hj)⟩
     ·rw [if_neg hkl] at h
      cases h
   ·rw [if_neg hkC] at h
    cases h
 ·rw [if_neg hn] at h
  cases h
theorem empty_of_size {s : ByteArray} (h : s.size = 0) : s = ⟨#[]⟩ := by
 have : s.data = #[] := Array.eq_empty_of_size_eq_zero h
 cases s
 simp_all
theorem cb_put {w0 w W : World} {gb g n c : Nat} {v1 : Value} {L : Int} {P : Nat → Prop} {p : Addr} {u : Value} (hG : W.heap[gb]? = some (.cells #[.slice (some ⟨g, 0, none⟩) n c, v1, .int .i64 L] 25 (0, 0))) (hB : Below w0.heap.size w0 W) (hK : Kept w W (fun j => j = gb ∨ P j)) (hp : P p.block) (hge : w0.heap.size ≤ p.block) (hgP : ∀ k, P k → k ≠ gb) :
  (W.setCell p u).heap[gb]? = some (.cells #[.slice (some ⟨g, 0, none⟩) n c, v1, .int .i64 L] 25 (0, 0)) ∧ Below w0.heap.size w0 (W.setCell p u) ∧ Kept w (W.setCell p u) (fun j => j = gb ∨ P j) :=
 ⟨blk_far hG (Ne.symm (hgP _ hp)) _, hB.setCell hge _, hK.setCell (.inl (.inr hp)) _⟩
set_option maxHeartbeats 8000000 in
set_option maxRecDepth 100000 in
theorem put_calls (v1 : Value) (L : Int) (gb : Nat) (a_ : Int) (dg : Nat → Int) (leaf : ByteArray) (P : Nat → Prop) (w0 : World) (hgP : ∀ k, P k → k ≠ gb) (hgb : w0.heap.size ≤ gb) : ∀ (l : Nat) (C : List CL) (k lv : Int) (r : List CL × Int) (w : World) (hlv : lv = (l : Int)) (hl : l ≤ 1000) (hdg : ∀ j : Nat, 2 ≤ j → j ≤ l → impl_digit.f a_ (j : Int) = some (dg j)) (hB : Below w0.heap.size w0 w) (hC : CB w w0.heap.size gb v1 L P C) (hfP : ∀ k, w.heap.size ≤ k → P k) (h : putM dg leaf l C k = some r),
  Calls Try.prog 75 #[.pointer (some ⟨gb, 0, none⟩), .int .i64 k, .int .i64 lv, .int .i64 a_, .string leaf] w fun e w' => e = .returned (.int .i64 r.2) ∧ CB w' w0.heap.size gb v1 L P r.1 ∧ Below w0.heap.size w0 w' ∧ Kept w w' (fun j => j = gb ∨ P j) := by
 intro l
 induction l with
 | zero =>
  intro C k lv r w hlv hl hdg hB hC hfP h
  simp only [putM] at h
  cases h
 | succ l ih =>
  intro C k lv r w hlv hl hdg hB hC hfP h
  have hu25 := Try.underlying25
  have hu68 := Try.underlying68
  have hu22 := Try.underlying22
  have hu23 := Try.underlying23
  have GP := Aside0.mk hgP
  have GE := Aside0.mk hgb
  have FP := Aside0.mk hfP
  have IH := Aside0.mk ih
  have DG := Aside0.mk hdg
  clear ih hdg hgP hgb hfP
  simp only [putM] at h
  by_cases hlk : leaf.size = 0 ∧ k < 0
  ·rw [if_pos hlk] at h
   cases h
  rw [if_neg hlk] at h
  obtain ⟨⟨C1, k1⟩, ho, h⟩ := Option.bind_eq_some_iff.1 h
  simp only at h
  have hlt : k1 < C1.length := ownM_lt C k (l + 1) _ ho
  have T1 := own_calls v1 L gb C P k (l + 1) _ w0 w hB hC GP.out GE.out FP.out hl ho
  rw [← hlv] at T1
  replace T1 := Aside0.mk T1
  have LT := Aside0.mk hlt
  have BB := Aside0.mk hB.size
  have HL := Aside0.mk hl
  clear hlk ho hlt hB hC hl
  by_cases hl0 : l = 0
  ·subst hl0
   rw [if_pos rfl] at h
   obtain rfl : lv = 1 := by omega
   have HH := Aside0.mk h
   clear h hlv
   go_enter Try.func75, Try.ntmps75
   go_wp2_with (go_at_call 89; refine T1.out.mono ?_)
   (first | rintro e w1 rfl hC hB hK | rintro e w1 ⟨rfl, hC, hB, hK⟩)
   clear T1
   obtain ⟨A, c, hG, hS⟩ := hC
   obtain ⟨g, cap, hv, _, _, _⟩ := Kd.S_form hS (by have := LT.out; omega)
   injection hv with hA hn_ hc
   subst hA hc
   clear hn_
   have hlt := LT.out
   obtain ⟨x, hx⟩ : ∃ x, rd_T68 C1 (k1 : Int) = x := ⟨_, rfl⟩
   obtain ⟨_, _, e0, e1, e2, hfr, _, _, _⟩ := cs_elem hS (k1 : Int) (by omega) (by omega)
   simp only [Int.toNat_natCast] at e0 e1 e2 hfr
   rw [hx] at e0 e1
   have fr1 : w1.frozen? ⟨g, k1 * 3 + 1, none⟩ = false := hfr 1
   have d0 : w1.cell? ⟨gb, 0, none⟩ = some (.slice (some ⟨g, 0, none⟩) C1.length c) := (blk_cell hG 0).trans rfl
   have s1 : ((k1 : Int) < (C1.length : Int)) = True := eq_true (by omega)
   have hPg := (Kd.S_R hS).1 g rfl
   obtain ⟨G1, B1, K1⟩ := cb_put (p := ⟨g, k1 * 3 + 1, none⟩) (u := .string leaf) hG hB hK hPg (Kd.S_base hS g rfl) GP.out
   have S1 := cs_put1 hS (k1 : Int) (by omega) (by omega) leaf
   simp only [Int.toNat_natCast] at S1
   rw [hx] at S1
   obtain ⟨w2, hw2⟩ : ∃ W, w1.setCell ⟨g, k1 * 3 + 1, none⟩ (.string leaf) = W := ⟨_, rfl⟩
   rw [hw2] at G1 B1 K1 S1
   clear hG hB hK hfr
   obtain ⟨_, v2, f0, f1, f2, hfr2, _, hR2, _⟩ := cs_elem S1 (k1 : Int) (by omega) (by omega)
   simp only [Int.toNat_natCast] at f0 f1 f2 hfr2
   rw [rd_cl_set hlt] at f0 f1 hR2
   obtain ⟨A2, c2, rfl⟩ := Kd.R_slice hR2
   have g0 : w2.cell? ⟨gb, 0, none⟩ = some (.slice (some ⟨g, 0, none⟩) C1.length c) := (blk_cell G1 0).trans rfl
   obtain ⟨W1, W2, hW1, hW2, y0, y1, y2, z0, z1, z2, Y, BL⟩ := local_cell w2 (.int .i64 x.f0) (.string leaf) (.slice A2 x.f2.length c2)
   have yy1 : W2.cell? ⟨w2.heap.size, 1, none⟩ = some (.string leaf) := (blk_cell Y.out 1).trans rfl
   have yy2 : W2.cell? ⟨w2.heap.size, 2, none⟩ = some (.slice A2 x.f2.length c2) := (blk_cell Y.out 2).trans rfl
   have S2 := Aside0.mk (Kd.S_below S1 BL.out)
   have G2 := Aside0.mk (blk_below G1 BL.out)
   have B2 := Aside0.mk (below_then B1 B1.size BL.out)
   have K2 := Aside0.mk (K1.below BL.out)
   have gg0 : W2.cell? ⟨gb, 0, none⟩ = some (.slice (some ⟨g, 0, none⟩) C1.length c) := (blk_cell G2.out 0).trans rfl
   clear hS S1 G1 B1 K1 hR2 hPg hfr2
   by_cases hle : leaf.size = 0
   ·have h := HH.out
    rw [if_pos hle] at h
    have e_ := Option.some.inj h
    subst e_
    obtain rfl := empty_of_size hle
    clear h HH hle
    obtain ⟨_, _, q0, q1, q2, hfr3, _, _, _⟩ := cs_elem S2.out (k1 : Int) (by omega) (by omega)
    simp only [Int.toNat_natCast] at q0 q1 q2 hfr3
    have n0 : W2.frozen? ⟨g, k1 * 3, none⟩ = false := hfr3 0
    have n1 := hfr3 1
    have n2 := hfr3 2
    have hPg := (Kd.S_R S2.out).1 g rfl
    have hBg := Kd.S_base S2.out g rfl
    have S3 := cs_zero S2.out (k1 : Int) (by omega) (by omega)
    simp only [Int.toNat_natCast, List.set_set] at S3
    obtain ⟨G3, B3, K3⟩ := cb_put (p := ⟨g, k1 * 3, none⟩) (u := .int .i64 0) G2.out B2.out K2.out hPg hBg GP.out
    obtain ⟨G4, B4, K4⟩ := cb_put (p := ⟨g, k1 * 3 + 1, none⟩) (u := .string ⟨#[]⟩) G3 B3 K3 hPg hBg GP.out
    obtain ⟨G5, B5, K5⟩ := cb_put (p := ⟨g, k1 * 3 + 2, none⟩) (u := .slice none 0 0) G4 B4 K4 hPg hBg GP.out
    obtain ⟨W5, hW5⟩ : ∃ W, ((W2.setCell ⟨g, k1 * 3, none⟩ (.int .i64 0)).setCell ⟨g, k1 * 3 + 1, none⟩ (.string ⟨#[]⟩)).setCell ⟨g, k1 * 3 + 2, none⟩ (.slice none 0 0) = W := ⟨_, rfl⟩
    rw [hW5] at S3 G5 B5 K5
    have S5 := Aside0.mk S3
    have G5 := Aside0.mk G5
    have B5 := Aside0.mk B5
    have K5 := Aside0.mk K5
    clear G3 B3 K3 G4 B4 K4 S3 hfr3 S2 G2 B2 K2 Y BL hPg hBg hx
    go_wp2
    go_ret
    refine ⟨rfl, ⟨some ⟨g, 0, none⟩, c, ?_, ?_⟩, B5.out, K5.out⟩
    ·show _ = some (Obj.cells #[.slice _ (C1.set k1 _).length _, _, _] _ _)
     rw [List.length_set]
     exact G5.out
    ·show CS _ _ _ (.slice _ (C1.set k1 _).length _) _
     rw [List.length_set]
     exact S5.out
   ·have h := HH.out
    rw [if_neg hle] at h
    rw [hx] at h
    have e_ := Option.some.inj h
    subst e_
    have m0 : leaf.toList ≠ [] := fun e_ => hle (ba_nil.1 e_)
    have m1 : (leaf.toList == []) = false := beq_eq_false_iff_ne.2 m0
    have m2 : (leaf.toList = []) = False := eq_false m0
    clear h HH hle Y BL hx
    go_wp2
    go_ret
    refine ⟨rfl, ⟨some ⟨g, 0, none⟩, c, ?_, ?_⟩, B2.out, K2.out⟩
    ·show _ = some (Obj.cells #[.slice _ (C1.set k1 _).length _, _, _] _ _)
     rw [List.length_set]
     exact G2.out
    ·show CS _ _ _ (.slice _ (C1.set k1 _).length _) _
     rw [List.length_set]
     exact S2.out
  ·rw [if_neg hl0] at h
   by_cases hd : 0 ≤ dg (l + 1) ∧ dg (l + 1) < 4 ∧ (rd_T68 C1 (k1 : Int)).f2.length = 4
   ·rw [if_pos hd] at h
    obtain ⟨⟨C2, z2⟩, hq, h⟩ := Option.bind_eq_some_iff.1 h
    simp only at h
    have hdl := DG.out (l + 1) (by omega) (Nat.le_refl _)
    rw [← hlv] at hdl
    have hlw2 : wrap64 (lv - 1) = (l : Int) := by rw [w64 (x := lv - 1) (by have := HL.out; omega) (by have := HL.out; omega)]; omega
    have LW := Aside0.mk hlw2
    have LV := Aside0.mk (show 2 ≤ lv by omega)
    obtain ⟨d, hdd⟩ : ∃ d : Nat, dg (l + 1) = (d : Int) := ⟨(dg (l + 1)).toNat, by omega⟩
    rw [hdd] at hq h hdl hd
    simp only [Int.toNat_natCast] at h
    have D4 := Aside0.mk (show d < 4 by omega)
    have F4 := Aside0.mk hd.2.2
    have T2 := Aside0.mk (impl_digit.calls a_ lv (d : Int))
    have HQ := Aside0.mk hq
    have HH := Aside0.mk h
    have DL := Aside0.mk hdl
    have q1 : (lv = 1) = False := eq_false (by omega)
    have q2 : (lv == 1) = false := beq_eq_false_iff_ne.2 (by omega)
    clear h hq hd hdl hdd hlw2 hlv
    go_enter Try.func75, Try.ntmps75
    go_wp2_with (go_at_call 89; refine T1.out.mono ?_)
    (first | rintro e w1 rfl hC hB hK | rintro e w1 ⟨rfl, hC, hB, hK⟩)
    clear T1
    obtain ⟨A, c, hG, hS⟩ := hC
    obtain ⟨g, cap, hv, _, _, _⟩ := Kd.S_form hS (by have := LT.out; omega)
    injection hv with hA hn_ hc
    subst hA hc
    clear hn_
    have hlt := LT.out
    obtain ⟨x, hx⟩ : ∃ x, rd_T68 C1 (k1 : Int) = x := ⟨_, rfl⟩
    rw [hx] at F4 HQ
    obtain ⟨_, v, e0, e1, e2, hfr, _, hR, _⟩ := cs_elem hS (k1 : Int) (by omega) (by omega)
    simp only [Int.toNat_natCast] at e0 e1 e2 hfr
    rw [hx] at hR
    obtain ⟨A2, c2, rfl⟩ := Kd.R_slice hR
    rw [F4.out] at e2
    obtain ⟨ad, e3, hy⟩ := Kd.at_int (Kd.R_reads' hR).2.2 (d : Int) (by omega) (by have := F4.out; have := D4.out; omega)
    subst e3
    simp only [Int.toNat_natCast] at hy
    obtain ⟨z, hz⟩ : ∃ z, rd x.f2 (d : Int) = z := ⟨_, rfl⟩
    rw [hz] at hy HQ
    have s1 : ((k1 : Int) < (C1.length : Int)) = True := eq_true (by omega)
    have s2 : ((d : Int) < 4) = True := eq_true (by have := D4.out; omega)
    have d0 : w1.cell? ⟨gb, 0, none⟩ = some (.slice (some ⟨g, 0, none⟩) C1.length c) := (blk_cell hG 0).trans rfl
    have CB1 := Aside0.mk (show CB w1 w0.heap.size gb v1 L P C1 from ⟨_, _, hG, hS⟩)
    have B1 := Aside0.mk hB
    have K1 := Aside0.mk hK
    have D0 := Aside0.mk d0
    have E2 := Aside0.mk e2
    have HY := Aside0.mk hy
    clear hG hS hB hK hR hfr e0 e1 hx
    go_wp2
    clear d0 e2 hy
    refine start_ (n := 20) (S := fun w' => w'.cell? ⟨gb, 0, none⟩ = some (.slice (some ⟨g, 0, none⟩) C1.length c) ∧ w'.cell? ⟨g, k1 * 3 + 2, none⟩ = some (.slice (some ad) 4 c2) ∧ w'.cell? (ad.add d) = some (.int .i64 z)) (ds := [18]) #[false, false, false, false, false, false, false, false, false, false, false, false, false, false, false, false, false, false, false, false] (by kernel_rfl) rfl rfl ⟨D0.out, E2.out, HY.out⟩ (fun hHeld => ?_)
    replace CB1 := Aside0.mk (cb_map CB1.out (W := w1.drew) (fun k _ _ => rfl))
    replace B1 := Aside0.mk (below_drew1 B1.out)
    replace K1 := Aside0.mk K1.out.drew
    replace D0 := Aside0.mk (show w1.drew.cell? ⟨gb, 0, none⟩ = some (.slice (some ⟨g, 0, none⟩) C1.length c) from D0.out)
    replace E2 := Aside0.mk (show w1.drew.cell? ⟨g, k1 * 3 + 2, none⟩ = some (.slice (some ad) 4 c2) from E2.out)
    replace HY := Aside0.mk (show w1.drew.cell? (ad.add d) = some (.int .i64 z) from HY.out)
    generalize w1.drew = w5 at CB1 B1 K1 D0 E2 HY hHeld ⊢
    refine take_ (i := 0) (N := some 27) (v := ?_) (a' := ?_) #[true, false, false, false, false, false, false, false, false, false, false, false, false, false, false, false, false, false, false, false] rfl rfl (by kernel_rfl) (fun _ _ _ h => h) (Or.inl ⟨by rfl, ?_⟩) hHeld ?_ ?_
    rotate_left
    ·rintro w' ⟨s0, s1, s2⟩
     go_simp
     with_reducible rfl
    rotate_left
    ·simp only [apu_]
     rfl
    refine take_ (i := 1) (N := some 28) (v := ?_) (a' := ?_) #[true, true, false, false, false, false, false, false, false, false, false, false, false, false, false, false, false, false, false, false] rfl rfl (by kernel_rfl) (fun _ _ _ h => h) (Or.inl ⟨by rfl, ?_⟩) hHeld ?_ ?_
    rotate_left
    ·rintro w' ⟨s0, s1, s2⟩
     go_simp
     with_reducible rfl
    rotate_left
    ·simp only [apu_]
     rfl
    refine take_ (i := 2) (N := some 29) (v := ?_) (a' := ?_) #[true, true, true, false, false, false, false, false, false, false, false, false, false, false, false, false, false, false, false, false] rfl rfl (by kernel_rfl) (fun _ _ _ h => h) (Or.inl ⟨by rfl, ?_⟩) hHeld ?_ ?_
    rotate_left
    ·rintro w' ⟨s0, s1, s2⟩
     go_simp
     with_reducible rfl
    rotate_left
    ·simp only [apu_]
     rfl
    refine take_ (i := 3) (N := some 30) (v := ?_) (a' := ?_) #[true, true, true, true, false, false, false, false, false, false, false, false, false, false, false, false, false, false, false, false] rfl rfl (by kernel_rfl) (fun _ _ _ h => h) (Or.inl ⟨by rfl, ?_⟩) hHeld ?_ ?_
    rotate_left
    ·rintro w' ⟨s0, s1, s2⟩
     go_simp
     with_reducible rfl
    rotate_left
    ·simp only [apu_]
     rfl
    refine take_ (i := 4) (N := some 31) (v := ?_) (a' := ?_) #[true, true, true, true, true, false, false, false, false, false, false, false, false, false, false, false, false, false, false, false] rfl rfl (by kernel_rfl) (fun _ _ _ h => h) (Or.inl ⟨by rfl, ?_⟩) hHeld ?_ ?_
    rotate_left
    ·rintro w' ⟨s0, s1, s2⟩
     go_simp
     with_reducible rfl
    rotate_left
    ·simp only [apu_]
     rfl
    refine take_ (i := 5) (N := some 32) (v := ?_) (a' := ?_) #[true, true, true, true, true, true, false, false, false, false, false, false, false, false, false, false, false, false, false, false] rfl rfl (by kernel_rfl) (fun _ _ _ h => h) (Or.inl ⟨by rfl, ?_⟩) hHeld ?_ ?_
    rotate_left
    ·rintro w' ⟨s0, s1, s2⟩
     go_simp
     with_reducible rfl
    rotate_left
    ·simp only [apu_]
     rfl
    refine take_ (i := 6) (N := some 33) (v := ?_) (a' := ?_) #[true, true, true, true, true, true, true, false, false, false, false, false, false, false, false, false, false, false, false, false] rfl rfl (by kernel_rfl) (fun _ _ _ h => h) (Or.inl ⟨by rfl, ?_⟩) hHeld ?_ ?_
    rotate_left
    ·rintro w' ⟨s0, s1, s2⟩
     go_simp
     with_reducible rfl
    rotate_left
    ·simp only [apu_]
     rfl
    refine take_ (i := 7) (N := some 34) (v := ?_) (a' := ?_) #[true, true, true, true, true, true, true, true, false, false, false, false, false, false, false, false, false, false, false, false] rfl rfl (by kernel_rfl) (fun _ _ _ h => h) (Or.inl ⟨by rfl, ?_⟩) hHeld ?_ ?_
    rotate_left
    ·rintro w' ⟨s0, s1, s2⟩
     go_simp
     with_reducible rfl
    rotate_left
    ·simp only [apu_]
     rfl
    refine take_ (i := 8) (N := some 35) (v := ?_) (a' := ?_) #[true, true, true, true, true, true, true, true, true, false, false, false, false, false, false, false, false, false, false, false] rfl rfl (by kernel_rfl) (fun _ _ _ h => h) (Or.inl ⟨by rfl, ?_⟩) hHeld ?_ ?_
    rotate_left
    ·rintro w' ⟨s0, s1, s2⟩
     go_simp
     with_reducible rfl
    rotate_left
    ·simp only [apu_]
     rfl
    refine take_ (i := 9) (N := some 36) (v := ?_) (a' := ?_) #[true, true, true, true, true, true, true, true, true, true, false, false, false, false, false, false, false, false, false, false] rfl rfl (by kernel_rfl) (fun _ _ _ h => h) (Or.inl ⟨by rfl, ?_⟩) hHeld ?_ ?_
    rotate_left
    ·rintro w' ⟨s0, s1, s2⟩
     go_simp
     with_reducible rfl
    rotate_left
    ·simp only [apu_]
     rfl
    refine take_ (i := 10) (N := some 37) (v := ?_) (a' := ?_) #[true, true, true, true, true, true, true, true, true, true, true, false, false, false, false, false, false, false, false, false] rfl rfl (by kernel_rfl) (fun _ _ _ h => h) (Or.inl ⟨by rfl, ?_⟩) hHeld ?_ ?_
    rotate_left
    ·rintro w' ⟨s0, s1, s2⟩
     go_simp
     with_reducible rfl
    rotate_left
    ·simp only [apu_]
     rfl
    refine take_ (i := 14) (N := some 41) (v := ?_) (a' := ?_) #[true, true, true, true, true, true, true, true, true, true, true, false, false, false, true, false, false, false, false, false] rfl rfl (by kernel_rfl) (fun _ _ _ h => h) (Or.inl ⟨by rfl, ?_⟩) hHeld ?_ ?_
    rotate_left
    ·rintro w' ⟨s0, s1, s2⟩
     go_simp
     with_reducible rfl
    rotate_left
    ·simp only [apu_]
     rfl
    refine take_ (i := 15) (N := some 42) (v := ?_) (a' := ?_) #[true, true, true, true, true, true, true, true, true, true, true, false, false, false, true, true, false, false, false, false] rfl rfl (by kernel_rfl) (fun _ _ _ h => h) (Or.inl ⟨by rfl, ?_⟩) hHeld ?_ ?_
    rotate_left
    ·rintro w' ⟨s0, s1, s2⟩
     go_simp
     with_reducible rfl
    rotate_left
    ·simp only [apu_]
     rfl
    refine take_ (i := 16) (N := some 43) (v := ?_) (a' := ?_) #[true, true, true, true, true, true, true, true, true, true, true, false, false, false, true, true, true, false, false, false] rfl rfl (by kernel_rfl) (fun _ _ _ h => h) (Or.inl ⟨by rfl, ?_⟩) hHeld ?_ ?_
    rotate_left
    ·rintro w' ⟨s0, s1, s2⟩
     go_simp
     with_reducible rfl
    rotate_left
    ·simp only [apu_]
     rfl
    refine take_ (i := 17) (N := some 44) (v := ?_) (a' := ?_) #[true, true, true, true, true, true, true, true, true, true, true, false, false, false, true, true, true, true, false, false] rfl rfl (by kernel_rfl) (fun _ _ _ h => h) (Or.inl ⟨by rfl, ?_⟩) hHeld ?_ ?_
    rotate_left
    ·rintro w' ⟨s0, s1, s2⟩
     go_simp
     with_reducible rfl
    rotate_left
    ·simp only [apu_]
     rfl
    refine one_ (i := 11) (N := some 38) #[true, true, true, true, true, true, true, true, true, true, true, true, false, false, true, true, true, true, false, false] rfl rfl (by kernel_rfl) (by decide) (fun K hK => ?_)
    refine goes_ Try.func86 (by kernel_rfl) rfl #[.int .i64 a_, .int .i64 lv] (by rfl) rfl rfl (by (try simp only [List.map_toArray, List.map_cons, List.map_nil]); first | done | rfl | (simp only [List.length_drop, List.length_take]; rfl)) ?_
    refine (T2.out w5 DL.out).mono ?_
    (first | rintro e w6 rfl hdr | rintro e w6 ⟨rfl, hdr⟩)
    refine ⟨_, rfl, ?_⟩
    have hb := hdr.below
    replace D0 := Aside0.mk (cell_kept D0.out (Kept.of_below hb (fun _ => False)) id)
    replace E2 := Aside0.mk (cell_kept E2.out (Kept.of_below hb (fun _ => False)) id)
    replace HY := Aside0.mk (cell_kept HY.out (Kept.of_below hb (fun _ => False)) id)
    replace CB1 := Aside0.mk (cb_map CB1.out (fun k _ hk => hb.block k hk))
    replace B1 := Aside0.mk (below_then B1.out B1.out.size hb)
    replace K1 := Aside0.mk (K1.out.below hb)
    clear hb hdr
    refine hK.out _ _ ⟨D0.out, E2.out, HY.out⟩ (fun hHeld => ?_)
    clear hK K
    refine norm_ (a' := ?_) ?_ ?_
    rotate_left
    ·show Act.put _ (some 38) _ = _
     simp only [apu_]
     rfl
    refine take_ (i := 12) (N := some 39) (v := ?_) (a' := ?_) #[true, true, true, true, true, true, true, true, true, true, true, true, true, false, true, true, true, true, false, false] rfl rfl (by kernel_rfl) (fun _ _ _ h => h) (Or.inl ⟨by rfl, ?_⟩) hHeld ?_ ?_
    rotate_left
    ·rintro w' ⟨s0, s1, s2⟩
     go_simp
     with_reducible rfl
    rotate_left
    ·simp only [apu_]
     rfl
    refine take_ (i := 13) (N := some 40) (v := ?_) (a' := ?_) #[true, true, true, true, true, true, true, true, true, true, true, true, true, true, true, true, true, true, false, false] rfl rfl (by kernel_rfl) (fun _ _ _ h => h) (Or.inl ⟨by rfl, ?_⟩) hHeld ?_ ?_
    rotate_left
    ·rintro w' ⟨s0, s1, s2⟩
     go_simp
     with_reducible rfl
    rotate_left
    ·simp only [apu_]
     rfl
    refine last_ (i := 18) (N := some 45) #[true, true, true, true, true, true, true, true, true, true, true, true, true, true, true, true, true, true, true, false] rfl rfl (by kernel_rfl) (by decide) (fun K hK => ?_)
    refine goes_ Try.func75 (by kernel_rfl) rfl #[.pointer (some ⟨gb, 0, none⟩), .int .i64 z, .int .i64 (wrap64 (lv - 1)), .int .i64 a_, .string leaf] (by rfl) rfl rfl (by (try simp only [List.map_toArray, List.map_cons, List.map_nil]); first | done | rfl | (simp only [List.length_drop, List.length_take]; rfl)) ?_
    have hsz := K1.out.1
    refine (IH.out C1 z (wrap64 (lv - 1)) (C2, z2) w6 LW.out (by have := HL.out; omega) (fun j h1 h2 => DG.out j h1 (by omega)) B1.out CB1.out (fun k hk => FP.out k (by omega)) HQ.out).mono ?_
    (first | rintro e w7 rfl hC hB hK | rintro e w7 ⟨rfl, hC, hB, hK⟩)
    refine ⟨_, rfl, ?_⟩
    replace K1 := Aside0.mk (K1.out.then_ hK (fun j hj => .inl hj))
    replace B1 := Aside0.mk hB
    replace CB1 := Aside0.mk (show CB w7 w0.heap.size gb v1 L P C2 from hC)
    clear hC hB hK D0 E2 HY hsz
    refine hK.out _ _ ?_
    clear hK K
    refine norm_ (a' := ?_) ?_ ?_
    rotate_left
    ·show Act.put _ (some 45) _ = _
     simp only [apu_]
     rfl
    refine pure_ (i := 19) (N := some 11) (v := ?_) (a' := ?_) #[true, true, true, true, true, true, true, true, true, true, true, true, true, true, true, true, true, true, true, true] rfl rfl (by kernel_rfl) (fun _ _ _ h => h) (Or.inl ⟨by rfl, ?_⟩) ?_ ?_
    rotate_left
    ·intro w'
     go_simp
     with_reducible rfl
    rotate_left
    ·simp only [apu_]
     rfl
    refine done_ (by kernel_rfl) ?_
    clear hHeld
    have h := HH.out
    split at h
    ·rename_i hcd
     obtain ⟨hk2, hl4, hf1⟩ := hcd
     obtain ⟨A, c7, hG, hS⟩ := CB1.out
     obtain ⟨g7, cap, hv, _, _, _⟩ := Kd.S_form hS (by omega)
     injection hv with hA hn_ hc
     subst hA hc
     clear hn_ HH
     have HH := Aside0.mk h
     have K2 := Aside0.mk hk2
     clear h
     obtain ⟨x7, hx7⟩ : ∃ x, rd_T68 C2 (k1 : Int) = x := ⟨_, rfl⟩
     rw [hx7] at hl4 hf1 HH
     obtain ⟨v7, e2, hR7, hv7, hback⟩ := cs_inner hS (k1 : Int) (by omega) (by omega)
     rw [hx7] at hR7 hback
     obtain ⟨gk, ck, rfl, _, _, _⟩ := Kd.R_form hR7 (by omega)
     rw [hl4] at hR7 e2 hback hv7
     simp only [Int.toNat_natCast] at e2 hback
     obtain ⟨hPk, hngk⟩ := hv7 gk rfl
     have S7 := Aside0.mk hS
     have G7 := Aside0.mk hG
     have R7 := Aside0.mk hR7
     have BK := Aside0.mk hback
     have E2 := Aside0.mk e2
     have PK := Aside0.mk hPk
     have L4 := Aside0.mk hl4
     have F1 := Aside0.mk hf1
     have p1 : ((k1 : Int) < (C2.length : Int)) = True := eq_true (by omega)
     have D0 := Aside0.mk (show w7.cell? ⟨gb, 0, none⟩ = some (.slice (some ⟨g7, 0, none⟩) C2.length c7) from (blk_cell hG 0).trans rfl)
     clear hS hG hR7 hback e2 hPk hv7 hl4 hf1 hk2 CB1
     try go_wp2
     refine start_ (n := 14) (S := fun w' => w'.cell? ⟨gb, 0, none⟩ = some (.slice (some ⟨g7, 0, none⟩) C2.length c7) ∧ w'.cell? ⟨g7, k1 * 3 + 2, none⟩ = some (.slice (some ⟨gk, 0, none⟩) 4 ck)) (ds := [13]) #[false, false, false, false, false, false, false, false, false, false, false, false, false, false] (by kernel_rfl) rfl rfl ⟨D0.out, E2.out⟩ (fun hHeld => ?_)
     replace S7 := Aside0.mk (Kd.S_drew S7.out)
     replace G7 := Aside0.mk (blk_drew G7.out)
     replace R7 := Aside0.mk (Kd.R_drew R7.out)
     replace B1 := Aside0.mk (below_drew1 B1.out)
     replace K1 := Aside0.mk K1.out.drew
     replace D0 := Aside0.mk (show w7.drew.cell? ⟨gb, 0, none⟩ = some (.slice (some ⟨g7, 0, none⟩) C2.length c7) from D0.out)
     replace E2 := Aside0.mk (show w7.drew.cell? ⟨g7, k1 * 3 + 2, none⟩ = some (.slice (some ⟨gk, 0, none⟩) 4 ck) from E2.out)
     have BW := Aside0.mk (show Kept w7 w7.drew (fun _ => False) from (Kept.refl _ _).drew)
     generalize w7.drew = w8 at S7 G7 R7 B1 K1 D0 E2 BW hHeld ⊢
     refine take_ (i := 0) (N := some 46) (v := ?_) (a' := ?_) #[true, false, false, false, false, false, false, false, false, false, false, false, false, false] rfl rfl (by kernel_rfl) (fun _ _ _ h => h) (Or.inl ⟨by rfl, ?_⟩) hHeld ?_ ?_
     rotate_left
     ·rintro w' ⟨s0, s1⟩
      go_simp
      with_reducible rfl
     rotate_left
     ·simp only [apu_]
      rfl
     refine take_ (i := 1) (N := some 47) (v := ?_) (a' := ?_) #[true, true, false, false, false, false, false, false, false, false, false, false, false, false] rfl rfl (by kernel_rfl) (fun _ _ _ h => h) (Or.inl ⟨by rfl, ?_⟩) hHeld ?_ ?_
     rotate_left
     ·rintro w' ⟨s0, s1⟩
      go_simp
      with_reducible rfl
     rotate_left
     ·simp only [apu_]
      rfl
     refine take_ (i := 2) (N := some 48) (v := ?_) (a' := ?_) #[true, true, true, false, false, false, false, false, false, false, false, false, false, false] rfl rfl (by kernel_rfl) (fun _ _ _ h => h) (Or.inl ⟨by rfl, ?_⟩) hHeld ?_ ?_
     rotate_left
     ·rintro w' ⟨s0, s1⟩
      go_simp
      with_reducible rfl
     rotate_left
     ·simp only [apu_]
      rfl
     refine take_ (i := 3) (N := some 49) (v := ?_) (a' := ?_) #[true, true, true, true, false, false, false, false, false, false, false, false, false, false] rfl rfl (by kernel_rfl) (fun _ _ _ h => h) (Or.inl ⟨by rfl, ?_⟩) hHeld ?_ ?_
     rotate_left
     ·rintro w' ⟨s0, s1⟩
      go_simp
      with_reducible rfl
     rotate_left
     ·simp only [apu_]
      rfl
     refine take_ (i := 4) (N := some 50) (v := ?_) (a' := ?_) #[true, true, true, true, true, false, false, false, false, false, false, false, false, false] rfl rfl (by kernel_rfl) (fun _ _ _ h => h) (Or.inl ⟨by rfl, ?_⟩) hHeld ?_ ?_
     rotate_left
     ·rintro w' ⟨s0, s1⟩
      go_simp
      with_reducible rfl
     rotate_left
     ·simp only [apu_]
      rfl
     refine take_ (i := 5) (N := some 51) (v := ?_) (a' := ?_) #[true, true, true, true, true, true, false, false, false, false, false, false, false, false] rfl rfl (by kernel_rfl) (fun _ _ _ h => h) (Or.inl ⟨by rfl, ?_⟩) hHeld ?_ ?_
     rotate_left
     ·rintro w' ⟨s0, s1⟩
      go_simp
      with_reducible rfl
     rotate_left
     ·simp only [apu_]
      rfl
     refine take_ (i := 6) (N := some 52) (v := ?_) (a' := ?_) #[true, true, true, true, true, true, true, false, false, false, false, false, false, false] rfl rfl (by kernel_rfl) (fun _ _ _ h => h) (Or.inl ⟨by rfl, ?_⟩) hHeld ?_ ?_
     rotate_left
     ·rintro w' ⟨s0, s1⟩
      go_simp
      with_reducible rfl
     rotate_left
     ·simp only [apu_]
      rfl
     refine take_ (i := 7) (N := some 53) (v := ?_) (a' := ?_) #[true, true, true, true, true, true, true, true, false, false, false, false, false, false] rfl rfl (by kernel_rfl) (fun _ _ _ h => h) (Or.inl ⟨by rfl, ?_⟩) hHeld ?_ ?_
     rotate_left
     ·rintro w' ⟨s0, s1⟩
      go_simp
      with_reducible rfl
     rotate_left
     ·simp only [apu_]
      rfl
     refine take_ (i := 8) (N := some 54) (v := ?_) (a' := ?_) #[true, true, true, true, true, true, true, true, true, false, false, false, false, false] rfl rfl (by kernel_rfl) (fun _ _ _ h => h) (Or.inl ⟨by rfl, ?_⟩) hHeld ?_ ?_
     rotate_left
     ·rintro w' ⟨s0, s1⟩
      go_simp
      with_reducible rfl
     rotate_left
     ·simp only [apu_]
      rfl
     refine take_ (i := 9) (N := some 55) (v := ?_) (a' := ?_) #[true, true, true, true, true, true, true, true, true, true, false, false, false, false] rfl rfl (by kernel_rfl) (fun _ _ _ h => h) (Or.inl ⟨by rfl, ?_⟩) hHeld ?_ ?_
     rotate_left
     ·rintro w' ⟨s0, s1⟩
      go_simp
      with_reducible rfl
     rotate_left
     ·simp only [apu_]
      rfl
     refine take_ (i := 11) (N := some 57) (v := ?_) (a' := ?_) #[true, true, true, true, true, true, true, true, true, true, false, true, false, false] rfl rfl (by kernel_rfl) (fun _ _ _ h => h) (Or.inl ⟨by rfl, ?_⟩) hHeld ?_ ?_
     rotate_left
     ·rintro w' ⟨s0, s1⟩
      go_simp
      with_reducible rfl
     rotate_left
     ·simp only [apu_]
      rfl
     refine one_ (i := 10) (N := some 56) #[true, true, true, true, true, true, true, true, true, true, true, true, false, false] rfl rfl (by kernel_rfl) (by decide) (fun K hK => ?_)
     refine goes_ Try.func86 (by kernel_rfl) rfl #[.int .i64 a_, .int .i64 lv] (by rfl) rfl rfl (by (try simp only [List.map_toArray, List.map_cons, List.map_nil]); first | done | rfl | (simp only [List.length_drop, List.length_take]; rfl)) ?_
     refine (T2.out w8 DL.out).mono ?_
     (first | rintro e w9 rfl hdr | rintro e w9 ⟨rfl, hdr⟩)
     refine ⟨_, rfl, ?_⟩
     have hb := hdr.below
     replace D0 := Aside0.mk (cell_kept D0.out (Kept.of_below hb (fun _ => False)) id)
     replace E2 := Aside0.mk (cell_kept E2.out (Kept.of_below hb (fun _ => False)) id)
     replace S7 := Aside0.mk (Kd.S_below S7.out hb)
     replace G7 := Aside0.mk (blk_below G7.out hb)
     replace R7 := Aside0.mk (Kd.R_below R7.out hb)
     replace B1 := Aside0.mk (below_then B1.out B1.out.size hb)
     replace K1 := Aside0.mk (K1.out.below hb)
     replace BW := Aside0.mk (BW.out.below hb)
     clear hb hdr
     refine hK.out _ _ ⟨D0.out, E2.out⟩ (fun hHeld => ?_)
     clear hK K
     refine norm_ (a' := ?_) ?_ ?_
     rotate_left
     ·show Act.put _ (some 56) _ = _
      simp only [apu_]
      rfl
     refine take_ (i := 12) (N := some 58) (v := ?_) (a' := ?_) #[true, true, true, true, true, true, true, true, true, true, true, true, true, false] rfl rfl (by kernel_rfl) (fun _ _ _ h => h) (Or.inl ⟨by rfl, ?_⟩) hHeld ?_ ?_
     rotate_left
     ·rintro w' ⟨s0, s1⟩
      go_simp
      with_reducible rfl
     rotate_left
     ·simp only [apu_]
      rfl
     obtain ⟨ad9, e9, hy9⟩ := Kd.at_int (Kd.R_reads' R7.out).2.2 (d : Int) (by omega) (by have := L4.out; have := D4.out; omega)
     injection e9 with e9
     subst e9
     rw [show (⟨gk, 0, none⟩ : Addr).add ((d : Int).toNat) = ⟨gk, d, none⟩ by by_cases h : d = 0 <;> simp [Addr.add, h]] at hy9
     have hl9 : 0 < (x7.f2).length := by have := L4.out; omega
     obtain ⟨g_, c_, e_, _, _, cells9, hcl9⟩ := Kd.R_form R7.out hl9
     obtain rfl : gk = g_ := by injection e_ with e_ _ _; injection e_ with e_; injection e_
     have hf9 := blk_frozen hcl9 d
     refine last_ (i := 13) (N := none) #[true, true, true, true, true, true, true, true, true, true, true, true, true, true] rfl rfl (by kernel_rfl) (by decide) (fun K hK => ?_)
     refine skip_ (w1 := w9.setCell ⟨gk, d, none⟩ (.int .i64 z2)) (by rfl) rfl ?_ ?_
     ·first | (go_simp; done) | (go_simp; rfl)
     refine hK.out _ _ ?_
     clear hK K
     refine done_ (by kernel_rfl) ?_
     clear hHeld
     clear hy9 hf9 hcl9
     have RP := Kd.R_putn R7.out d z2
     have KP : Kept w9 (w9.setCell ⟨gk, d, none⟩ (.int .i64 z2)) (fun k => some k = (Value.slice (some ⟨gk, 0, none⟩) 4 ck).ownBlock) := (Kept.refl w9 (fun k => some k = (Value.slice (some ⟨gk, 0, none⟩) 4 ck).ownBlock)).setCell (p := ⟨gk, d, none⟩) (.inl rfl) _
     have S9 := BK.out _ (x7.f2.set d z2) ((BW.out.mono (fun _ h => h.elim)).then_ KP (fun j hj => .inl hj)) (Kd.R_mono RP (fun _ _ => trivial))
     obtain ⟨G9, B9, K9⟩ := cb_put (p := ⟨gk, d, none⟩) (u := .int .i64 z2) G7.out B1.out K1.out PK.out (Kd.R_base R7.out gk rfl) GP.out
     generalize w9.setCell ⟨gk, d, none⟩ (.int .i64 z2) = wA at RP KP S9 G9 B9 K9 ⊢
     clear KP RP S7 G7 R7 B1 K1 D0 E2 BW BK
     have hkC := K2.out
     have hrdx := rd_cl_set (xs := C2) hkC (⟨x7.f0, x7.f1, x7.f2.set d z2⟩ : CL)
     have hlx : (C2.set k1 (⟨x7.f0, x7.f1, x7.f2.set d z2⟩ : CL)).length = C2.length := List.length_set
     generalize hC9 : C2.set k1 (⟨x7.f0, x7.f1, x7.f2.set d z2⟩ : CL) = C9 at S9 HH hrdx hlx
     obtain ⟨_, v9, f0, f1, f2, hfr2, _, hR9, _⟩ := cs_elem S9 (k1 : Int) (by omega) (by omega)
     simp only [Int.toNat_natCast] at f0 f1 f2 hfr2
     rw [hrdx] at f0 f1 hR9
     obtain ⟨A9, c9, rfl⟩ := Kd.R_slice hR9
     have hl9 : (x7.f2.set d z2).length = 4 := by rw [List.length_set]; exact L4.out
     simp only [hl9] at f2 hR9
     have g0 : wA.cell? ⟨gb, 0, none⟩ = some (.slice (some ⟨g7, 0, none⟩) C2.length c7) := (blk_cell G9 0).trans rfl
     obtain ⟨W1, W2, hW1, hW2, y0, y1, y2, z0, z1, z3, Y, BL⟩ := local_cell wA (.int .i64 x7.f0) (.string x7.f1) (.slice A9 4 c9)
     have yy1 : W2.cell? ⟨wA.heap.size, 1, none⟩ = some (.string x7.f1) := (blk_cell Y.out 1).trans rfl
     have yy2 : W2.cell? ⟨wA.heap.size, 2, none⟩ = some (.slice A9 4 c9) := (blk_cell Y.out 2).trans rfl
     have T3 := Aside0.mk (max_calls (x7.f2.set d z2) A9 c9 W2 (Kd.C_below (Kd.R_reads' hR9).2.2 BL.out) (by rw [hl9]; exact (Kd.R_reads' hR9).2.1) hl9)
     simp only [hl9] at T3
     have S2 := Aside0.mk (Kd.S_below S9 BL.out)
     have G2 := Aside0.mk (blk_below G9 BL.out)
     have B2 := Aside0.mk (below_then B9 B9.size BL.out)
     have K2_ := Aside0.mk (K9.below BL.out)
     have gg0 : W2.cell? ⟨gb, 0, none⟩ = some (.slice (some ⟨g7, 0, none⟩) C2.length c7) := (blk_cell G2.out 0).trans rfl
     have es1 : (x7.f1.toList == []) = true := by rw [ba_nil.2 F1.out]; rfl
     have es2 : (x7.f1.toList = []) = True := eq_true (ba_nil.2 F1.out)
     have HC9 := Aside0.mk hC9
     have HLX := Aside0.mk hlx
     clear S9 G9 B9 K9 hR9 hfr2 hC9 hlx hl9
     go_wp2_with (go_at_call 84; refine T3.out.mono ?_)
     (first | rintro e wB m rfl hm rfl | rintro e wB ⟨⟨m, rfl, hm⟩, rfl⟩)
     cases hsk : someKid (x7.f2.set d z2) with
     | true =>
      have h := HH.out
      rw [if_pos hsk] at h
      have e_ := Option.some.inj h
      subst e_
      rw [hsk] at hm
      have hm0 : 0 ≤ m := of_decide_eq_true hm
      have m1 : (m < 0) = False := eq_false (by omega)
      clear h HH hm hm0 T3 Y BL
      go_wp2
      go_ret
      refine ⟨rfl, ⟨some ⟨g7, 0, none⟩, c7, ?_, ?_⟩, B2.out, K2_.out⟩
      ·show _ = some (Obj.cells #[.slice _ C9.length _, _, _] _ _)
       rw [HLX.out]
       exact G2.out
      ·show CS _ _ _ (.slice _ C9.length _) _
       rw [HLX.out]
       exact S2.out
     | false =>
      have h := HH.out
      rw [if_neg (by rw [hsk]; decide)] at h
      have e_ := Option.some.inj h
      subst e_
      rw [hsk] at hm
      have hm0 : ¬ 0 ≤ m := of_decide_eq_false hm
      have m1 : (m < 0) = True := eq_true (by omega)
      obtain ⟨_, _, q0, q1, q2, hfr3, _, _, _⟩ := cs_elem S2.out (k1 : Int) (by omega) (by have := K2.out; omega)
      simp only [Int.toNat_natCast] at q0 q1 q2 hfr3
      have n0 : W2.frozen? ⟨g7, k1 * 3, none⟩ = false := hfr3 0
      have n1 := hfr3 1
      have n2 := hfr3 2
      have hPg := (Kd.S_R S2.out).1 g7 rfl
      have hBg := Kd.S_base S2.out g7 rfl
      have S3 := cs_zero S2.out (k1 : Int) (by omega) (by have := K2.out; omega)
      simp only [Int.toNat_natCast] at S3
      rw [← HC9.out, List.set_set] at S3
      obtain ⟨G3, B3, K3⟩ := cb_put (p := ⟨g7, k1 * 3, none⟩) (u := .int .i64 0) G2.out B2.out K2_.out hPg hBg GP.out
      obtain ⟨G4, B4, K4⟩ := cb_put (p := ⟨g7, k1 * 3 + 1, none⟩) (u := .string ⟨#[]⟩) G3 B3 K3 hPg hBg GP.out
      obtain ⟨G5, B5, K5⟩ := cb_put (p := ⟨g7, k1 * 3 + 2, none⟩) (u := .slice none 0 0) G4 B4 K4 hPg hBg GP.out
      obtain ⟨W5, hW5⟩ : ∃ W, ((W2.setCell ⟨g7, k1 * 3, none⟩ (.int .i64 0)).setCell ⟨g7, k1 * 3 + 1, none⟩ (.string ⟨#[]⟩)).setCell ⟨g7, k1 * 3 + 2, none⟩ (.slice none 0 0) = W := ⟨_, rfl⟩
      rw [hW5] at S3 G5 B5 K5
      have S5 := Aside0.mk S3
      have G5 := Aside0.mk G5
      have B5 := Aside0.mk B5
      have K5 := Aside0.mk K5
      clear G3 B3 K3 G4 B4 K4 S3 hfr3 S2 G2 B2 K2_ Y BL hPg hBg h HH hm hm0 T3
      go_wp2
      go_ret
      refine ⟨rfl, ⟨some ⟨g7, 0, none⟩, c7, ?_, ?_⟩, B5.out, K5.out⟩
      ·show _ = some (Obj.cells #[.slice _ (C2.set k1 _).length _, _, _] _ _)
       rw [List.length_set]
       exact G5.out
      ·show CS _ _ _ (.slice _ (C2.set k1 _).length _) _
       rw [List.length_set]
       exact S5.out
    ·cases h
   ·rw [if_neg hd] at h
    cases h
set_option maxHeartbeats 8000000 in
set_option maxRecDepth 100000 in
theorem new_calls (L : Int) (n1 c1 c : Nat) (A1 A : Option Addr) (C : List CL) (P : Nat → Prop) (x : CL) (vx : Value) (w0 w : World) (hB : Below w0.heap.size w0 w) (hS : CS w w0.heap.size (fun k => P k ∧ ¬ some k = vx.ownBlock) (.slice A C.length c) C) (hx : IR w w0.heap.size (fun k => some k = vx.ownBlock) vx x.f2) (hxP : ∀ k, some k = vx.ownBlock → P k) (hfP : ∀ k, w.heap.size ≤ k → P k) (hn : C.length ≤ 1000000) :
  Calls Try.prog 92 #[.agg #[.slice A C.length c, .slice A1 n1 c1, .int .i64 L], .agg #[.int .i64 x.f0, .string x.f1, vx]] w fun e w' => ∃ v0, e = .returned (.tuple #[.agg #[v0, .slice A1 n1 c1, .int .i64 L], .int .i64 ((newC C x).2 : Int)]) ∧ CS w' w0.heap.size P v0 (newC C x).1 ∧ Below w0.heap.size w0 w' ∧ Kept w w' P := by
 have hu25 := Try.underlying25
 have hu68 := Try.underlying68
 have hu22 := Try.underlying22
 obtain ⟨Ax, cx, rfl⟩ := Kd.R_slice hx
 obtain ⟨xg, hxg⟩ : ∃ xg, w.heap.size = xg := ⟨_, rfl⟩
 have LX := Aside0.mk (show ∀ k, some k = (Value.slice Ax x.f2.length cx).ownBlock → k < xg from fun k hk => hxg ▸ Kd.R_lt hx k hk.symm)
 have XP := Aside0.mk hxP
 have HN := Aside0.mk hn
 have FP := Aside0.mk (show ∀ k, xg ≤ k → P k from fun k hk => hfP k (hxg ▸ hk))
 have BX := Aside0.mk (show w0.heap.size ≤ xg from hxg ▸ hB.size)
 have hl : C.length ≤ 9223372036854775807 := by omega
 obtain ⟨W1, hW1⟩ : ∃ W, w.alloc (.cells #[.slice A C.length c, .slice A1 n1 c1, .int .i64 L] 25) = W := ⟨_, rfl⟩
 obtain ⟨W2, hW2⟩ : ∃ W, W1.alloc (.cells #[.int .i64 x.f0, .string x.f1, .slice Ax x.f2.length cx] 68) = W := ⟨_, rfl⟩
 obtain ⟨W3, hW3⟩ : ∃ W, W2.alloc (.cells #[.slice none 0 0, .slice none 0 0, .int .i64 0] 25) = W := ⟨_, rfl⟩
 have hb1 : Below w.heap.size w W1 := by rw [← hW1]; exact below_alloc (Below.refl _ _) _
 have hb2 : Below W1.heap.size W1 W2 := by rw [← hW2]; exact below_alloc (Below.refl _ _) _
 have hb3 : Below W2.heap.size W2 W3 := by rw [← hW3]; exact below_alloc (Below.refl _ _) _
 have X1 : W1.heap[xg]? = some (.cells #[.slice A C.length c, .slice A1 n1 c1, .int .i64 L] 25 (0, 0)) := by rw [← hW1, ← hxg]; exact heap_alloc_new w _
 have Y2 : W2.heap[W1.heap.size]? = some (.cells #[.int .i64 x.f0, .string x.f1, .slice Ax x.f2.length cx] 68 (0, 0)) := by rw [← hW2]; exact heap_alloc_new W1 _
 have Z3 := Aside0.mk (show W3.heap[W2.heap.size]? = some (.cells #[.slice none 0 0, .slice none 0 0, .int .i64 0] 25 (0, 0)) by rw [← hW3]; exact heap_alloc_new W2 _)
 have XY := Aside0.mk (show xg < W1.heap.size from blk_lt X1)
 have YZ := Aside0.mk (show W1.heap.size < W2.heap.size from blk_lt Y2)
 have hb := below_step (below_step hb1 hb2) hb3
 have X3 := Aside0.mk (blk_below (blk_below X1 hb2) hb3)
 have Y3 := Aside0.mk (blk_below Y2 hb3)
 have S3 := Aside0.mk (show CS W3 w0.heap.size (fun k => (P k ∧ ¬ some k = (Value.slice Ax x.f2.length cx).ownBlock) ∧ k < xg) (.slice A C.length c) C from Kd.S_below (Kd.S_mono (Kd.S_bound hS) (fun k hk => ⟨hk.1, hxg ▸ hk.2.2.1⟩)) hb)
 have V3 := Aside0.mk (Kd.R_below hx hb)
 have B3 := Aside0.mk (below_then hB hB.size hb)
 have K3 := Aside0.mk (Kept.of_below hb P)
 clear hb1 hb2 hb3 hb X1 Y2 hS hB hx hxP hfP hn
 have d0 : W3.cell? ⟨xg, 0, none⟩ = some (.slice A C.length c) := (blk_cell X3.out 0).trans rfl
 go_enter Try.func92, Try.ntmps92
 go_wp2
 generalize hyg : W1.heap.size = yg at *
 generalize hzg : W2.heap.size = zg at *
 have HXG := Aside0.mk hxg
 clear hW1 hW2 hW3 hyg hzg hxg d0
 go_loopw [6, 7, 11] (fun v6 v7 vi wr => ∃ q : Nat, q ≤ C.length ∧ vi = .int .i64 q ∧ Aside0 (∀ n : Nat, n < q → (rd_T68 C (n : Int)).f0 ≠ 0) ∧ Aside0 (wr.heap[xg]? = some (.cells #[.slice A C.length c, .slice A1 n1 c1, .int .i64 L] 25 (0, 0))) ∧ Aside0 (wr.heap[yg]? = some (.cells #[.int .i64 x.f0, .string x.f1, .slice Ax x.f2.length cx] 68 (0, 0))) ∧ Aside0 (wr.heap[zg]? = some (.cells #[.slice none 0 0, .slice none 0 0, .int .i64 0] 25 (0, 0))) ∧ Aside0 (CS wr w0.heap.size (fun k => (P k ∧ ¬ some k = (Value.slice Ax x.f2.length cx).ownBlock) ∧ k < xg) (.slice A C.length c) C) ∧ Aside0 (IR wr w0.heap.size (fun k => some k = (Value.slice Ax x.f2.length cx).ownBlock) (.slice Ax x.f2.length cx) x.f2) ∧ Aside0 (Below w0.heap.size w0 wr) ∧ Aside0 (Kept w wr P)) (fun v6 v7 vi _ => C.length - (intOf vi).toNat)
 case atStart => exact ⟨0, Nat.zero_le _, rfl, ⟨fun n h => by omega⟩, X3, Y3, Z3, S3, V3, B3, K3⟩
 case round =>
  clear X3 Y3 Z3 S3 V3 B3 K3
  obtain ⟨q, hq, rfl, HN0, X3, Y3, Z3, S3, V3, B3, K3⟩ := hrel
  by_cases hql : q < C.length
  ·have hqq : ((q : Int) < (C.length : Int)) = True := eq_true (by omega)
   obtain ⟨g, cap, hv, _, _, _⟩ := Kd.S_form S3.out (by omega)
   injection hv with hA hn_ hc
   subst hA hc
   clear hn_
   obtain ⟨y, hy⟩ : ∃ y, rd_T68 C (q : Int) = y := ⟨_, rfl⟩
   obtain ⟨_, vk, e0, e1, e2, hfr, _, hR, _⟩ := cs_elem S3.out (q : Int) (by omega) (by omega)
   simp only [Int.toNat_natCast] at e0 e1 e2 hfr
   rw [hy] at e0 e1 hR
   obtain ⟨Ak, ck, rfl⟩ := Kd.R_slice hR
   obtain ⟨W1, W2, hW1, hW2, y0, y1, y2, z0, z1, z2, Y, BL⟩ := local_cell wr (.int .i64 y.f0) (.string y.f1) (.slice Ak y.f2.length ck)
   have yy0 : W2.cell? ⟨wr.heap.size, 0, none⟩ = some (.int .i64 y.f0) := (blk_cell Y.out 0).trans rfl
   have X4 := Aside0.mk (blk_below X3.out BL.out)
   have Y4 := Aside0.mk (blk_below Y3.out BL.out)
   have Z4 := Aside0.mk (blk_below Z3.out BL.out)
   have S4 := Aside0.mk (Kd.S_below S3.out BL.out)
   have V4 := Aside0.mk (Kd.R_below V3.out BL.out)
   have B4 := Aside0.mk (below_then B3.out B3.out.size BL.out)
   have K4 := Aside0.mk (K3.out.below BL.out)
   have HY := Aside0.mk hy
   clear X3 Y3 Z3 S3 V3 B3 K3 hfr hR Y BL hy
   by_cases he : y.f0 = 0
   ·have hE : (y.f0 == 0) = true := beq_iff_eq.2 he
    have hE2 : (y.f0 = 0) = True := eq_true he
    have HE := Aside0.mk he
    have d0 : W2.cell? ⟨xg, 0, none⟩ = some (.slice (some ⟨g, 0, none⟩) C.length c) := (blk_cell X4.out 0).trans rfl
    have x0 : W2.cell? ⟨yg, 0, none⟩ = some (.int .i64 x.f0) := (blk_cell Y4.out 0).trans rfl
    have x1 : W2.cell? ⟨yg, 1, none⟩ = some (.string x.f1) := (blk_cell Y4.out 1).trans rfl
    have x2 : W2.cell? ⟨yg, 2, none⟩ = some (.slice Ax x.f2.length cx) := (blk_cell Y4.out 2).trans rfl
    have hPg := (Kd.S_R S4.out).1 g rfl
    obtain ⟨_, _, q0, q1, q2, hfr3, _, _, _⟩ := cs_elem S4.out (q : Int) (by omega) (by omega)
    simp only [Int.toNat_natCast] at q0 q1 q2 hfr3
    have n0 : W2.frozen? ⟨g, q * 3, none⟩ = false := hfr3 0
    have n1_ := hfr3 1
    have n2 := hfr3 2
    have S5 := cs_all (ok := P) (okg := fun k => some k = (Value.slice Ax x.f2.length cx).ownBlock) (Kd.S_mono S4.out (fun k hk => hk.1)) (q : Int) (by omega) (by omega) x _ V4.out (fun k hk => ⟨XP.out k hk, fun e_ => hPg.1.2 (e_ ▸ hk)⟩)
    simp only [Int.toNat_natCast] at S5
    obtain ⟨W5, hW5⟩ : ∃ W, ((W2.setCell ⟨g, q * 3, none⟩ (.int .i64 x.f0)).setCell ⟨g, q * 3 + 1, none⟩ (.string x.f1)).setCell ⟨g, q * 3 + 2, none⟩ (.slice Ax x.f2.length cx) = W := ⟨_, rfl⟩
    have KK : Kept W2 W5 (fun j => j = g) := by rw [← hW5]; exact (((Kept.refl W2 (fun j => j = g)).setCell (p := ⟨g, q * 3, none⟩) (.inl rfl) _).setCell (p := ⟨g, q * 3 + 1, none⟩) (.inl rfl) _).setCell (p := ⟨g, q * 3 + 2, none⟩) (.inl rfl) _
    have B5 := Aside0.mk (show Below w0.heap.size w0 W5 by have h_ := Kd.S_base S4.out g rfl; rw [← hW5]; exact below_set (below_set (below_set B4.out h_) h_) h_)
    rw [hW5] at S5
    have hgx := hPg.2
    have X5 := Aside0.mk (blk_kept X4.out KK (by omega))
    have Z5 := Aside0.mk (blk_kept Z4.out KK (by have := XY.out; have := YZ.out; omega))
    have S5 := Aside0.mk S5
    have K5 := Aside0.mk (K4.out.then_ KK (fun j hj => .inl (by rw [hj]; exact hPg.1.1)))
    have p0 : W5.cell? ⟨xg, 0, none⟩ = some (.slice (some ⟨g, 0, none⟩) C.length c) := (blk_cell X5.out 0).trans rfl
    have p1 : W5.cell? ⟨xg, 1, none⟩ = some (.slice A1 n1 c1) := (blk_cell X5.out 1).trans rfl
    have p2 : W5.cell? ⟨xg, 2, none⟩ = some (.int .i64 L) := (blk_cell X5.out 2).trans rfl
    have r0 : W5.cell? ⟨zg, 0, none⟩ = some (.slice none 0 0) := (blk_cell Z5.out 0).trans rfl
    have r1 : W5.cell? ⟨zg, 1, none⟩ = some (.slice none 0 0) := (blk_cell Z5.out 1).trans rfl
    have r2 : W5.cell? ⟨zg, 2, none⟩ = some (.int .i64 0) := (blk_cell Z5.out 2).trans rfl
    have s0 := blk_frozen Z5.out 0
    have s1 := blk_frozen Z5.out 1
    have s2 := blk_frozen Z5.out 2
    have ZB := Aside0.mk (show w0.heap.size ≤ zg by have := XY.out; have := YZ.out; have := BX.out; omega)
    have KZ := Aside0.mk (show w.heap.size ≤ zg by have := XY.out; have := YZ.out; have := HXG.out; omega)
    clear he hPg hfr3 KK hgx X4 Y4 Z4 S4 V4 B4 K4
    go_wp2
    refine bodyPost_ret (results_ct rfl _ _ zg 25 #[.slice (some ⟨g, 0, none⟩) C.length c, .slice A1 n1 c1, .int .i64 L] (0, 0) _ rfl (put3 Z5.out _ _ _) Try.underlying25 rfl (by kernel_rfl)) rfl ?_
    have e_ : freeFrom C 0 = ((0 + q : Nat) : Int) := free_hit C 0 q hql (by rw [HY.out]; exact HE.out) HN0.out
    have e2_ : newC C x = (C.set q x, q) := by
     unfold newC
     rw [if_neg (by unfold freeK; rw [e_]; omega)]
     unfold freeK
     rw [e_]
     simp
    rw [e2_]
    refine ⟨_, rfl, ?_, below_set (below_set (below_set B5.out ZB.out) ZB.out) ZB.out, ((K5.out.setCell (p := ⟨zg, 0, none⟩) (.inr KZ.out) _).setCell (p := ⟨zg, 1, none⟩) (.inr KZ.out) _).setCell (p := ⟨zg, 2, none⟩) (.inr KZ.out) _⟩
    have h5 := Kd.S_types S5.out Z5.out (by decide)
    rw [show C.length = (C.set q x).length from List.length_set.symm] at h5 ⊢
    exact Kd.S_mono (Kd.S_far (p := ⟨zg, 2, none⟩) (Kd.S_far (p := ⟨zg, 1, none⟩) (Kd.S_far (p := ⟨zg, 0, none⟩) h5 (fun _ hk => hk.2) _) (fun _ hk => hk.2) _) (fun _ hk => hk.2) _) (fun k hk => hk.1)
   ·have hE : (y.f0 == 0) = false := beq_eq_false_iff_ne.2 he
    have hE2 : (y.f0 = 0) = False := eq_false he
    have HE := Aside0.mk he
    clear he
    go_wp2
    go_roundw
    case rel => exact ⟨q + 1, hql, by go_num, ⟨fun n hn => by
     by_cases h : n = q
     ·subst h; rw [HY.out]; exact HE.out
     ·exact HN0.out n (by omega)⟩, X4, Y4, Z4, S4, V4, B4, K4⟩
    case measure => simp [intOf]; omega
  ·have hqq : ((q : Int) < (C.length : Int)) = False := eq_false (by omega)
   have HF := Aside0.mk (free_miss C 0 (fun n hn => HN0.out n (by omega)))
   have hql2 : q = C.length := by omega
   subst hql2
   clear HN0 hql hq
   have d0 : wr.cell? ⟨xg, 0, none⟩ = some (.slice A C.length c) := (blk_cell X3.out 0).trans rfl
   have x0 : wr.cell? ⟨yg, 0, none⟩ = some (.int .i64 x.f0) := (blk_cell Y3.out 0).trans rfl
   have x1 : wr.cell? ⟨yg, 1, none⟩ = some (.string x.f1) := (blk_cell Y3.out 1).trans rfl
   have x2 : wr.cell? ⟨yg, 2, none⟩ = some (.slice Ax x.f2.length cx) := (blk_cell Y3.out 2).trans rfl
   have hzl := blk_lt Z3.out
   go_wp2_with ((with_reducible refine gate_builtin (b := .append) (xs := #[.tmp 28, .tmp 30]) rfl ?_); at_builtin; refine Kd.S_append k68 (w0 := w0) (W := wr) w0.heap.size rfl (.tmp 28) (.tmp 30) 22 68 (.agg #[(.int .i64 0), (.string ⟨#[]⟩), (.slice none 0 0)]) 48 rfl Try.underlying22 info68 rfl (by decide) (by omega) (.slice A C.length c) C x [.int .i64 x.f0, .string x.f1, .slice Ax x.f2.length cx] (fun k => P k ∧ k ≠ xg ∧ k ≠ yg ∧ k ≠ zg) (fun k => some k = (Value.slice Ax x.f2.length cx).ownBlock) rfl rfl ?aP ?aK ?aF ?aO B3.out B3.out.size ?aL ?_; (case aP => exact cl_M.2 ⟨_, rfl, V3.out⟩); (case aK => exact fun k hk => (have h_ := LX.out k hk; have h1_ := XY.out; have h2_ := YZ.out; ⟨⟨XP.out k hk, by omega, by omega, by omega⟩, fun e_ => ((Kd.S_R S3.out).1 k e_.symm).1.2 hk⟩)); (case aF => exact fun k hk => (have h1_ := XY.out; have h2_ := YZ.out; ⟨FP.out k (by omega), by omega, by omega, by omega⟩)); (case aO => exact Kd.S_mono S3.out (fun k hk => (have h_ := hk.2; have h1_ := XY.out; have h2_ := YZ.out; ⟨⟨hk.1.1, by omega, by omega, by omega⟩, hk.1.2⟩))); (case aL => have := HN.out; omega); intro v3 w3 ho hb hg hat; (obtain ⟨A3, c3, e3⟩ := Kd.S_slice ho); (rw [List.length_append] at e3; replace e3 : v3 = .slice A3 (C.length + 1) c3 := e3; subst e3); (have hown := fun k (hk : some k = (Value.slice A C.length c).ownBlock) => (Kd.S_R S3.out).1 k hk.symm); (have X5 := Aside0.mk (blk_grown X3.out hg (fun e_ => absurd (hown xg e_).2 (Nat.lt_irrefl _)))); (have Z5 := Aside0.mk (blk_grown Z3.out hg (fun e_ => by have := (hown zg e_).2; have := XY.out; have := YZ.out; omega))); (have K5 := Aside0.mk (K3.out.of_grown hg (fun k hk => .inl (hown k hk.symm).1.1))); (have S5 := Aside0.mk ho); (have B5 := Aside0.mk hb); clear hg hat hown ho hb X3 Y3 Z3 S3 V3 B3 K3 d0 x0 x1 x2; (obtain ⟨w4, hw4⟩ : ∃ W, w3.setCell ⟨xg, 0, none⟩ (.slice A3 (C.length + 1) c3) = W := ⟨_, rfl⟩); (have d0 : w3.cell? ⟨xg, 0, none⟩ = some (.slice A C.length c) := (blk_cell X5.out 0).trans rfl); (have f0 := blk_frozen X5.out 0); (have S6 := Aside0.mk (show CS w4 w0.heap.size (fun k => P k ∧ k ≠ xg ∧ k ≠ yg ∧ k ≠ zg) (.slice A3 (C.length + 1) c3) (C ++ [x]) by rw [← hw4]; exact Kd.S_far (p := ⟨xg, 0, none⟩) S5.out (fun k hk => hk.2.1) _)); (have X6 := Aside0.mk (show w4.heap[xg]? = some (.cells #[.slice A3 (C.length + 1) c3, .slice A1 n1 c1, .int .i64 L] 25 (0, 0)) by rw [← hw4]; exact blk_put (cs := #[.slice A C.length c, .slice A1 n1 c1, .int .i64 L]) X5.out 0 _ rfl)); (have Z6 := Aside0.mk (show w4.heap[zg]? = some (.cells #[.slice none 0 0, .slice none 0 0, .int .i64 0] 25 (0, 0)) by rw [← hw4]; exact blk_far (p := ⟨xg, 0, none⟩) Z5.out (by have := XY.out; have := YZ.out; show zg ≠ xg; omega) _)); (have B6 := Aside0.mk (show Below w0.heap.size w0 w4 by rw [← hw4]; exact below_set B5.out BX.out)); (have K6 := Aside0.mk (show Kept w w4 P by rw [← hw4]; exact K5.out.setCell (p := ⟨xg, 0, none⟩) (.inr (Nat.le_of_eq HXG.out)) _)); clear X5 Z5 K5 S5 B5)
   clear hw4 d0 f0
   refine start_ (n := 7) (S := fun w' => w'.cell? ⟨xg, 0, none⟩ = some (.slice A3 (C.length + 1) c3) ∧ w'.cell? ⟨xg, 1, none⟩ = some (.slice A1 n1 c1) ∧ w'.cell? ⟨xg, 2, none⟩ = some (.int .i64 L)) (ds := []) #[false, false, false, false, false, false, false] (by kernel_rfl) rfl rfl ⟨(blk_cell X6.out 0).trans rfl, (blk_cell X6.out 1).trans rfl, (blk_cell X6.out 2).trans rfl⟩ (fun hHeld => ?_)
   replace X6 := Aside0.mk (blk_drew X6.out)
   replace Z6 := Aside0.mk (blk_drew Z6.out)
   replace S6 := Aside0.mk (Kd.S_drew S6.out)
   replace B6 := Aside0.mk (below_drew1 B6.out)
   replace K6 := Aside0.mk K6.out.drew
   generalize w4.drew = w5 at X6 Z6 S6 B6 K6 hHeld ⊢
   have v_ : wrap64 ((C.length : Int) + 1 - 1) = (C.length : Int) := by rw [show (C.length : Int) + 1 - 1 = (C.length : Int) by omega]; exact w64 (by omega) (by omega)
   refine take_ (i := 0) (N := some 33) (v := ?_) (a' := ?_) #[true, false, false, false, false, false, false] rfl rfl (by kernel_rfl) (fun _ _ _ h => h) (Or.inl ⟨by rfl, ?_⟩) hHeld ?_ ?_
   rotate_left
   ·rintro w' ⟨s0, s1, s2⟩
    go_simp
    with_reducible rfl
   rotate_left
   ·simp only [apu_]
    rfl
   refine take_ (i := 1) (N := some 34) (v := ?_) (a' := ?_) #[true, true, false, false, false, false, false] rfl rfl (by kernel_rfl) (fun _ _ _ h => h) (Or.inl ⟨by rfl, ?_⟩) hHeld ?_ ?_
   rotate_left
   ·rintro w' ⟨s0, s1, s2⟩
    go_simp
    with_reducible rfl
   rotate_left
   ·simp only [apu_]
    rfl
   refine take_ (i := 2) (N := some 35) (v := ?_) (a' := ?_) #[true, true, true, false, false, false, false] rfl rfl (by kernel_rfl) (fun _ _ _ h => h) (Or.inl ⟨by rfl, ?_⟩) hHeld ?_ ?_
   rotate_left
   ·rintro w' ⟨s0, s1, s2⟩
    go_simp
    with_reducible rfl
   rotate_left
   ·simp only [apu_]
    rfl
   refine take_ (i := 3) (N := some 36) (v := ?_) (a' := ?_) #[true, true, true, true, false, false, false] rfl rfl (by kernel_rfl) (fun _ _ _ h => h) (Or.inl ⟨by rfl, ?_⟩) hHeld ?_ ?_
   rotate_left
   ·rintro w' ⟨s0, s1, s2⟩
    go_simp
    with_reducible rfl
   rotate_left
   ·simp only [apu_]
    rfl
   refine take_ (i := 4) (N := some 37) (v := ?_) (a' := ?_) #[true, true, true, true, true, false, false] rfl rfl (by kernel_rfl) (fun _ _ _ h => h) (Or.inl ⟨by rfl, ?_⟩) hHeld ?_ ?_
   rotate_left
   ·rintro w' ⟨s0, s1, s2⟩
    go_simp
    with_reducible rfl
   rotate_left
   ·simp only [apu_]
    rfl
   have r0 : w5.cell? ⟨zg, 0, none⟩ = some (.slice none 0 0) := (blk_cell Z6.out 0).trans rfl
   have r1 : w5.cell? ⟨zg, 1, none⟩ = some (.slice none 0 0) := (blk_cell Z6.out 1).trans rfl
   have r2 : w5.cell? ⟨zg, 2, none⟩ = some (.int .i64 0) := (blk_cell Z6.out 2).trans rfl
   have s0 := blk_frozen Z6.out 0
   have s1 := blk_frozen Z6.out 1
   have s2 := blk_frozen Z6.out 2
   refine one_ (i := 5) (N := none) #[true, true, true, true, true, true, false] rfl rfl (by kernel_rfl) (by decide) (fun K hK => ?_)
   refine skip_ (w1 := ((w5.setCell ⟨zg, 0, none⟩ (.slice A3 (C.length + 1) c3)).setCell ⟨zg, 1, none⟩ (.slice A1 n1 c1)).setCell ⟨zg, 2, none⟩ (.int .i64 L)) (by rfl) rfl ?_ ?_
   ·first | (go_simp; done) | (go_simp; rfl)
   clear r0 r1 r2 s0 s1 s2
   have hzx : zg ≠ xg := by have := XY.out; have := YZ.out; omega
   have KZ : Kept w5 (((w5.setCell ⟨zg, 0, none⟩ (.slice A3 (C.length + 1) c3)).setCell ⟨zg, 1, none⟩ (.slice A1 n1 c1)).setCell ⟨zg, 2, none⟩ (.int .i64 L)) (fun j => j = zg) := (((Kept.refl w5 (fun j => j = zg)).setCell (p := ⟨zg, 0, none⟩) (.inl rfl) _).setCell (p := ⟨zg, 1, none⟩) (.inl rfl) _).setCell (p := ⟨zg, 2, none⟩) (.inl rfl) _
   have hzb : w0.heap.size ≤ zg := by have := XY.out; have := YZ.out; have := BX.out; omega
   have B7 := Aside0.mk (below_set (below_set (below_set B6.out hzb) hzb) hzb : Below w0.heap.size w0 (((w5.setCell ⟨zg, 0, none⟩ (.slice A3 (C.length + 1) c3)).setCell ⟨zg, 1, none⟩ (.slice A1 n1 c1)).setCell ⟨zg, 2, none⟩ (.int .i64 L)))
   have Z7 := Aside0.mk (put3 Z6.out (.slice A3 (C.length + 1) c3) (.slice A1 n1 c1) (.int .i64 L))
   have X7 := Aside0.mk (blk_kept X6.out KZ (Ne.symm hzx))
   have S7 := Aside0.mk (Kd.S_kept S6.out KZ (fun k hk => hk.2.2.2))
   have K7 := Aside0.mk (K6.out.then_ KZ (fun j hj => .inr (by rw [hj]; have := XY.out; have := YZ.out; have := HXG.out; omega)))
   clear X6 Z6 S6 B6 K6 KZ
   generalize ((w5.setCell ⟨zg, 0, none⟩ (.slice A3 (C.length + 1) c3)).setCell ⟨zg, 1, none⟩ (.slice A1 n1 c1)).setCell ⟨zg, 2, none⟩ (.int .i64 L) = w7 at B7 Z7 X7 S7 K7 ⊢
   refine hK.out _ _ ⟨(blk_cell X7.out 0).trans rfl, (blk_cell X7.out 1).trans rfl, (blk_cell X7.out 2).trans rfl⟩ (fun hHeld => ?_)
   clear hK K
   refine pure_ (i := 6) (N := some 5) (v := ?_) (a' := ?_) #[true, true, true, true, true, true, true] rfl rfl (by kernel_rfl) (fun _ _ _ h => h) (Or.inl ⟨by rfl, ?_⟩) ?_ ?_
   rotate_left
   ·intro w'
    go_simp
    with_reducible rfl
   rotate_left
   ·simp only [apu_]
    rfl
   refine done_ (by kernel_rfl) ?_
   clear hHeld
   try go_wp2
   refine bodyPost_ret (results_ct rfl _ _ zg 25 #[.slice A3 (C.length + 1) c3, .slice A1 n1 c1, .int .i64 L] (0, 0) _ rfl Z7.out Try.underlying25 rfl (by kernel_rfl)) rfl ?_
   have e_ : newC C x = (C ++ [x], C.length) := by
    unfold newC freeK
    rw [HF.out, if_pos (by omega)]
   rw [e_]
   exact ⟨_, (by show Ending.returned (.tuple #[.agg #[_, _, _], .int .i64 (wrap64 (C.length : Int))]) = _; rw [w64 (x := (C.length : Int)) (by omega) (by omega)]), Kd.S_mono S7.out (fun k hk => hk.1), B7.out, K7.out⟩
theorem keep3 {w W : World} {g : Nat} {S : Nat → Prop} {a b c : Value} (h : Kept w W S) (hg : S g ∨ w.heap.size ≤ g) : Kept w (((W.setCell ⟨g, 0, none⟩ a).setCell ⟨g, 1, none⟩ b).setCell ⟨g, 2, none⟩ c) S :=
 ((h.setCell (p := ⟨g, 0, none⟩) hg _).setCell (p := ⟨g, 1, none⟩) hg _).setCell (p := ⟨g, 2, none⟩) hg _
theorem below3 {w W : World} {g : Nat} {a b c : Value} (h : Below w.heap.size w W) (hg : w.heap.size ≤ g) : Below w.heap.size w (((W.setCell ⟨g, 0, none⟩ a).setCell ⟨g, 1, none⟩ b).setCell ⟨g, 2, none⟩ c) := below_set (below_set (below_set h hg) hg) hg
theorem far3 {W : World} {base g : Nat} {ok : Nat → Prop} {a b c v : Value} {C : List CL} {bx : Array Value} (h : CS W base ok v C) (hz : W.heap[g]? = some (.cells bx 25 (0, 0))) : CS (((W.setCell ⟨g, 0, none⟩ a).setCell ⟨g, 1, none⟩ b).setCell ⟨g, 2, none⟩ c) base ok v C :=
 Kd.S_mono (Kd.S_far (p := ⟨g, 2, none⟩) (Kd.S_far (p := ⟨g, 1, none⟩) (Kd.S_far (p := ⟨g, 0, none⟩) (Kd.S_types h hz (by decide)) (fun _ hk => hk.2) _) (fun _ hk => hk.2) _) (fun _ hk => hk.2) _) (fun _ hk => hk.1)
set_option maxHeartbeats 8000000 in
set_option maxRecDepth 100000 in
theorem ours_calls (L : Int) (n1 c1 c : Nat) (A1 A : Option Addr) (C : List CL) (P : Nat → Prop) (k : Int) (level : Nat) (o : List CL × Nat) (w0 w : World) (hB : Below w0.heap.size w0 w) (hS : CS w w0.heap.size P (.slice A C.length c) C) (hfP : ∀ k, w.heap.size ≤ k → P k) (hlv : level ≤ 1000 ∧ 1 ≤ level) (h : ownM C k level = some o) :
  Calls Try.prog 88 #[.agg #[.slice A C.length c, .slice A1 n1 c1, .int .i64 L], .int .i64 k, .int .i64 level] w fun e w' => ∃ v0, e = .returned (.tuple #[.agg #[v0, .slice A1 n1 c1, .int .i64 L], .int .i64 (o.2 : Int)]) ∧ CS w' w0.heap.size P v0 o.1 ∧ Below w0.heap.size w0 w' ∧ Kept w w' P := by
 have hu25 := Try.underlying25
 have hu68 := Try.underlying68
 have hu22 := Try.underlying22
 have hu23 := Try.underlying23
 obtain ⟨xg, hxg⟩ : ∃ xg, w.heap.size = xg := ⟨_, rfl⟩
 have FP := Aside0.mk (show ∀ k, xg ≤ k → P k from fun k hk => hfP k (hxg ▸ hk))
 have BX := Aside0.mk (show w0.heap.size ≤ xg from hxg ▸ hB.size)
 obtain ⟨W1, hW1⟩ : ∃ W, w.alloc (.cells #[.slice A C.length c, .slice A1 n1 c1, .int .i64 L] 25) = W := ⟨_, rfl⟩
 obtain ⟨W2, hW2⟩ : ∃ W, W1.alloc (.cells #[.slice none 0 0, .slice none 0 0, .int .i64 0] 25) = W := ⟨_, rfl⟩
 have hb1 : Below w.heap.size w W1 := by rw [← hW1]; exact below_alloc (Below.refl _ _) _
 have hb2 : Below W1.heap.size W1 W2 := by rw [← hW2]; exact below_alloc (Below.refl _ _) _
 have X1 : W1.heap[xg]? = some (.cells #[.slice A C.length c, .slice A1 n1 c1, .int .i64 L] 25 (0, 0)) := by rw [← hW1, ← hxg]; exact heap_alloc_new w _
 have Z2 := Aside0.mk (show W2.heap[W1.heap.size]? = some (.cells #[.slice none 0 0, .slice none 0 0, .int .i64 0] 25 (0, 0)) by rw [← hW2]; exact heap_alloc_new W1 _)
 have hb := below_step hb1 hb2
 have XZ := Aside0.mk (show xg < W1.heap.size from blk_lt X1)
 have X2 := Aside0.mk (blk_below X1 hb2)
 have S2 := Aside0.mk (show CS W2 w0.heap.size (fun k => P k ∧ k < xg) (.slice A C.length c) C from Kd.S_below (Kd.S_mono (Kd.S_bound hS) (fun k hk => ⟨hk.1, hxg ▸ hk.2.2.1⟩)) hb)
 have B2 := Aside0.mk (below_then hB hB.size hb)
 have K2 := Aside0.mk (Kept.of_below hb P)
 have HXG := Aside0.mk hxg
 clear hb1 hb2 hb X1 hB hfP
 have d0 : W2.cell? ⟨xg, 0, none⟩ = some (.slice A C.length c) := (blk_cell X2.out 0).trans rfl
 have d1 : W2.cell? ⟨xg, 1, none⟩ = some (.slice A1 n1 c1) := (blk_cell X2.out 1).trans rfl
 have d2 : W2.cell? ⟨xg, 2, none⟩ = some (.int .i64 L) := (blk_cell X2.out 2).trans rfl
 unfold ownM at h
 by_cases hn : C.length ≤ 1000000
 ·rw [if_pos hn] at h
  have HN := Aside0.mk hn
  by_cases hk0 : k < 0
  ·rw [if_pos hk0] at h
   have e_ := Option.some.inj h
   subst e_
   have t1 : (k ≥ 0) = False := eq_false (by omega)
   have t2 : (0 ≤ k) = False := eq_false (by omega)
   clear h hn hk0 hS
   by_cases hl1 : level = 1
   ·subst hl1
    obtain ⟨W3, W4, hW3, hW4, y0, y1, y2, z0, z1, z2, Y4, BL⟩ := local_cell W2 (.int .i64 1) (.string ⟨#[]⟩) (.slice none 0 0)
    have ZY := Aside0.mk (show W1.heap.size < W2.heap.size from blk_lt Z2.out)
    have X4 := Aside0.mk (blk_below X2.out BL.out)
    have Z4 := Aside0.mk (blk_below Z2.out BL.out)
    have S4 := Aside0.mk (Kd.S_below S2.out BL.out)
    have B4 := Aside0.mk (below_then B2.out B2.out.size BL.out)
    have K4 := Aside0.mk (K2.out.below BL.out)
    have dd0 : W4.cell? ⟨xg, 0, none⟩ = some (.slice A C.length c) := (blk_cell X4.out 0).trans rfl
    have dd1 : W4.cell? ⟨xg, 1, none⟩ = some (.slice A1 n1 c1) := (blk_cell X4.out 1).trans rfl
    have dd2 : W4.cell? ⟨xg, 2, none⟩ = some (.int .i64 L) := (blk_cell X4.out 2).trans rfl
    have yy0 : W4.cell? ⟨W2.heap.size, 0, none⟩ = some (.int .i64 1) := (blk_cell Y4.out 0).trans rfl
    have yy1 : W4.cell? ⟨W2.heap.size, 1, none⟩ = some (.string ⟨#[]⟩) := (blk_cell Y4.out 1).trans rfl
    have yy2 : W4.cell? ⟨W2.heap.size, 2, none⟩ = some (.slice none 0 0) := (blk_cell Y4.out 2).trans rfl
    have T := Aside0.mk (new_calls L n1 c1 c A1 A C (fun k => P k ∧ k ≠ xg ∧ k ≠ W1.heap.size) ⟨1, ⟨#[]⟩, []⟩ (.slice none 0 0) w0 W4 B4.out (Kd.S_mono S4.out (fun k hk => (have h_ := hk.2; have h1_ := XZ.out; ⟨⟨hk.1, by omega, by omega⟩, fun e_ => by cases e_⟩))) (Kd.R_nil _ _ _ _ _) (fun k hk => by cases hk) (fun k hk => (have h_ := blk_lt Y4.out; have h1_ := XZ.out; have h2_ := ZY.out; ⟨FP.out k (by omega), by omega, by omega⟩)) HN.out)
    have Z5_ := Z4
    have K5_ := K4
    go_enter Try.func88, Try.ntmps88
    go_wp2_with (go_at_call 92; refine T.out.mono ?_; (first | rintro e w9 v0 rfl hS9 hB9 hK9 | rintro e w9 ⟨v0, rfl, hS9, hB9, hK9⟩); (obtain ⟨A9, c9, rfl⟩ := Kd.S_slice hS9); (have Z9 := Aside0.mk (blk_kept Z5_.out hK9 (fun h_ => h_.2.2 rfl))); (have S9 := Aside0.mk hS9); (have B9 := Aside0.mk hB9); (have K9 := Aside0.mk (K5_.out.then_ hK9 (fun j hj => .inl hj.1))); (have r0 : w9.cell? ⟨W1.heap.size, 0, none⟩ = some (.slice none 0 0) := (blk_cell Z9.out 0).trans rfl); (have r1 : w9.cell? ⟨W1.heap.size, 1, none⟩ = some (.slice none 0 0) := (blk_cell Z9.out 1).trans rfl); (have r2 : w9.cell? ⟨W1.heap.size, 2, none⟩ = some (.int .i64 0) := (blk_cell Z9.out 2).trans rfl); (have s0 := blk_frozen Z9.out 0); (have s1 := blk_frozen Z9.out 1); (have s2 := blk_frozen Z9.out 2); clear hS9 hB9 hK9)
    refine bodyPost_ret (results_ct rfl _ _ W1.heap.size 25 #[.slice A9 _ c9, .slice A1 n1 c1, .int .i64 L] (0, 0) _ rfl (put3 Z9.out _ _ _) Try.underlying25 rfl (by kernel_rfl)) rfl ?_
    have hz : xg ≤ W1.heap.size := Nat.le_of_lt XZ.out
    exact ⟨_, rfl, Kd.S_mono (far3 S9.out Z9.out) (fun k hk => hk.1), below3 B9.out (Nat.le_trans BX.out hz), keep3 K9.out (.inr (HXG.out ▸ hz))⟩
   ·obtain ⟨W3, W4, hW3, hW4, y0, y1, y2, z0, z1, z2, Y4, BL⟩ := local_cell W2 (.int .i64 1) (.string ⟨#[]⟩) (.slice none 0 0)
    have ZY := Aside0.mk (show W1.heap.size < W2.heap.size from blk_lt Z2.out)
    have X4 := Aside0.mk (blk_below X2.out BL.out)
    have Z4 := Aside0.mk (blk_below Z2.out BL.out)
    have S4 := Aside0.mk (Kd.S_below S2.out BL.out)
    have B4 := Aside0.mk (below_then B2.out B2.out.size BL.out)
    have K4 := Aside0.mk (K2.out.below BL.out)
    have dd0 : W4.cell? ⟨xg, 0, none⟩ = some (.slice A C.length c) := (blk_cell X4.out 0).trans rfl
    have dd1 : W4.cell? ⟨xg, 1, none⟩ = some (.slice A1 n1 c1) := (blk_cell X4.out 1).trans rfl
    have dd2 : W4.cell? ⟨xg, 2, none⟩ = some (.int .i64 L) := (blk_cell X4.out 2).trans rfl
    obtain ⟨W5, hW5⟩ : ∃ W, W4.alloc (.cells #[.int .i64 (-1), .int .i64 (-1), .int .i64 (-1), .int .i64 (-1)] 3) = W := ⟨_, rfl⟩
    obtain ⟨W6, hW6⟩ : ∃ W, W5.setCell ⟨W2.heap.size, 2, none⟩ (.slice (some ⟨W4.heap.size, 0, none⟩) 4 4) = W := ⟨_, rfl⟩
    have hb5 : Below W4.heap.size W4 W5 := by rw [← hW5]; exact below_alloc (Below.refl _ _) _
    have Y5 := blk_below Y4.out hb5
    have ly2 : W5.cell? ⟨W2.heap.size, 2, none⟩ = some (.slice none 0 0) := (blk_cell Y5 2).trans rfl
    have lz2 := blk_frozen Y5 2
    have ZY2 := Aside0.mk (show W2.heap.size < W4.heap.size from blk_lt Y4.out)
    have KK6 : Kept W4 W6 (fun j => j = W2.heap.size) := by rw [← hW6]; exact (Kept.of_below hb5 (fun j => j = W2.heap.size)).setCell (p := ⟨W2.heap.size, 2, none⟩) (.inl rfl) _
    have X6 := Aside0.mk (blk_kept X4.out KK6 (by have := XZ.out; have := ZY.out; omega))
    have Z6 := Aside0.mk (blk_kept Z4.out KK6 (by have := ZY.out; omega))
    have Y6 := Aside0.mk (show W6.heap[W2.heap.size]? = some (.cells #[.int .i64 1, .string ⟨#[]⟩, .slice (some ⟨W4.heap.size, 0, none⟩) 4 4] 68 (0, 0)) by rw [← hW6]; exact blk_put (cs := #[.int .i64 1, .string ⟨#[]⟩, .slice none 0 0]) Y5 2 _ rfl)
    have S6 := Aside0.mk (Kd.S_kept S4.out KK6 (fun k hk => by have := hk.2; have := XZ.out; have := ZY.out; omega))
    have B6 := Aside0.mk (show Below w0.heap.size w0 W6 by rw [← hW6]; exact below_set (below_then B4.out B4.out.size hb5) (by have := BX.out; have := XZ.out; have := ZY.out; omega))
    have K6 := Aside0.mk (K4.out.then_ KK6 (fun j hj => .inr (by rw [hj]; have := HXG.out; have := XZ.out; have := ZY.out; omega)))
    have V6 := Aside0.mk (show IR W6 w0.heap.size (fun k => some k = (Value.slice (some ⟨W4.heap.size, 0, none⟩) 4 4).ownBlock) (.slice (some ⟨W4.heap.size, 0, none⟩) 4 4) [-1, -1, -1, -1] by
     have h_ : (W4.alloc (Obj.cells #[.int .i64 (-1), .int .i64 (-1), .int .i64 (-1), .int .i64 (-1)] 3)).ownsRow W4.heap.size 3 1 (Value.slice (some ⟨W4.heap.size, 0, none⟩) 4 4) 4 [.int .i64 (-1), .int .i64 (-1), .int .i64 (-1), .int .i64 (-1)] := by simpa using World.ownsRow_lit (base := W4.heap.size) (e := 3) (size := 1) W4 #[.int .i64 (-1), .int .i64 (-1), .int .i64 (-1), .int .i64 (-1)] 4 (Nat.le_refl _) (by decide) (by simp)
     have h2_ : IR W5 w0.heap.size (fun k => some k = (Value.slice (some ⟨W4.heap.size, 0, none⟩) 4 4).ownBlock) (.slice (some ⟨W4.heap.size, 0, none⟩) 4 4) [-1, -1, -1, -1] := by
      rw [← hW5]
      exact Kd.R_lower (Kd.R_of_own (xs := [(-1 : Int), -1, -1, -1]) (enc := Value.int .i64) h_ (fun _ hk => hk.symm)) B4.out.size
     rw [← hW6]
     exact Kd.R_far (p := ⟨W2.heap.size, 2, none⟩) h2_ (fun j hj => by have h3_ : j = W4.heap.size := Option.some.inj hj; have := ZY2.out; show j ≠ W2.heap.size; omega) _)
    have d60 : W6.cell? ⟨xg, 0, none⟩ = some (.slice A C.length c) := (blk_cell X6.out 0).trans rfl
    have d61 : W6.cell? ⟨xg, 1, none⟩ = some (.slice A1 n1 c1) := (blk_cell X6.out 1).trans rfl
    have d62 : W6.cell? ⟨xg, 2, none⟩ = some (.int .i64 L) := (blk_cell X6.out 2).trans rfl
    have yy0 : W6.cell? ⟨W2.heap.size, 0, none⟩ = some (.int .i64 1) := (blk_cell Y6.out 0).trans rfl
    have yy1 : W6.cell? ⟨W2.heap.size, 1, none⟩ = some (.string ⟨#[]⟩) := (blk_cell Y6.out 1).trans rfl
    have yy2 : W6.cell? ⟨W2.heap.size, 2, none⟩ = some (.slice (some ⟨W4.heap.size, 0, none⟩) 4 4) := (blk_cell Y6.out 2).trans rfl
    have hq : ((level : Int) > 1) = True := eq_true (by omega)
    have hq2 : (1 < (level : Int)) = True := eq_true (by omega)
    have hq3 : (1 < level) = True := eq_true (by omega)
    have T := Aside0.mk (new_calls L n1 c1 c A1 A C (fun k => P k ∧ k ≠ xg ∧ k ≠ W1.heap.size) ⟨1, ⟨#[]⟩, [-1, -1, -1, -1]⟩ (.slice (some ⟨W4.heap.size, 0, none⟩) 4 4) w0 W6 B6.out (Kd.S_mono S6.out (fun k hk => (have h_ := hk.2; have h1_ := XZ.out; have h2_ := ZY2.out; have h3_ := ZY.out; ⟨⟨hk.1, by omega, by omega⟩, fun e_ => by have h4_ : k = W4.heap.size := Option.some.inj e_; omega⟩))) V6.out (fun k hk => (have h4_ : k = W4.heap.size := Option.some.inj hk; have h1_ := XZ.out; have h2_ := ZY2.out; have h3_ := ZY.out; ⟨FP.out k (by omega), by omega, by omega⟩)) (fun k hk => (have h_ := KK6.1; have h1_ := XZ.out; have h2_ := ZY.out; have h3_ := ZY2.out; ⟨FP.out k (by omega), by omega, by omega⟩)) HN.out)
    have Z5_ := Z6
    have K5_ := K6
    rw [if_neg hl1]
    clear KK6 hb5 Y5
    go_enter Try.func88, Try.ntmps88
    go_wp2_with (go_at_call 92; refine T.out.mono ?_; (first | rintro e w9 v0 rfl hS9 hB9 hK9 | rintro e w9 ⟨v0, rfl, hS9, hB9, hK9⟩); (obtain ⟨A9, c9, rfl⟩ := Kd.S_slice hS9); (have Z9 := Aside0.mk (blk_kept Z5_.out hK9 (fun h_ => h_.2.2 rfl))); (have S9 := Aside0.mk hS9); (have B9 := Aside0.mk hB9); (have K9 := Aside0.mk (K5_.out.then_ hK9 (fun j hj => .inl hj.1))); (have r0 : w9.cell? ⟨W1.heap.size, 0, none⟩ = some (.slice none 0 0) := (blk_cell Z9.out 0).trans rfl); (have r1 : w9.cell? ⟨W1.heap.size, 1, none⟩ = some (.slice none 0 0) := (blk_cell Z9.out 1).trans rfl); (have r2 : w9.cell? ⟨W1.heap.size, 2, none⟩ = some (.int .i64 0) := (blk_cell Z9.out 2).trans rfl); (have s0 := blk_frozen Z9.out 0); (have s1 := blk_frozen Z9.out 1); (have s2 := blk_frozen Z9.out 2); clear hS9 hB9 hK9)
    refine bodyPost_ret (results_ct rfl _ _ W1.heap.size 25 #[.slice A9 _ c9, .slice A1 n1 c1, .int .i64 L] (0, 0) _ rfl (put3 Z9.out _ _ _) Try.underlying25 rfl (by kernel_rfl)) rfl ?_
    have hz : xg ≤ W1.heap.size := Nat.le_of_lt XZ.out
    exact ⟨_, rfl, Kd.S_mono (far3 S9.out Z9.out) (fun k hk => hk.1), below3 B9.out (Nat.le_trans BX.out hz), keep3 K9.out (.inr (HXG.out ▸ hz))⟩
  ·rw [if_neg hk0] at h
   by_cases hkC : k < (C.length : Int)
   ·rw [if_pos hkC] at h
    obtain ⟨g, cap, hv, _, hglt, _⟩ := Kd.S_form S2.out (by omega)
    injection hv with hA hn_ hc
    subst hA hc
    clear hn_
    obtain ⟨_, v, e0, e1, e2, hfr, _, hR, _⟩ := cs_elem S2.out k (by omega) hkC
    have t1 : (k ≥ 0) = True := eq_true (by omega)
    have t2 : (0 ≤ k) = True := eq_true (by omega)
    have t3 : (k < (C.length : Int)) = True := eq_true hkC
    obtain ⟨x, hx⟩ : ∃ x, rd_T68 C k = x := ⟨_, rfl⟩
    rw [hx] at e0 e1 h hR
    by_cases h1 : x.f0 = 1
    ·rw [if_pos h1] at h
     have e_ := Option.some.inj h
     subst e_
     have t4 : (x.f0 = 1) = True := eq_true h1
     have t5 : (x.f0 == 1) = true := by simpa using h1
     have HK := Aside0.mk (show 0 ≤ k by omega)
     have r0 : W2.cell? ⟨W1.heap.size, 0, none⟩ = some (.slice none 0 0) := (blk_cell Z2.out 0).trans rfl
     have r1 : W2.cell? ⟨W1.heap.size, 1, none⟩ = some (.slice none 0 0) := (blk_cell Z2.out 1).trans rfl
     have r2 : W2.cell? ⟨W1.heap.size, 2, none⟩ = some (.int .i64 0) := (blk_cell Z2.out 2).trans rfl
     have s0 := blk_frozen Z2.out 0
     have s1 := blk_frozen Z2.out 1
     have s2 := blk_frozen Z2.out 2
     clear h1 h hk0 hfr hn hkC hlv hx hS
     go_enter Try.func88, Try.ntmps88
     go_wp2
     refine bodyPost_ret (results_ct rfl _ _ W1.heap.size 25 #[.slice (some ⟨g, 0, none⟩) _ c, .slice A1 n1 c1, .int .i64 L] (0, 0) _ rfl (put3 Z2.out _ _ _) Try.underlying25 rfl (by kernel_rfl)) rfl ?_
     have hz : xg ≤ W1.heap.size := Nat.le_of_lt XZ.out
     have hk_ := HK.out
     exact ⟨_, by rw [Int.toNat_of_nonneg hk_]; rfl, Kd.S_mono (far3 S2.out Z2.out) (fun k hk => hk.1), below3 B2.out (Nat.le_trans BX.out hz), keep3 K2.out (.inr (HXG.out ▸ hz))⟩
    ·rw [if_neg h1] at h
     by_cases hkl : x.f2.length ≤ 1048576
     ·rw [if_pos hkl] at h
      obtain ⟨D, hD, h⟩ := Option.bind_eq_some_iff.1 h
      have e_ := Option.some.inj h
      subst e_
      obtain ⟨y, hy⟩ : ∃ y, wrap64 (x.f0 - 1) = y := ⟨_, rfl⟩
      rw [hy] at hD
      have t4 : (x.f0 = 1) = False := eq_false h1
      have t5 : (x.f0 == 1) = false := beq_eq_false_iff_ne.2 h1
      by_cases hl1 : level = 1
      ·subst hl1
       obtain ⟨W3, W4, hW3, hW4, y0, y1, y2, z0, z1, z2, Y4, BL⟩ := local_cell W2 (.int .i64 1) (.string ⟨#[]⟩) (.slice none 0 0)
       have ZY := Aside0.mk (show W1.heap.size < W2.heap.size from blk_lt Z2.out)
       have X4 := Aside0.mk (blk_below X2.out BL.out)
       have Z4 := Aside0.mk (blk_below Z2.out BL.out)
       have S4 := Aside0.mk (Kd.S_below S2.out BL.out)
       have B4 := Aside0.mk (below_then B2.out B2.out.size BL.out)
       have K4 := Aside0.mk (K2.out.below BL.out)
       have dd0 : W4.cell? ⟨xg, 0, none⟩ = some (.slice (some ⟨g, 0, none⟩) C.length c) := (blk_cell X4.out 0).trans rfl
       have dd1 : W4.cell? ⟨xg, 1, none⟩ = some (.slice A1 n1 c1) := (blk_cell X4.out 1).trans rfl
       have dd2 : W4.cell? ⟨xg, 2, none⟩ = some (.int .i64 L) := (blk_cell X4.out 2).trans rfl
       have yy0 : W4.cell? ⟨W2.heap.size, 0, none⟩ = some (.int .i64 1) := (blk_cell Y4.out 0).trans rfl
       have yy1 : W4.cell? ⟨W2.heap.size, 1, none⟩ = some (.string ⟨#[]⟩) := (blk_cell Y4.out 1).trans rfl
       have yy2 : W4.cell? ⟨W2.heap.size, 2, none⟩ = some (.slice none 0 0) := (blk_cell Y4.out 2).trans rfl
       have YL := Aside0.mk (show W2.heap.size < W4.heap.size from blk_lt Y4.out)
       obtain ⟨_, v_, f0, f1, f2, hfr4, _, hR4, _⟩ := cs_elem S4.out k (by omega) hkC
       rw [hx] at f0 f1 hR4
       obtain ⟨Ak, ck, rfl⟩ := Kd.R_slice hR4
       obtain ⟨W7, hW7⟩ : ∃ W, W4.setCell ⟨W2.heap.size, 1, none⟩ (.string x.f1) = W := ⟨_, rfl⟩
       have yf1 := blk_frozen Y4.out 1
       have KK7 : Kept W4 W7 (fun j => j = W2.heap.size) := by rw [← hW7]; exact (Kept.refl W4 (fun j => j = W2.heap.size)).setCell (p := ⟨W2.heap.size, 1, none⟩) (.inl rfl) _
       have X7 := Aside0.mk (blk_kept X4.out KK7 (by have := XZ.out; have := ZY.out; omega))
       have Z7 := Aside0.mk (blk_kept Z4.out KK7 (by have := ZY.out; omega))
       have Y7 := Aside0.mk (show W7.heap[W2.heap.size]? = some (.cells #[.int .i64 1, .string x.f1, .slice none 0 0] 68 (0, 0)) by rw [← hW7]; exact blk_put (cs := #[.int .i64 1, .string ⟨#[]⟩, .slice none 0 0]) Y4.out 1 _ rfl)
       have S7 := Aside0.mk (Kd.S_kept S4.out KK7 (fun k hk => by have := hk.2; have := XZ.out; have := ZY.out; omega))
       have B7 := Aside0.mk (show Below w0.heap.size w0 W7 by rw [← hW7]; exact below_set B4.out (by have := BX.out; have := XZ.out; have := ZY.out; omega))
       have K7 := Aside0.mk (K4.out.then_ KK7 (fun j hj => .inr (by rw [hj]; have := HXG.out; have := XZ.out; have := ZY.out; omega)))
       have YL7 := Aside0.mk (show W2.heap.size < W7.heap.size from blk_lt Y7.out)
       have d70 : W7.cell? ⟨xg, 0, none⟩ = some (.slice (some ⟨g, 0, none⟩) C.length c) := (blk_cell X7.out 0).trans rfl
       obtain ⟨_, v7_, h70, h71, h72, hfr7, _, hR7, _⟩ := cs_elem S7.out k (by omega) hkC
       rw [hx] at h70 h71 hR7
       obtain ⟨Ak7, ck7, rfl⟩ := Kd.R_slice hR7
       have C7 := Aside0.mk (Kd.R_reads' hR7).2.2
       have HKL := Aside0.mk hkl
       have hkl2 : x.f2.length ≤ 9223372036854775807 := by omega
       have HD := Aside0.mk hD
       have HX := Aside0.mk hx
       have KC := Aside0.mk (show 0 ≤ k ∧ k < (C.length : Int) by omega)
       have NL := Aside0.mk (show C.length = C.length from rfl)
       generalize hnn : C.length = n at *
       replace NL := Aside0.mk hnn
       clear h1 h hk0 hfr hn hkC hlv hx hS hD hkl hfr4 hR4 hR7 hfr7 KK7 hnn f2
       go_enter Try.func88, Try.ntmps88
       go_wp2_with (first
        | ((with_reducible refine gate_dst (N := 38) rfl ?_); refine Kd.R_lit (Kd.int .i64) W7.heap.size 3 ?hg (N := 38) ?hd (xs := ([] : List Int)) (inner := []) (ok := fun _ => True) (okp := fun _ => True) ?hr ?hp (fun _ hk => hk) trivial (Below.refl W7.heap.size W7) (Nat.le_refl _) (by simp) ?_; (case hd => rfl); (case hg => rfl); (case hr => first | (go_simp; done) | (go_simp; rfl)); (case hp => exact (Reps.none _ _)); intro v8 w8 ho8 hb8 hg_ hnew_; clear hg_ hnew_; have HO8 := Aside0.mk ho8; have HB8 := Aside0.mk hb8; (have d80 : w8.cell? ⟨xg, 0, none⟩ = some (.slice (some ⟨g, 0, none⟩) n c) := (blk_cell (blk_below X7.out hb8) 0).trans rfl); (have d82 := cell_kept h72 (Kept.of_below hb8 (fun _ => False)) id); clear ho8 hb8)
        | ((with_reducible refine gate_builtin (b := .append) (xs := #[.tmp 38, .tmp 44]) rfl ?_); at_builtin; refine Kd.R_append_rows (Kd.int .i64) (w0 := W7) W7.heap.size rfl (.tmp 38) (.tmp 44) 23 3 (.int .i64 0) 8 rfl Try.underlying23 info3 rfl (by decide) (by omega) v8 [] x.f2 _ _ _ (fun _ => True) (fun _ => False) rfl rfl HO8.out (Kd.C_below C7.out HB8.out) (fun _ _ h => h) (fun _ h => h.elim) (fun _ _ => trivial) HB8.out HB8.out.size (by have := HKL.out; simp; omega) ?_; intro v9 w9 hr hb hg_ hat_; clear hg_ hat_ HO8 HB8 d80 d82; (replace hr : IR w9 W7.heap.size (fun _ => True) v9 x.f2 := hr); (obtain ⟨Ac, cc, rfl⟩ := Kd.R_slice hr); (have VC := Aside0.mk (show ∀ j, some j = (Value.slice Ac x.f2.length cc).ownBlock → W7.heap.size ≤ j from fun j hj => Kd.R_base hr j hj.symm)); (obtain ⟨W10, hW10⟩ : ∃ W, w9.setCell ⟨W2.heap.size, 2, none⟩ (.slice Ac x.f2.length cc) = W := ⟨_, rfl⟩); (have Y9 := blk_below Y7.out hb); (have q2 : w9.cell? ⟨W2.heap.size, 2, none⟩ = some (.slice none 0 0) := (blk_cell Y9 2).trans rfl); (have qz2 := blk_frozen Y9 2); (have KK10 : Kept w9 W10 (fun j => j = W2.heap.size) := by rw [← hW10]; exact (Kept.refl w9 (fun j => j = W2.heap.size)).setCell (p := ⟨W2.heap.size, 2, none⟩) (.inl rfl) _); (have X10 := Aside0.mk (blk_kept (blk_below X7.out hb) KK10 (by have := XZ.out; have := ZY.out; omega))); (have Z10 := Aside0.mk (blk_kept (blk_below Z7.out hb) KK10 (by have := ZY.out; omega))); (have Y10 := Aside0.mk (show W10.heap[W2.heap.size]? = some (.cells #[.int .i64 1, .string x.f1, .slice Ac x.f2.length cc] 68 (0, 0)) by rw [← hW10]; exact blk_put (cs := #[.int .i64 1, .string x.f1, .slice none 0 0]) Y9 2 _ rfl)); (have S10 := Aside0.mk (Kd.S_kept (Kd.S_below S7.out hb) KK10 (fun k hk => by have := hk.2; have := XZ.out; have := ZY.out; omega))); (have V10 := Aside0.mk (Kd.R_kept (Kd.R_of_own (Kd.own_of_R (Kd.R_lower hr B7.out.size)) (fun j hj => hj.symm) : IR w9 w0.heap.size (fun j => some j = (Value.slice Ac x.f2.length cc).ownBlock) (.slice Ac x.f2.length cc) x.f2) KK10 (fun j hj => by have := VC.out j hj; have := YL7.out; omega))); (have B10 := Aside0.mk (show Below w0.heap.size w0 W10 by rw [← hW10]; exact below_set (below_then B7.out B7.out.size hb) (by have := BX.out; have := XZ.out; have := ZY.out; omega))); (have K10 := Aside0.mk ((K7.out.below hb).then_ KK10 (fun j hj => .inr (by rw [hj]; have := HXG.out; have := XZ.out; have := ZY.out; omega)))); (obtain ⟨_, va_, ha0, ha1, ha2, hfra, _, hRa, _⟩ := cs_elem S10.out k KC.out.1 (by have := KC.out.2; omega)); (rw [HX.out] at ha0); (have fra : W10.frozen? ⟨g, k.toNat * 3, none⟩ = false := hfra 0); (have da0 : W10.cell? ⟨xg, 0, none⟩ = some (.slice (some ⟨g, 0, none⟩) n c) := (blk_cell X10.out 0).trans rfl); (obtain ⟨W11, hW11⟩ : ∃ W, W10.setCell ⟨g, k.toNat * 3, none⟩ (.int .i64 y) = W := ⟨_, rfl⟩); (have hPg := (Kd.S_R S10.out).1 g rfl); (have KK11 : Kept W10 W11 (fun j => j = g) := by rw [← hW11]; exact (Kept.refl W10 (fun j => j = g)).setCell (p := ⟨g, k.toNat * 3, none⟩) (.inl rfl) _); (have X11 := Aside0.mk (blk_kept X10.out KK11 (by have := hPg.2; omega))); (have Z11 := Aside0.mk (blk_kept Z10.out KK11 (by have := hPg.2; have := XZ.out; omega))); (have Y11 := Aside0.mk (blk_kept Y10.out KK11 (by have := hPg.2; have := XZ.out; have := ZY.out; omega))); (have S11 := Aside0.mk (show CS W11 w0.heap.size (fun k => P k ∧ k < xg) (.slice (some ⟨g, 0, none⟩) n c) (C.set k.toNat ⟨y, x.f1, x.f2⟩) by rw [← hW11]; have h_ := cs_put0 S10.out k KC.out.1 (by have := KC.out.2; omega) y; rw [HX.out] at h_; exact h_)); (have V11 := Aside0.mk (Kd.R_kept V10.out KK11 (fun j hj => by have := VC.out j hj; have := YL7.out; have := hPg.2; have := XZ.out; have := ZY.out; omega))); (have B11 := Aside0.mk (show Below w0.heap.size w0 W11 by rw [← hW11]; exact below_set B10.out (Kd.S_base S10.out g rfl))); (have K11 := Aside0.mk (K10.out.then_ KK11 (fun j hj => .inl (by rw [hj]; exact hPg.1)))); (have yb2 : W11.cell? ⟨W2.heap.size, 2, none⟩ = some (.slice Ac x.f2.length cc) := (blk_cell Y11.out 2).trans rfl); clear hr hb Y9 KK10 KK11 hPg hfra hRa))
       clear d0 d1 d2 dd0 dd1 dd2 yy0 yy1 yy2 f0 f1 d70 h70 h71 h72 q2 qz2 ha0 ha1 ha2 fra da0 hW1 hW2 hW3 hW4 hW7 hW10 hW11 yb2 y0 y1 y2 z0 z1 z2 yf1
       go_loopw [10, 59] (fun v10 vi wr => ∃ (q : Nat) (E : List CL), q ≤ x.f2.length ∧ vi = .int .i64 q ∧ Aside0 (incL (x.f2.drop q) E = some D) ∧ Aside0 (CS wr w0.heap.size (fun k => P k ∧ k < xg) (.slice (some ⟨g, 0, none⟩) n c) E) ∧ Aside0 (wr.heap[xg]? = some (.cells #[.slice (some ⟨g, 0, none⟩) n c, .slice A1 n1 c1, .int .i64 L] 25 (0, 0))) ∧ Aside0 (wr.heap[W1.heap.size]? = some (.cells #[.slice none 0 0, .slice none 0 0, .int .i64 0] 25 (0, 0))) ∧ Aside0 (wr.heap[W2.heap.size]? = some (.cells #[.int .i64 1, .string x.f1, .slice Ac x.f2.length cc] 68 (0, 0))) ∧ Aside0 (IR wr w0.heap.size (fun j => some j = (Value.slice Ac x.f2.length cc).ownBlock) (.slice Ac x.f2.length cc) x.f2) ∧ Aside0 (Below w0.heap.size w0 wr) ∧ Aside0 (Kept w wr P)) (fun v10 vi _ => x.f2.length - (intOf vi).toNat)
       case atStart => exact ⟨0, _, Nat.zero_le _, rfl, ⟨by rw [List.drop_zero]; exact HD.out⟩, S11, X11, Z11, Y11, V11, B11, K11⟩
       case round =>
        clear HD S11 X11 Z11 Y11 V11 B11 K11
        obtain ⟨q, E, hq, rfl, HL, S3, X3, Z3, Y3, V3, B3, K3⟩ := hrel
        by_cases hql : q < x.f2.length
        ·have hqq : ((q : Int) < (x.f2.length : Int)) = True := eq_true (by omega)
         obtain ⟨ad2, e3, hy2⟩ := Kd.at_int (Kd.R_reads' V3.out).2.2 (q : Int) (by omega) (by omega)
         subst e3
         simp only [Int.toNat_natCast] at hy2
         obtain ⟨z, hz⟩ : ∃ z, rd x.f2 (q : Int) = z := ⟨_, rfl⟩
         rw [hz] at hy2
         have hd : x.f2.drop q = z :: x.f2.drop (q + 1) := by
          rw [List.drop_eq_getElem_cons hql, ← hz]
          congr 1
          unfold rd
          rw [List.getD_eq_getElem?_getD, Int.toNat_natCast, List.getElem?_eq_getElem hql]
          rfl
         have h2 := HL.out
         rw [hd] at h2
         simp only [incL] at h2
         clear hd hz HL
         by_cases hz0 : 0 ≤ z
         ·rw [if_pos hz0] at h2
          by_cases hzE : z < (E.length : Int)
          ·rw [if_pos hzE] at h2
           have hEn := cs_len S3.out
           obtain ⟨_, _, e0, _, _, hfr, _, _, _⟩ := cs_elem S3.out z hz0 (by omega)
           have fr0 : wr.frozen? ⟨g, z.toNat * 3, none⟩ = false := hfr 0
           obtain ⟨y, hy⟩ : ∃ y, wrap64 ((rd_T68 E z).f0 + 1) = y := ⟨_, rfl⟩
           rw [hy] at h2
           have s1 : (z ≥ 0) = True := eq_true hz0
           have s2 : (0 ≤ z) = True := eq_true hz0
           have s3 : (z < (n : Int)) = True := eq_true (by omega)
           have d0 : wr.cell? ⟨xg, 0, none⟩ = some (.slice (some ⟨g, 0, none⟩) n c) := (blk_cell X3.out 0).trans rfl
           obtain ⟨w6, hw6⟩ : ∃ W, wr.setCell ⟨g, z.toNat * 3, none⟩ (.int .i64 y) = W := ⟨_, rfl⟩
           have hPg := (Kd.S_R S3.out).1 g rfl
           have KK : Kept wr w6 (fun j => j = g) := by rw [← hw6]; exact (Kept.refl wr (fun j => j = g)).setCell (p := ⟨g, z.toNat * 3, none⟩) (.inl rfl) _
           have S4 := Aside0.mk (show CS w6 w0.heap.size (fun k => P k ∧ k < xg) (.slice (some ⟨g, 0, none⟩) n c) (E.set z.toNat ⟨y, (rd_T68 E z).f1, (rd_T68 E z).f2⟩) by rw [← hw6]; exact cs_put0 S3.out z hz0 (by omega) y)
           have X4 := Aside0.mk (blk_kept X3.out KK (by have := hPg.2; omega))
           have Z4 := Aside0.mk (blk_kept Z3.out KK (by have := hPg.2; have := XZ.out; omega))
           have Y4 := Aside0.mk (blk_kept Y3.out KK (by have := hPg.2; have := XZ.out; have := ZY.out; omega))
           have V4 := Aside0.mk (Kd.R_kept V3.out KK (fun j hj => by have := VC.out j hj; have := YL7.out; have := hPg.2; have := XZ.out; have := ZY.out; omega))
           have B4 := Aside0.mk (show Below w0.heap.size w0 w6 by rw [← hw6]; exact below_set B3.out (Kd.S_base S3.out g rfl))
           have K4 := Aside0.mk (K3.out.then_ KK (fun j hj => .inl (by rw [hj]; exact hPg.1)))
           have H2 := Aside0.mk h2
           clear h2 hfr hPg S3 X3 Z3 Y3 V3 B3 K3 hz0 hzE hEn hq KK
           go_wp2
           clear e0 fr0 d0 hw6 hy hy2 s1 s2 s3 hqq
           go_roundw
           case rel => exact ⟨q + 1, _, hql, by go_num, H2, S4, X4, Z4, Y4, V4, B4, K4⟩
           case measure => simp [intOf]; omega
          ·rw [if_neg hzE] at h2
           cases h2
         ·rw [if_neg hz0] at h2
          have s1 : (z ≥ 0) = False := eq_false hz0
          have s2 : (0 ≤ z) = False := eq_false hz0
          have H2 := Aside0.mk h2
          clear h2 hz0 hq
          go_wp2
          clear hy2 s1 s2 hqq
          go_roundw
          case rel => exact ⟨q + 1, E, hql, by go_num, H2, S3, X3, Z3, Y3, V3, B3, K3⟩
          case measure => simp [intOf]; omega
        ·have hqq : ((q : Int) < (x.f2.length : Int)) = False := eq_false (by omega)
         have h3 := HL.out
         rw [List.drop_of_length_le (by omega)] at h3
         simp only [incL, Option.some.injEq] at h3
         subst h3
         have hEn := cs_len S3.out
         clear hql hq HL
         subst hEn
         have hsz := K3.out.1
         have YL8 := Aside0.mk (show W2.heap.size < wr.heap.size from blk_lt Y3.out)
         have T := Aside0.mk (new_calls L n1 c1 c A1 (some ⟨g, 0, none⟩) E (fun k => P k ∧ k ≠ xg ∧ k ≠ W1.heap.size) ⟨1, x.f1, x.f2⟩ (.slice Ac x.f2.length cc) w0 wr B3.out (Kd.S_mono S3.out (fun j hj => (have h_ := hj.2; have h1_ := XZ.out; have h2_ := ZY.out; have h3_ := YL7.out; ⟨⟨hj.1, by omega, by omega⟩, fun e_ => by have := VC.out j e_; omega⟩))) V3.out (fun j hj => (have h_ := VC.out j hj; have h1_ := XZ.out; have h2_ := ZY.out; have h3_ := YL7.out; ⟨FP.out j (by omega), by omega, by omega⟩)) (fun j hj => (have h1_ := XZ.out; have h2_ := ZY.out; have h3_ := YL8.out; ⟨FP.out j (by omega), by omega, by omega⟩)) HN.out)
         have y0 : wr.cell? ⟨W2.heap.size, 0, none⟩ = some (.int .i64 1) := (blk_cell Y3.out 0).trans rfl
         have y1 : wr.cell? ⟨W2.heap.size, 1, none⟩ = some (.string x.f1) := (blk_cell Y3.out 1).trans rfl
         have y2 : wr.cell? ⟨W2.heap.size, 2, none⟩ = some (.slice Ac x.f2.length cc) := (blk_cell Y3.out 2).trans rfl
         have d0 : wr.cell? ⟨xg, 0, none⟩ = some (.slice (some ⟨g, 0, none⟩) E.length c) := (blk_cell X3.out 0).trans rfl
         have d1 : wr.cell? ⟨xg, 1, none⟩ = some (.slice A1 n1 c1) := (blk_cell X3.out 1).trans rfl
         have d2 : wr.cell? ⟨xg, 2, none⟩ = some (.int .i64 L) := (blk_cell X3.out 2).trans rfl
         have Z5_ := Z3
         have K5_ := K3
         clear S3 X3 Y3 V3 B3 hsz
         go_wp2_with (go_at_call 92; refine T.out.mono ?_; (first | rintro e w9 v0 rfl hS9 hB9 hK9 | rintro e w9 ⟨v0, rfl, hS9, hB9, hK9⟩); (obtain ⟨A9, c9, rfl⟩ := Kd.S_slice hS9); (have Z9 := Aside0.mk (blk_kept Z5_.out hK9 (fun h_ => h_.2.2 rfl))); (have S9 := Aside0.mk hS9); (have B9 := Aside0.mk hB9); (have K9 := Aside0.mk (K5_.out.then_ hK9 (fun j hj => .inl hj.1))); (have r0 : w9.cell? ⟨W1.heap.size, 0, none⟩ = some (.slice none 0 0) := (blk_cell Z9.out 0).trans rfl); (have r1 : w9.cell? ⟨W1.heap.size, 1, none⟩ = some (.slice none 0 0) := (blk_cell Z9.out 1).trans rfl); (have r2 : w9.cell? ⟨W1.heap.size, 2, none⟩ = some (.int .i64 0) := (blk_cell Z9.out 2).trans rfl); (have s0 := blk_frozen Z9.out 0); (have s1 := blk_frozen Z9.out 1); (have s2 := blk_frozen Z9.out 2); clear hS9 hB9 hK9)
         refine bodyPost_ret (results_ct rfl _ _ W1.heap.size 25 #[.slice A9 _ c9, .slice A1 n1 c1, .int .i64 L] (0, 0) _ rfl (put3 Z9.out _ _ _) Try.underlying25 rfl (by kernel_rfl)) rfl ?_
         have hz : xg ≤ W1.heap.size := Nat.le_of_lt XZ.out
         exact ⟨_, rfl, Kd.S_mono (far3 S9.out Z9.out) (fun k hk => hk.1), below3 B9.out (Nat.le_trans BX.out hz), keep3 K9.out (.inr (HXG.out ▸ hz))⟩
      ·obtain ⟨W3, W4, hW3, hW4, y0, y1, y2, z0, z1, z2, Y4, BL⟩ := local_cell W2 (.int .i64 1) (.string ⟨#[]⟩) (.slice none 0 0)
       have ZY := Aside0.mk (show W1.heap.size < W2.heap.size from blk_lt Z2.out)
       have X4 := Aside0.mk (blk_below X2.out BL.out)
       have Z4 := Aside0.mk (blk_below Z2.out BL.out)
       have S4 := Aside0.mk (Kd.S_below S2.out BL.out)
       have B4 := Aside0.mk (below_then B2.out B2.out.size BL.out)
       have K4 := Aside0.mk (K2.out.below BL.out)
       have dd0 : W4.cell? ⟨xg, 0, none⟩ = some (.slice (some ⟨g, 0, none⟩) C.length c) := (blk_cell X4.out 0).trans rfl
       have dd1 : W4.cell? ⟨xg, 1, none⟩ = some (.slice A1 n1 c1) := (blk_cell X4.out 1).trans rfl
       have dd2 : W4.cell? ⟨xg, 2, none⟩ = some (.int .i64 L) := (blk_cell X4.out 2).trans rfl
       obtain ⟨W5, hW5⟩ : ∃ W, W4.alloc (.cells #[.int .i64 (-1), .int .i64 (-1), .int .i64 (-1), .int .i64 (-1)] 3) = W := ⟨_, rfl⟩
       obtain ⟨W6, hW6⟩ : ∃ W, W5.setCell ⟨W2.heap.size, 2, none⟩ (.slice (some ⟨W4.heap.size, 0, none⟩) 4 4) = W := ⟨_, rfl⟩
       have hb5 : Below W4.heap.size W4 W5 := by rw [← hW5]; exact below_alloc (Below.refl _ _) _
       have Y5 := blk_below Y4.out hb5
       have ly2 : W5.cell? ⟨W2.heap.size, 2, none⟩ = some (.slice none 0 0) := (blk_cell Y5 2).trans rfl
       have lz2 := blk_frozen Y5 2
       have ZY2 := Aside0.mk (show W2.heap.size < W4.heap.size from blk_lt Y4.out)
       have KK6 : Kept W4 W6 (fun j => j = W2.heap.size) := by rw [← hW6]; exact (Kept.of_below hb5 (fun j => j = W2.heap.size)).setCell (p := ⟨W2.heap.size, 2, none⟩) (.inl rfl) _
       have X6 := Aside0.mk (blk_kept X4.out KK6 (by have := XZ.out; have := ZY.out; omega))
       have Z6 := Aside0.mk (blk_kept Z4.out KK6 (by have := ZY.out; omega))
       have Y6 := Aside0.mk (show W6.heap[W2.heap.size]? = some (.cells #[.int .i64 1, .string ⟨#[]⟩, .slice (some ⟨W4.heap.size, 0, none⟩) 4 4] 68 (0, 0)) by rw [← hW6]; exact blk_put (cs := #[.int .i64 1, .string ⟨#[]⟩, .slice none 0 0]) Y5 2 _ rfl)
       have S6 := Aside0.mk (Kd.S_kept S4.out KK6 (fun k hk => by have := hk.2; have := XZ.out; have := ZY.out; omega))
       have B6 := Aside0.mk (show Below w0.heap.size w0 W6 by rw [← hW6]; exact below_set (below_then B4.out B4.out.size hb5) (by have := BX.out; have := XZ.out; have := ZY.out; omega))
       have K6 := Aside0.mk (K4.out.then_ KK6 (fun j hj => .inr (by rw [hj]; have := HXG.out; have := XZ.out; have := ZY.out; omega)))
       have V6 := Aside0.mk (show IR W6 w0.heap.size (fun k => some k = (Value.slice (some ⟨W4.heap.size, 0, none⟩) 4 4).ownBlock) (.slice (some ⟨W4.heap.size, 0, none⟩) 4 4) [-1, -1, -1, -1] by
        have h_ : (W4.alloc (Obj.cells #[.int .i64 (-1), .int .i64 (-1), .int .i64 (-1), .int .i64 (-1)] 3)).ownsRow W4.heap.size 3 1 (Value.slice (some ⟨W4.heap.size, 0, none⟩) 4 4) 4 [.int .i64 (-1), .int .i64 (-1), .int .i64 (-1), .int .i64 (-1)] := by simpa using World.ownsRow_lit (base := W4.heap.size) (e := 3) (size := 1) W4 #[.int .i64 (-1), .int .i64 (-1), .int .i64 (-1), .int .i64 (-1)] 4 (Nat.le_refl _) (by decide) (by simp)
        have h2_ : IR W5 w0.heap.size (fun k => some k = (Value.slice (some ⟨W4.heap.size, 0, none⟩) 4 4).ownBlock) (.slice (some ⟨W4.heap.size, 0, none⟩) 4 4) [-1, -1, -1, -1] := by
         rw [← hW5]
         exact Kd.R_lower (Kd.R_of_own (xs := [(-1 : Int), -1, -1, -1]) (enc := Value.int .i64) h_ (fun _ hk => hk.symm)) B4.out.size
        rw [← hW6]
        exact Kd.R_far (p := ⟨W2.heap.size, 2, none⟩) h2_ (fun j hj => by have h3_ : j = W4.heap.size := Option.some.inj hj; have := ZY2.out; show j ≠ W2.heap.size; omega) _)
       have d60 : W6.cell? ⟨xg, 0, none⟩ = some (.slice (some ⟨g, 0, none⟩) C.length c) := (blk_cell X6.out 0).trans rfl
       have d61 : W6.cell? ⟨xg, 1, none⟩ = some (.slice A1 n1 c1) := (blk_cell X6.out 1).trans rfl
       have d62 : W6.cell? ⟨xg, 2, none⟩ = some (.int .i64 L) := (blk_cell X6.out 2).trans rfl
       have hq : ((level : Int) > 1) = True := eq_true (by omega)
       have hq2 : (1 < (level : Int)) = True := eq_true (by omega)
       have hq3 : (1 < level) = True := eq_true (by omega)
       clear KK6 hb5 Y5
       have yy0 : W6.cell? ⟨W2.heap.size, 0, none⟩ = some (.int .i64 1) := (blk_cell Y6.out 0).trans rfl
       have yy1 : W6.cell? ⟨W2.heap.size, 1, none⟩ = some (.string ⟨#[]⟩) := (blk_cell Y6.out 1).trans rfl
       have yy2 : W6.cell? ⟨W2.heap.size, 2, none⟩ = some (.slice (some ⟨W4.heap.size, 0, none⟩) 4 4) := (blk_cell Y6.out 2).trans rfl
       have YL := Aside0.mk (show W2.heap.size < W6.heap.size from blk_lt Y6.out)
       obtain ⟨_, v_, f0, f1, f2, hfr4, _, hR4, _⟩ := cs_elem S6.out k (by omega) hkC
       rw [hx] at f0 f1 hR4
       obtain ⟨Ak, ck, rfl⟩ := Kd.R_slice hR4
       obtain ⟨W7, hW7⟩ : ∃ W, W6.setCell ⟨W2.heap.size, 1, none⟩ (.string x.f1) = W := ⟨_, rfl⟩
       have yf1 := blk_frozen Y6.out 1
       have KK7 : Kept W6 W7 (fun j => j = W2.heap.size) := by rw [← hW7]; exact (Kept.refl W6 (fun j => j = W2.heap.size)).setCell (p := ⟨W2.heap.size, 1, none⟩) (.inl rfl) _
       have X7 := Aside0.mk (blk_kept X6.out KK7 (by have := XZ.out; have := ZY.out; omega))
       have Z7 := Aside0.mk (blk_kept Z6.out KK7 (by have := ZY.out; omega))
       have Y7 := Aside0.mk (show W7.heap[W2.heap.size]? = some (.cells #[.int .i64 1, .string x.f1, .slice (some ⟨W4.heap.size, 0, none⟩) 4 4] 68 (0, 0)) by rw [← hW7]; exact blk_put (cs := #[.int .i64 1, .string ⟨#[]⟩, .slice (some ⟨W4.heap.size, 0, none⟩) 4 4]) Y6.out 1 _ rfl)
       have S7 := Aside0.mk (Kd.S_kept S6.out KK7 (fun k hk => by have := hk.2; have := XZ.out; have := ZY.out; omega))
       have B7 := Aside0.mk (show Below w0.heap.size w0 W7 by rw [← hW7]; exact below_set B6.out (by have := BX.out; have := XZ.out; have := ZY.out; omega))
       have K7 := Aside0.mk (K6.out.then_ KK7 (fun j hj => .inr (by rw [hj]; have := HXG.out; have := XZ.out; have := ZY.out; omega)))
       have YL7 := Aside0.mk (show W2.heap.size < W7.heap.size from blk_lt Y7.out)
       have d70 : W7.cell? ⟨xg, 0, none⟩ = some (.slice (some ⟨g, 0, none⟩) C.length c) := (blk_cell X7.out 0).trans rfl
       obtain ⟨_, v7_, h70, h71, h72, hfr7, _, hR7, _⟩ := cs_elem S7.out k (by omega) hkC
       rw [hx] at h70 h71 hR7
       obtain ⟨Ak7, ck7, rfl⟩ := Kd.R_slice hR7
       have C7 := Aside0.mk (Kd.R_reads' hR7).2.2
       have HKL := Aside0.mk hkl
       have hkl2 : x.f2.length ≤ 9223372036854775807 := by omega
       have HD := Aside0.mk hD
       have HX := Aside0.mk hx
       have KC := Aside0.mk (show 0 ≤ k ∧ k < (C.length : Int) by omega)
       have NL := Aside0.mk (show C.length = C.length from rfl)
       generalize hnn : C.length = n at *
       replace NL := Aside0.mk hnn
       clear h1 h hk0 hfr hn hkC hlv hx hS hD hkl hfr4 hR4 hR7 hfr7 KK7 hnn f2
       go_enter Try.func88, Try.ntmps88
       go_wp2_with (first
        | ((with_reducible refine gate_dst (N := 38) rfl ?_); refine Kd.R_lit (Kd.int .i64) W7.heap.size 3 ?hg (N := 38) ?hd (xs := ([] : List Int)) (inner := []) (ok := fun _ => True) (okp := fun _ => True) ?hr ?hp (fun _ hk => hk) trivial (Below.refl W7.heap.size W7) (Nat.le_refl _) (by simp) ?_; (case hd => rfl); (case hg => rfl); (case hr => first | (go_simp; done) | (go_simp; rfl)); (case hp => exact (Reps.none _ _)); intro v8 w8 ho8 hb8 hg_ hnew_; clear hg_ hnew_; have HO8 := Aside0.mk ho8; have HB8 := Aside0.mk hb8; (have d80 : w8.cell? ⟨xg, 0, none⟩ = some (.slice (some ⟨g, 0, none⟩) n c) := (blk_cell (blk_below X7.out hb8) 0).trans rfl); (have d82 := cell_kept h72 (Kept.of_below hb8 (fun _ => False)) id); clear ho8 hb8)
        | ((with_reducible refine gate_builtin (b := .append) (xs := #[.tmp 38, .tmp 44]) rfl ?_); at_builtin; refine Kd.R_append_rows (Kd.int .i64) (w0 := W7) W7.heap.size rfl (.tmp 38) (.tmp 44) 23 3 (.int .i64 0) 8 rfl Try.underlying23 info3 rfl (by decide) (by omega) v8 [] x.f2 _ _ _ (fun _ => True) (fun _ => False) rfl rfl HO8.out (Kd.C_below C7.out HB8.out) (fun _ _ h => h) (fun _ h => h.elim) (fun _ _ => trivial) HB8.out HB8.out.size (by have := HKL.out; simp; omega) ?_; intro v9 w9 hr hb hg_ hat_; clear hg_ hat_ HO8 HB8 d80 d82; (replace hr : IR w9 W7.heap.size (fun _ => True) v9 x.f2 := hr); (obtain ⟨Ac, cc, rfl⟩ := Kd.R_slice hr); (have VC := Aside0.mk (show ∀ j, some j = (Value.slice Ac x.f2.length cc).ownBlock → W7.heap.size ≤ j from fun j hj => Kd.R_base hr j hj.symm)); (obtain ⟨W10, hW10⟩ : ∃ W, w9.setCell ⟨W2.heap.size, 2, none⟩ (.slice Ac x.f2.length cc) = W := ⟨_, rfl⟩); (have Y9 := blk_below Y7.out hb); (have q2 : w9.cell? ⟨W2.heap.size, 2, none⟩ = some (.slice (some ⟨W4.heap.size, 0, none⟩) 4 4) := (blk_cell Y9 2).trans rfl); (have qz2 := blk_frozen Y9 2); (have KK10 : Kept w9 W10 (fun j => j = W2.heap.size) := by rw [← hW10]; exact (Kept.refl w9 (fun j => j = W2.heap.size)).setCell (p := ⟨W2.heap.size, 2, none⟩) (.inl rfl) _); (have X10 := Aside0.mk (blk_kept (blk_below X7.out hb) KK10 (by have := XZ.out; have := ZY.out; omega))); (have Z10 := Aside0.mk (blk_kept (blk_below Z7.out hb) KK10 (by have := ZY.out; omega))); (have Y10 := Aside0.mk (show W10.heap[W2.heap.size]? = some (.cells #[.int .i64 1, .string x.f1, .slice Ac x.f2.length cc] 68 (0, 0)) by rw [← hW10]; exact blk_put (cs := #[.int .i64 1, .string x.f1, .slice (some ⟨W4.heap.size, 0, none⟩) 4 4]) Y9 2 _ rfl)); (have S10 := Aside0.mk (Kd.S_kept (Kd.S_below S7.out hb) KK10 (fun k hk => by have := hk.2; have := XZ.out; have := ZY.out; omega))); (have V10 := Aside0.mk (Kd.R_kept (Kd.R_of_own (Kd.own_of_R (Kd.R_lower hr B7.out.size)) (fun j hj => hj.symm) : IR w9 w0.heap.size (fun j => some j = (Value.slice Ac x.f2.length cc).ownBlock) (.slice Ac x.f2.length cc) x.f2) KK10 (fun j hj => by have := VC.out j hj; have := YL7.out; omega))); (have B10 := Aside0.mk (show Below w0.heap.size w0 W10 by rw [← hW10]; exact below_set (below_then B7.out B7.out.size hb) (by have := BX.out; have := XZ.out; have := ZY.out; omega))); (have K10 := Aside0.mk ((K7.out.below hb).then_ KK10 (fun j hj => .inr (by rw [hj]; have := HXG.out; have := XZ.out; have := ZY.out; omega)))); (obtain ⟨_, va_, ha0, ha1, ha2, hfra, _, hRa, _⟩ := cs_elem S10.out k KC.out.1 (by have := KC.out.2; omega)); (rw [HX.out] at ha0); (have fra : W10.frozen? ⟨g, k.toNat * 3, none⟩ = false := hfra 0); (have da0 : W10.cell? ⟨xg, 0, none⟩ = some (.slice (some ⟨g, 0, none⟩) n c) := (blk_cell X10.out 0).trans rfl); (obtain ⟨W11, hW11⟩ : ∃ W, W10.setCell ⟨g, k.toNat * 3, none⟩ (.int .i64 y) = W := ⟨_, rfl⟩); (have hPg := (Kd.S_R S10.out).1 g rfl); (have KK11 : Kept W10 W11 (fun j => j = g) := by rw [← hW11]; exact (Kept.refl W10 (fun j => j = g)).setCell (p := ⟨g, k.toNat * 3, none⟩) (.inl rfl) _); (have X11 := Aside0.mk (blk_kept X10.out KK11 (by have := hPg.2; omega))); (have Z11 := Aside0.mk (blk_kept Z10.out KK11 (by have := hPg.2; have := XZ.out; omega))); (have Y11 := Aside0.mk (blk_kept Y10.out KK11 (by have := hPg.2; have := XZ.out; have := ZY.out; omega))); (have S11 := Aside0.mk (show CS W11 w0.heap.size (fun k => P k ∧ k < xg) (.slice (some ⟨g, 0, none⟩) n c) (C.set k.toNat ⟨y, x.f1, x.f2⟩) by rw [← hW11]; have h_ := cs_put0 S10.out k KC.out.1 (by have := KC.out.2; omega) y; rw [HX.out] at h_; exact h_)); (have V11 := Aside0.mk (Kd.R_kept V10.out KK11 (fun j hj => by have := VC.out j hj; have := YL7.out; have := hPg.2; have := XZ.out; have := ZY.out; omega))); (have B11 := Aside0.mk (show Below w0.heap.size w0 W11 by rw [← hW11]; exact below_set B10.out (Kd.S_base S10.out g rfl))); (have K11 := Aside0.mk (K10.out.then_ KK11 (fun j hj => .inl (by rw [hj]; exact hPg.1)))); (have yb2 : W11.cell? ⟨W2.heap.size, 2, none⟩ = some (.slice Ac x.f2.length cc) := (blk_cell Y11.out 2).trans rfl); clear hr hb Y9 KK10 KK11 hPg hfra hRa))
       clear d0 d1 d2 dd0 dd1 dd2 yy0 yy1 yy2 f0 f1 d70 h70 h71 h72 q2 qz2 ha0 ha1 ha2 fra da0 hW1 hW2 hW3 hW4 hW7 hW10 hW11 yb2 y0 y1 y2 z0 z1 z2 yf1
       go_loopw [10, 59] (fun v10 vi wr => ∃ (q : Nat) (E : List CL), q ≤ x.f2.length ∧ vi = .int .i64 q ∧ Aside0 (incL (x.f2.drop q) E = some D) ∧ Aside0 (CS wr w0.heap.size (fun k => P k ∧ k < xg) (.slice (some ⟨g, 0, none⟩) n c) E) ∧ Aside0 (wr.heap[xg]? = some (.cells #[.slice (some ⟨g, 0, none⟩) n c, .slice A1 n1 c1, .int .i64 L] 25 (0, 0))) ∧ Aside0 (wr.heap[W1.heap.size]? = some (.cells #[.slice none 0 0, .slice none 0 0, .int .i64 0] 25 (0, 0))) ∧ Aside0 (wr.heap[W2.heap.size]? = some (.cells #[.int .i64 1, .string x.f1, .slice Ac x.f2.length cc] 68 (0, 0))) ∧ Aside0 (IR wr w0.heap.size (fun j => some j = (Value.slice Ac x.f2.length cc).ownBlock) (.slice Ac x.f2.length cc) x.f2) ∧ Aside0 (Below w0.heap.size w0 wr) ∧ Aside0 (Kept w wr P)) (fun v10 vi _ => x.f2.length - (intOf vi).toNat)
       case atStart => exact ⟨0, _, Nat.zero_le _, rfl, ⟨by rw [List.drop_zero]; exact HD.out⟩, S11, X11, Z11, Y11, V11, B11, K11⟩
       case round =>
        clear HD S11 X11 Z11 Y11 V11 B11 K11
        obtain ⟨q, E, hq, rfl, HL, S3, X3, Z3, Y3, V3, B3, K3⟩ := hrel
        by_cases hql : q < x.f2.length
        ·have hqq : ((q : Int) < (x.f2.length : Int)) = True := eq_true (by omega)
         obtain ⟨ad2, e3, hy2⟩ := Kd.at_int (Kd.R_reads' V3.out).2.2 (q : Int) (by omega) (by omega)
         subst e3
         simp only [Int.toNat_natCast] at hy2
         obtain ⟨z, hz⟩ : ∃ z, rd x.f2 (q : Int) = z := ⟨_, rfl⟩
         rw [hz] at hy2
         have hd : x.f2.drop q = z :: x.f2.drop (q + 1) := by
          rw [List.drop_eq_getElem_cons hql, ← hz]
          congr 1
          unfold rd
          rw [List.getD_eq_getElem?_getD, Int.toNat_natCast, List.getElem?_eq_getElem hql]
          rfl
         have h2 := HL.out
         rw [hd] at h2
         simp only [incL] at h2
         clear hd hz HL
         by_cases hz0 : 0 ≤ z
         ·rw [if_pos hz0] at h2
          by_cases hzE : z < (E.length : Int)
          ·rw [if_pos hzE] at h2
           have hEn := cs_len S3.out
           obtain ⟨_, _, e0, _, _, hfr, _, _, _⟩ := cs_elem S3.out z hz0 (by omega)
           have fr0 : wr.frozen? ⟨g, z.toNat * 3, none⟩ = false := hfr 0
           obtain ⟨y, hy⟩ : ∃ y, wrap64 ((rd_T68 E z).f0 + 1) = y := ⟨_, rfl⟩
           rw [hy] at h2
           have s1 : (z ≥ 0) = True := eq_true hz0
           have s2 : (0 ≤ z) = True := eq_true hz0
           have s3 : (z < (n : Int)) = True := eq_true (by omega)
           have d0 : wr.cell? ⟨xg, 0, none⟩ = some (.slice (some ⟨g, 0, none⟩) n c) := (blk_cell X3.out 0).trans rfl
           obtain ⟨w6, hw6⟩ : ∃ W, wr.setCell ⟨g, z.toNat * 3, none⟩ (.int .i64 y) = W := ⟨_, rfl⟩
           have hPg := (Kd.S_R S3.out).1 g rfl
           have KK : Kept wr w6 (fun j => j = g) := by rw [← hw6]; exact (Kept.refl wr (fun j => j = g)).setCell (p := ⟨g, z.toNat * 3, none⟩) (.inl rfl) _
           have S4 := Aside0.mk (show CS w6 w0.heap.size (fun k => P k ∧ k < xg) (.slice (some ⟨g, 0, none⟩) n c) (E.set z.toNat ⟨y, (rd_T68 E z).f1, (rd_T68 E z).f2⟩) by rw [← hw6]; exact cs_put0 S3.out z hz0 (by omega) y)
           have X4 := Aside0.mk (blk_kept X3.out KK (by have := hPg.2; omega))
           have Z4 := Aside0.mk (blk_kept Z3.out KK (by have := hPg.2; have := XZ.out; omega))
           have Y4 := Aside0.mk (blk_kept Y3.out KK (by have := hPg.2; have := XZ.out; have := ZY.out; omega))
           have V4 := Aside0.mk (Kd.R_kept V3.out KK (fun j hj => by have := VC.out j hj; have := YL7.out; have := hPg.2; have := XZ.out; have := ZY.out; omega))
           have B4 := Aside0.mk (show Below w0.heap.size w0 w6 by rw [← hw6]; exact below_set B3.out (Kd.S_base S3.out g rfl))
           have K4 := Aside0.mk (K3.out.then_ KK (fun j hj => .inl (by rw [hj]; exact hPg.1)))
           have H2 := Aside0.mk h2
           clear h2 hfr hPg S3 X3 Z3 Y3 V3 B3 K3 hz0 hzE hEn hq KK
           go_wp2
           clear e0 fr0 d0 hw6 hy hy2 s1 s2 s3 hqq
           go_roundw
           case rel => exact ⟨q + 1, _, hql, by go_num, H2, S4, X4, Z4, Y4, V4, B4, K4⟩
           case measure => simp [intOf]; omega
          ·rw [if_neg hzE] at h2
           cases h2
         ·rw [if_neg hz0] at h2
          have s1 : (z ≥ 0) = False := eq_false hz0
          have s2 : (0 ≤ z) = False := eq_false hz0
          have H2 := Aside0.mk h2
          clear h2 hz0 hq
          go_wp2
          clear hy2 s1 s2 hqq
          go_roundw
          case rel => exact ⟨q + 1, E, hql, by go_num, H2, S3, X3, Z3, Y3, V3, B3, K3⟩
          case measure => simp [intOf]; omega
        ·have hqq : ((q : Int) < (x.f2.length : Int)) = False := eq_false (by omega)
         have h3 := HL.out
         rw [List.drop_of_length_le (by omega)] at h3
         simp only [incL, Option.some.injEq] at h3
         subst h3
         have hEn := cs_len S3.out
         clear hql hq HL
         subst hEn
         have hsz := K3.out.1
         have YL8 := Aside0.mk (show W2.heap.size < wr.heap.size from blk_lt Y3.out)
         have T := Aside0.mk (new_calls L n1 c1 c A1 (some ⟨g, 0, none⟩) E (fun k => P k ∧ k ≠ xg ∧ k ≠ W1.heap.size) ⟨1, x.f1, x.f2⟩ (.slice Ac x.f2.length cc) w0 wr B3.out (Kd.S_mono S3.out (fun j hj => (have h_ := hj.2; have h1_ := XZ.out; have h2_ := ZY.out; have h3_ := YL7.out; ⟨⟨hj.1, by omega, by omega⟩, fun e_ => by have := VC.out j e_; omega⟩))) V3.out (fun j hj => (have h_ := VC.out j hj; have h1_ := XZ.out; have h2_ := ZY.out; have h3_ := YL7.out; ⟨FP.out j (by omega), by omega, by omega⟩)) (fun j hj => (have h1_ := XZ.out; have h2_ := ZY.out; have h3_ := YL8.out; ⟨FP.out j (by omega), by omega, by omega⟩)) HN.out)
         have y0 : wr.cell? ⟨W2.heap.size, 0, none⟩ = some (.int .i64 1) := (blk_cell Y3.out 0).trans rfl
         have y1 : wr.cell? ⟨W2.heap.size, 1, none⟩ = some (.string x.f1) := (blk_cell Y3.out 1).trans rfl
         have y2 : wr.cell? ⟨W2.heap.size, 2, none⟩ = some (.slice Ac x.f2.length cc) := (blk_cell Y3.out 2).trans rfl
         have d0 : wr.cell? ⟨xg, 0, none⟩ = some (.slice (some ⟨g, 0, none⟩) E.length c) := (blk_cell X3.out 0).trans rfl
         have d1 : wr.cell? ⟨xg, 1, none⟩ = some (.slice A1 n1 c1) := (blk_cell X3.out 1).trans rfl
         have d2 : wr.cell? ⟨xg, 2, none⟩ = some (.int .i64 L) := (blk_cell X3.out 2).trans rfl
         have Z5_ := Z3
         have K5_ := K3
         clear S3 X3 Y3 V3 B3 hsz
         go_wp2_with (go_at_call 92; refine T.out.mono ?_; (first | rintro e w9 v0 rfl hS9 hB9 hK9 | rintro e w9 ⟨v0, rfl, hS9, hB9, hK9⟩); (obtain ⟨A9, c9, rfl⟩ := Kd.S_slice hS9); (have Z9 := Aside0.mk (blk_kept Z5_.out hK9 (fun h_ => h_.2.2 rfl))); (have S9 := Aside0.mk hS9); (have B9 := Aside0.mk hB9); (have K9 := Aside0.mk (K5_.out.then_ hK9 (fun j hj => .inl hj.1))); (have r0 : w9.cell? ⟨W1.heap.size, 0, none⟩ = some (.slice none 0 0) := (blk_cell Z9.out 0).trans rfl); (have r1 : w9.cell? ⟨W1.heap.size, 1, none⟩ = some (.slice none 0 0) := (blk_cell Z9.out 1).trans rfl); (have r2 : w9.cell? ⟨W1.heap.size, 2, none⟩ = some (.int .i64 0) := (blk_cell Z9.out 2).trans rfl); (have s0 := blk_frozen Z9.out 0); (have s1 := blk_frozen Z9.out 1); (have s2 := blk_frozen Z9.out 2); clear hS9 hB9 hK9)
         refine bodyPost_ret (results_ct rfl _ _ W1.heap.size 25 #[.slice A9 _ c9, .slice A1 n1 c1, .int .i64 L] (0, 0) _ rfl (put3 Z9.out _ _ _) Try.underlying25 rfl (by kernel_rfl)) rfl ?_
         have hz : xg ≤ W1.heap.size := Nat.le_of_lt XZ.out
         exact ⟨_, rfl, Kd.S_mono (far3 S9.out Z9.out) (fun k hk => hk.1), below3 B9.out (Nat.le_trans BX.out hz), keep3 K9.out (.inr (HXG.out ▸ hz))⟩
     ·rw [if_neg hkl] at h
      cases h
   ·rw [if_neg hkC] at h
    cases h
 ·rw [if_neg hn] at h
  cases h
section
variable {P : Program} {ops : Array Oper} {Q : Exit → Act → World → Prop} {md : Region.Mode} {S : World → Prop} {ds : List Nat}
theorem two_last {i j : Nat} {Ni Nj : Option Tmp} {oi oj : Oper} {fuel : Nat} {l : Array Bool} {a : Act} {w : World} (li lj : Array Bool) (hi : ops[i]? = some oi) (hj : ops[j]? = some oj) (hNi : oi.dst = Ni) (hNj : oj.dst = Nj)
  (hc : (Region.ready md ops l == [i, j] && l.setIfInBounds i true == li && l.setIfInBounds j true == lj) = true) (hdi : i ∈ ds) (hdj : j ∉ ds)
  (h1 : ∀ K : Act → World → Prop, Shut (∀ a' w', wpAnyLast P md ops Q S ds fuel li a' w' → K a' w') → if Region.wanted oi (yielded ops a.tmps) = true then Oper.wp P oi a w K Q else K (a.put Ni undef) w)
  (h2 : ∀ K : Act → World → Prop, Shut (∀ a' w', S w' → (S w' → wpAnyLast P md ops Q S ds fuel lj a' w') → K a' w') → if Region.wanted oj (yielded ops a.tmps) = true then Oper.wp P oj a w K Q else K (a.put Nj undef) w) :
  wpAnyLast P md ops Q S ds (fuel + 1) l a w := by
 subst hNi
 subst hNj
 simp only [Bool.and_eq_true, beq_iff_eq] at hc
 obtain ⟨⟨h3, h4⟩, h5⟩ := hc
 subst h4
 subst h5
 exact wpAnyLast_ready h3 (by simp) (AllReadyL.cons_last hi hdi (fun K hK => h1 K hK) (AllReadyL.cons hj hdj (fun K hK => h2 K hK) AllReadyL.nil))
theorem one_c {i : Nat} {N : Option Tmp} {oi : Oper} {fuel : Nat} {l : Array Bool} {a : Act} {w : World} (l' : Array Bool) (hi : ops[i]? = some oi) (hN : oi.dst = N) (hc : readyB md ops l l' i = true)
  (h : ∀ K : Act → World → Prop, Shut (∀ a' w', (S w → S w') → wpAnyLast P md ops Q S ds fuel l' a' w' → K a' w') → if Region.wanted oi (yielded ops a.tmps) = true then Oper.wp P oi a w K Q else K (a.put N undef) w) :
  wpAnyLast P md ops Q S ds (fuel + 1) l a w := by
 subst hN
 simp only [readyB, Bool.and_eq_true, beq_iff_eq] at hc
 obtain ⟨h1, h2⟩ := hc
 subst h2
 refine wpAnyLast_all h1 (by simp) (fun j hj => ?_)
 obtain rfl : j = i := by simpa using hj
 exact wpOp_step hi (fun K' hK => h K' (fun a' w' hs hW => hK a' w' ⟨fun _ => hs, hW⟩))
end
end Go.Proofs.Ytacfalpgmibfnaa.PCow
