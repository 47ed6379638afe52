import Derived.Test.YtelblhkbogljnaaFRoo4
namespace Go.Proofs.Ytelblhkbogljnaa.PFre
open Go.RowKit Go.Proofs.YtelblhkbogljnaaW.PrintWords Go.Proofs.YtelblhkbogljnaaW.PrintLast Go.Proofs.YtelblhkbogljnaaW.PrintMore
attribute [local go_sem] bK bJ bT bU bA bB bM bL
set_option linter.unusedVariables false
set_option linter.unusedSimpArgs false
def spec_l5Within.l0 : Nat → List (S35) → Int → Int → Int → Int → Option (Int)
 | 0, _, _, _, _, _ => none
 | k + 1, x7, x8, x9, x266000, x266001 => if x9 < x8 then (if 0 ≤ x9 then (if x9 < (x7.length : Int) then (if ((ax x7 x9).f0) ≤ x266000 then (if (wrap64 (x266000 + x266001)) ≤ (wrap64 (((ax x7 x9).f0) + ((ax x7 x9).f1))) then (some x9) else (spec_l5Within.l0 k x7 x8 (wrap64 (x9 + 1)) x266000 x266001)) else (spec_l5Within.l0 k x7 x8 (wrap64 (x9 + 1)) x266000 x266001)) else (none)) else (none)) else (some (-1))
def spec_l5Within.f (k : Nat) (l0 : List (S35)) (a1_0 : Int) (a1_1 : Int) : Option (Int) := spec_l5Within.l0 k l0 (l0.length : Int) 0 a1_0 a1_1
set_option maxHeartbeats 8000000 in
set_option maxRecDepth 100000 in
theorem spec_l5Within.calls (k : Nat) (A0 : Option Addr) (c0 : Nat) (l0 : List (S35)) (a1_0 : Int) (a1_1 : Int) (r : Int) (w : World) (hr0 : Kd.C k35 w A0 l0.length l0) (hc0 : l0.length ≤ c0) (h : spec_l5Within.f k l0 a1_0 a1_1 = some r) :
  Calls Try.prog 58 #[.slice A0 l0.length c0, .agg #[.int .i64 a1_0, .int .i64 a1_1]] w fun e w' => e = .returned (.int .i64 r) ∧ Below w.heap.size w w' := by
 have hu35 := Try.underlying35
 have HR0 := av hr0
 have HC0 := av hc0
 clear hr0 hc0
 have HB := av (Below.refl w.heap.size w)
 have H : (spec_l5Within.l0 k l0 (l0.length : Int) 0 a1_0 a1_1) = some r := h
 clear h
 have H' := av H
 clear H
 go_enter Try.func58, Try.ntmps58
 go_wp2_with (first | ((with_reducible refine aK (N := 3) rfl ?_); refine aI ?hg (N := 3) ?hd (cs := #[.int .i64 a1_0, .int .i64 a1_1]) (t := 35) ?hr ?_; (case hd => rfl); (case hg => rfl); (case hr => first | (go_simp; done) | (go_simp; rfl)); intro gb265 hg w3 hbox hb; have BK265 := av (hbox); have GW265 := av ((by rw [hg]; exact (az (by with_reducible repeat (first | exact HB.out | apply ah | apply aa | apply ai))) : w.heap.size ≤ gb265)); have GE265 := av ((by rw [hg]; exact (az (by with_reducible repeat (first | exact HB.out | apply ah | apply aa | apply ai))) : w.heap.size ≤ gb265)); replace HB := av (aA (by with_reducible repeat (first | exact HB.out | apply ah | apply aa | apply ai)) hb); clear hb hbox hg))
 go_loopg [9] k (fun kq v9 w' => ∃ (x9_1 : Int), v9 = .int .i64 x9_1 ∧ Aside0 (spec_l5Within.l0 kq l0 (l0.length : Int) x9_1 a1_0 a1_1 = some r) ∧ Aside0 (kq ≤ k) ∧ Aside0 (w'.heap[gb265]? = some (.cells #[.int .i64 a1_0, .int .i64 a1_1] 35 (0, 0))) ∧ Aside0 (Below w.heap.size w w'))
 case atStart => exact ⟨(0), (by first | rfl | (simp; done) | (simp [*]; done)), H', ⟨Nat.le_refl _⟩, ⟨by (with_reducible repeat (first | apply af | apply aj | apply ag)); exact BK265.out⟩, ⟨by with_reducible repeat (first | exact HB.out | apply ah | apply aa | apply ai | refine ae ?_ GE265.out)⟩⟩
 case round =>
  clear H'
  try clear p2
  obtain ⟨x9_1, rfl, HA, HK1, BK265, HB⟩ := hrel
  cases gk with
  | zero => exact absurd HA.out (by simp [spec_l5Within.l0])
  | succ k1 =>
   have H := HA.out
   clear HA
   simp only [spec_l5Within.l0] at H
   by_cases c4 : x9_1 < (l0.length : Int)
   ·rw [if_pos c4] at H
    have c4b0 : decide (x9_1 < (l0.length : Int)) = true := decide_eq_true c4
    clear c4
    by_cases c5 : 0 ≤ x9_1
    ·rw [if_pos c5] at H
     have c5b0 : decide (0 ≤ x9_1) = true := decide_eq_true c5
     clear c5
     by_cases c6 : x9_1 < (l0.length : Int)
     ·rw [if_pos c6] at H
      have c6b0 : decide (x9_1 < (l0.length : Int)) = true := decide_eq_true c6
      clear c6
      by_cases c7 : ((ax l0 x9_1).f0) ≤ a1_0
      ·rw [if_pos c7] at H
       have c7b0 : decide (((ax l0 x9_1).f0) ≤ a1_0) = true := decide_eq_true c7
       clear c7
       by_cases c8 : (wrap64 (a1_0 + a1_1)) ≤ (wrap64 (((ax l0 x9_1).f0) + ((ax l0 x9_1).f1)))
       ·rw [if_pos c8] at H
        have c8b0 : decide ((wrap64 (a1_0 + a1_1)) ≤ (wrap64 (((ax l0 x9_1).f0) + ((ax l0 x9_1).f1)))) = true := decide_eq_true c8
        clear c8
        obtain rfl := Option.some.inj H
        have p266 : 0 ≤ (x9_1 : Int) := of_decide_eq_true (by assumption)
        have q266 : x9_1 < (l0.length : Int) := of_decide_eq_true (by assumption)
        obtain ⟨ad266, e266, hx266_0, hx266_1⟩ := bC HR0.out x9_1 p266 q266
        cases e266
        replace hx266_0 := (HB.out.cell (World.block_lt_of_cell? w _ hx266_0)).trans hx266_0
        replace hx266_1 := (HB.out.cell (World.block_lt_of_cell? w _ hx266_1)).trans hx266_1
        replace p266 := eq_true p266
        replace q266 := eq_true q266
        go_wp2_with (first | ((with_reducible refine aK (N := 6) rfl ?_); refine aI ?hg (N := 6) ?hd (cs := #[.int .i64 0, .int .i64 0]) (t := 35) ?hr ?_; (case hd => rfl); (case hg => rfl); (case hr => first | (go_simp; done) | (go_simp; rfl)); intro gb267 hg w9 hbox hb; have BK267 := av (hbox); have GW267 := av ((by rw [hg]; exact (az (by with_reducible repeat (first | exact HB.out | apply ah | apply aa | apply ai | refine ae ?_ GE265.out))) : w.heap.size ≤ gb267)); have GE267 := av ((by rw [hg]; exact (az (by with_reducible repeat (first | exact HB.out | apply ah | apply aa | apply ai | refine ae ?_ GE265.out))) : w.heap.size ≤ gb267)); replace HB := av (aA (by with_reducible repeat (first | exact HB.out | apply ah | apply aa | apply ai | refine ae ?_ GE265.out)) hb); have NB265_267 := av ((by rw [hg]; exact Nat.ne_of_lt (aG (g := gb265) (o := .cells #[.int .i64 a1_0, .int .i64 a1_1] 35 (0, 0)) (by (with_reducible repeat (first | apply af | apply aj | apply ag)); exact BK265.out)) : gb265 ≠ gb267)); have NB267_265 := av ((by rw [hg]; exact Nat.ne_of_gt (aG (g := gb265) (o := .cells #[.int .i64 a1_0, .int .i64 a1_1] 35 (0, 0)) (by (with_reducible repeat (first | apply af | apply aj | apply ag)); exact BK265.out)) : gb267 ≠ gb265)); replace BK265 := av (ay (g := gb265) (o := .cells #[.int .i64 a1_0, .int .i64 a1_1] 35 (0, 0)) (by (with_reducible repeat (first | apply af | apply aj | apply ag)); exact BK265.out) hb); clear hb hbox hg; have hnb10 := NB267_265.out; have hnc10 := NB265_267.out; have hcz11_0 : w9.cell? ⟨gb267, 0, none⟩ = some (.int .i64 0) := (ak BK267.out 0).trans rfl; have hcz11_1 : w9.cell? ⟨gb267, 1, none⟩ = some (.int .i64 0) := (ak BK267.out 1).trans rfl; have hfz11_0 := au BK267.out 0; have hfz11_1 := au BK267.out 1; have hcz12_0 : w9.cell? ⟨gb265, 0, none⟩ = some (.int .i64 a1_0) := (ak BK265.out 0).trans rfl; have hcz12_1 : w9.cell? ⟨gb265, 1, none⟩ = some (.int .i64 a1_1) := (ak BK265.out 1).trans rfl; have hfz12_0 := au BK265.out 0; have hfz12_1 := au BK265.out 1))
        go_ret
        exact ⟨by first | rfl | (simp <;> rfl) | (simp [*] <;> rfl), by with_reducible repeat (first | exact HB.out | apply ah | apply aa | apply ai | refine ae ?_ GE265.out | refine ae ?_ GE267.out)⟩
       ·rw [if_neg c8] at H
        have c8b0 : decide ((wrap64 (a1_0 + a1_1)) ≤ (wrap64 (((ax l0 x9_1).f0) + ((ax l0 x9_1).f1)))) = false := decide_eq_false c8
        clear c8
        have H' := av H
        clear H
        have p266 : 0 ≤ (x9_1 : Int) := of_decide_eq_true (by assumption)
        have q266 : x9_1 < (l0.length : Int) := of_decide_eq_true (by assumption)
        obtain ⟨ad266, e266, hx266_0, hx266_1⟩ := bC HR0.out x9_1 p266 q266
        cases e266
        replace hx266_0 := (HB.out.cell (World.block_lt_of_cell? w _ hx266_0)).trans hx266_0
        replace hx266_1 := (HB.out.cell (World.block_lt_of_cell? w _ hx266_1)).trans hx266_1
        replace p266 := eq_true p266
        replace q266 := eq_true q266
        go_wp2_with (first | ((with_reducible refine aK (N := 6) rfl ?_); refine aI ?hg (N := 6) ?hd (cs := #[.int .i64 0, .int .i64 0]) (t := 35) ?hr ?_; (case hd => rfl); (case hg => rfl); (case hr => first | (go_simp; done) | (go_simp; rfl)); intro gb267 hg w13 hbox hb; have BK267 := av (hbox); have GW267 := av ((by rw [hg]; exact (az (by with_reducible repeat (first | exact HB.out | apply ah | apply aa | apply ai | refine ae ?_ GE265.out))) : w.heap.size ≤ gb267)); have GE267 := av ((by rw [hg]; exact (az (by with_reducible repeat (first | exact HB.out | apply ah | apply aa | apply ai | refine ae ?_ GE265.out))) : w.heap.size ≤ gb267)); replace HB := av (aA (by with_reducible repeat (first | exact HB.out | apply ah | apply aa | apply ai | refine ae ?_ GE265.out)) hb); have NB265_267 := av ((by rw [hg]; exact Nat.ne_of_lt (aG (g := gb265) (o := .cells #[.int .i64 a1_0, .int .i64 a1_1] 35 (0, 0)) (by (with_reducible repeat (first | apply af | apply aj | apply ag)); exact BK265.out)) : gb265 ≠ gb267)); have NB267_265 := av ((by rw [hg]; exact Nat.ne_of_gt (aG (g := gb265) (o := .cells #[.int .i64 a1_0, .int .i64 a1_1] 35 (0, 0)) (by (with_reducible repeat (first | apply af | apply aj | apply ag)); exact BK265.out)) : gb267 ≠ gb265)); replace BK265 := av (ay (g := gb265) (o := .cells #[.int .i64 a1_0, .int .i64 a1_1] 35 (0, 0)) (by (with_reducible repeat (first | apply af | apply aj | apply ag)); exact BK265.out) hb); clear hb hbox hg; have hnb14 := NB267_265.out; have hnc14 := NB265_267.out; have hcz15_0 : w13.cell? ⟨gb267, 0, none⟩ = some (.int .i64 0) := (ak BK267.out 0).trans rfl; have hcz15_1 : w13.cell? ⟨gb267, 1, none⟩ = some (.int .i64 0) := (ak BK267.out 1).trans rfl; have hfz15_0 := au BK267.out 0; have hfz15_1 := au BK267.out 1; have hcz16_0 : w13.cell? ⟨gb265, 0, none⟩ = some (.int .i64 a1_0) := (ak BK265.out 0).trans rfl; have hcz16_1 : w13.cell? ⟨gb265, 1, none⟩ = some (.int .i64 a1_1) := (ak BK265.out 1).trans rfl; have hfz16_0 := au BK265.out 0; have hfz16_1 := au BK265.out 1))
        go_roundg k1
        case measure => have := HK1.out; omega
        case rel => exact ⟨(wrap64 (x9_1 + 1)), (by first | rfl | (simp; done) | (simp [*]; done)), H', ⟨by have := HK1.out; omega⟩, ⟨by (with_reducible repeat (first | apply af | apply aj | apply ag)); refine aJ ?_ NB265_267.out _; (with_reducible repeat (first | apply af | apply aj | apply ag)); refine aJ ?_ NB265_267.out _; (with_reducible repeat (first | apply af | apply aj | apply ag)); exact BK265.out⟩, ⟨by with_reducible repeat (first | exact HB.out | apply ah | apply aa | apply ai | refine ae ?_ GE265.out | refine ae ?_ GE267.out)⟩⟩
      ·rw [if_neg c7] at H
       have c7b0 : decide (((ax l0 x9_1).f0) ≤ a1_0) = false := decide_eq_false c7
       clear c7
       have H' := av H
       clear H
       have p266 : 0 ≤ (x9_1 : Int) := of_decide_eq_true (by assumption)
       have q266 : x9_1 < (l0.length : Int) := of_decide_eq_true (by assumption)
       obtain ⟨ad266, e266, hx266_0, hx266_1⟩ := bC HR0.out x9_1 p266 q266
       cases e266
       replace hx266_0 := (HB.out.cell (World.block_lt_of_cell? w _ hx266_0)).trans hx266_0
       replace hx266_1 := (HB.out.cell (World.block_lt_of_cell? w _ hx266_1)).trans hx266_1
       replace p266 := eq_true p266
       replace q266 := eq_true q266
       go_wp2_with (first | ((with_reducible refine aK (N := 6) rfl ?_); refine aI ?hg (N := 6) ?hd (cs := #[.int .i64 0, .int .i64 0]) (t := 35) ?hr ?_; (case hd => rfl); (case hg => rfl); (case hr => first | (go_simp; done) | (go_simp; rfl)); intro gb267 hg w17 hbox hb; have BK267 := av (hbox); have GW267 := av ((by rw [hg]; exact (az (by with_reducible repeat (first | exact HB.out | apply ah | apply aa | apply ai | refine ae ?_ GE265.out))) : w.heap.size ≤ gb267)); have GE267 := av ((by rw [hg]; exact (az (by with_reducible repeat (first | exact HB.out | apply ah | apply aa | apply ai | refine ae ?_ GE265.out))) : w.heap.size ≤ gb267)); replace HB := av (aA (by with_reducible repeat (first | exact HB.out | apply ah | apply aa | apply ai | refine ae ?_ GE265.out)) hb); have NB265_267 := av ((by rw [hg]; exact Nat.ne_of_lt (aG (g := gb265) (o := .cells #[.int .i64 a1_0, .int .i64 a1_1] 35 (0, 0)) (by (with_reducible repeat (first | apply af | apply aj | apply ag)); exact BK265.out)) : gb265 ≠ gb267)); have NB267_265 := av ((by rw [hg]; exact Nat.ne_of_gt (aG (g := gb265) (o := .cells #[.int .i64 a1_0, .int .i64 a1_1] 35 (0, 0)) (by (with_reducible repeat (first | apply af | apply aj | apply ag)); exact BK265.out)) : gb267 ≠ gb265)); replace BK265 := av (ay (g := gb265) (o := .cells #[.int .i64 a1_0, .int .i64 a1_1] 35 (0, 0)) (by (with_reducible repeat (first | apply af | apply aj | apply ag)); exact BK265.out) hb); clear hb hbox hg; have hnb18 := NB267_265.out; have hnc18 := NB265_267.out; have hcz19_0 : w17.cell? ⟨gb267, 0, none⟩ = some (.int .i64 0) := (ak BK267.out 0).trans rfl; have hcz19_1 : w17.cell? ⟨gb267, 1, none⟩ = some (.int .i64 0) := (ak BK267.out 1).trans rfl; have hfz19_0 := au BK267.out 0; have hfz19_1 := au BK267.out 1; have hcz20_0 : w17.cell? ⟨gb265, 0, none⟩ = some (.int .i64 a1_0) := (ak BK265.out 0).trans rfl; have hcz20_1 : w17.cell? ⟨gb265, 1, none⟩ = some (.int .i64 a1_1) := (ak BK265.out 1).trans rfl; have hfz20_0 := au BK265.out 0; have hfz20_1 := au BK265.out 1))
       go_roundg k1
       case measure => have := HK1.out; omega
       case rel => exact ⟨(wrap64 (x9_1 + 1)), (by first | rfl | (simp; done) | (simp [*]; done)), H', ⟨by have := HK1.out; omega⟩, ⟨by (with_reducible repeat (first | apply af | apply aj | apply ag)); refine aJ ?_ NB265_267.out _; (with_reducible repeat (first | apply af | apply aj | apply ag)); refine aJ ?_ NB265_267.out _; (with_reducible repeat (first | apply af | apply aj | apply ag)); exact BK265.out⟩, ⟨by with_reducible repeat (first | exact HB.out | apply ah | apply aa | apply ai | refine ae ?_ GE265.out | refine ae ?_ GE267.out)⟩⟩
     ·rw [if_neg c6] at H
      exact absurd H (by simp)
    ·rw [if_neg c5] at H
     exact absurd H (by simp)
   ·rw [if_neg c4] at H
    have c4b0 : decide (x9_1 < (l0.length : Int)) = false := decide_eq_false c4
    clear c4
    obtain rfl := Option.some.inj H
    go_wp2
    go_ret
    exact ⟨by first | rfl | (simp <;> rfl) | (simp [*] <;> rfl), by with_reducible repeat (first | exact HB.out | apply ah | apply aa | apply ai | refine ae ?_ GE265.out)⟩
attribute [local go_sem] bK bJ bT bU bA bB bM bL
set_option linter.unusedVariables false
set_option linter.unusedSimpArgs false
def spec_TakeExact.j0 : Nat → Bool → Int → List (S35) → List (S35) → Int → Int → Option (Int × (List (S35)) × (List (S35)) × Bool)
 | 0, _, _, _, _, _, _ => none
 | k + 1, x17, x290000, x290001, x290002, x291000, x291001 => if x17 = true then (some (0, ([] : List (S35)), ([] : List (S35)), false)) else ((spec_l5Within.f k x290001 x291000 x291001).bind fun t294 => (if t294 < 0 then (some (0, ([] : List (S35)), ([] : List (S35)), false)) else ((spec_l5Cut.f x290001 t294 x291000 x291001).bind fun t295 => ((spec_l5Of.f k x290000 t295).bind fun bt298 => ((spec_GoodFree.f k bt298.1 bt298.2.1 bt298.2.2).bind fun t306 => (if t306 = true then (some (bt298.1, bt298.2.1, bt298.2.2, true)) else (some (0, ([] : List (S35)), ([] : List (S35)), false))))))))
def spec_TakeExact.f (k : Nat) (a0_0 : Int) (l0_1 : List (S35)) (l0_2 : List (S35)) (a1_0 : Int) (a1_1 : Int) : Option (Int × (List (S35)) × (List (S35)) × Bool) := (spec_GoodFree.f k a0_0 l0_1 l0_2).bind fun t292 => (if t292 = true then ((spec_l5Extent.f a1_0 a1_1 a0_0).bind fun t293 => (spec_TakeExact.j0 k (!t293) a0_0 l0_1 l0_2 a1_0 a1_1)) else (spec_TakeExact.j0 k true a0_0 l0_1 l0_2 a1_0 a1_1))
def spec_TakeExact.T6 : Bool × List (List Nat × List Nat) := (true, [([], []), ([0], [0]), ([], []), ([2], [2]), ([], []), ([], []), ([3, 4, 5], [3, 4, 5]), ([1, 6, 6], [1, 6]), ([], []), ([8, 7, 7, 0, 1, 2, 3, 4, 5, 6, 7, 8], [7, 8])])
def spec_TakeExact.B6 : List Nat := [0, 1, 0, 4, 0, 0, 60, 127, 0, 511]
theorem spec_TakeExact.tab6 : fG .any (opsOf Try.f31 6) = spec_TakeExact.T6 := by kernel_rfl
theorem spec_TakeExact.bits6 : gF spec_TakeExact.T6.2 spec_TakeExact.B6 = true := by kernel_rfl
set_option maxHeartbeats 8000000 in
set_option maxRecDepth 100000 in
theorem spec_TakeExact.calls (k : Nat) (a0_0 : Int) (A0_1 : Option Addr) (c0_1 : Nat) (l0_1 : List (S35)) (A0_2 : Option Addr) (c0_2 : Nat) (l0_2 : List (S35)) (a1_0 : Int) (a1_1 : Int) (r1 : Int) (r2 : List (S35)) (r3 : List (S35)) (r4 : Bool) (w : World) (hr0_1 : Kd.C k35 w A0_1 l0_1.length l0_1) (hc0_1 : l0_1.length ≤ c0_1) (hr0_2 : Kd.C k35 w A0_2 l0_2.length l0_2) (hc0_2 : l0_2.length ≤ c0_2) (h : spec_TakeExact.f k a0_0 l0_1 l0_2 a1_0 a1_1 = some (r1, r2, r3, r4)) :
  Calls Try.prog 31 #[.agg #[.int .i64 a0_0, .slice A0_1 l0_1.length c0_1, .slice A0_2 l0_2.length c0_2], .agg #[.int .i64 a1_0, .int .i64 a1_1]] w fun e w' => ∃ v1_ v2_ : Value, e = .returned (.tuple #[.agg #[.int .i64 r1, v1_, v2_], .bool r4]) ∧ Kd.R k35 35 w' w.heap.size (fun k_ => some k_ ≠ (v2_ : Value).ownBlock) v1_ r2 ∧ Kd.R k35 35 w' w.heap.size (fun k_ => some k_ ≠ (v1_ : Value).ownBlock) v2_ r3 ∧ Below w.heap.size w w' := by
 have hu24 := Try.underlying24
 have hu35 := Try.underlying35
 have HR0_1 := av hr0_1
 have HC0_1 := av hc0_1
 clear hr0_1 hc0_1
 have HR0_2 := av hr0_2
 have HC0_2 := av hc0_2
 clear hr0_2 hc0_2
 have HB := av (Below.refl w.heap.size w)
 have H : ((spec_GoodFree.f k a0_0 l0_1 l0_2).bind fun t292 => (if t292 = true then ((spec_l5Extent.f a1_0 a1_1 a0_0).bind fun t293 => (spec_TakeExact.j0 k (!t293) a0_0 l0_1 l0_2 a1_0 a1_1)) else (spec_TakeExact.j0 k true a0_0 l0_1 l0_2 a1_0 a1_1))) = some (r1, r2, r3, r4) := h
 clear h
 have HC3 := av H
 clear H
 go_enter Try.func31, Try.ntmps31
 go_upto_region 1 with (first | ((with_reducible refine aK (N := 2) rfl ?_); refine aI ?hg (N := 2) ?hd (cs := #[.int .i64 a0_0, .slice A0_1 l0_1.length c0_1, .slice A0_2 l0_2.length c0_2]) (t := 24) ?hr ?_; (case hd => rfl); (case hg => rfl); (case hr => first | (go_simp; done) | (go_simp; rfl)); intro gb289 hg w4 hbox hb; have BK289 := av (hbox); have GW289 := av ((by rw [hg]; exact (az (by with_reducible repeat (first | exact HB.out | apply ah | apply aa | apply ai))) : w.heap.size ≤ gb289)); have GE289 := av ((by rw [hg]; exact (az (by with_reducible repeat (first | exact HB.out | apply ah | apply aa | apply ai))) : w.heap.size ≤ gb289)); replace HB := av (aA (by with_reducible repeat (first | exact HB.out | apply ah | apply aa | apply ai)) hb); clear hb hbox hg) | ((with_reducible refine aK (N := 3) rfl ?_); refine aI ?hg (N := 3) ?hd (cs := #[.int .i64 a1_0, .int .i64 a1_1]) (t := 35) ?hr ?_; (case hd => rfl); (case hg => rfl); (case hr => first | (go_simp; done) | (go_simp; rfl)); intro gb290 hg w5 hbox hb; have BK290 := av (hbox); have GW290 := av ((by rw [hg]; exact (az (by with_reducible repeat (first | exact HB.out | apply ah | apply aa | apply ai | refine ae ?_ GE289.out))) : w.heap.size ≤ gb290)); have GE290 := av ((by rw [hg]; exact (az (by with_reducible repeat (first | exact HB.out | apply ah | apply aa | apply ai | refine ae ?_ GE289.out))) : w.heap.size ≤ gb290)); replace HB := av (aA (by with_reducible repeat (first | exact HB.out | apply ah | apply aa | apply ai | refine ae ?_ GE289.out)) hb); have NB289_290 := av ((by rw [hg]; exact Nat.ne_of_lt (aG (g := gb289) (o := .cells #[.int .i64 a0_0, .slice A0_1 l0_1.length c0_1, .slice A0_2 l0_2.length c0_2] 24 (0, 0)) (by (with_reducible repeat (first | apply af | apply aj | apply ag)); exact BK289.out)) : gb289 ≠ gb290)); have NB290_289 := av ((by rw [hg]; exact Nat.ne_of_gt (aG (g := gb289) (o := .cells #[.int .i64 a0_0, .slice A0_1 l0_1.length c0_1, .slice A0_2 l0_2.length c0_2] 24 (0, 0)) (by (with_reducible repeat (first | apply af | apply aj | apply ag)); exact BK289.out)) : gb290 ≠ gb289)); replace BK289 := av (ay (g := gb289) (o := .cells #[.int .i64 a0_0, .slice A0_1 l0_1.length c0_1, .slice A0_2 l0_2.length c0_2] 24 (0, 0)) (by (with_reducible repeat (first | apply af | apply aj | apply ag)); exact BK289.out) hb); clear hb hbox hg) | ((with_reducible refine aK (N := 4) rfl ?_); refine aI ?hg (N := 4) ?hd (cs := #[.int .i64 0, .slice none 0 0, .slice none 0 0]) (t := 24) ?hr ?_; (case hd => rfl); (case hg => rfl); (case hr => first | (go_simp; done) | (go_simp; rfl)); intro gb291 hg w6 hbox hb; have BK291 := av (hbox); have GW291 := av ((by rw [hg]; exact (az (by with_reducible repeat (first | exact HB.out | apply ah | apply aa | apply ai | refine ae ?_ GE289.out | refine ae ?_ GE290.out))) : w.heap.size ≤ gb291)); have GE291 := av ((by rw [hg]; exact (az (by with_reducible repeat (first | exact HB.out | apply ah | apply aa | apply ai | refine ae ?_ GE289.out | refine ae ?_ GE290.out))) : w.heap.size ≤ gb291)); replace HB := av (aA (by with_reducible repeat (first | exact HB.out | apply ah | apply aa | apply ai | refine ae ?_ GE289.out | refine ae ?_ GE290.out)) hb); have NB289_291 := av ((by rw [hg]; exact Nat.ne_of_lt (aG (g := gb289) (o := .cells #[.int .i64 a0_0, .slice A0_1 l0_1.length c0_1, .slice A0_2 l0_2.length c0_2] 24 (0, 0)) (by (with_reducible repeat (first | apply af | apply aj | apply ag)); exact BK289.out)) : gb289 ≠ gb291)); have NB291_289 := av ((by rw [hg]; exact Nat.ne_of_gt (aG (g := gb289) (o := .cells #[.int .i64 a0_0, .slice A0_1 l0_1.length c0_1, .slice A0_2 l0_2.length c0_2] 24 (0, 0)) (by (with_reducible repeat (first | apply af | apply aj | apply ag)); exact BK289.out)) : gb291 ≠ gb289)); replace BK289 := av (ay (g := gb289) (o := .cells #[.int .i64 a0_0, .slice A0_1 l0_1.length c0_1, .slice A0_2 l0_2.length c0_2] 24 (0, 0)) (by (with_reducible repeat (first | apply af | apply aj | apply ag)); exact BK289.out) hb); have NB290_291 := av ((by rw [hg]; exact Nat.ne_of_lt (aG (g := gb290) (o := .cells #[.int .i64 a1_0, .int .i64 a1_1] 35 (0, 0)) (by (with_reducible repeat (first | apply af | apply aj | apply ag)); exact BK290.out)) : gb290 ≠ gb291)); have NB291_290 := av ((by rw [hg]; exact Nat.ne_of_gt (aG (g := gb290) (o := .cells #[.int .i64 a1_0, .int .i64 a1_1] 35 (0, 0)) (by (with_reducible repeat (first | apply af | apply aj | apply ag)); exact BK290.out)) : gb291 ≠ gb290)); replace BK290 := av (ay (g := gb290) (o := .cells #[.int .i64 a1_0, .int .i64 a1_1] 35 (0, 0)) (by (with_reducible repeat (first | apply af | apply aj | apply ag)); exact BK290.out) hb); clear hb hbox hg))
 (try simp only [apu_])
 go_cut [17] (fun v17 wc => ∃ (kq : Nat) (x17_2 : Bool), v17 = .bool x17_2 ∧ Aside0 (spec_TakeExact.j0 kq x17_2 a0_0 l0_1 l0_2 a1_0 a1_1 = some (r1, r2, r3, r4)) ∧ Aside0 (kq ≤ k) ∧ Aside0 (wc.heap[gb289]? = some (.cells #[.int .i64 a0_0, (.slice A0_1 l0_1.length c0_1), (.slice A0_2 l0_2.length c0_2)] 24 (0, 0))) ∧ Aside0 (wc.heap[gb290]? = some (.cells #[.int .i64 a1_0, .int .i64 a1_1] 35 (0, 0))) ∧ Aside0 (wc.heap[gb291]? = some (.cells #[.int .i64 0, (.slice none 0 0), (.slice none 0 0)] 24 (0, 0))) ∧ Aside0 (Below w.heap.size w wc))
 case first =>
  have H := HC3.out
  clear HC3
  replace H := Option.bind_eq_some_iff.mp H
  obtain ⟨t292, A70, H⟩ := H
  replace H : (if t292 = true then ((spec_l5Extent.f a1_0 a1_1 a0_0).bind fun t293 => (spec_TakeExact.j0 k (!t293) a0_0 l0_1 l0_2 a1_0 a1_1)) else (spec_TakeExact.j0 k true a0_0 l0_1 l0_2 a1_0 a1_1)) = some (r1, r2, r3, r4) := H
  have A7 := av A70
  clear A70
  by_cases c8 : t292 = true
  ·subst c8
   have H1 : ((spec_l5Extent.f a1_0 a1_1 a0_0).bind fun t293 => (spec_TakeExact.j0 k (!t293) a0_0 l0_1 l0_2 a1_0 a1_1)) = some (r1, r2, r3, r4) := by rw [if_pos rfl] at H; exact H
   clear H
   have H := H1
   clear H1
   replace H := Option.bind_eq_some_iff.mp H
   obtain ⟨t293, A90, H⟩ := H
   replace H : (spec_TakeExact.j0 k (!t293) a0_0 l0_1 l0_2 a1_0 a1_1) = some (r1, r2, r3, r4) := H
   have A9 := av A90
   clear A90
   have H' := av H
   clear H
   have hnb10 := NB289_290.out
   have hnc10 := NB290_289.out
   have hnb11 := NB289_291.out
   have hnc11 := NB291_289.out
   have hcz12_0 : w6.cell? ⟨gb289, 0, none⟩ = some (.int .i64 a0_0) := (ak BK289.out 0).trans rfl
   have hcz12_1 : w6.cell? ⟨gb289, 1, none⟩ = some (.slice A0_1 l0_1.length c0_1) := (ak BK289.out 1).trans rfl
   have hcz12_2 : w6.cell? ⟨gb289, 2, none⟩ = some (.slice A0_2 l0_2.length c0_2) := (ak BK289.out 2).trans rfl
   have hfz12_0 := au BK289.out 0
   have hfz12_1 := au BK289.out 1
   have hfz12_2 := au BK289.out 2
   go_wp2_with (first | ((with_reducible refine aT (f := 25) rfl ?_); refine bF (some 9) rfl rfl Try.func25 (by kernel_rfl) rfl #[.agg #[.int .i64 a0_0, .slice A0_1 l0_1.length c0_1, .slice A0_2 l0_2.length c0_2]] rfl (by (try simp only [amp_]); first | done | rfl | (simp only [ald_]; rfl)) ?_; (with_reducible refine (spec_GoodFree.calls k a0_0 _ _ l0_1 _ _ l0_2 true _ ?side1 ?side2 ?side3 ?side4 A7.out).mono ?_); (case side1 => repeat (first | exact (Kd.aN HR0_1.out HB.out) | (with_reducible first | apply Kd.aU | apply Kd.aV | apply Kd.bf))); (case side2 => exact HC0_1.out); (case side3 => repeat (first | exact (Kd.aN HR0_2.out HB.out) | (with_reducible first | apply Kd.aU | apply Kd.aV | apply Kd.bf))); (case side4 => exact HC0_2.out); rintro e w13 ⟨rfl, hb⟩; refine ⟨_, rfl, ?_⟩; replace BK289 := av (ay (g := gb289) (o := .cells #[.int .i64 a0_0, .slice A0_1 l0_1.length c0_1, .slice A0_2 l0_2.length c0_2] 24 (0, 0)) (by (with_reducible repeat (first | apply af | apply aj | apply ag)); exact BK289.out) hb); replace BK290 := av (ay (g := gb290) (o := .cells #[.int .i64 a1_0, .int .i64 a1_1] 35 (0, 0)) (by (with_reducible repeat (first | apply af | apply aj | apply ag)); exact BK290.out) hb); replace BK291 := av (ay (g := gb291) (o := .cells #[.int .i64 0, .slice none 0 0, .slice none 0 0] 24 (0, 0)) (by (with_reducible repeat (first | apply af | apply aj | apply ag)); exact BK291.out) hb); replace HB := av (aA (by with_reducible repeat (first | exact HB.out | apply ah | apply aa | apply ai | refine ae ?_ GE289.out | refine ae ?_ GE290.out | refine ae ?_ GE291.out)) hb); (try clear hb); (try clear hb2); (try clear hk); (try clear hi); have hnb14 := NB290_291.out; have hnc14 := NB291_290.out; have hcz15_0 : w13.cell? ⟨gb290, 0, none⟩ = some (.int .i64 a1_0) := (ak BK290.out 0).trans rfl; have hcz15_1 : w13.cell? ⟨gb290, 1, none⟩ = some (.int .i64 a1_1) := (ak BK290.out 1).trans rfl; have hfz15_0 := au BK290.out 0; have hfz15_1 := au BK290.out 1; have hcz16_0 : w13.cell? ⟨gb289, 0, none⟩ = some (.int .i64 a0_0) := (ak BK289.out 0).trans rfl; have hcz16_1 : w13.cell? ⟨gb289, 1, none⟩ = some (.slice A0_1 l0_1.length c0_1) := (ak BK289.out 1).trans rfl; have hcz16_2 : w13.cell? ⟨gb289, 2, none⟩ = some (.slice A0_2 l0_2.length c0_2) := (ak BK289.out 2).trans rfl; have hfz16_0 := au BK289.out 0; have hfz16_1 := au BK289.out 1; have hfz16_2 := au BK289.out 2) | (go_at_call 50; (with_reducible refine (spec_l5Extent.calls a1_0 a1_1 a0_0 t293 _ A9.out).mono ?_); rintro e w17 ⟨rfl, hb⟩; replace BK289 := av (ay (g := gb289) (o := .cells #[.int .i64 a0_0, .slice A0_1 l0_1.length c0_1, .slice A0_2 l0_2.length c0_2] 24 (0, 0)) (by (with_reducible repeat (first | apply af | apply aj | apply ag)); exact BK289.out) hb); replace BK290 := av (ay (g := gb290) (o := .cells #[.int .i64 a1_0, .int .i64 a1_1] 35 (0, 0)) (by (with_reducible repeat (first | apply af | apply aj | apply ag)); exact BK290.out) hb); replace BK291 := av (ay (g := gb291) (o := .cells #[.int .i64 0, .slice none 0 0, .slice none 0 0] 24 (0, 0)) (by (with_reducible repeat (first | apply af | apply aj | apply ag)); exact BK291.out) hb); replace HB := av (aA (by with_reducible repeat (first | exact HB.out | apply ah | apply aa | apply ai | refine ae ?_ GE289.out | refine ae ?_ GE290.out | refine ae ?_ GE291.out)) hb); (try clear hb); (try clear hb2); (try clear hk); (try clear hi)))
   go_meet
   case rel => exact ⟨_, (!t293), (by first | rfl | (simp; done) | (simp [*]; done)), H', ⟨by first | omega | exact Nat.le_refl _⟩, ⟨by (with_reducible repeat (first | apply af | apply aj | apply ag)); exact BK289.out⟩, ⟨by (with_reducible repeat (first | apply af | apply aj | apply ag)); exact BK290.out⟩, ⟨by (with_reducible repeat (first | apply af | apply aj | apply ag)); exact BK291.out⟩, ⟨by with_reducible repeat (first | exact HB.out | apply ah | apply aa | apply ai | refine ae ?_ GE289.out | refine ae ?_ GE290.out | refine ae ?_ GE291.out)⟩⟩
  ·replace c8 := Bool.eq_false_iff.mpr c8
   subst c8
   have H1 : (spec_TakeExact.j0 k true a0_0 l0_1 l0_2 a1_0 a1_1) = some (r1, r2, r3, r4) := by rw [if_neg (show ¬ (false = true) by decide)] at H; exact H
   clear H
   have H := H1
   clear H1
   have H' := av H
   clear H
   have hnb18 := NB289_290.out
   have hnc18 := NB290_289.out
   have hnb19 := NB289_291.out
   have hnc19 := NB291_289.out
   have hcz20_0 : w6.cell? ⟨gb289, 0, none⟩ = some (.int .i64 a0_0) := (ak BK289.out 0).trans rfl
   have hcz20_1 : w6.cell? ⟨gb289, 1, none⟩ = some (.slice A0_1 l0_1.length c0_1) := (ak BK289.out 1).trans rfl
   have hcz20_2 : w6.cell? ⟨gb289, 2, none⟩ = some (.slice A0_2 l0_2.length c0_2) := (ak BK289.out 2).trans rfl
   have hfz20_0 := au BK289.out 0
   have hfz20_1 := au BK289.out 1
   have hfz20_2 := au BK289.out 2
   go_wp2_with (first | ((with_reducible refine aT (f := 25) rfl ?_); refine bF (some 9) rfl rfl Try.func25 (by kernel_rfl) rfl #[.agg #[.int .i64 a0_0, .slice A0_1 l0_1.length c0_1, .slice A0_2 l0_2.length c0_2]] rfl (by (try simp only [amp_]); first | done | rfl | (simp only [ald_]; rfl)) ?_; (with_reducible refine (spec_GoodFree.calls k a0_0 _ _ l0_1 _ _ l0_2 false _ ?side1 ?side2 ?side3 ?side4 A7.out).mono ?_); (case side1 => repeat (first | exact (Kd.aN HR0_1.out HB.out) | (with_reducible first | apply Kd.aU | apply Kd.aV | apply Kd.bf))); (case side2 => exact HC0_1.out); (case side3 => repeat (first | exact (Kd.aN HR0_2.out HB.out) | (with_reducible first | apply Kd.aU | apply Kd.aV | apply Kd.bf))); (case side4 => exact HC0_2.out); rintro e w21 ⟨rfl, hb⟩; refine ⟨_, rfl, ?_⟩; replace BK289 := av (ay (g := gb289) (o := .cells #[.int .i64 a0_0, .slice A0_1 l0_1.length c0_1, .slice A0_2 l0_2.length c0_2] 24 (0, 0)) (by (with_reducible repeat (first | apply af | apply aj | apply ag)); exact BK289.out) hb); replace BK290 := av (ay (g := gb290) (o := .cells #[.int .i64 a1_0, .int .i64 a1_1] 35 (0, 0)) (by (with_reducible repeat (first | apply af | apply aj | apply ag)); exact BK290.out) hb); replace BK291 := av (ay (g := gb291) (o := .cells #[.int .i64 0, .slice none 0 0, .slice none 0 0] 24 (0, 0)) (by (with_reducible repeat (first | apply af | apply aj | apply ag)); exact BK291.out) hb); replace HB := av (aA (by with_reducible repeat (first | exact HB.out | apply ah | apply aa | apply ai | refine ae ?_ GE289.out | refine ae ?_ GE290.out | refine ae ?_ GE291.out)) hb); (try clear hb); (try clear hb2); (try clear hk); (try clear hi)))
   go_meet
   case rel => exact ⟨_, (true), (by first | rfl | (simp; done) | (simp [*]; done)), H', ⟨by first | omega | exact Nat.le_refl _⟩, ⟨by (with_reducible repeat (first | apply af | apply aj | apply ag)); exact BK289.out⟩, ⟨by (with_reducible repeat (first | apply af | apply aj | apply ag)); exact BK290.out⟩, ⟨by (with_reducible repeat (first | apply af | apply aj | apply ag)); exact BK291.out⟩, ⟨by with_reducible repeat (first | exact HB.out | apply ah | apply aa | apply ai | refine ae ?_ GE289.out | refine ae ?_ GE290.out | refine ae ?_ GE291.out)⟩⟩
 case rest =>
  clear HC3
  try clear c1
  try clear c2
  try clear p2
  try clear c3
  try clear c8
  try clear c10
  try clear c11
  try clear c14
  try clear c18
  try clear c19
  try clear hcz12_0
  try clear hcz12_1
  try clear hcz12_2
  try clear hcz15_0
  try clear hcz15_1
  try clear hcz16_0
  try clear hcz16_1
  try clear hcz16_2
  try clear hcz20_0
  try clear hcz20_1
  try clear hcz20_2
  try clear hfz12_0
  try clear hfz12_1
  try clear hfz12_2
  try clear hfz15_0
  try clear hfz15_1
  try clear hfz16_0
  try clear hfz16_1
  try clear hfz16_2
  try clear hfz20_0
  try clear hfz20_1
  try clear hfz20_2
  obtain ⟨kq, x17_2, rfl, HA, HJ2, BK289, BK290, BK291, HB⟩ := hcut
  cases kq with
  | zero => exact absurd HA.out (by simp [spec_TakeExact.j0])
  | succ kj2 =>
   have H := HA.out
   clear HA
   simp only [spec_TakeExact.j0] at H
   by_cases c22 : x17_2 = true
   ·subst c22
    have H1 : (some (0, ([] : List (S35)), ([] : List (S35)), false)) = some (r1, r2, r3, r4) := by rw [if_pos rfl] at H; exact H
    clear H
    have H := H1
    clear H1
    simp only [Option.some.injEq, Prod.mk.injEq] at H
    obtain ⟨rfl, rfl, rfl, rfl⟩ := H
    have hnb23 := NB291_289.out
    have hnc23 := NB289_291.out
    have hnb24 := NB291_290.out
    have hnc24 := NB290_291.out
    have hcz25_0 : wc.cell? ⟨gb291, 0, none⟩ = some (.int .i64 0) := (ak BK291.out 0).trans rfl
    have hcz25_1 : wc.cell? ⟨gb291, 1, none⟩ = some (.slice none 0 0) := (ak BK291.out 1).trans rfl
    have hcz25_2 : wc.cell? ⟨gb291, 2, none⟩ = some (.slice none 0 0) := (ak BK291.out 2).trans rfl
    have hfz25_0 := au BK291.out 0
    have hfz25_1 := au BK291.out 1
    have hfz25_2 := au BK291.out 2
    go_wp2
    refine bodyPost_ret (dw rfl _ _ gb291 24 #[.int .i64 0, .slice none 0 0, .slice none 0 0] (0, 0) _ rfl (by (with_reducible repeat (first | apply af | apply aj | apply ag)); refine aM (cs := #[.int .i64 0, .slice none 0 0, .slice none 0 0]) ?_ 2 _ rfl; (with_reducible repeat (first | apply af | apply aj | apply ag)); refine aM (cs := #[.int .i64 0, .slice none 0 0, .slice none 0 0]) ?_ 1 _ rfl; (with_reducible repeat (first | apply af | apply aj | apply ag)); refine aM (cs := #[.int .i64 0, .slice none 0 0, .slice none 0 0]) ?_ 0 _ rfl; (with_reducible repeat (first | apply af | apply aj | apply ag)); exact BK291.out) Try.underlying24 rfl (by kernel_rfl)) rfl ?_
    exact ⟨_, _, by first | rfl | (simp <;> rfl) | (simp [*] <;> rfl), by first | exact Kd.dm _ _ _ _ _ | exact Kd.dP _ _ _ _ _ | exact Kd.dQ _ _ _ _ _ | exact Kd.dO _ _ _ _ _ | exact Kd.dN _ _ _ _ _, by first | exact Kd.dm _ _ _ _ _ | exact Kd.dP _ _ _ _ _ | exact Kd.dQ _ _ _ _ _ | exact Kd.dO _ _ _ _ _ | exact Kd.dN _ _ _ _ _, by with_reducible repeat (first | exact HB.out | apply ah | apply aa | apply ai | refine ae ?_ GE289.out | refine ae ?_ GE290.out | refine ae ?_ GE291.out)⟩
   ·replace c22 := Bool.eq_false_iff.mpr c22
    subst c22
    have H1 : ((spec_l5Within.f kj2 l0_1 a1_0 a1_1).bind fun t294 => (if t294 < 0 then (some (0, ([] : List (S35)), ([] : List (S35)), false)) else ((spec_l5Cut.f l0_1 t294 a1_0 a1_1).bind fun t295 => ((spec_l5Of.f kj2 a0_0 t295).bind fun bt298 => ((spec_GoodFree.f kj2 bt298.1 bt298.2.1 bt298.2.2).bind fun t306 => (if t306 = true then (some (bt298.1, bt298.2.1, bt298.2.2, true)) else (some (0, ([] : List (S35)), ([] : List (S35)), false)))))))) = some (r1, r2, r3, r4) := by rw [if_neg (show ¬ (false = true) by decide)] at H; exact H
    clear H
    have H := H1
    clear H1
    replace H := Option.bind_eq_some_iff.mp H
    obtain ⟨t294, A260, H⟩ := H
    replace H : (if t294 < 0 then (some (0, ([] : List (S35)), ([] : List (S35)), false)) else ((spec_l5Cut.f l0_1 t294 a1_0 a1_1).bind fun t295 => ((spec_l5Of.f kj2 a0_0 t295).bind fun bt298 => ((spec_GoodFree.f kj2 bt298.1 bt298.2.1 bt298.2.2).bind fun t306 => (if t306 = true then (some (bt298.1, bt298.2.1, bt298.2.2, true)) else (some (0, ([] : List (S35)), ([] : List (S35)), false))))))) = some (r1, r2, r3, r4) := H
    have A26 := av A260
    clear A260
    by_cases c27 : t294 < 0
    ·rw [if_pos c27] at H
     have c27b0 : decide (t294 < 0) = true := decide_eq_true c27
     clear c27
     simp only [Option.some.injEq, Prod.mk.injEq] at H
     obtain ⟨rfl, rfl, rfl, rfl⟩ := H
     have hnb28 := NB289_290.out
     have hnc28 := NB290_289.out
     have hnb29 := NB289_291.out
     have hnc29 := NB291_289.out
     have hcz30_0 : wc.cell? ⟨gb289, 0, none⟩ = some (.int .i64 a0_0) := (ak BK289.out 0).trans rfl
     have hcz30_1 : wc.cell? ⟨gb289, 1, none⟩ = some (.slice A0_1 l0_1.length c0_1) := (ak BK289.out 1).trans rfl
     have hcz30_2 : wc.cell? ⟨gb289, 2, none⟩ = some (.slice A0_2 l0_2.length c0_2) := (ak BK289.out 2).trans rfl
     have hfz30_0 := au BK289.out 0
     have hfz30_1 := au BK289.out 1
     have hfz30_2 := au BK289.out 2
     have hnb31 := NB290_291.out
     have hnc31 := NB291_290.out
     have hcz32_0 : wc.cell? ⟨gb290, 0, none⟩ = some (.int .i64 a1_0) := (ak BK290.out 0).trans rfl
     have hcz32_1 : wc.cell? ⟨gb290, 1, none⟩ = some (.int .i64 a1_1) := (ak BK290.out 1).trans rfl
     have hfz32_0 := au BK290.out 0
     have hfz32_1 := au BK290.out 1
     go_wp2_with (first | ((with_reducible refine aT (f := 58) rfl ?_); refine bF (some 22) rfl rfl Try.func58 (by kernel_rfl) rfl #[.slice A0_1 l0_1.length c0_1, .agg #[.int .i64 a1_0, .int .i64 a1_1]] rfl (by (try simp only [amp_]); first | done | rfl | (simp only [ald_]; rfl)) ?_; (with_reducible refine (spec_l5Within.calls kj2 _ _ l0_1 a1_0 a1_1 t294 _ ?side1 ?side2 A26.out).mono ?_); (case side1 => repeat (first | exact (Kd.aN HR0_1.out HB.out) | (with_reducible first | apply Kd.aU | apply Kd.aV | apply Kd.bf))); (case side2 => exact HC0_1.out); rintro e w33 ⟨rfl, hb⟩; refine ⟨_, rfl, ?_⟩; replace BK289 := av (ay (g := gb289) (o := .cells #[.int .i64 a0_0, .slice A0_1 l0_1.length c0_1, .slice A0_2 l0_2.length c0_2] 24 (0, 0)) (by (with_reducible repeat (first | apply af | apply aj | apply ag)); exact BK289.out) hb); replace BK290 := av (ay (g := gb290) (o := .cells #[.int .i64 a1_0, .int .i64 a1_1] 35 (0, 0)) (by (with_reducible repeat (first | apply af | apply aj | apply ag)); exact BK290.out) hb); replace BK291 := av (ay (g := gb291) (o := .cells #[.int .i64 0, .slice none 0 0, .slice none 0 0] 24 (0, 0)) (by (with_reducible repeat (first | apply af | apply aj | apply ag)); exact BK291.out) hb); replace HB := av (aA (by with_reducible repeat (first | exact HB.out | apply ah | apply aa | apply ai | refine ae ?_ GE289.out | refine ae ?_ GE290.out | refine ae ?_ GE291.out)) hb); (try clear hb); (try clear hb2); (try clear hk); (try clear hi); have hcz34_0 : w33.cell? ⟨gb291, 0, none⟩ = some (.int .i64 0) := (ak BK291.out 0).trans rfl; have hcz34_1 : w33.cell? ⟨gb291, 1, none⟩ = some (.slice none 0 0) := (ak BK291.out 1).trans rfl; have hcz34_2 : w33.cell? ⟨gb291, 2, none⟩ = some (.slice none 0 0) := (ak BK291.out 2).trans rfl; have hfz34_0 := au BK291.out 0; have hfz34_1 := au BK291.out 1; have hfz34_2 := au BK291.out 2))
     refine bodyPost_ret (dw rfl _ _ gb291 24 #[.int .i64 0, .slice none 0 0, .slice none 0 0] (0, 0) _ rfl (by (with_reducible repeat (first | apply af | apply aj | apply ag)); refine aM (cs := #[.int .i64 0, .slice none 0 0, .slice none 0 0]) ?_ 2 _ rfl; (with_reducible repeat (first | apply af | apply aj | apply ag)); refine aM (cs := #[.int .i64 0, .slice none 0 0, .slice none 0 0]) ?_ 1 _ rfl; (with_reducible repeat (first | apply af | apply aj | apply ag)); refine aM (cs := #[.int .i64 0, .slice none 0 0, .slice none 0 0]) ?_ 0 _ rfl; (with_reducible repeat (first | apply af | apply aj | apply ag)); exact BK291.out) Try.underlying24 rfl (by kernel_rfl)) rfl ?_
     exact ⟨_, _, by first | rfl | (simp <;> rfl) | (simp [*] <;> rfl), by first | exact Kd.dm _ _ _ _ _ | exact Kd.dP _ _ _ _ _ | exact Kd.dQ _ _ _ _ _ | exact Kd.dO _ _ _ _ _ | exact Kd.dN _ _ _ _ _, by first | exact Kd.dm _ _ _ _ _ | exact Kd.dP _ _ _ _ _ | exact Kd.dQ _ _ _ _ _ | exact Kd.dO _ _ _ _ _ | exact Kd.dN _ _ _ _ _, by with_reducible repeat (first | exact HB.out | apply ah | apply aa | apply ai | refine ae ?_ GE289.out | refine ae ?_ GE290.out | refine ae ?_ GE291.out)⟩
    ·rw [if_neg c27] at H
     have c27b0 : decide (t294 < 0) = false := decide_eq_false c27
     clear c27
     replace H := Option.bind_eq_some_iff.mp H
     obtain ⟨t295, A350, H⟩ := H
     replace H : ((spec_l5Of.f kj2 a0_0 t295).bind fun bt298 => ((spec_GoodFree.f kj2 bt298.1 bt298.2.1 bt298.2.2).bind fun t306 => (if t306 = true then (some (bt298.1, bt298.2.1, bt298.2.2, true)) else (some (0, ([] : List (S35)), ([] : List (S35)), false))))) = some (r1, r2, r3, r4) := H
     have A35 := av A350
     clear A350
     replace H := Option.bind_eq_some_iff.mp H
     obtain ⟨⟨t298, t299, t302⟩, A360, H⟩ := H
     replace H : ((spec_GoodFree.f kj2 t298 t299 t302).bind fun t306 => (if t306 = true then (some (t298, t299, t302, true)) else (some (0, ([] : List (S35)), ([] : List (S35)), false)))) = some (r1, r2, r3, r4) := H
     have A36 := av A360
     clear A360
     replace H := Option.bind_eq_some_iff.mp H
     obtain ⟨t306, A370, H⟩ := H
     replace H : (if t306 = true then (some (t298, t299, t302, true)) else (some (0, ([] : List (S35)), ([] : List (S35)), false))) = some (r1, r2, r3, r4) := H
     have A37 := av A370
     clear A370
     have HQ256 := av H
     clear H
     have hnb39 := NB289_290.out
     have hnc39 := NB290_289.out
     have hnb40 := NB289_291.out
     have hnc40 := NB291_289.out
     have hcz41_0 : wc.cell? ⟨gb289, 0, none⟩ = some (.int .i64 a0_0) := (ak BK289.out 0).trans rfl
     have hcz41_1 : wc.cell? ⟨gb289, 1, none⟩ = some (.slice A0_1 l0_1.length c0_1) := (ak BK289.out 1).trans rfl
     have hcz41_2 : wc.cell? ⟨gb289, 2, none⟩ = some (.slice A0_2 l0_2.length c0_2) := (ak BK289.out 2).trans rfl
     have hfz41_0 := au BK289.out 0
     have hfz41_1 := au BK289.out 1
     have hfz41_2 := au BK289.out 2
     have hnb42 := NB290_291.out
     have hnc42 := NB291_290.out
     have hcz43_0 : wc.cell? ⟨gb290, 0, none⟩ = some (.int .i64 a1_0) := (ak BK290.out 0).trans rfl
     have hcz43_1 : wc.cell? ⟨gb290, 1, none⟩ = some (.int .i64 a1_1) := (ak BK290.out 1).trans rfl
     have hfz43_0 := au BK290.out 0
     have hfz43_1 := au BK290.out 1
     try go_wp2_with (first | ((with_reducible refine aT (f := 58) rfl ?_); refine bF (some 22) rfl rfl Try.func58 (by kernel_rfl) rfl #[.slice A0_1 l0_1.length c0_1, .agg #[.int .i64 a1_0, .int .i64 a1_1]] rfl (by (try simp only [amp_]); first | done | rfl | (simp only [ald_]; rfl)) ?_; (with_reducible refine (spec_l5Within.calls kj2 _ _ l0_1 a1_0 a1_1 t294 _ ?side1 ?side2 A26.out).mono ?_); (case side1 => repeat (first | exact (Kd.aN HR0_1.out HB.out) | (with_reducible first | apply Kd.aU | apply Kd.aV | apply Kd.bf))); (case side2 => exact HC0_1.out); rintro e w44 ⟨rfl, hb⟩; refine ⟨_, rfl, ?_⟩; replace BK289 := av (ay (g := gb289) (o := .cells #[.int .i64 a0_0, .slice A0_1 l0_1.length c0_1, .slice A0_2 l0_2.length c0_2] 24 (0, 0)) (by (with_reducible repeat (first | apply af | apply aj | apply ag)); exact BK289.out) hb); replace BK290 := av (ay (g := gb290) (o := .cells #[.int .i64 a1_0, .int .i64 a1_1] 35 (0, 0)) (by (with_reducible repeat (first | apply af | apply aj | apply ag)); exact BK290.out) hb); replace BK291 := av (ay (g := gb291) (o := .cells #[.int .i64 0, .slice none 0 0, .slice none 0 0] 24 (0, 0)) (by (with_reducible repeat (first | apply af | apply aj | apply ag)); exact BK291.out) hb); replace HB := av (aA (by with_reducible repeat (first | exact HB.out | apply ah | apply aa | apply ai | refine ae ?_ GE289.out | refine ae ?_ GE290.out | refine ae ?_ GE291.out)) hb); (try clear hb); (try clear hb2); (try clear hk); (try clear hi)))
     have n0_ := av (aj BK289.out)
     have n1_ := av (aj BK290.out)
     have n2_ := av (aj BK291.out)
     have n3_ := av (ai HB.out)
     clear BK289
     clear BK290
     clear BK291
     clear HB
     have BK289 := n0_
     have BK290 := n1_
     have BK291 := n2_
     have HB := n3_
     clear n0_ n1_ n2_ n3_
     refine dY (n := 10) (S := fun w' => w'.cell? ⟨gb289, 0, none⟩ = some (.int .i64 a0_0) ∧ w'.cell? ⟨gb289, 1, none⟩ = some (.slice A0_1 l0_1.length c0_1) ∧ w'.cell? ⟨gb289, 2, none⟩ = some (.slice A0_2 l0_2.length c0_2) ∧ w'.cell? ⟨gb290, 0, none⟩ = some (.int .i64 a1_0) ∧ w'.cell? ⟨gb290, 1, none⟩ = some (.int .i64 a1_1)) (ds := []) #[false, false, false, false, false, false, false, false, false, false] (by kernel_rfl) rfl rfl ⟨(ak BK289.out 0).trans rfl, (ak BK289.out 1).trans rfl, (ak BK289.out 2).trans rfl, (ak BK290.out 0).trans rfl, (ak BK290.out 1).trans rfl⟩ (fun hHeld => ?_); refine fA spec_TakeExact.tab6 spec_TakeExact.bits6 (fun HT_ HW_ => ?_)
     generalize w44.drew = w45 at BK289 BK290 BK291 HB hHeld ⊢
     refine aQ (i := 0) (N := some 26) (v := ?_) (a' := ?_) #[true, false, false, false, false, false, false, false, false, false] rfl rfl (bP HT_.out (by kernel_rfl)) (fun _ _ _ h => h) (Or.inl ⟨by rfl, ?_⟩) ?_ ?_
     rotate_left
     ·intro w'
      go_simp
      with_reducible rfl
     rotate_left
     ·simp only [apu_]
      rfl
     refine aQ (i := 2) (N := some 28) (v := ?_) (a' := ?_) #[true, false, true, false, false, false, false, false, false, false] rfl rfl (bP HT_.out (by kernel_rfl)) (fun _ _ _ h => h) (Or.inl ⟨by rfl, ?_⟩) ?_ ?_
     rotate_left
     ·intro w'
      go_simp
      with_reducible rfl
     rotate_left
     ·simp only [apu_]
      rfl
     refine aQ (i := 4) (N := some 30) (v := ?_) (a' := ?_) #[true, false, true, false, true, false, false, false, false, false] rfl rfl (bP HT_.out (by kernel_rfl)) (fun _ _ _ h => h) (Or.inl ⟨by rfl, ?_⟩) ?_ ?_
     rotate_left
     ·intro w'
      go_simp
      with_reducible rfl
     rotate_left
     ·simp only [apu_]
      rfl
     refine bG (i := 1) (N := some 27) (v := ?_) (a' := ?_) #[true, true, true, false, true, false, false, false, false, false] rfl rfl (dD HT_.out HW_.out (by kernel_rfl)) (fun _ _ _ h => h) (Or.inl ⟨by rfl, ?_⟩) hHeld ?_ ?_
     rotate_left
     ·rintro w' ⟨s0, s1, s2, s3, s4⟩
      go_simp
      with_reducible rfl
     rotate_left
     ·simp only [apu_]
      rfl
     refine bG (i := 3) (N := some 29) (v := ?_) (a' := ?_) #[true, true, true, true, true, false, false, false, false, false] rfl rfl (dD HT_.out HW_.out (by kernel_rfl)) (fun _ _ _ h => h) (Or.inl ⟨by rfl, ?_⟩) hHeld ?_ ?_
     rotate_left
     ·rintro w' ⟨s0, s1, s2, s3, s4⟩
      go_simp
      with_reducible rfl
     rotate_left
     ·simp only [apu_]
      rfl
     refine bG (i := 5) (N := some 31) (v := ?_) (a' := ?_) #[true, true, true, true, true, true, false, false, false, false] rfl rfl (dD HT_.out HW_.out (by kernel_rfl)) (fun _ _ _ h => h) (Or.inl ⟨by rfl, ?_⟩) hHeld ?_ ?_
     rotate_left
     ·rintro w' ⟨s0, s1, s2, s3, s4⟩
      go_simp
      with_reducible rfl
     rotate_left
     ·simp only [apu_]
      rfl
     refine pM (σ := Value × Value × Value × Nat) 1 #[true, true, true, true, true, true, true, true, true, false] (fun s_ => [(32, s_.1), (33, .agg #[.int .i64 t298, s_.2.1, s_.2.2.1]), (7, .pointer (some ⟨s_.2.2.2, 0, none⟩))]) (fun s_ w' => (w'.cell? ⟨gb289, 0, none⟩ = some (.int .i64 a0_0) ∧ w'.cell? ⟨gb289, 1, none⟩ = some (.slice A0_1 l0_1.length c0_1) ∧ w'.cell? ⟨gb289, 2, none⟩ = some (.slice A0_2 l0_2.length c0_2) ∧ w'.cell? ⟨gb290, 0, none⟩ = some (.int .i64 a1_0) ∧ w'.cell? ⟨gb290, 1, none⟩ = some (.int .i64 a1_1)) ∧ (Kd.R k35 35 w' w.heap.size (fun k_ => some k_ ≠ (s_.2.1 : Value).ownBlock ∧ some k_ ≠ (s_.2.2.1 : Value).ownBlock ∧ k_ ≠ gb290) s_.1 t295) ∧ (Kd.R k35 35 w' w.heap.size (fun k_ => some k_ ≠ (s_.1 : Value).ownBlock ∧ some k_ ≠ (s_.2.2.1 : Value).ownBlock ∧ k_ ≠ gb290) s_.2.1 t299) ∧ (Kd.R k35 35 w' w.heap.size (fun k_ => some k_ ≠ (s_.1 : Value).ownBlock ∧ some k_ ≠ (s_.2.1 : Value).ownBlock ∧ k_ ≠ gb290) s_.2.2.1 t302) ∧ (w'.heap[gb289]? = some (.cells #[.int .i64 a0_0, .slice A0_1 l0_1.length c0_1, .slice A0_2 l0_2.length c0_2] 24 (0, 0))) ∧ (w'.heap[gb290]? = some (.cells #[.int .i64 a1_0, .int .i64 a1_1] 35 (0, 0))) ∧ (w'.heap[gb291]? = some (.cells #[.int .i64 0, .slice none 0 0, .slice none 0 0] 24 (0, 0))) ∧ (w'.heap[s_.2.2.2]? = some (.cells #[.int .i64 0, .slice none 0 0, .slice none 0 0] 24 (0, 0))) ∧ (w.heap.size ≤ s_.2.2.2) ∧ (w.heap.size ≤ s_.2.2.2) ∧ (gb289 ≠ s_.2.2.2) ∧ (s_.2.2.2 ≠ gb289) ∧ (gb290 ≠ s_.2.2.2) ∧ (s_.2.2.2 ≠ gb290) ∧ (gb291 ≠ s_.2.2.2) ∧ (s_.2.2.2 ≠ gb291) ∧ (Below w.heap.size w w')) ?_ ?_
     rotate_left
     ·intro hCont
      refine mU (i := 6) (j := 8) (Ni := some 32) (Nj := some 7) #[true, true, true, true, true, true, true, false, false, false] #[true, true, true, true, true, true, false, false, true, false] rfl rfl rfl rfl (jR HT_.out (by kernel_rfl)) (by decide) (by decide) (fun K hK => ?_) (fun K hK => ?_)
      ·skip
       refine cu Try.func57 (by kernel_rfl) rfl #[.slice A0_1 l0_1.length c0_1, .int .i64 t294, .agg #[.int .i64 a1_0, .int .i64 a1_1]] (by rfl) rfl rfl (by (try simp only [amp_]); first | done | rfl | (simp only [ald_]; rfl)) ?_
       with_reducible refine (spec_l5Cut.calls _ _ l0_1 t294 a1_0 a1_1 t295 _ ?side1 ?side2 A35.out).mono ?_
       (case side1 => repeat (first | exact (Kd.aN HR0_1.out HB.out) | (with_reducible first | apply Kd.aU | apply Kd.aV | apply Kd.bf)))
       (case side2 => exact HC0_1.out)
       rintro e w46 ⟨v296, rfl, ho0, hb⟩
       refine ⟨_, rfl, ?_⟩
       have n0_ := av (Kd.bE (Kd.dJ ho0 (g := gb290) (o := .cells #[.int .i64 a1_0, .int .i64 a1_1] 35 (0, 0)) (by (with_reducible repeat (first | apply af | apply aj | apply ag)); exact BK290.out)) (az (by with_reducible repeat (first | exact HB.out | apply ah | apply aa | apply ai | refine ae ?_ GE289.out | refine ae ?_ GE290.out | refine ae ?_ GE291.out))))
       have n1_ := av (ay (g := gb289) (o := .cells #[.int .i64 a0_0, .slice A0_1 l0_1.length c0_1, .slice A0_2 l0_2.length c0_2] 24 (0, 0)) (by (with_reducible repeat (first | apply af | apply aj | apply ag)); exact BK289.out) hb)
       have n2_ := av (ay (g := gb290) (o := .cells #[.int .i64 a1_0, .int .i64 a1_1] 35 (0, 0)) (by (with_reducible repeat (first | apply af | apply aj | apply ag)); exact BK290.out) hb)
       have n3_ := av (ay (g := gb291) (o := .cells #[.int .i64 0, .slice none 0 0, .slice none 0 0] 24 (0, 0)) (by (with_reducible repeat (first | apply af | apply aj | apply ag)); exact BK291.out) hb)
       have n4_ := av (aA (by with_reducible repeat (first | exact HB.out | apply ah | apply aa | apply ai | refine ae ?_ GE289.out | refine ae ?_ GE290.out | refine ae ?_ GE291.out)) hb)
       clear BK289
       clear BK290
       clear BK291
       clear HB
       have HO297 := n0_
       have BK289 := n1_
       have BK290 := n2_
       have BK291 := n3_
       have HB := n4_
       clear n0_ n1_ n2_ n3_ n4_
       (try clear hb)
       (try clear hb2)
       (try clear hk)
       (try clear hi)
       (try clear ho0)
       obtain ⟨Ao47, co47, eo47⟩ := Kd.bu HO297.out
       (first | subst eo47 | (injection eo47 with f1_ f2_ f3_; have f4_ := f1_.symm; have f5_ := f3_.symm; clear f1_ f2_ f3_; subst f4_; subst f5_))
       refine hK.out _ _ ⟨(ak BK289.out 0).trans rfl, (ak BK289.out 1).trans rfl, (ak BK289.out 2).trans rfl, (ak BK290.out 0).trans rfl, (ak BK290.out 1).trans rfl⟩ (fun hHeld => ?_)
       clear hK K
       refine bN (a' := ?_) ?_ ?_
       rotate_left
       ·show Act.put _ (some 32) _ = _
        simp only [apu_]
        rfl
       refine mU (i := 7) (j := 8) (Ni := some 33) (Nj := some 7) #[true, true, true, true, true, true, true, true, false, false] #[true, true, true, true, true, true, true, false, true, false] rfl rfl rfl rfl (jR HT_.out (by kernel_rfl)) (by decide) (by decide) (fun K hK => ?_) (fun K hK => ?_)
       ·skip
        refine cu Try.func33 (by kernel_rfl) rfl #[.int .i64 a0_0, .slice Ao47 t295.length co47] (by rfl) rfl rfl (by (try simp only [amp_]); first | done | rfl | (simp only [ald_]; rfl)) ?_
        with_reducible refine (spec_l5Of.calls kj2 a0_0 _ _ t295 t298 t299 t302 _ ?side1 ?side2 A36.out).mono ?_
        (case side1 => repeat (first | exact (Kd.R_reads' HO297.out).2.2 | (with_reducible first | apply Kd.aU | apply Kd.aV | apply Kd.bf)))
        (case side2 => exact (Kd.R_reads' HO297.out).2.1)
        rintro e w48 ⟨v300, v303, rfl, ho0, ho1, hb⟩
        refine ⟨_, rfl, ?_⟩
        have n0_ := av (Kd.aY (Kd.dW (Kd.dW (Kd.iK (by (with_reducible repeat (first | apply Kd.aD | apply Kd.aC | apply Kd.aH)); exact HO297.out) hb) (Kd.dM ho0)) (Kd.dM ho1)) (fun _ h_ => h_.1))
        have n1_ := av (Kd.bE (Kd.dJ (Kd.R_new' ho0 (Kd.fw (by (with_reducible repeat (first | apply Kd.aD | apply Kd.aC | apply Kd.aH)); exact HO297.out))) (g := gb290) (o := .cells #[.int .i64 a1_0, .int .i64 a1_1] 35 (0, 0)) (by (with_reducible repeat (first | apply af | apply aj | apply ag)); exact BK290.out)) (az (by with_reducible repeat (first | exact HB.out | apply ah | apply aa | apply ai | refine ae ?_ GE289.out | refine ae ?_ GE290.out | refine ae ?_ GE291.out))))
        have n2_ := av (Kd.bE (Kd.dJ (Kd.R_new' ho1 (Kd.fw (by (with_reducible repeat (first | apply Kd.aD | apply Kd.aC | apply Kd.aH)); exact HO297.out))) (g := gb290) (o := .cells #[.int .i64 a1_0, .int .i64 a1_1] 35 (0, 0)) (by (with_reducible repeat (first | apply af | apply aj | apply ag)); exact BK290.out)) (az (by with_reducible repeat (first | exact HB.out | apply ah | apply aa | apply ai | refine ae ?_ GE289.out | refine ae ?_ GE290.out | refine ae ?_ GE291.out))))
        have n3_ := av (ay (g := gb289) (o := .cells #[.int .i64 a0_0, .slice A0_1 l0_1.length c0_1, .slice A0_2 l0_2.length c0_2] 24 (0, 0)) (by (with_reducible repeat (first | apply af | apply aj | apply ag)); exact BK289.out) hb)
        have n4_ := av (ay (g := gb290) (o := .cells #[.int .i64 a1_0, .int .i64 a1_1] 35 (0, 0)) (by (with_reducible repeat (first | apply af | apply aj | apply ag)); exact BK290.out) hb)
        have n5_ := av (ay (g := gb291) (o := .cells #[.int .i64 0, .slice none 0 0, .slice none 0 0] 24 (0, 0)) (by (with_reducible repeat (first | apply af | apply aj | apply ag)); exact BK291.out) hb)
        have n6_ := av (aA (by with_reducible repeat (first | exact HB.out | apply ah | apply aa | apply ai | refine ae ?_ GE289.out | refine ae ?_ GE290.out | refine ae ?_ GE291.out)) hb)
        clear HO297
        clear BK289
        clear BK290
        clear BK291
        clear HB
        have HO297 := n0_
        have HO301 := n1_
        have HO304 := n2_
        have BK289 := n3_
        have BK290 := n4_
        have BK291 := n5_
        have HB := n6_
        clear n0_ n1_ n2_ n3_ n4_ n5_ n6_
        (try clear hb)
        (try clear hb2)
        (try clear hk)
        (try clear hi)
        (try clear ho0)
        (try clear ho1)
        refine hK.out _ _ ⟨(ak BK289.out 0).trans rfl, (ak BK289.out 1).trans rfl, (ak BK289.out 2).trans rfl, (ak BK290.out 0).trans rfl, (ak BK290.out 1).trans rfl⟩ (fun hHeld => ?_)
        clear hK K
        refine bN (a' := ?_) ?_ ?_
        rotate_left
        ·show Act.put _ (some 33) _ = _
         simp only [apu_]
         rfl
        refine dG (i := 8) (N := some 7) #[true, true, true, true, true, true, true, true, true, false] rfl rfl (d9 HT_.out (by kernel_rfl)) (by decide) (fun K hK => ?_)
        refine gu ?hg (N := 7) ?hd (cs := #[.int .i64 0, .slice none 0 0, .slice none 0 0]) (t := 24) ?hr ?_; (case hd => rfl); (case hg => rfl); (case hr => first | (go_simp; done) | (go_simp; rfl))
        intro gb305 hg w49 hbox hb
        have n0_ := av (Kd.bq (by (with_reducible repeat (first | apply Kd.aD | apply Kd.aC | apply Kd.aH)); exact HO297.out) hb)
        have n1_ := av (Kd.bq (by (with_reducible repeat (first | apply Kd.aD | apply Kd.aC | apply Kd.aH)); exact HO301.out) hb)
        have n2_ := av (Kd.bq (by (with_reducible repeat (first | apply Kd.aD | apply Kd.aC | apply Kd.aH)); exact HO304.out) hb)
        have n3_ := av (ay (g := gb289) (o := .cells #[.int .i64 a0_0, .slice A0_1 l0_1.length c0_1, .slice A0_2 l0_2.length c0_2] 24 (0, 0)) (by (with_reducible repeat (first | apply af | apply aj | apply ag)); exact BK289.out) hb)
        have n4_ := av (ay (g := gb290) (o := .cells #[.int .i64 a1_0, .int .i64 a1_1] 35 (0, 0)) (by (with_reducible repeat (first | apply af | apply aj | apply ag)); exact BK290.out) hb)
        have n5_ := av (ay (g := gb291) (o := .cells #[.int .i64 0, .slice none 0 0, .slice none 0 0] 24 (0, 0)) (by (with_reducible repeat (first | apply af | apply aj | apply ag)); exact BK291.out) hb)
        have n6_ := av (aA (by with_reducible repeat (first | exact HB.out | apply ah | apply aa | apply ai | refine ae ?_ GE289.out | refine ae ?_ GE290.out | refine ae ?_ GE291.out)) hb)
        have n7_ := av (hbox)
        have n8_ := av ((by rw [hg]; exact (az (by with_reducible repeat (first | exact HB.out | apply ah | apply aa | apply ai | refine ae ?_ GE289.out | refine ae ?_ GE290.out | refine ae ?_ GE291.out))) : w.heap.size ≤ gb305))
        have n9_ := av ((by rw [hg]; exact (az (by with_reducible repeat (first | exact HB.out | apply ah | apply aa | apply ai | refine ae ?_ GE289.out | refine ae ?_ GE290.out | refine ae ?_ GE291.out))) : w.heap.size ≤ gb305))
        have n10_ := av ((by rw [hg]; exact Nat.ne_of_lt (aG (g := gb289) (o := .cells #[.int .i64 a0_0, .slice A0_1 l0_1.length c0_1, .slice A0_2 l0_2.length c0_2] 24 (0, 0)) (by (with_reducible repeat (first | apply af | apply aj | apply ag)); exact BK289.out)) : gb289 ≠ gb305))
        have n11_ := av ((by rw [hg]; exact Nat.ne_of_gt (aG (g := gb289) (o := .cells #[.int .i64 a0_0, .slice A0_1 l0_1.length c0_1, .slice A0_2 l0_2.length c0_2] 24 (0, 0)) (by (with_reducible repeat (first | apply af | apply aj | apply ag)); exact BK289.out)) : gb305 ≠ gb289))
        have n12_ := av ((by rw [hg]; exact Nat.ne_of_lt (aG (g := gb290) (o := .cells #[.int .i64 a1_0, .int .i64 a1_1] 35 (0, 0)) (by (with_reducible repeat (first | apply af | apply aj | apply ag)); exact BK290.out)) : gb290 ≠ gb305))
        have n13_ := av ((by rw [hg]; exact Nat.ne_of_gt (aG (g := gb290) (o := .cells #[.int .i64 a1_0, .int .i64 a1_1] 35 (0, 0)) (by (with_reducible repeat (first | apply af | apply aj | apply ag)); exact BK290.out)) : gb305 ≠ gb290))
        have n14_ := av ((by rw [hg]; exact Nat.ne_of_lt (aG (g := gb291) (o := .cells #[.int .i64 0, .slice none 0 0, .slice none 0 0] 24 (0, 0)) (by (with_reducible repeat (first | apply af | apply aj | apply ag)); exact BK291.out)) : gb291 ≠ gb305))
        have n15_ := av ((by rw [hg]; exact Nat.ne_of_gt (aG (g := gb291) (o := .cells #[.int .i64 0, .slice none 0 0, .slice none 0 0] 24 (0, 0)) (by (with_reducible repeat (first | apply af | apply aj | apply ag)); exact BK291.out)) : gb305 ≠ gb291))
        clear HO297
        clear HO301
        clear HO304
        clear BK289
        clear BK290
        clear BK291
        clear HB
        have HO297 := n0_
        have HO301 := n1_
        have HO304 := n2_
        have BK289 := n3_
        have BK290 := n4_
        have BK291 := n5_
        have HB := n6_
        have BK305 := n7_
        have GW305 := n8_
        have GE305 := n9_
        have NB289_305 := n10_
        have NB305_289 := n11_
        have NB290_305 := n12_
        have NB305_290 := n13_
        have NB291_305 := n14_
        have NB305_291 := n15_
        clear n0_ n1_ n2_ n3_ n4_ n5_ n6_ n7_ n8_ n9_ n10_ n11_ n12_ n13_ n14_ n15_
        clear hb hbox hg
        refine hK.out _ _ ⟨(ak BK289.out 0).trans rfl, (ak BK289.out 1).trans rfl, (ak BK289.out 2).trans rfl, (ak BK290.out 0).trans rfl, (ak BK290.out 1).trans rfl⟩ (fun hHeld => ?_)
        clear hK K
        refine bN (a' := ?_) ?_ ?_
        rotate_left
        ·show Act.put _ (some 7) _ = _
         simp only [apu_]
         rfl
        exact bN (by simp only [fD, Act.put, List.setIfInBounds_toArray, List.set_cons_zero, List.set_cons_succ]) (hCont (.slice Ao47 t295.length co47, v300, v303, gb305) _ ⟨hHeld, (by (with_reducible repeat (first | apply Kd.aD | apply Kd.aC | apply Kd.aH)); exact Kd.aY HO297.out (fun _ hk => ⟨hk.1.2, ⟨hk.2, hk.1.1.2⟩⟩)), (by (with_reducible repeat (first | apply Kd.aD | apply Kd.aC | apply Kd.aH)); exact Kd.aY HO301.out (fun _ hk => ⟨hk.1.2, ⟨hk.1.1, hk.2⟩⟩)), (by (with_reducible repeat (first | apply Kd.aD | apply Kd.aC | apply Kd.aH)); exact Kd.aY HO304.out (fun _ hk => ⟨hk.1.2, ⟨hk.1.1, hk.2⟩⟩)), (by (with_reducible repeat (first | apply af | apply aj | apply ag)); exact BK289.out), (by (with_reducible repeat (first | apply af | apply aj | apply ag)); exact BK290.out), (by (with_reducible repeat (first | apply af | apply aj | apply ag)); exact BK291.out), (by (with_reducible repeat (first | apply af | apply aj | apply ag)); exact BK305.out), GW305.out, GE305.out, NB289_305.out, NB305_289.out, NB290_305.out, NB305_290.out, NB291_305.out, NB305_291.out, (by with_reducible repeat (first | exact HB.out | apply ah | apply aa | apply ai | refine ae ?_ GE289.out | refine ae ?_ GE290.out | refine ae ?_ GE291.out | refine ae ?_ GE305.out))⟩)
       ·skip
        refine gu ?hg (N := 7) ?hd (cs := #[.int .i64 0, .slice none 0 0, .slice none 0 0]) (t := 24) ?hr ?_; (case hd => rfl); (case hg => rfl); (case hr => first | (go_simp; done) | (go_simp; rfl))
        intro gb305 hg w47 hbox hb
        have n0_ := av (Kd.bq (by (with_reducible repeat (first | apply Kd.aD | apply Kd.aC | apply Kd.aH)); exact HO297.out) hb)
        have n1_ := av (ay (g := gb289) (o := .cells #[.int .i64 a0_0, .slice A0_1 l0_1.length c0_1, .slice A0_2 l0_2.length c0_2] 24 (0, 0)) (by (with_reducible repeat (first | apply af | apply aj | apply ag)); exact BK289.out) hb)
        have n2_ := av (ay (g := gb290) (o := .cells #[.int .i64 a1_0, .int .i64 a1_1] 35 (0, 0)) (by (with_reducible repeat (first | apply af | apply aj | apply ag)); exact BK290.out) hb)
        have n3_ := av (ay (g := gb291) (o := .cells #[.int .i64 0, .slice none 0 0, .slice none 0 0] 24 (0, 0)) (by (with_reducible repeat (first | apply af | apply aj | apply ag)); exact BK291.out) hb)
        have n4_ := av (aA (by with_reducible repeat (first | exact HB.out | apply ah | apply aa | apply ai | refine ae ?_ GE289.out | refine ae ?_ GE290.out | refine ae ?_ GE291.out)) hb)
        have n5_ := av (hbox)
        have n6_ := av ((by rw [hg]; exact (az (by with_reducible repeat (first | exact HB.out | apply ah | apply aa | apply ai | refine ae ?_ GE289.out | refine ae ?_ GE290.out | refine ae ?_ GE291.out))) : w.heap.size ≤ gb305))
        have n7_ := av ((by rw [hg]; exact (az (by with_reducible repeat (first | exact HB.out | apply ah | apply aa | apply ai | refine ae ?_ GE289.out | refine ae ?_ GE290.out | refine ae ?_ GE291.out))) : w.heap.size ≤ gb305))
        have n8_ := av ((by rw [hg]; exact Nat.ne_of_lt (aG (g := gb289) (o := .cells #[.int .i64 a0_0, .slice A0_1 l0_1.length c0_1, .slice A0_2 l0_2.length c0_2] 24 (0, 0)) (by (with_reducible repeat (first | apply af | apply aj | apply ag)); exact BK289.out)) : gb289 ≠ gb305))
        have n9_ := av ((by rw [hg]; exact Nat.ne_of_gt (aG (g := gb289) (o := .cells #[.int .i64 a0_0, .slice A0_1 l0_1.length c0_1, .slice A0_2 l0_2.length c0_2] 24 (0, 0)) (by (with_reducible repeat (first | apply af | apply aj | apply ag)); exact BK289.out)) : gb305 ≠ gb289))
        have n10_ := av ((by rw [hg]; exact Nat.ne_of_lt (aG (g := gb290) (o := .cells #[.int .i64 a1_0, .int .i64 a1_1] 35 (0, 0)) (by (with_reducible repeat (first | apply af | apply aj | apply ag)); exact BK290.out)) : gb290 ≠ gb305))
        have n11_ := av ((by rw [hg]; exact Nat.ne_of_gt (aG (g := gb290) (o := .cells #[.int .i64 a1_0, .int .i64 a1_1] 35 (0, 0)) (by (with_reducible repeat (first | apply af | apply aj | apply ag)); exact BK290.out)) : gb305 ≠ gb290))
        have n12_ := av ((by rw [hg]; exact Nat.ne_of_lt (aG (g := gb291) (o := .cells #[.int .i64 0, .slice none 0 0, .slice none 0 0] 24 (0, 0)) (by (with_reducible repeat (first | apply af | apply aj | apply ag)); exact BK291.out)) : gb291 ≠ gb305))
        have n13_ := av ((by rw [hg]; exact Nat.ne_of_gt (aG (g := gb291) (o := .cells #[.int .i64 0, .slice none 0 0, .slice none 0 0] 24 (0, 0)) (by (with_reducible repeat (first | apply af | apply aj | apply ag)); exact BK291.out)) : gb305 ≠ gb291))
        clear HO297
        clear BK289
        clear BK290
        clear BK291
        clear HB
        have HO297 := n0_
        have BK289 := n1_
        have BK290 := n2_
        have BK291 := n3_
        have HB := n4_
        have BK305 := n5_
        have GW305 := n6_
        have GE305 := n7_
        have NB289_305 := n8_
        have NB305_289 := n9_
        have NB290_305 := n10_
        have NB305_290 := n11_
        have NB291_305 := n12_
        have NB305_291 := n13_
        clear n0_ n1_ n2_ n3_ n4_ n5_ n6_ n7_ n8_ n9_ n10_ n11_ n12_ n13_
        clear hb hbox hg
        obtain ⟨Ao48, co48, eo48⟩ := Kd.bu HO297.out
        (first | subst eo48 | (injection eo48 with f1_ f2_ f3_; have f4_ := f1_.symm; have f5_ := f3_.symm; clear f1_ f2_ f3_; subst f4_; subst f5_))
        refine hK.out _ _ ⟨(ak BK289.out 0).trans rfl, (ak BK289.out 1).trans rfl, (ak BK289.out 2).trans rfl, (ak BK290.out 0).trans rfl, (ak BK290.out 1).trans rfl⟩ (fun hHeld => ?_)
        clear hK K
        refine bN (a' := ?_) ?_ ?_
        rotate_left
        ·show Act.put _ (some 7) _ = _
         simp only [apu_]
         rfl
        refine dG (i := 7) (N := some 33) #[true, true, true, true, true, true, true, true, true, false] rfl rfl (d9 HT_.out (by kernel_rfl)) (by decide) (fun K hK => ?_)
        refine cu Try.func33 (by kernel_rfl) rfl #[.int .i64 a0_0, .slice Ao48 t295.length co48] (by rfl) rfl rfl (by (try simp only [amp_]); first | done | rfl | (simp only [ald_]; rfl)) ?_
        with_reducible refine (spec_l5Of.calls kj2 a0_0 _ _ t295 t298 t299 t302 _ ?side1 ?side2 A36.out).mono ?_
        (case side1 => repeat (first | exact (Kd.R_reads' HO297.out).2.2 | (with_reducible first | apply Kd.aU | apply Kd.aV | apply Kd.bf)))
        (case side2 => exact (Kd.R_reads' HO297.out).2.1)
        rintro e w49 ⟨v300, v303, rfl, ho0, ho1, hb⟩
        refine ⟨_, rfl, ?_⟩
        have n0_ := av (Kd.aY (Kd.dW (Kd.dW (Kd.iK (by (with_reducible repeat (first | apply Kd.aD | apply Kd.aC | apply Kd.aH)); exact HO297.out) hb) (Kd.dM ho0)) (Kd.dM ho1)) (fun _ h_ => h_.1))
        have n1_ := av (Kd.bE (Kd.dJ (Kd.R_new' ho0 (Kd.fw (by (with_reducible repeat (first | apply Kd.aD | apply Kd.aC | apply Kd.aH)); exact HO297.out))) (g := gb290) (o := .cells #[.int .i64 a1_0, .int .i64 a1_1] 35 (0, 0)) (by (with_reducible repeat (first | apply af | apply aj | apply ag)); exact BK290.out)) (az (by with_reducible repeat (first | exact HB.out | apply ah | apply aa | apply ai | refine ae ?_ GE289.out | refine ae ?_ GE290.out | refine ae ?_ GE291.out | refine ae ?_ GE305.out))))
        have n2_ := av (Kd.bE (Kd.dJ (Kd.R_new' ho1 (Kd.fw (by (with_reducible repeat (first | apply Kd.aD | apply Kd.aC | apply Kd.aH)); exact HO297.out))) (g := gb290) (o := .cells #[.int .i64 a1_0, .int .i64 a1_1] 35 (0, 0)) (by (with_reducible repeat (first | apply af | apply aj | apply ag)); exact BK290.out)) (az (by with_reducible repeat (first | exact HB.out | apply ah | apply aa | apply ai | refine ae ?_ GE289.out | refine ae ?_ GE290.out | refine ae ?_ GE291.out | refine ae ?_ GE305.out))))
        have n3_ := av (ay (g := gb289) (o := .cells #[.int .i64 a0_0, .slice A0_1 l0_1.length c0_1, .slice A0_2 l0_2.length c0_2] 24 (0, 0)) (by (with_reducible repeat (first | apply af | apply aj | apply ag)); exact BK289.out) hb)
        have n4_ := av (ay (g := gb290) (o := .cells #[.int .i64 a1_0, .int .i64 a1_1] 35 (0, 0)) (by (with_reducible repeat (first | apply af | apply aj | apply ag)); exact BK290.out) hb)
        have n5_ := av (ay (g := gb291) (o := .cells #[.int .i64 0, .slice none 0 0, .slice none 0 0] 24 (0, 0)) (by (with_reducible repeat (first | apply af | apply aj | apply ag)); exact BK291.out) hb)
        have n6_ := av (ay (g := gb305) (o := .cells #[.int .i64 0, .slice none 0 0, .slice none 0 0] 24 (0, 0)) (by (with_reducible repeat (first | apply af | apply aj | apply ag)); exact BK305.out) hb)
        have n7_ := av (aA (by with_reducible repeat (first | exact HB.out | apply ah | apply aa | apply ai | refine ae ?_ GE289.out | refine ae ?_ GE290.out | refine ae ?_ GE291.out | refine ae ?_ GE305.out)) hb)
        clear HO297
        clear BK289
        clear BK290
        clear BK291
        clear BK305
        clear HB
        have HO297 := n0_
        have HO301 := n1_
        have HO304 := n2_
        have BK289 := n3_
        have BK290 := n4_
        have BK291 := n5_
        have BK305 := n6_
        have HB := n7_
        clear n0_ n1_ n2_ n3_ n4_ n5_ n6_ n7_
        (try clear hb)
        (try clear hb2)
        (try clear hk)
        (try clear hi)
        (try clear ho0)
        (try clear ho1)
        refine hK.out _ _ ⟨(ak BK289.out 0).trans rfl, (ak BK289.out 1).trans rfl, (ak BK289.out 2).trans rfl, (ak BK290.out 0).trans rfl, (ak BK290.out 1).trans rfl⟩ (fun hHeld => ?_)
        clear hK K
        refine bN (a' := ?_) ?_ ?_
        rotate_left
        ·show Act.put _ (some 33) _ = _
         simp only [apu_]
         rfl
        exact bN (by simp only [fD, Act.put, List.setIfInBounds_toArray, List.set_cons_zero, List.set_cons_succ]) (hCont (.slice Ao48 t295.length co48, v300, v303, gb305) _ ⟨hHeld, (by (with_reducible repeat (first | apply Kd.aD | apply Kd.aC | apply Kd.aH)); exact Kd.aY HO297.out (fun _ hk => ⟨hk.1.2, ⟨hk.2, hk.1.1.2⟩⟩)), (by (with_reducible repeat (first | apply Kd.aD | apply Kd.aC | apply Kd.aH)); exact Kd.aY HO301.out (fun _ hk => ⟨hk.1.2, ⟨hk.1.1, hk.2⟩⟩)), (by (with_reducible repeat (first | apply Kd.aD | apply Kd.aC | apply Kd.aH)); exact Kd.aY HO304.out (fun _ hk => ⟨hk.1.2, ⟨hk.1.1, hk.2⟩⟩)), (by (with_reducible repeat (first | apply af | apply aj | apply ag)); exact BK289.out), (by (with_reducible repeat (first | apply af | apply aj | apply ag)); exact BK290.out), (by (with_reducible repeat (first | apply af | apply aj | apply ag)); exact BK291.out), (by (with_reducible repeat (first | apply af | apply aj | apply ag)); exact BK305.out), GW305.out, GE305.out, NB289_305.out, NB305_289.out, NB290_305.out, NB305_290.out, NB291_305.out, NB305_291.out, (by with_reducible repeat (first | exact HB.out | apply ah | apply aa | apply ai | refine ae ?_ GE289.out | refine ae ?_ GE290.out | refine ae ?_ GE291.out | refine ae ?_ GE305.out))⟩)
      ·skip
       refine gu ?hg (N := 7) ?hd (cs := #[.int .i64 0, .slice none 0 0, .slice none 0 0]) (t := 24) ?hr ?_; (case hd => rfl); (case hg => rfl); (case hr => first | (go_simp; done) | (go_simp; rfl))
       intro gb305 hg w46 hbox hb
       have n0_ := av (ay (g := gb289) (o := .cells #[.int .i64 a0_0, .slice A0_1 l0_1.length c0_1, .slice A0_2 l0_2.length c0_2] 24 (0, 0)) (by (with_reducible repeat (first | apply af | apply aj | apply ag)); exact BK289.out) hb)
       have n1_ := av (ay (g := gb290) (o := .cells #[.int .i64 a1_0, .int .i64 a1_1] 35 (0, 0)) (by (with_reducible repeat (first | apply af | apply aj | apply ag)); exact BK290.out) hb)
       have n2_ := av (ay (g := gb291) (o := .cells #[.int .i64 0, .slice none 0 0, .slice none 0 0] 24 (0, 0)) (by (with_reducible repeat (first | apply af | apply aj | apply ag)); exact BK291.out) hb)
       have n3_ := av (aA (by with_reducible repeat (first | exact HB.out | apply ah | apply aa | apply ai | refine ae ?_ GE289.out | refine ae ?_ GE290.out | refine ae ?_ GE291.out)) hb)
       have n4_ := av (hbox)
       have n5_ := av ((by rw [hg]; exact (az (by with_reducible repeat (first | exact HB.out | apply ah | apply aa | apply ai | refine ae ?_ GE289.out | refine ae ?_ GE290.out | refine ae ?_ GE291.out))) : w.heap.size ≤ gb305))
       have n6_ := av ((by rw [hg]; exact (az (by with_reducible repeat (first | exact HB.out | apply ah | apply aa | apply ai | refine ae ?_ GE289.out | refine ae ?_ GE290.out | refine ae ?_ GE291.out))) : w.heap.size ≤ gb305))
       have n7_ := av ((by rw [hg]; exact Nat.ne_of_lt (aG (g := gb289) (o := .cells #[.int .i64 a0_0, .slice A0_1 l0_1.length c0_1, .slice A0_2 l0_2.length c0_2] 24 (0, 0)) (by (with_reducible repeat (first | apply af | apply aj | apply ag)); exact BK289.out)) : gb289 ≠ gb305))
       have n8_ := av ((by rw [hg]; exact Nat.ne_of_gt (aG (g := gb289) (o := .cells #[.int .i64 a0_0, .slice A0_1 l0_1.length c0_1, .slice A0_2 l0_2.length c0_2] 24 (0, 0)) (by (with_reducible repeat (first | apply af | apply aj | apply ag)); exact BK289.out)) : gb305 ≠ gb289))
       have n9_ := av ((by rw [hg]; exact Nat.ne_of_lt (aG (g := gb290) (o := .cells #[.int .i64 a1_0, .int .i64 a1_1] 35 (0, 0)) (by (with_reducible repeat (first | apply af | apply aj | apply ag)); exact BK290.out)) : gb290 ≠ gb305))
       have n10_ := av ((by rw [hg]; exact Nat.ne_of_gt (aG (g := gb290) (o := .cells #[.int .i64 a1_0, .int .i64 a1_1] 35 (0, 0)) (by (with_reducible repeat (first | apply af | apply aj | apply ag)); exact BK290.out)) : gb305 ≠ gb290))
       have n11_ := av ((by rw [hg]; exact Nat.ne_of_lt (aG (g := gb291) (o := .cells #[.int .i64 0, .slice none 0 0, .slice none 0 0] 24 (0, 0)) (by (with_reducible repeat (first | apply af | apply aj | apply ag)); exact BK291.out)) : gb291 ≠ gb305))
       have n12_ := av ((by rw [hg]; exact Nat.ne_of_gt (aG (g := gb291) (o := .cells #[.int .i64 0, .slice none 0 0, .slice none 0 0] 24 (0, 0)) (by (with_reducible repeat (first | apply af | apply aj | apply ag)); exact BK291.out)) : gb305 ≠ gb291))
       clear BK289
       clear BK290
       clear BK291
       clear HB
       have BK289 := n0_
       have BK290 := n1_
       have BK291 := n2_
       have HB := n3_
       have BK305 := n4_
       have GW305 := n5_
       have GE305 := n6_
       have NB289_305 := n7_
       have NB305_289 := n8_
       have NB290_305 := n9_
       have NB305_290 := n10_
       have NB291_305 := n11_
       have NB305_291 := n12_
       clear n0_ n1_ n2_ n3_ n4_ n5_ n6_ n7_ n8_ n9_ n10_ n11_ n12_
       clear hb hbox hg
       refine hK.out _ _ ⟨(ak BK289.out 0).trans rfl, (ak BK289.out 1).trans rfl, (ak BK289.out 2).trans rfl, (ak BK290.out 0).trans rfl, (ak BK290.out 1).trans rfl⟩ (fun hHeld => ?_)
       clear hK K
       refine bN (a' := ?_) ?_ ?_
       rotate_left
       ·show Act.put _ (some 7) _ = _
        simp only [apu_]
        rfl
       refine dG (i := 6) (N := some 32) #[true, true, true, true, true, true, true, false, true, false] rfl rfl (d9 HT_.out (by kernel_rfl)) (by decide) (fun K hK => ?_)
       refine cu Try.func57 (by kernel_rfl) rfl #[.slice A0_1 l0_1.length c0_1, .int .i64 t294, .agg #[.int .i64 a1_0, .int .i64 a1_1]] (by rfl) rfl rfl (by (try simp only [amp_]); first | done | rfl | (simp only [ald_]; rfl)) ?_
       with_reducible refine (spec_l5Cut.calls _ _ l0_1 t294 a1_0 a1_1 t295 _ ?side1 ?side2 A35.out).mono ?_
       (case side1 => repeat (first | exact (Kd.aN HR0_1.out HB.out) | (with_reducible first | apply Kd.aU | apply Kd.aV | apply Kd.bf)))
       (case side2 => exact HC0_1.out)
       rintro e w47 ⟨v296, rfl, ho0, hb⟩
       refine ⟨_, rfl, ?_⟩
       have n0_ := av (Kd.bE (Kd.dJ ho0 (g := gb290) (o := .cells #[.int .i64 a1_0, .int .i64 a1_1] 35 (0, 0)) (by (with_reducible repeat (first | apply af | apply aj | apply ag)); exact BK290.out)) (az (by with_reducible repeat (first | exact HB.out | apply ah | apply aa | apply ai | refine ae ?_ GE289.out | refine ae ?_ GE290.out | refine ae ?_ GE291.out | refine ae ?_ GE305.out))))
       have n1_ := av (ay (g := gb289) (o := .cells #[.int .i64 a0_0, .slice A0_1 l0_1.length c0_1, .slice A0_2 l0_2.length c0_2] 24 (0, 0)) (by (with_reducible repeat (first | apply af | apply aj | apply ag)); exact BK289.out) hb)
       have n2_ := av (ay (g := gb290) (o := .cells #[.int .i64 a1_0, .int .i64 a1_1] 35 (0, 0)) (by (with_reducible repeat (first | apply af | apply aj | apply ag)); exact BK290.out) hb)
       have n3_ := av (ay (g := gb291) (o := .cells #[.int .i64 0, .slice none 0 0, .slice none 0 0] 24 (0, 0)) (by (with_reducible repeat (first | apply af | apply aj | apply ag)); exact BK291.out) hb)
       have n4_ := av (ay (g := gb305) (o := .cells #[.int .i64 0, .slice none 0 0, .slice none 0 0] 24 (0, 0)) (by (with_reducible repeat (first | apply af | apply aj | apply ag)); exact BK305.out) hb)
       have n5_ := av (aA (by with_reducible repeat (first | exact HB.out | apply ah | apply aa | apply ai | refine ae ?_ GE289.out | refine ae ?_ GE290.out | refine ae ?_ GE291.out | refine ae ?_ GE305.out)) hb)
       clear BK289
       clear BK290
       clear BK291
       clear BK305
       clear HB
       have HO297 := n0_
       have BK289 := n1_
       have BK290 := n2_
       have BK291 := n3_
       have BK305 := n4_
       have HB := n5_
       clear n0_ n1_ n2_ n3_ n4_ n5_
       (try clear hb)
       (try clear hb2)
       (try clear hk)
       (try clear hi)
       (try clear ho0)
       obtain ⟨Ao48, co48, eo48⟩ := Kd.bu HO297.out
       (first | subst eo48 | (injection eo48 with f1_ f2_ f3_; have f4_ := f1_.symm; have f5_ := f3_.symm; clear f1_ f2_ f3_; subst f4_; subst f5_))
       refine hK.out _ _ ⟨(ak BK289.out 0).trans rfl, (ak BK289.out 1).trans rfl, (ak BK289.out 2).trans rfl, (ak BK290.out 0).trans rfl, (ak BK290.out 1).trans rfl⟩ (fun hHeld => ?_)
       clear hK K
       refine bN (a' := ?_) ?_ ?_
       rotate_left
       ·show Act.put _ (some 32) _ = _
        simp only [apu_]
        rfl
       refine dG (i := 7) (N := some 33) #[true, true, true, true, true, true, true, true, true, false] rfl rfl (d9 HT_.out (by kernel_rfl)) (by decide) (fun K hK => ?_)
       refine cu Try.func33 (by kernel_rfl) rfl #[.int .i64 a0_0, .slice Ao48 t295.length co48] (by rfl) rfl rfl (by (try simp only [amp_]); first | done | rfl | (simp only [ald_]; rfl)) ?_
       with_reducible refine (spec_l5Of.calls kj2 a0_0 _ _ t295 t298 t299 t302 _ ?side1 ?side2 A36.out).mono ?_
       (case side1 => repeat (first | exact (Kd.R_reads' HO297.out).2.2 | (with_reducible first | apply Kd.aU | apply Kd.aV | apply Kd.bf)))
       (case side2 => exact (Kd.R_reads' HO297.out).2.1)
       rintro e w49 ⟨v300, v303, rfl, ho0, ho1, hb⟩
       refine ⟨_, rfl, ?_⟩
       have n0_ := av (Kd.aY (Kd.dW (Kd.dW (Kd.iK (by (with_reducible repeat (first | apply Kd.aD | apply Kd.aC | apply Kd.aH)); exact HO297.out) hb) (Kd.dM ho0)) (Kd.dM ho1)) (fun _ h_ => h_.1))
       have n1_ := av (Kd.bE (Kd.dJ (Kd.R_new' ho0 (Kd.fw (by (with_reducible repeat (first | apply Kd.aD | apply Kd.aC | apply Kd.aH)); exact HO297.out))) (g := gb290) (o := .cells #[.int .i64 a1_0, .int .i64 a1_1] 35 (0, 0)) (by (with_reducible repeat (first | apply af | apply aj | apply ag)); exact BK290.out)) (az (by with_reducible repeat (first | exact HB.out | apply ah | apply aa | apply ai | refine ae ?_ GE289.out | refine ae ?_ GE290.out | refine ae ?_ GE291.out | refine ae ?_ GE305.out))))
       have n2_ := av (Kd.bE (Kd.dJ (Kd.R_new' ho1 (Kd.fw (by (with_reducible repeat (first | apply Kd.aD | apply Kd.aC | apply Kd.aH)); exact HO297.out))) (g := gb290) (o := .cells #[.int .i64 a1_0, .int .i64 a1_1] 35 (0, 0)) (by (with_reducible repeat (first | apply af | apply aj | apply ag)); exact BK290.out)) (az (by with_reducible repeat (first | exact HB.out | apply ah | apply aa | apply ai | refine ae ?_ GE289.out | refine ae ?_ GE290.out | refine ae ?_ GE291.out | refine ae ?_ GE305.out))))
       have n3_ := av (ay (g := gb289) (o := .cells #[.int .i64 a0_0, .slice A0_1 l0_1.length c0_1, .slice A0_2 l0_2.length c0_2] 24 (0, 0)) (by (with_reducible repeat (first | apply af | apply aj | apply ag)); exact BK289.out) hb)
       have n4_ := av (ay (g := gb290) (o := .cells #[.int .i64 a1_0, .int .i64 a1_1] 35 (0, 0)) (by (with_reducible repeat (first | apply af | apply aj | apply ag)); exact BK290.out) hb)
       have n5_ := av (ay (g := gb291) (o := .cells #[.int .i64 0, .slice none 0 0, .slice none 0 0] 24 (0, 0)) (by (with_reducible repeat (first | apply af | apply aj | apply ag)); exact BK291.out) hb)
       have n6_ := av (ay (g := gb305) (o := .cells #[.int .i64 0, .slice none 0 0, .slice none 0 0] 24 (0, 0)) (by (with_reducible repeat (first | apply af | apply aj | apply ag)); exact BK305.out) hb)
       have n7_ := av (aA (by with_reducible repeat (first | exact HB.out | apply ah | apply aa | apply ai | refine ae ?_ GE289.out | refine ae ?_ GE290.out | refine ae ?_ GE291.out | refine ae ?_ GE305.out)) hb)
       clear HO297
       clear BK289
       clear BK290
       clear BK291
       clear BK305
       clear HB
       have HO297 := n0_
       have HO301 := n1_
       have HO304 := n2_
       have BK289 := n3_
       have BK290 := n4_
       have BK291 := n5_
       have BK305 := n6_
       have HB := n7_
       clear n0_ n1_ n2_ n3_ n4_ n5_ n6_ n7_
       (try clear hb)
       (try clear hb2)
       (try clear hk)
       (try clear hi)
       (try clear ho0)
       (try clear ho1)
       refine hK.out _ _ ⟨(ak BK289.out 0).trans rfl, (ak BK289.out 1).trans rfl, (ak BK289.out 2).trans rfl, (ak BK290.out 0).trans rfl, (ak BK290.out 1).trans rfl⟩ (fun hHeld => ?_)
       clear hK K
       refine bN (a' := ?_) ?_ ?_
       rotate_left
       ·show Act.put _ (some 33) _ = _
        simp only [apu_]
        rfl
       exact bN (by simp only [fD, Act.put, List.setIfInBounds_toArray, List.set_cons_zero, List.set_cons_succ]) (hCont (.slice Ao48 t295.length co48, v300, v303, gb305) _ ⟨hHeld, (by (with_reducible repeat (first | apply Kd.aD | apply Kd.aC | apply Kd.aH)); exact Kd.aY HO297.out (fun _ hk => ⟨hk.1.2, ⟨hk.2, hk.1.1.2⟩⟩)), (by (with_reducible repeat (first | apply Kd.aD | apply Kd.aC | apply Kd.aH)); exact Kd.aY HO301.out (fun _ hk => ⟨hk.1.2, ⟨hk.1.1, hk.2⟩⟩)), (by (with_reducible repeat (first | apply Kd.aD | apply Kd.aC | apply Kd.aH)); exact Kd.aY HO304.out (fun _ hk => ⟨hk.1.2, ⟨hk.1.1, hk.2⟩⟩)), (by (with_reducible repeat (first | apply af | apply aj | apply ag)); exact BK289.out), (by (with_reducible repeat (first | apply af | apply aj | apply ag)); exact BK290.out), (by (with_reducible repeat (first | apply af | apply aj | apply ag)); exact BK291.out), (by (with_reducible repeat (first | apply af | apply aj | apply ag)); exact BK305.out), GW305.out, GE305.out, NB289_305.out, NB305_289.out, NB290_305.out, NB305_290.out, NB291_305.out, NB305_291.out, (by with_reducible repeat (first | exact HB.out | apply ah | apply aa | apply ai | refine ae ?_ GE289.out | refine ae ?_ GE290.out | refine ae ?_ GE291.out | refine ae ?_ GE305.out))⟩)
     rintro ⟨v296, v300, v303, gb305⟩ w50 ⟨hS_, h0_, h1_, h2_, h3_, h4_, h5_, h6_, h7_, h8_, h9_, h10_, h11_, h12_, h13_, h14_, h15_⟩
     have n0_ : Aside0 (Kd.R k35 35 w50 w.heap.size (fun k_ => some k_ ≠ (v300 : Value).ownBlock ∧ some k_ ≠ (v303 : Value).ownBlock ∧ k_ ≠ gb290) v296 t295) := ⟨h0_⟩
     have n1_ : Aside0 (Kd.R k35 35 w50 w.heap.size (fun k_ => some k_ ≠ (v296 : Value).ownBlock ∧ some k_ ≠ (v303 : Value).ownBlock ∧ k_ ≠ gb290) v300 t299) := ⟨h1_⟩
     have n2_ : Aside0 (Kd.R k35 35 w50 w.heap.size (fun k_ => some k_ ≠ (v296 : Value).ownBlock ∧ some k_ ≠ (v300 : Value).ownBlock ∧ k_ ≠ gb290) v303 t302) := ⟨h2_⟩
     have n3_ : Aside0 (w50.heap[gb289]? = some (.cells #[.int .i64 a0_0, .slice A0_1 l0_1.length c0_1, .slice A0_2 l0_2.length c0_2] 24 (0, 0))) := ⟨h3_⟩
     have n4_ : Aside0 (w50.heap[gb290]? = some (.cells #[.int .i64 a1_0, .int .i64 a1_1] 35 (0, 0))) := ⟨h4_⟩
     have n5_ : Aside0 (w50.heap[gb291]? = some (.cells #[.int .i64 0, .slice none 0 0, .slice none 0 0] 24 (0, 0))) := ⟨h5_⟩
     have n6_ : Aside0 (w50.heap[gb305]? = some (.cells #[.int .i64 0, .slice none 0 0, .slice none 0 0] 24 (0, 0))) := ⟨h6_⟩
     have n7_ : Aside0 (w.heap.size ≤ gb305) := ⟨h7_⟩
     have n8_ : Aside0 (w.heap.size ≤ gb305) := ⟨h8_⟩
     have n9_ : Aside0 (gb289 ≠ gb305) := ⟨h9_⟩
     have n10_ : Aside0 (gb305 ≠ gb289) := ⟨h10_⟩
     have n11_ : Aside0 (gb290 ≠ gb305) := ⟨h11_⟩
     have n12_ : Aside0 (gb305 ≠ gb290) := ⟨h12_⟩
     have n13_ : Aside0 (gb291 ≠ gb305) := ⟨h13_⟩
     have n14_ : Aside0 (gb305 ≠ gb291) := ⟨h14_⟩
     have n15_ : Aside0 (Below w.heap.size w w50) := ⟨h15_⟩
     clear BK289
     clear BK290
     clear BK291
     clear HB
     clear h0_ h1_ h2_ h3_ h4_ h5_ h6_ h7_ h8_ h9_ h10_ h11_ h12_ h13_ h14_ h15_
     have HO297 := n0_
     have HO301 := n1_
     have HO304 := n2_
     have BK289 := n3_
     have BK290 := n4_
     have BK291 := n5_
     have BK305 := n6_
     have GW305 := n7_
     have GE305 := n8_
     have NB289_305 := n9_
     have NB305_289 := n10_
     have NB290_305 := n11_
     have NB305_290 := n12_
     have NB291_305 := n13_
     have NB305_291 := n14_
     have HB := n15_
     clear n0_ n1_ n2_ n3_ n4_ n5_ n6_ n7_ n8_ n9_ n10_ n11_ n12_ n13_ n14_ n15_
     have hHeld : w50.cell? ⟨gb289, 0, none⟩ = some (.int .i64 a0_0) ∧ w50.cell? ⟨gb289, 1, none⟩ = some (.slice A0_1 l0_1.length c0_1) ∧ w50.cell? ⟨gb289, 2, none⟩ = some (.slice A0_2 l0_2.length c0_2) ∧ w50.cell? ⟨gb290, 0, none⟩ = some (.int .i64 a1_0) ∧ w50.cell? ⟨gb290, 1, none⟩ = some (.int .i64 a1_1) := hS_
     obtain ⟨Ao52, co52, eo52⟩ := Kd.bu HO301.out
     (first | subst eo52 | (injection eo52 with f1_ f2_ f3_; have f4_ := f1_.symm; have f5_ := f3_.symm; clear f1_ f2_ f3_; subst f4_; subst f5_))
     obtain ⟨Ao54, co54, eo54⟩ := Kd.bu HO304.out
     (first | subst eo54 | (injection eo54 with f1_ f2_ f3_; have f4_ := f1_.symm; have f5_ := f3_.symm; clear f1_ f2_ f3_; subst f4_; subst f5_))
     refine bN (a' := ?_) ?_ ?_
     rotate_left
     ·simp only [fD, Act.put, List.setIfInBounds_toArray, List.set_cons_zero, List.set_cons_succ]
      rfl
     refine dG (i := 9) (N := none) #[true, true, true, true, true, true, true, true, true, true] rfl rfl (d9 HT_.out (by kernel_rfl)) (by decide) (fun K hK => ?_)
     have hs51 : w50.cell? ⟨gb305, 0, none⟩ = some (.int .i64 0) := (ak BK305.out 0).trans rfl
     have hfs51 := au BK305.out 0
     have hns51_0 := NB289_305.out
     have hns51_1 := NB290_305.out
     have hns51_2 := NB291_305.out
     have hms51_0 := NB305_289.out
     have hms51_1 := NB305_290.out
     have hms51_2 := NB305_291.out
     have hs53 : w50.cell? ⟨gb305, 1, none⟩ = some (.slice none 0 0) := (ak BK305.out 1).trans rfl
     have hfs53 := au BK305.out 1
     have hns53_0 := NB289_305.out
     have hns53_1 := NB290_305.out
     have hns53_2 := NB291_305.out
     have hms53_0 := NB305_289.out
     have hms53_1 := NB305_290.out
     have hms53_2 := NB305_291.out
     have hs55 : w50.cell? ⟨gb305, 2, none⟩ = some (.slice none 0 0) := (ak BK305.out 2).trans rfl
     have hfs55 := au BK305.out 2
     have hns55_0 := NB289_305.out
     have hns55_1 := NB290_305.out
     have hns55_2 := NB291_305.out
     have hms55_0 := NB305_289.out
     have hms55_1 := NB305_290.out
     have hms55_2 := NB305_291.out
     refine jF (w1 := ?_) (by rfl) rfl ?_ ?_
     rotate_left
     ·go_simp
      rfl
     refine hK.out _ _ ⟨((cell_far (p := ⟨gb305, _, none⟩) NB289_305.out _).trans (((cell_far (p := ⟨gb305, _, none⟩) NB289_305.out _).trans (((cell_far (p := ⟨gb305, _, none⟩) NB289_305.out _).trans (hHeld.1)))))), ((cell_far (p := ⟨gb305, _, none⟩) NB289_305.out _).trans (((cell_far (p := ⟨gb305, _, none⟩) NB289_305.out _).trans (((cell_far (p := ⟨gb305, _, none⟩) NB289_305.out _).trans (hHeld.2.1)))))), ((cell_far (p := ⟨gb305, _, none⟩) NB289_305.out _).trans (((cell_far (p := ⟨gb305, _, none⟩) NB289_305.out _).trans (((cell_far (p := ⟨gb305, _, none⟩) NB289_305.out _).trans (hHeld.2.2.1)))))), ((cell_far (p := ⟨gb305, _, none⟩) NB290_305.out _).trans (((cell_far (p := ⟨gb305, _, none⟩) NB290_305.out _).trans (((cell_far (p := ⟨gb305, _, none⟩) NB290_305.out _).trans (hHeld.2.2.2.1)))))), ((cell_far (p := ⟨gb305, _, none⟩) NB290_305.out _).trans (((cell_far (p := ⟨gb305, _, none⟩) NB290_305.out _).trans (((cell_far (p := ⟨gb305, _, none⟩) NB290_305.out _).trans (hHeld.2.2.2.2))))))⟩ (fun hHeld => ?_)
     clear hK K
     refine eZ (gV HT_.out (by kernel_rfl)) ?_
     have hnb56 := NB305_289.out
     have hnc56 := NB289_305.out
     have hnb57 := NB305_290.out
     have hnc57 := NB290_305.out
     have hnb58 := NB305_291.out
     have hnc58 := NB291_305.out
     have hcz59_0 : w50.cell? ⟨gb305, 0, none⟩ = some (.int .i64 0) := (ak BK305.out 0).trans rfl
     have hcz59_1 : w50.cell? ⟨gb305, 1, none⟩ = some (.slice none 0 0) := (ak BK305.out 1).trans rfl
     have hcz59_2 : w50.cell? ⟨gb305, 2, none⟩ = some (.slice none 0 0) := (ak BK305.out 2).trans rfl
     have hfz59_0 := au BK305.out 0
     have hfz59_1 := au BK305.out 1
     have hfz59_2 := au BK305.out 2
     have H := HQ256.out
     clear HQ256
     by_cases c38 : t306 = true
     ·subst c38
      have H1 : (some (t298, t299, t302, true)) = some (r1, r2, r3, r4) := by rw [if_pos rfl] at H; exact H
      clear H
      have H := H1
      clear H1
      simp only [Option.some.injEq, Prod.mk.injEq] at H
      obtain ⟨rfl, rfl, rfl, rfl⟩ := H
      try go_wp2_with (first | ((with_reducible refine aT (f := 25) rfl ?_); refine bF (some 35) rfl rfl Try.func25 (by kernel_rfl) rfl #[.agg #[.int .i64 t298, .slice Ao52 t299.length co52, .slice Ao54 t302.length co54]] rfl (by (try simp only [amp_]); first | done | rfl | (simp only [ald_]; rfl)) ?_; (with_reducible refine (spec_GoodFree.calls kj2 t298 _ _ t299 _ _ t302 true _ ?side1 ?side2 ?side3 ?side4 A37.out).mono ?_); (case side1 => refine (Kd.R_reads' (e := 35) (base := w.heap.size) (ok := fun k_ => (some k_ ≠ (v296 : Value).ownBlock ∧ (some k_ ≠ (.slice Ao54 t302.length co54 : Value).ownBlock ∧ k_ ≠ gb290))) (n := t299.length) (c := co52) ?_).2.2; exact (by (with_reducible repeat (first | apply Kd.aD | apply Kd.aC | apply Kd.aH)); exact (Kd.aY (Kd.aX (p := ⟨gb305, 2, none⟩) (Kd.aX (p := ⟨gb305, 1, none⟩) (Kd.aX (p := ⟨gb305, 0, none⟩) (Kd.bH HO301.out BK305.out (by decide)) (fun _ hk => hk.2) (.int .i64 t298)) (fun _ hk => hk.2) (.slice Ao52 t299.length co52)) (fun _ hk => hk.2) (.slice Ao54 t302.length co54)) (fun _ h_ => h_.1)))); (case side2 => exact (Kd.R_reads' HO301.out).2.1); (case side3 => refine (Kd.R_reads' (e := 35) (base := w.heap.size) (ok := fun k_ => (some k_ ≠ (v296 : Value).ownBlock ∧ (some k_ ≠ (.slice Ao52 t299.length co52 : Value).ownBlock ∧ k_ ≠ gb290))) (n := t302.length) (c := co54) ?_).2.2; exact (by (with_reducible repeat (first | apply Kd.aD | apply Kd.aC | apply Kd.aH)); exact (Kd.aY (Kd.aX (p := ⟨gb305, 2, none⟩) (Kd.aX (p := ⟨gb305, 1, none⟩) (Kd.aX (p := ⟨gb305, 0, none⟩) (Kd.bH HO304.out BK305.out (by decide)) (fun _ hk => hk.2) (.int .i64 t298)) (fun _ hk => hk.2) (.slice Ao52 t299.length co52)) (fun _ hk => hk.2) (.slice Ao54 t302.length co54)) (fun _ h_ => h_.1)))); (case side4 => exact (Kd.R_reads' HO304.out).2.1); rintro e w60 ⟨rfl, hb⟩; refine ⟨_, rfl, ?_⟩; replace HO297 := av (Kd.bq (by (with_reducible repeat (first | apply Kd.aD | apply Kd.aC | apply Kd.aH)); exact (Kd.aY (Kd.aX (p := ⟨gb305, 2, none⟩) (Kd.aX (p := ⟨gb305, 1, none⟩) (Kd.aX (p := ⟨gb305, 0, none⟩) (Kd.bH HO297.out BK305.out (by decide)) (fun _ hk => hk.2) (.int .i64 t298)) (fun _ hk => hk.2) (.slice Ao52 t299.length co52)) (fun _ hk => hk.2) (.slice Ao54 t302.length co54)) (fun _ h_ => h_.1))) hb); replace HO301 := av (Kd.bq (by (with_reducible repeat (first | apply Kd.aD | apply Kd.aC | apply Kd.aH)); exact (Kd.aY (Kd.aX (p := ⟨gb305, 2, none⟩) (Kd.aX (p := ⟨gb305, 1, none⟩) (Kd.aX (p := ⟨gb305, 0, none⟩) (Kd.bH HO301.out BK305.out (by decide)) (fun _ hk => hk.2) (.int .i64 t298)) (fun _ hk => hk.2) (.slice Ao52 t299.length co52)) (fun _ hk => hk.2) (.slice Ao54 t302.length co54)) (fun _ h_ => h_.1))) hb); replace HO304 := av (Kd.bq (by (with_reducible repeat (first | apply Kd.aD | apply Kd.aC | apply Kd.aH)); exact (Kd.aY (Kd.aX (p := ⟨gb305, 2, none⟩) (Kd.aX (p := ⟨gb305, 1, none⟩) (Kd.aX (p := ⟨gb305, 0, none⟩) (Kd.bH HO304.out BK305.out (by decide)) (fun _ hk => hk.2) (.int .i64 t298)) (fun _ hk => hk.2) (.slice Ao52 t299.length co52)) (fun _ hk => hk.2) (.slice Ao54 t302.length co54)) (fun _ h_ => h_.1))) hb); replace BK289 := av (ay (g := gb289) (o := .cells #[.int .i64 a0_0, .slice A0_1 l0_1.length c0_1, .slice A0_2 l0_2.length c0_2] 24 (0, 0)) (by (with_reducible repeat (first | apply af | apply aj | apply ag)); refine aJ ?_ NB289_305.out _; (with_reducible repeat (first | apply af | apply aj | apply ag)); refine aJ ?_ NB289_305.out _; (with_reducible repeat (first | apply af | apply aj | apply ag)); refine aJ ?_ NB289_305.out _; (with_reducible repeat (first | apply af | apply aj | apply ag)); exact BK289.out) hb); replace BK290 := av (ay (g := gb290) (o := .cells #[.int .i64 a1_0, .int .i64 a1_1] 35 (0, 0)) (by (with_reducible repeat (first | apply af | apply aj | apply ag)); refine aJ ?_ NB290_305.out _; (with_reducible repeat (first | apply af | apply aj | apply ag)); refine aJ ?_ NB290_305.out _; (with_reducible repeat (first | apply af | apply aj | apply ag)); refine aJ ?_ NB290_305.out _; (with_reducible repeat (first | apply af | apply aj | apply ag)); exact BK290.out) hb); replace BK291 := av (ay (g := gb291) (o := .cells #[.int .i64 0, .slice none 0 0, .slice none 0 0] 24 (0, 0)) (by (with_reducible repeat (first | apply af | apply aj | apply ag)); refine aJ ?_ NB291_305.out _; (with_reducible repeat (first | apply af | apply aj | apply ag)); refine aJ ?_ NB291_305.out _; (with_reducible repeat (first | apply af | apply aj | apply ag)); refine aJ ?_ NB291_305.out _; (with_reducible repeat (first | apply af | apply aj | apply ag)); exact BK291.out) hb); replace BK305 := av (ay (g := gb305) (o := .cells #[.int .i64 t298, .slice Ao52 t299.length co52, .slice Ao54 t302.length co54] 24 (0, 0)) (by (with_reducible repeat (first | apply af | apply aj | apply ag)); refine aM (cs := #[.int .i64 t298, .slice Ao52 t299.length co52, .slice none 0 0]) ?_ 2 _ rfl; (with_reducible repeat (first | apply af | apply aj | apply ag)); refine aM (cs := #[.int .i64 t298, .slice none 0 0, .slice none 0 0]) ?_ 1 _ rfl; (with_reducible repeat (first | apply af | apply aj | apply ag)); refine aM (cs := #[.int .i64 0, .slice none 0 0, .slice none 0 0]) ?_ 0 _ rfl; (with_reducible repeat (first | apply af | apply aj | apply ag)); exact BK305.out) hb); replace HB := av (aA (by with_reducible repeat (first | exact HB.out | apply ah | apply aa | apply ai | refine ae ?_ GE289.out | refine ae ?_ GE290.out | refine ae ?_ GE291.out | refine ae ?_ GE305.out)) hb); (try clear hb); (try clear hb2); (try clear hk); (try clear hi); have hcz61_0 : w60.cell? ⟨gb305, 0, none⟩ = some (.int .i64 t298) := (ak BK305.out 0).trans rfl; have hcz61_1 : w60.cell? ⟨gb305, 1, none⟩ = some (.slice Ao52 t299.length co52) := (ak BK305.out 1).trans rfl; have hcz61_2 : w60.cell? ⟨gb305, 2, none⟩ = some (.slice Ao54 t302.length co54) := (ak BK305.out 2).trans rfl; have hfz61_0 := au BK305.out 0; have hfz61_1 := au BK305.out 1; have hfz61_2 := au BK305.out 2; have hcz62_0 : w60.cell? ⟨gb291, 0, none⟩ = some (.int .i64 0) := (ak BK291.out 0).trans rfl; have hcz62_1 : w60.cell? ⟨gb291, 1, none⟩ = some (.slice none 0 0) := (ak BK291.out 1).trans rfl; have hcz62_2 : w60.cell? ⟨gb291, 2, none⟩ = some (.slice none 0 0) := (ak BK291.out 2).trans rfl; have hfz62_0 := au BK291.out 0; have hfz62_1 := au BK291.out 1; have hfz62_2 := au BK291.out 2))
      refine bodyPost_ret (dw rfl _ _ gb291 24 #[.int .i64 t298, .slice Ao52 t299.length co52, .slice Ao54 t302.length co54] (0, 0) _ rfl (by (with_reducible repeat (first | apply af | apply aj | apply ag)); refine aM (cs := #[.int .i64 t298, .slice Ao52 t299.length co52, .slice none 0 0]) ?_ 2 _ rfl; (with_reducible repeat (first | apply af | apply aj | apply ag)); refine aM (cs := #[.int .i64 t298, .slice none 0 0, .slice none 0 0]) ?_ 1 _ rfl; (with_reducible repeat (first | apply af | apply aj | apply ag)); refine aM (cs := #[.int .i64 0, .slice none 0 0, .slice none 0 0]) ?_ 0 _ rfl; (with_reducible repeat (first | apply af | apply aj | apply ag)); exact BK291.out) Try.underlying24 rfl (by kernel_rfl)) rfl ?_
      exact ⟨_, _, by first | rfl | (simp <;> rfl) | (simp [*] <;> rfl), by (with_reducible repeat (first | apply Kd.aD | apply Kd.aC | apply Kd.aH)); exact Kd.aY (Kd.aX (p := ⟨gb291, 2, none⟩) (Kd.aX (p := ⟨gb291, 1, none⟩) (Kd.aX (p := ⟨gb291, 0, none⟩) (Kd.bH HO301.out BK291.out (by decide)) (fun _ hk => hk.2) (.int .i64 t298)) (fun _ hk => hk.2) (.slice Ao52 t299.length co52)) (fun _ hk => hk.2) (.slice Ao54 t302.length co54)) (fun _ hk => hk.1.2.1), by (with_reducible repeat (first | apply Kd.aD | apply Kd.aC | apply Kd.aH)); exact Kd.aY (Kd.aX (p := ⟨gb291, 2, none⟩) (Kd.aX (p := ⟨gb291, 1, none⟩) (Kd.aX (p := ⟨gb291, 0, none⟩) (Kd.bH HO304.out BK291.out (by decide)) (fun _ hk => hk.2) (.int .i64 t298)) (fun _ hk => hk.2) (.slice Ao52 t299.length co52)) (fun _ hk => hk.2) (.slice Ao54 t302.length co54)) (fun _ hk => hk.1.2.1), by with_reducible repeat (first | exact HB.out | apply ah | apply aa | apply ai | refine ae ?_ GE289.out | refine ae ?_ GE290.out | refine ae ?_ GE291.out | refine ae ?_ GE305.out)⟩
     ·replace c38 := Bool.eq_false_iff.mpr c38
      subst c38
      have H1 : (some (0, ([] : List (S35)), ([] : List (S35)), false)) = some (r1, r2, r3, r4) := by rw [if_neg (show ¬ (false = true) by decide)] at H; exact H
      clear H
      have H := H1
      clear H1
      simp only [Option.some.injEq, Prod.mk.injEq] at H
      obtain ⟨rfl, rfl, rfl, rfl⟩ := H
      try go_wp2_with (first | ((with_reducible refine aT (f := 25) rfl ?_); refine bF (some 35) rfl rfl Try.func25 (by kernel_rfl) rfl #[.agg #[.int .i64 t298, .slice Ao52 t299.length co52, .slice Ao54 t302.length co54]] rfl (by (try simp only [amp_]); first | done | rfl | (simp only [ald_]; rfl)) ?_; (with_reducible refine (spec_GoodFree.calls kj2 t298 _ _ t299 _ _ t302 false _ ?side1 ?side2 ?side3 ?side4 A37.out).mono ?_); (case side1 => refine (Kd.R_reads' (e := 35) (base := w.heap.size) (ok := fun k_ => (some k_ ≠ (v296 : Value).ownBlock ∧ (some k_ ≠ (.slice Ao54 t302.length co54 : Value).ownBlock ∧ k_ ≠ gb290))) (n := t299.length) (c := co52) ?_).2.2; exact (by (with_reducible repeat (first | apply Kd.aD | apply Kd.aC | apply Kd.aH)); exact (Kd.aY (Kd.aX (p := ⟨gb305, 2, none⟩) (Kd.aX (p := ⟨gb305, 1, none⟩) (Kd.aX (p := ⟨gb305, 0, none⟩) (Kd.bH HO301.out BK305.out (by decide)) (fun _ hk => hk.2) (.int .i64 t298)) (fun _ hk => hk.2) (.slice Ao52 t299.length co52)) (fun _ hk => hk.2) (.slice Ao54 t302.length co54)) (fun _ h_ => h_.1)))); (case side2 => exact (Kd.R_reads' HO301.out).2.1); (case side3 => refine (Kd.R_reads' (e := 35) (base := w.heap.size) (ok := fun k_ => (some k_ ≠ (v296 : Value).ownBlock ∧ (some k_ ≠ (.slice Ao52 t299.length co52 : Value).ownBlock ∧ k_ ≠ gb290))) (n := t302.length) (c := co54) ?_).2.2; exact (by (with_reducible repeat (first | apply Kd.aD | apply Kd.aC | apply Kd.aH)); exact (Kd.aY (Kd.aX (p := ⟨gb305, 2, none⟩) (Kd.aX (p := ⟨gb305, 1, none⟩) (Kd.aX (p := ⟨gb305, 0, none⟩) (Kd.bH HO304.out BK305.out (by decide)) (fun _ hk => hk.2) (.int .i64 t298)) (fun _ hk => hk.2) (.slice Ao52 t299.length co52)) (fun _ hk => hk.2) (.slice Ao54 t302.length co54)) (fun _ h_ => h_.1)))); (case side4 => exact (Kd.R_reads' HO304.out).2.1); rintro e w84 ⟨rfl, hb⟩; refine ⟨_, rfl, ?_⟩; replace HO297 := av (Kd.bq (by (with_reducible repeat (first | apply Kd.aD | apply Kd.aC | apply Kd.aH)); exact (Kd.aY (Kd.aX (p := ⟨gb305, 2, none⟩) (Kd.aX (p := ⟨gb305, 1, none⟩) (Kd.aX (p := ⟨gb305, 0, none⟩) (Kd.bH HO297.out BK305.out (by decide)) (fun _ hk => hk.2) (.int .i64 t298)) (fun _ hk => hk.2) (.slice Ao52 t299.length co52)) (fun _ hk => hk.2) (.slice Ao54 t302.length co54)) (fun _ h_ => h_.1))) hb); replace HO301 := av (Kd.bq (by (with_reducible repeat (first | apply Kd.aD | apply Kd.aC | apply Kd.aH)); exact (Kd.aY (Kd.aX (p := ⟨gb305, 2, none⟩) (Kd.aX (p := ⟨gb305, 1, none⟩) (Kd.aX (p := ⟨gb305, 0, none⟩) (Kd.bH HO301.out BK305.out (by decide)) (fun _ hk => hk.2) (.int .i64 t298)) (fun _ hk => hk.2) (.slice Ao52 t299.length co52)) (fun _ hk => hk.2) (.slice Ao54 t302.length co54)) (fun _ h_ => h_.1))) hb); replace HO304 := av (Kd.bq (by (with_reducible repeat (first | apply Kd.aD | apply Kd.aC | apply Kd.aH)); exact (Kd.aY (Kd.aX (p := ⟨gb305, 2, none⟩) (Kd.aX (p := ⟨gb305, 1, none⟩) (Kd.aX (p := ⟨gb305, 0, none⟩) (Kd.bH HO304.out BK305.out (by decide)) (fun _ hk => hk.2) (.int .i64 t298)) (fun _ hk => hk.2) (.slice Ao52 t299.length co52)) (fun _ hk => hk.2) (.slice Ao54 t302.length co54)) (fun _ h_ => h_.1))) hb); replace BK289 := av (ay (g := gb289) (o := .cells #[.int .i64 a0_0, .slice A0_1 l0_1.length c0_1, .slice A0_2 l0_2.length c0_2] 24 (0, 0)) (by (with_reducible repeat (first | apply af | apply aj | apply ag)); refine aJ ?_ NB289_305.out _; (with_reducible repeat (first | apply af | apply aj | apply ag)); refine aJ ?_ NB289_305.out _; (with_reducible repeat (first | apply af | apply aj | apply ag)); refine aJ ?_ NB289_305.out _; (with_reducible repeat (first | apply af | apply aj | apply ag)); exact BK289.out) hb); replace BK290 := av (ay (g := gb290) (o := .cells #[.int .i64 a1_0, .int .i64 a1_1] 35 (0, 0)) (by (with_reducible repeat (first | apply af | apply aj | apply ag)); refine aJ ?_ NB290_305.out _; (with_reducible repeat (first | apply af | apply aj | apply ag)); refine aJ ?_ NB290_305.out _; (with_reducible repeat (first | apply af | apply aj | apply ag)); refine aJ ?_ NB290_305.out _; (with_reducible repeat (first | apply af | apply aj | apply ag)); exact BK290.out) hb); replace BK291 := av (ay (g := gb291) (o := .cells #[.int .i64 0, .slice none 0 0, .slice none 0 0] 24 (0, 0)) (by (with_reducible repeat (first | apply af | apply aj | apply ag)); refine aJ ?_ NB291_305.out _; (with_reducible repeat (first | apply af | apply aj | apply ag)); refine aJ ?_ NB291_305.out _; (with_reducible repeat (first | apply af | apply aj | apply ag)); refine aJ ?_ NB291_305.out _; (with_reducible repeat (first | apply af | apply aj | apply ag)); exact BK291.out) hb); replace BK305 := av (ay (g := gb305) (o := .cells #[.int .i64 t298, .slice Ao52 t299.length co52, .slice Ao54 t302.length co54] 24 (0, 0)) (by (with_reducible repeat (first | apply af | apply aj | apply ag)); refine aM (cs := #[.int .i64 t298, .slice Ao52 t299.length co52, .slice none 0 0]) ?_ 2 _ rfl; (with_reducible repeat (first | apply af | apply aj | apply ag)); refine aM (cs := #[.int .i64 t298, .slice none 0 0, .slice none 0 0]) ?_ 1 _ rfl; (with_reducible repeat (first | apply af | apply aj | apply ag)); refine aM (cs := #[.int .i64 0, .slice none 0 0, .slice none 0 0]) ?_ 0 _ rfl; (with_reducible repeat (first | apply af | apply aj | apply ag)); exact BK305.out) hb); replace HB := av (aA (by with_reducible repeat (first | exact HB.out | apply ah | apply aa | apply ai | refine ae ?_ GE289.out | refine ae ?_ GE290.out | refine ae ?_ GE291.out | refine ae ?_ GE305.out)) hb); (try clear hb); (try clear hb2); (try clear hk); (try clear hi); have hcz85_0 : w84.cell? ⟨gb291, 0, none⟩ = some (.int .i64 0) := (ak BK291.out 0).trans rfl; have hcz85_1 : w84.cell? ⟨gb291, 1, none⟩ = some (.slice none 0 0) := (ak BK291.out 1).trans rfl; have hcz85_2 : w84.cell? ⟨gb291, 2, none⟩ = some (.slice none 0 0) := (ak BK291.out 2).trans rfl; have hfz85_0 := au BK291.out 0; have hfz85_1 := au BK291.out 1; have hfz85_2 := au BK291.out 2))
      refine bodyPost_ret (dw rfl _ _ gb291 24 #[.int .i64 0, .slice none 0 0, .slice none 0 0] (0, 0) _ rfl (by (with_reducible repeat (first | apply af | apply aj | apply ag)); refine aM (cs := #[.int .i64 0, .slice none 0 0, .slice none 0 0]) ?_ 2 _ rfl; (with_reducible repeat (first | apply af | apply aj | apply ag)); refine aM (cs := #[.int .i64 0, .slice none 0 0, .slice none 0 0]) ?_ 1 _ rfl; (with_reducible repeat (first | apply af | apply aj | apply ag)); refine aM (cs := #[.int .i64 0, .slice none 0 0, .slice none 0 0]) ?_ 0 _ rfl; (with_reducible repeat (first | apply af | apply aj | apply ag)); exact BK291.out) Try.underlying24 rfl (by kernel_rfl)) rfl ?_
      exact ⟨_, _, by first | rfl | (simp <;> rfl) | (simp [*] <;> rfl), by first | exact Kd.dm _ _ _ _ _ | exact Kd.dP _ _ _ _ _ | exact Kd.dQ _ _ _ _ _ | exact Kd.dO _ _ _ _ _ | exact Kd.dN _ _ _ _ _, by first | exact Kd.dm _ _ _ _ _ | exact Kd.dP _ _ _ _ _ | exact Kd.dQ _ _ _ _ _ | exact Kd.dO _ _ _ _ _ | exact Kd.dN _ _ _ _ _, by with_reducible repeat (first | exact HB.out | apply ah | apply aa | apply ai | refine ae ?_ GE289.out | refine ae ?_ GE290.out | refine ae ?_ GE291.out | refine ae ?_ GE305.out)⟩
attribute [local go_sem] bK bJ bT bU bA bB bM bL
set_option linter.unusedVariables false
set_option linter.unusedSimpArgs false
def impl_TakeExact.f (a0_0 : Int) (l0_1 : List (S35)) (l0_2 : List (S35)) (a1_0 : Int) (a1_1 : Int) : Option (Int × (List (S35)) × (List (S35)) × Bool) := (impl_GoodFree.f a0_0 l0_1 l0_2).bind fun t515 => (if t515 = true then ((impl_isExtent.f a1_0 a1_1 a0_0).bind fun t516 => (if t516 = true then ((impl_Free_changed.f a0_0 l0_1 l0_2 a1_0 a1_1 false).bind fun bt517 => (some (bt517.1, bt517.2.1, bt517.2.2.1, bt517.2.2.2))) else (some (0, ([] : List (S35)), ([] : List (S35)), false)))) else (some (0, ([] : List (S35)), ([] : List (S35)), false)))
open Go.RowKit Go.Proofs.YtelblhkbogljnaaW.PrintWords Go.Proofs.YtelblhkbogljnaaW.PrintLast Go.Proofs.YtelblhkbogljnaaW.PrintMore Go.Proofs.Ytelblhkbogljnaa.E
theorem ma {P : List EX} {i : Nat} (h : i < P.length) : P = P.take i ++ P[i] :: P.drop (i + 1) := by
  rw [List.getElem_cons_drop, List.take_append_drop]
def mX (A : List EX) (o x : EX) (D : List EX) : List EX := A ++ ((if x.f0 > o.f0 then [⟨o.f0, x.f0 - o.f0⟩] else []) ++ ((if x.f0 + x.f1 < o.f0 + o.f1 then [⟨x.f0 + x.f1, o.f0 + o.f1 - (x.f0 + x.f1)⟩] else []) ++ D))
section
variable {B : Int} {P S : List EX}
theorem qz {A D : List EX} {o x : EX} (hs : Sep B (A ++ o :: D)) (h0 : o.f0 ≤ x.f0) (h1 : 1 ≤ x.f1) (h2 : x.f0 + x.f1 ≤ o.f0 + o.f1) : Sep B (mX A o x D) ∧ ∀ k, cov (mX A o x D) k = kJ (A ++ o :: D) x false k := by
  have ho := hs.a o (by simp)
  have hA := hs.left
  have hD := hs.right.tail
  have hoD : ∀ y ∈ D, o.f0 + o.f1 < y.f0 := (List.pairwise_cons.1 hs.right.p).1
  have hAo : ∀ y ∈ A, y.f0 + y.f1 < o.f0 := fun y hy => hs.between y hy o (List.mem_cons_self ..)
  have hAD : ∀ y ∈ A, ∀ z ∈ D, y.f0 + y.f1 < z.f0 := fun y hy z hz => hs.between y hy z (List.mem_cons_of_mem _ hz)
  have one : ∀ y : EX, (0 ≤ y.f0 ∧ 1 ≤ y.f1 ∧ y.f0 + y.f1 ≤ B) → Sep B [y] := fun y hy => ⟨fun z hz => by obtain rfl := List.mem_singleton.1 hz; exact hy, List.pairwise_singleton ..⟩
  have hl : Sep B (if x.f0 > o.f0 then [(⟨o.f0, x.f0 - o.f0⟩ : EX)] else []) ∧ (∀ y ∈ (if x.f0 > o.f0 then [(⟨o.f0, x.f0 - o.f0⟩ : EX)] else []), y.f0 = o.f0 ∧ y.f0 + y.f1 = x.f0) ∧ ∀ k, cov (if x.f0 > o.f0 then [(⟨o.f0, x.f0 - o.f0⟩ : EX)] else []) k = decide (o.f0 ≤ k ∧ k < x.f0) := by
    by_cases c : x.f0 > o.f0
    · rw [if_pos c]
      refine ⟨one _ ⟨ho.1, by show 1 ≤ x.f0 - o.f0; omega, by show o.f0 + (x.f0 - o.f0) ≤ B; omega⟩, fun y hy => by obtain rfl := List.mem_singleton.1 hy; exact ⟨rfl, by show o.f0 + (x.f0 - o.f0) = x.f0; omega⟩, fun k => ?_⟩
      rw [iA]
      show decide (o.f0 ≤ k ∧ k < o.f0 + (x.f0 - o.f0)) = _
      rw [decide_eq_decide]; omega
    · rw [if_neg c]
      exact ⟨Sep.nil B, fun y hy => (by cases hy), fun k => by rw [fT, decide_eq_false (by omega)]⟩
  have hr : Sep B (if x.f0 + x.f1 < o.f0 + o.f1 then [(⟨x.f0 + x.f1, o.f0 + o.f1 - (x.f0 + x.f1)⟩ : EX)] else []) ∧ (∀ y ∈ (if x.f0 + x.f1 < o.f0 + o.f1 then [(⟨x.f0 + x.f1, o.f0 + o.f1 - (x.f0 + x.f1)⟩ : EX)] else []), y.f0 = x.f0 + x.f1 ∧ y.f0 + y.f1 = o.f0 + o.f1) ∧ ∀ k, cov (if x.f0 + x.f1 < o.f0 + o.f1 then [(⟨x.f0 + x.f1, o.f0 + o.f1 - (x.f0 + x.f1)⟩ : EX)] else []) k = decide (x.f0 + x.f1 ≤ k ∧ k < o.f0 + o.f1) := by
    by_cases c : x.f0 + x.f1 < o.f0 + o.f1
    · rw [if_pos c]
      refine ⟨one _ ⟨by show 0 ≤ x.f0 + x.f1; omega, by show 1 ≤ o.f0 + o.f1 - (x.f0 + x.f1); omega, by show x.f0 + x.f1 + (o.f0 + o.f1 - (x.f0 + x.f1)) ≤ B; omega⟩, fun y hy => by obtain rfl := List.mem_singleton.1 hy; exact ⟨rfl, by show x.f0 + x.f1 + (o.f0 + o.f1 - (x.f0 + x.f1)) = _; omega⟩, fun k => ?_⟩
      rw [iA]
      show decide (x.f0 + x.f1 ≤ k ∧ k < x.f0 + x.f1 + (o.f0 + o.f1 - (x.f0 + x.f1))) = _
      rw [decide_eq_decide]; omega
    · rw [if_neg c]
      exact ⟨Sep.nil B, fun y hy => (by cases hy), fun k => by rw [fT, decide_eq_false (by omega)]⟩
  unfold mX
  generalize (if x.f0 > o.f0 then [(⟨o.f0, x.f0 - o.f0⟩ : EX)] else []) = U at hl
  generalize (if x.f0 + x.f1 < o.f0 + o.f1 then [(⟨x.f0 + x.f1, o.f0 + o.f1 - (x.f0 + x.f1)⟩ : EX)] else []) = V at hr
  refine ⟨hA.append (hl.1.append (hr.1.append hD (fun y hy z hz => ?_)) (fun y hy z hz => ?_)) (fun y hy z hz => ?_), fun k => ?_⟩
  · have := (hr.2.1 y hy).2; have := hoD z hz; omega
  · have h3 := (hl.2.1 y hy).2
    rcases List.mem_append.1 hz with h | h
    · have := (hr.2.1 z h).1; omega
    · have := hoD z h; omega
  · have h3 := hAo y hy
    rcases List.mem_append.1 hz with h | h
    · have := (hl.2.1 z h).1; omega
    · rcases List.mem_append.1 h with h | h
      · have := (hr.2.1 z h).1; omega
      · exact hAD y hy z h
  · rw [dK, dK, dK, hl.2.2, hr.2.2]
    unfold kJ
    rw [dK]
    show _ = if inX x k = true then false else (cov A k || (inX o k || cov D k))
    have hAk : cov A k = true → k < o.f0 := fun h => by
      obtain ⟨y, hy, _, h4⟩ := gW.1 h
      have := hAo y hy; omega
    have hDk : cov D k = true → o.f0 + o.f1 < k := fun h => hs.right.far h
    by_cases c : inX x k = true
    · rw [if_pos c]
      rw [dn] at c
      have e1 : cov A k = false := by cases hb : cov A k with | false => rfl | true => have := hAk hb; omega
      have e2 : cov D k = false := by cases hb : cov D k with | false => rfl | true => have := hDk hb; omega
      rw [e1, e2, decide_eq_false (by omega), decide_eq_false (by omega)]; rfl
    · rw [if_neg c]
      rw [dn] at c
      have : inX o k = (decide (o.f0 ≤ k ∧ k < x.f0) || decide (x.f0 + x.f1 ≤ k ∧ k < o.f0 + o.f1)) := by
        rw [Bool.eq_iff_iff, Bool.or_eq_true, dn, decide_eq_true_iff, decide_eq_true_iff]
        omega
      rw [this, Bool.or_assoc]
theorem oN {i : Nat} (hi : i < P.length) (hP : P.length ≤ 60) {x : EX} (hb : B ≤ 400) (ho : 0 ≤ P[i].f0 ∧ 1 ≤ P[i].f1 ∧ P[i].f0 + P[i].f1 ≤ B) (h0 : P[i].f0 ≤ x.f0) (h1 : 1 ≤ x.f1) (h2 : x.f0 + x.f1 ≤ P[i].f0 + P[i].f1) :
    spec_l5Cut.f P (i : Int) x.f0 x.f1 = some (mX (P.take i) P[i] x (P.drop (i + 1))) := by
  have er := ig hi
  have e1 : wrap64 ((i : Int) + 1) = ((i + 1 : Nat) : Int) := by rw [w64 (by omega) (by omega)]; omega
  unfold spec_l5Cut.f mX
  rw [er]
  generalize P[i] = o at ho h0 h2
  have w1 : wrap64 (x.f0 - o.f0) = x.f0 - o.f0 := w64 (by omega) (by omega)
  have w2 : wrap64 (x.f0 + x.f1) = x.f0 + x.f1 := w64 (by omega) (by omega)
  have w3 : wrap64 (o.f0 + o.f1) = o.f0 + o.f1 := w64 (by omega) (by omega)
  have w4 : wrap64 (o.f0 + o.f1 - (x.f0 + x.f1)) = o.f0 + o.f1 - (x.f0 + x.f1) := w64 (by omega) (by omega)
  rw [e1, w2, w3, w1, w4]
  have t1 : (P.take i).length = i := by rw [List.length_take]; omega
  have t2 : (P.drop (i + 1)).length = P.length - (i + 1) := List.length_drop
  simp only [Option.bind_some, List.nil_append, Int.toNat_natCast, List.length_nil, List.length_append, List.length_singleton, t1, t2]
  rw [if_pos (by omega), if_pos (by omega), if_pos (by omega), if_pos (by omega)]
  by_cases c : x.f0 > o.f0
  · rw [if_pos c, if_pos c, if_pos (by omega)]
    by_cases d : x.f0 + x.f1 < o.f0 + o.f1
    · rw [if_pos d, if_pos d, if_pos (by omega), if_pos (by omega), if_pos (by omega), if_pos (by omega)]
      simp
    · rw [if_neg d, if_neg d, if_pos (by omega), if_pos (by omega), if_pos (by omega)]
      simp
  · rw [if_neg c, if_neg c]
    by_cases d : x.f0 + x.f1 < o.f0 + o.f1
    · rw [if_pos d, if_pos d, if_pos (by omega), if_pos (by omega), if_pos (by omega), if_pos (by omega)]
      simp
    · rw [if_neg d, if_neg d, if_pos (by omega), if_pos (by omega), if_pos (by omega)]
      simp
def fO : List EX → Int → EX → Int
  | [], _, _ => -1
  | o :: r, i, x => if o.f0 ≤ x.f0 ∧ x.f0 + x.f1 ≤ o.f0 + o.f1 then i else fO r (i + 1) x
theorem iN : ∀ (l : List EX) (i : Int) (x : EX), 0 ≤ i → (fO l i x = -1 ∧ ∀ o ∈ l, ¬ (o.f0 ≤ x.f0 ∧ x.f0 + x.f1 ≤ o.f0 + o.f1)) ∨ ∃ (j : Nat) (h : j < l.length), fO l i x = i + (j : Int) ∧ l[j].f0 ≤ x.f0 ∧ x.f0 + x.f1 ≤ l[j].f0 + l[j].f1
  | [], i, x, _ => .inl ⟨rfl, fun o h => by cases h⟩
  | o :: r, i, x, h => by
    rw [fO]
    by_cases c : o.f0 ≤ x.f0 ∧ x.f0 + x.f1 ≤ o.f0 + o.f1
    · rw [if_pos c]
      exact .inr ⟨0, by simp, by omega, c⟩
    · rw [if_neg c]
      rcases iN r (i + 1) x (by omega) with ⟨e, h1⟩ | ⟨j, hj, e, h1⟩
      · exact .inl ⟨e, fun y hy => by rcases List.mem_cons.1 hy with h2 | h2; exact h2 ▸ c; exact h1 y h2⟩
      · exact .inr ⟨j + 1, by simp; omega, by rw [e]; omega, h1⟩
theorem jB (hB : B ≤ 400) (hP : P.length ≤ 60) (hS : Sep B P) {x : EX} (hx : 0 ≤ x.f0 ∧ x.f0 ≤ 400 ∧ 0 ≤ x.f1 ∧ x.f1 ≤ 400) : ∀ (f i : Nat), i + f = P.length → Ev (fun k => spec_l5Within.l0 k P (P.length : Int) (i : Int) x.f0 x.f1) (fO (P.drop i) (i : Int) x) := by
  intro f
  induction f with
  | zero =>
    intro i hi
    refine Ev.step (fun _ => spec_l5Within.l0.eq_2 ..) (bI (by omega) (bS ?_))
    rw [List.drop_of_length_le (by omega), fO]
  | succ f ih =>
    intro i hi
    have hil : i < P.length := by omega
    have ho := hS.a _ (List.getElem_mem hil)
    have er := ig hil
    refine Ev.step (fun _ => spec_l5Within.l0.eq_2 ..) (aZ (by omega) (aZ (by omega) (aZ (by omega) ?_)))
    rw [fE hil, er, fO]
    generalize P[i] = o at ho
    have ei : wrap64 ((i : Int) + 1) = ((i + 1 : Nat) : Int) := by rw [w64 (by omega) (by omega)]; omega
    rw [ei, w64 (x := x.f0 + x.f1) (by omega) (by omega), w64 (x := o.f0 + o.f1) (by omega) (by omega)]
    have hn := ih (i + 1) (by omega)
    rw [show ((i + 1 : Nat) : Int) = (i : Int) + 1 by omega] at hn ⊢
    by_cases c0 : o.f0 ≤ x.f0
    · refine aZ c0 ?_
      by_cases c1 : x.f0 + x.f1 ≤ o.f0 + o.f1
      · exact aZ c1 (bS (by rw [if_pos ⟨c0, c1⟩]))
      · rw [if_neg (fun h => c1 h.2)]
        exact bI c1 hn
    · rw [if_neg (fun h => c0 h.1)]
      exact bI c0 hn
structure Took (B : Int) (P S : List EX) (x : EX) (Q : List EX) : Prop where
  g : cZ B P S = true
  ok : 0 ≤ x.f0 ∧ 1 ≤ x.f1 ∧ x.f0 + x.f1 ≤ B
  s : Sep B Q
  n : Q.length ≤ 60
  c : ∀ k, cov Q k = kJ P x false k
  d : ∀ k, inX x k = true → cov P k = true
theorem mH (m : List EX) (hB : 1 ≤ B ∧ B ≤ 400) (hm : m.length ≤ 10000) : Ev (fun k => spec_l5Of.f k B m) (B, m, bv m) := by
  unfold spec_l5Of.f
  exact eP (aZ (by simp; omega) (Ev.bind (jk m (by omega)) (bS rfl)))
theorem oK (A D : List EX) (o x : EX) : (mX A o x D).length ≤ A.length + D.length + 2 := by
  unfold mX
  rw [List.length_append, List.length_append, List.length_append]
  split <;> split <;> simp <;> omega
theorem lW (hg : cZ B P S = true) {x : EX} (hx : 0 ≤ x.f0 ∧ 1 ≤ x.f1 ∧ x.f0 + x.f1 ≤ B) (hc : ∀ k, inX x k = true → cov P k = true) :
    ∃ (j : Nat) (Q : List EX), Ev (fun k => spec_l5Within.f k P x.f0 x.f1) (j : Int) ∧ spec_l5Cut.f P (j : Int) x.f0 x.f1 = some Q ∧ Q.length ≤ 200 ∧ Sep B Q ∧ (∀ k, cov Q k = kJ P x false k) ∧ impl_Free_changed.f B P S x.f0 x.f1 false = some (kI B Q) := by
  obtain ⟨hB, hP, hS, hSS⟩ := dF.1 hg
  obtain ⟨y, hy, y1, y2⟩ := oq hS hx.2.1 hc
  have hw := jB hB.2 hP hS (x := x) (by omega) P.length 0 (by omega)
  rw [List.drop_zero] at hw
  rcases iN P 0 x (Int.le_refl _) with ⟨_, h⟩ | ⟨j, hj, e, h1, h2⟩
  · exact absurd ⟨y1, y2⟩ (h y hy)
  · have ho := hS.a _ (List.getElem_mem hj)
    have hcut := oN hj hP hB.2 ho h1 hx.2.1 h2
    have hs2 := hS
    rw [ma hj] at hs2
    obtain ⟨q1, q2⟩ := qz hs2 h1 hx.2.1 h2
    rw [← ma hj] at q2
    have hl := oK (P.take j) (P.drop (j + 1)) P[j] x
    rw [List.length_take, List.length_drop] at hl
    refine ⟨j, _, ?_, hcut, by omega, q1, q2, ?_⟩
    · have : fO P ((0 : Nat) : Int) x = (j : Int) := by rw [show ((0 : Nat) : Int) = 0 from rfl, e]; omega
      rw [this] at hw
      exact hw
    · exact il hB hP hS S hx false (fun k hk => by rw [hc k hk]; rfl) q1 (fun k _ _ => q2 k)
theorem mQ (B : Int) (P S : List EX) (x : EX) (hsB : -4611686018427387904 ≤ B ∧ B ≤ 4611686018427387904) (hsP : P.length ≤ 100000) : ∃ r, Ev (fun k => spec_TakeExact.f k B P S x.f0 x.f1) r ∧ impl_TakeExact.f B P S x.f0 x.f1 = some r ∧ (r = (0, [], [], false) ∨ ∃ Q, r = (B, Q, bv Q, true) ∧ Took B P S x Q) := by
  have hg := eD B P S hsB hsP
  unfold impl_TakeExact.f impl_GoodFree.f
  have no : Ev (fun k => spec_TakeExact.j0 k true B P S x.f0 x.f1) (0, [], [], false) := Ev.step (fun _ => spec_TakeExact.j0.eq_2 ..) (bV rfl (bS rfl))
  cases hb : cZ B P S with
  | false =>
    rw [hb] at hg
    exact ⟨_, Ev.bind hg (dC rfl no), rfl, .inl rfl⟩
  | true =>
    rw [hb] at hg
    obtain ⟨hB, hP, hS, hSS⟩ := dF.1 hb
    rw [Option.bind_some, if_pos rfl, gU B x hB, Option.bind_some]
    cases hok : okX B x with
    | false => exact ⟨_, Ev.bind hg (bV rfl (bO (gJ hB x) (by rw [hok]; exact no))), rfl, .inl rfl⟩
    | true =>
      have hx := eF.1 hok
      rw [if_pos rfl]
      by_cases hall : ∀ k, inX x k = true → cov P k = true
      · obtain ⟨j, Q, e1, e2, e3, e4, e5, e6⟩ := lW hb hx hall
        have hs : Ev (fun k => spec_TakeExact.f k B P S x.f0 x.f1) (kI B Q) := by
          unfold spec_TakeExact.f
          refine Ev.bind hg (bV rfl (bO (gJ hB x) ?_))
          rw [hok]
          refine Ev.step (fun _ => spec_TakeExact.j0.eq_2 ..) (bI (by decide) (Ev.bind e1 (bI (by omega) (bO e2 (Ev.bind (mH Q hB (by omega)) (Ev.bind (eD B Q (bv Q) (by omega) (by omega)) ?_))))))
          rw [fV hB e4]
          unfold kI
          by_cases hn : Q.length ≤ 60
          · rw [if_pos hn]; exact bV (decide_eq_true hn) (bS rfl)
          · rw [if_neg hn]; exact dC (decide_eq_false hn) (bS rfl)
        rw [e6]
        refine ⟨_, hs, rfl, ?_⟩
        unfold kI
        by_cases hn : Q.length ≤ 60
        · rw [if_pos hn]; exact .inr ⟨Q, rfl, ⟨hb, hx, e4, hn, e5, hall⟩⟩
        · rw [if_neg hn]; exact .inl rfl
      · have hno : ∃ k, inX x k = true ∧ cov P k = false := by
          refine Classical.byContradiction fun h => hall fun k hk => ?_
          cases hc : cov P k with
          | true => rfl
          | false => exact absurd ⟨k, hk, hc⟩ h
        rw [jN hB hP hS S hx false hno]
        refine ⟨_, ?_, rfl, .inl rfl⟩
        unfold spec_TakeExact.f
        refine Ev.bind hg (bV rfl (bO (gJ hB x) ?_))
        rw [hok]
        have hw := jB hB.2 hP hS (x := x) (by omega) P.length 0 (by omega)
        rw [List.drop_zero] at hw
        rcases iN P 0 x (Int.le_refl _) with ⟨e, _⟩ | ⟨j, hj, e, h1, h2⟩
        · rw [show fO P ((0 : Nat) : Int) x = -1 from e] at hw
          exact Ev.step (fun _ => spec_TakeExact.j0.eq_2 ..) (bI (by decide) (Ev.bind (show Ev (fun k => spec_l5Within.f k P x.f0 x.f1) (-1) from hw) (aZ (by omega) (bS rfl))))
        · exfalso
          obtain ⟨k, hk, hck⟩ := hno
          rw [dn] at hk
          have : cov P k = true := gW.2 ⟨_, List.getElem_mem hj, by omega⟩
          rw [this] at hck; cases hck
end
attribute [local go_sem] bK bJ bT bU bA bB bM bL
set_option linter.unusedVariables false
set_option linter.unusedSimpArgs false
def spec_l5Gap.f (a0 : Int) (a1 : Int) : Option (Int) := if a0 < a1 then (some (wrap64 (a1 - a0))) else (some (wrap64 (a0 - a1)))
set_option maxHeartbeats 8000000 in
set_option maxRecDepth 100000 in
theorem spec_l5Gap.calls (a0 : Int) (a1 : Int) (r : Int) (w : World) (h : spec_l5Gap.f a0 a1 = some r) :
  Calls Try.prog 78 #[.int .i64 a0, .int .i64 a1] w fun e w' => e = .returned (.int .i64 r) ∧ Drawn0 w w' := by
 have H : (if a0 < a1 then (some (wrap64 (a1 - a0))) else (some (wrap64 (a0 - a1)))) = some r := h
 clear h
 by_cases c3 : a0 < a1
 ·rw [if_pos c3] at H
  have c3b0 : decide (a0 < a1) = true := decide_eq_true c3
  clear c3
  obtain rfl := Option.some.inj H
  go_enter Try.func78, Try.ntmps78
  go_wp2
  go_ret
  exact ⟨by first | rfl | (simp; done) | (simp [*]; done), by repeat (first | exact Drawn0.refl _ | apply Drawn0.step)⟩
 ·rw [if_neg c3] at H
  have c3b0 : decide (a0 < a1) = false := decide_eq_false c3
  clear c3
  obtain rfl := Option.some.inj H
  go_enter Try.func78, Try.ntmps78
  go_wp2
  go_ret
  exact ⟨by first | rfl | (simp; done) | (simp [*]; done), by repeat (first | exact Drawn0.refl _ | apply Drawn0.step)⟩
attribute [local go_sem] bK bJ bT bU bA bB bM bL
set_option linter.unusedVariables false
set_option linter.unusedSimpArgs false
mutual
def spec_l5Pick.l0 : Nat → Int → Int → List (S35) → Int → Int → Option (Int)
 | 0, _, _, _, _, _ => none
 | k + 1, x1, x9, x55, x56, x57 => if x57 < x56 then (if 0 ≤ x57 then (if x57 < (x55.length : Int) then (if ((ax x55 x57).f1) ≥ x1 then (some ((ax x55 x57).f0)) else (spec_l5Pick.l0 k x1 x9 x55 x56 (wrap64 (x57 + 1)))) else (none)) else (none)) else (some x9)
def spec_l5Pick.l1 : Nat → Int → Int → List (S35) → Int → Int → Option (Int)
 | 0, _, _, _, _, _ => none
 | k + 1, x1, x9, x71, x72, x73 => if x73 < x72 then (if 0 ≤ x73 then (if x73 < (x71.length : Int) then (if ((ax x71 x73).f1) ≥ x1 then (some ((ax x71 x73).f0)) else (spec_l5Pick.l1 k x1 x9 x71 x72 (wrap64 (x73 + 1)))) else (none)) else (none)) else (some x9)
def spec_l5Pick.l2 : Nat → Int → Int → Int → List (S35) → Int → Int → Option (Int)
 | 0, _, _, _, _, _, _ => none
 | k + 1, x1, x3, x9, x20, x21, x22 => if x22 < x21 then (if 0 ≤ x22 then (if x22 < (x20.length : Int) then (spec_l5Pick.l3 k x1 x3 x9 ((ax x20 x22).f0) x20 x21 x22 ((ax x20 x22).f0) ((ax x20 x22).f1)) else (none)) else (none)) else (some x9)
def spec_l5Pick.l3 : Nat → Int → Int → Int → Int → List (S35) → Int → Int → Int → Int → Option (Int)
 | 0, _, _, _, _, _, _, _, _, _ => none
 | k + 1, x1, x3, x9, x17, x20, x21, x22, x216000, x216001 => if (wrap64 (x17 + x1)) ≤ (wrap64 (x216000 + x216001)) then (if x9 < 0 then (spec_l5Pick.l3 k x1 x3 x17 (wrap64 (x17 + 1)) x20 x21 x22 x216000 x216001) else ((spec_l5Gap.f x17 x3).bind fun t216 => ((spec_l5Gap.f x9 x3).bind fun t217 => (if t216 < t217 then (spec_l5Pick.l3 k x1 x3 x17 (wrap64 (x17 + 1)) x20 x21 x22 x216000 x216001) else (spec_l5Pick.l3 k x1 x3 x9 (wrap64 (x17 + 1)) x20 x21 x22 x216000 x216001))))) else (spec_l5Pick.l2 k x1 x3 x9 x20 x21 (wrap64 (x22 + 1)))
end
def spec_l5Pick.f (k : Nat) (a0_0 : Int) (l0_1 : List (S35)) (l0_2 : List (S35)) (a1 : Int) (a2 : Int) (a3 : Int) : Option (Int) := if a2 = 1 then (spec_l5Pick.l0 k a1 (-1) l0_1 (l0_1.length : Int) 0) else (if a2 = 2 then (spec_l5Pick.l1 k a1 (-1) l0_2 (l0_2.length : Int) 0) else (if a2 = 3 then (if (l0_2.length : Int) > 0 then (if 0 ≤ (wrap64 ((l0_2.length : Int) - 1)) then (if (wrap64 ((l0_2.length : Int) - 1)) < (l0_2.length : Int) then (if ((ax l0_2 (wrap64 ((l0_2.length : Int) - 1))).f1) ≥ a1 then (some ((ax l0_2 (wrap64 ((l0_2.length : Int) - 1))).f0)) else (some (-1))) else (none)) else (none)) else (some (-1))) else (spec_l5Pick.l2 k a1 a3 (-1) l0_1 (l0_1.length : Int) 0)))
set_option maxHeartbeats 8000000 in
set_option maxRecDepth 100000 in
theorem spec_l5Pick.calls (k : Nat) (a0_0 : Int) (A0_1 : Option Addr) (c0_1 : Nat) (l0_1 : List (S35)) (A0_2 : Option Addr) (c0_2 : Nat) (l0_2 : List (S35)) (a1 : Int) (a2 : Int) (a3 : Int) (r : Int) (w : World) (hr0_1 : Kd.C k35 w A0_1 l0_1.length l0_1) (hc0_1 : l0_1.length ≤ c0_1) (hr0_2 : Kd.C k35 w A0_2 l0_2.length l0_2) (hc0_2 : l0_2.length ≤ c0_2) (h : spec_l5Pick.f k a0_0 l0_1 l0_2 a1 a2 a3 = some r) :
  Calls Try.prog 56 #[.agg #[.int .i64 a0_0, .slice A0_1 l0_1.length c0_1, .slice A0_2 l0_2.length c0_2], .int .i64 a1, .int .i64 a2, .int .i64 a3] w fun e w' => e = .returned (.int .i64 r) ∧ Below w.heap.size w w' := by
 have hu24 := Try.underlying24
 have hu35 := Try.underlying35
 have HR0_1 := av hr0_1
 have HC0_1 := av hc0_1
 clear hr0_1 hc0_1
 have HR0_2 := av hr0_2
 have HC0_2 := av hc0_2
 clear hr0_2 hc0_2
 have HB := av (Below.refl w.heap.size w)
 have H : (if a2 = 1 then (spec_l5Pick.l0 k a1 (-1) l0_1 (l0_1.length : Int) 0) else (if a2 = 2 then (spec_l5Pick.l1 k a1 (-1) l0_2 (l0_2.length : Int) 0) else (if a2 = 3 then (if (l0_2.length : Int) > 0 then (if 0 ≤ (wrap64 ((l0_2.length : Int) - 1)) then (if (wrap64 ((l0_2.length : Int) - 1)) < (l0_2.length : Int) then (if ((ax l0_2 (wrap64 ((l0_2.length : Int) - 1))).f1) ≥ a1 then (some ((ax l0_2 (wrap64 ((l0_2.length : Int) - 1))).f0)) else (some (-1))) else (none)) else (none)) else (some (-1))) else (spec_l5Pick.l2 k a1 a3 (-1) l0_1 (l0_1.length : Int) 0)))) = some r := h
 clear h
 by_cases c5 : a2 = 1
 ·rw [if_pos c5] at H
  have c5b0 : (a2 == 1) = true := beq_iff_eq.mpr c5
  have c5b1 : (a2 != 1) = false := bne_eq_false_iff_eq.mpr c5
  clear c5
  have H' := av H
  clear H
  go_enter Try.func56, Try.ntmps56
  go_wp2_with (first | ((with_reducible refine aK (N := 4) rfl ?_); refine aI ?hg (N := 4) ?hd (cs := #[.int .i64 a0_0, .slice A0_1 l0_1.length c0_1, .slice A0_2 l0_2.length c0_2]) (t := 24) ?hr ?_; (case hd => rfl); (case hg => rfl); (case hr => first | (go_simp; done) | (go_simp; rfl)); intro gb207 hg w6 hbox hb; have BK207 := av (hbox); have GW207 := av ((by rw [hg]; exact (az (by with_reducible repeat (first | exact HB.out | apply ah | apply aa | apply ai))) : w.heap.size ≤ gb207)); have GE207 := av ((by rw [hg]; exact (az (by with_reducible repeat (first | exact HB.out | apply ah | apply aa | apply ai))) : w.heap.size ≤ gb207)); replace HB := av (aA (by with_reducible repeat (first | exact HB.out | apply ah | apply aa | apply ai)) hb); clear hb hbox hg; have hcz7_0 : w6.cell? ⟨gb207, 0, none⟩ = some (.int .i64 a0_0) := (ak BK207.out 0).trans rfl; have hcz7_1 : w6.cell? ⟨gb207, 1, none⟩ = some (.slice A0_1 l0_1.length c0_1) := (ak BK207.out 1).trans rfl; have hcz7_2 : w6.cell? ⟨gb207, 2, none⟩ = some (.slice A0_2 l0_2.length c0_2) := (ak BK207.out 2).trans rfl; have hfz7_0 := au BK207.out 0; have hfz7_1 := au BK207.out 1; have hfz7_2 := au BK207.out 2))
  go_loopg [57] k (fun kq v57 w' => ∃ (x57_1 : Int), v57 = .int .i64 x57_1 ∧ Aside0 (spec_l5Pick.l0 kq a1 (-1) l0_1 (l0_1.length : Int) x57_1 = some r) ∧ Aside0 (kq ≤ k) ∧ Aside0 (w'.heap[gb207]? = some (.cells #[.int .i64 a0_0, (.slice A0_1 l0_1.length c0_1), (.slice A0_2 l0_2.length c0_2)] 24 (0, 0))) ∧ Aside0 (Below w.heap.size w w'))
  case atStart => exact ⟨(0), (by first | rfl | (simp; done) | (simp [*]; done)), H', ⟨Nat.le_refl _⟩, ⟨by (with_reducible repeat (first | apply af | apply aj | apply ag)); exact BK207.out⟩, ⟨by with_reducible repeat (first | exact HB.out | apply ah | apply aa | apply ai | refine ae ?_ GE207.out)⟩⟩
  case round =>
   clear H'
   try clear p2
   try clear c5
   try clear c5b0
   try clear c5b1
   try clear p6
   try clear hcz7_0
   try clear hcz7_1
   try clear hcz7_2
   try clear hfz7_0
   try clear hfz7_1
   try clear hfz7_2
   obtain ⟨x57_1, rfl, HA, HK1, BK207, HB⟩ := hrel
   cases gk with
   | zero => exact absurd HA.out (by simp [spec_l5Pick.l0])
   | succ k1 =>
    have H := HA.out
    clear HA
    simp only [spec_l5Pick.l0] at H
    by_cases c8 : x57_1 < (l0_1.length : Int)
    ·rw [if_pos c8] at H
     have c8b0 : decide (x57_1 < (l0_1.length : Int)) = true := decide_eq_true c8
     clear c8
     by_cases c9 : 0 ≤ x57_1
     ·rw [if_pos c9] at H
      have c9b0 : decide (0 ≤ x57_1) = true := decide_eq_true c9
      clear c9
      by_cases c10 : x57_1 < (l0_1.length : Int)
      ·rw [if_pos c10] at H
       have c10b0 : decide (x57_1 < (l0_1.length : Int)) = true := decide_eq_true c10
       clear c10
       by_cases c11 : ((ax l0_1 x57_1).f1) ≥ a1
       ·rw [if_pos c11] at H
        have c11b0 : decide (a1 ≤ ((ax l0_1 x57_1).f1)) = true := decide_eq_true c11
        clear c11
        obtain rfl := Option.some.inj H
        have p208 : 0 ≤ (x57_1 : Int) := of_decide_eq_true (by assumption)
        have q208 : x57_1 < (l0_1.length : Int) := of_decide_eq_true (by assumption)
        obtain ⟨ad208, e208, hx208_0, hx208_1⟩ := bC HR0_1.out x57_1 p208 q208
        cases e208
        replace hx208_0 := (HB.out.cell (World.block_lt_of_cell? w _ hx208_0)).trans hx208_0
        replace hx208_1 := (HB.out.cell (World.block_lt_of_cell? w _ hx208_1)).trans hx208_1
        replace p208 := eq_true p208
        replace q208 := eq_true q208
        go_wp2_with (first | ((with_reducible refine aK (N := 11) rfl ?_); refine aI ?hg (N := 11) ?hd (cs := #[.int .i64 0, .int .i64 0]) (t := 35) ?hr ?_; (case hd => rfl); (case hg => rfl); (case hr => first | (go_simp; done) | (go_simp; rfl)); intro gb209 hg w12 hbox hb; have BK209 := av (hbox); have GW209 := av ((by rw [hg]; exact (az (by with_reducible repeat (first | exact HB.out | apply ah | apply aa | apply ai | refine ae ?_ GE207.out))) : w.heap.size ≤ gb209)); have GE209 := av ((by rw [hg]; exact (az (by with_reducible repeat (first | exact HB.out | apply ah | apply aa | apply ai | refine ae ?_ GE207.out))) : w.heap.size ≤ gb209)); replace HB := av (aA (by with_reducible repeat (first | exact HB.out | apply ah | apply aa | apply ai | refine ae ?_ GE207.out)) hb); have NB207_209 := av ((by rw [hg]; exact Nat.ne_of_lt (aG (g := gb207) (o := .cells #[.int .i64 a0_0, .slice (some ad208) l0_1.length c0_1, .slice A0_2 l0_2.length c0_2] 24 (0, 0)) (by (with_reducible repeat (first | apply af | apply aj | apply ag)); exact BK207.out)) : gb207 ≠ gb209)); have NB209_207 := av ((by rw [hg]; exact Nat.ne_of_gt (aG (g := gb207) (o := .cells #[.int .i64 a0_0, .slice (some ad208) l0_1.length c0_1, .slice A0_2 l0_2.length c0_2] 24 (0, 0)) (by (with_reducible repeat (first | apply af | apply aj | apply ag)); exact BK207.out)) : gb209 ≠ gb207)); replace BK207 := av (ay (g := gb207) (o := .cells #[.int .i64 a0_0, .slice (some ad208) l0_1.length c0_1, .slice A0_2 l0_2.length c0_2] 24 (0, 0)) (by (with_reducible repeat (first | apply af | apply aj | apply ag)); exact BK207.out) hb); clear hb hbox hg; have hnb13 := NB209_207.out; have hnc13 := NB207_209.out; have hcz14_0 : w12.cell? ⟨gb209, 0, none⟩ = some (.int .i64 0) := (ak BK209.out 0).trans rfl; have hcz14_1 : w12.cell? ⟨gb209, 1, none⟩ = some (.int .i64 0) := (ak BK209.out 1).trans rfl; have hfz14_0 := au BK209.out 0; have hfz14_1 := au BK209.out 1))
        go_ret
        exact ⟨by first | rfl | (simp <;> rfl) | (simp [*] <;> rfl), by with_reducible repeat (first | exact HB.out | apply ah | apply aa | apply ai | refine ae ?_ GE207.out | refine ae ?_ GE209.out)⟩
       ·rw [if_neg c11] at H
        have c11b0 : decide (a1 ≤ ((ax l0_1 x57_1).f1)) = false := decide_eq_false c11
        clear c11
        have H' := av H
        clear H
        have p208 : 0 ≤ (x57_1 : Int) := of_decide_eq_true (by assumption)
        have q208 : x57_1 < (l0_1.length : Int) := of_decide_eq_true (by assumption)
        obtain ⟨ad208, e208, hx208_0, hx208_1⟩ := bC HR0_1.out x57_1 p208 q208
        cases e208
        replace hx208_0 := (HB.out.cell (World.block_lt_of_cell? w _ hx208_0)).trans hx208_0
        replace hx208_1 := (HB.out.cell (World.block_lt_of_cell? w _ hx208_1)).trans hx208_1
        replace p208 := eq_true p208
        replace q208 := eq_true q208
        go_wp2_with (first | ((with_reducible refine aK (N := 11) rfl ?_); refine aI ?hg (N := 11) ?hd (cs := #[.int .i64 0, .int .i64 0]) (t := 35) ?hr ?_; (case hd => rfl); (case hg => rfl); (case hr => first | (go_simp; done) | (go_simp; rfl)); intro gb209 hg w15 hbox hb; have BK209 := av (hbox); have GW209 := av ((by rw [hg]; exact (az (by with_reducible repeat (first | exact HB.out | apply ah | apply aa | apply ai | refine ae ?_ GE207.out))) : w.heap.size ≤ gb209)); have GE209 := av ((by rw [hg]; exact (az (by with_reducible repeat (first | exact HB.out | apply ah | apply aa | apply ai | refine ae ?_ GE207.out))) : w.heap.size ≤ gb209)); replace HB := av (aA (by with_reducible repeat (first | exact HB.out | apply ah | apply aa | apply ai | refine ae ?_ GE207.out)) hb); have NB207_209 := av ((by rw [hg]; exact Nat.ne_of_lt (aG (g := gb207) (o := .cells #[.int .i64 a0_0, .slice (some ad208) l0_1.length c0_1, .slice A0_2 l0_2.length c0_2] 24 (0, 0)) (by (with_reducible repeat (first | apply af | apply aj | apply ag)); exact BK207.out)) : gb207 ≠ gb209)); have NB209_207 := av ((by rw [hg]; exact Nat.ne_of_gt (aG (g := gb207) (o := .cells #[.int .i64 a0_0, .slice (some ad208) l0_1.length c0_1, .slice A0_2 l0_2.length c0_2] 24 (0, 0)) (by (with_reducible repeat (first | apply af | apply aj | apply ag)); exact BK207.out)) : gb209 ≠ gb207)); replace BK207 := av (ay (g := gb207) (o := .cells #[.int .i64 a0_0, .slice (some ad208) l0_1.length c0_1, .slice A0_2 l0_2.length c0_2] 24 (0, 0)) (by (with_reducible repeat (first | apply af | apply aj | apply ag)); exact BK207.out) hb); clear hb hbox hg; have hnb16 := NB209_207.out; have hnc16 := NB207_209.out; have hcz17_0 : w15.cell? ⟨gb209, 0, none⟩ = some (.int .i64 0) := (ak BK209.out 0).trans rfl; have hcz17_1 : w15.cell? ⟨gb209, 1, none⟩ = some (.int .i64 0) := (ak BK209.out 1).trans rfl; have hfz17_0 := au BK209.out 0; have hfz17_1 := au BK209.out 1))
        go_roundg k1
        case measure => have := HK1.out; omega
        case rel => exact ⟨(wrap64 (x57_1 + 1)), (by first | rfl | (simp; done) | (simp [*]; done)), H', ⟨by have := HK1.out; omega⟩, ⟨by (with_reducible repeat (first | apply af | apply aj | apply ag)); refine aJ ?_ NB207_209.out _; (with_reducible repeat (first | apply af | apply aj | apply ag)); refine aJ ?_ NB207_209.out _; (with_reducible repeat (first | apply af | apply aj | apply ag)); exact BK207.out⟩, ⟨by with_reducible repeat (first | exact HB.out | apply ah | apply aa | apply ai | refine ae ?_ GE207.out | refine ae ?_ GE209.out)⟩⟩
      ·rw [if_neg c10] at H
       exact absurd H (by simp)
     ·rw [if_neg c9] at H
      exact absurd H (by simp)
    ·rw [if_neg c8] at H
     have c8b0 : decide (x57_1 < (l0_1.length : Int)) = false := decide_eq_false c8
     clear c8
     obtain rfl := Option.some.inj H
     go_wp2
     go_ret
     exact ⟨by first | rfl | (simp <;> rfl) | (simp [*] <;> rfl), by with_reducible repeat (first | exact HB.out | apply ah | apply aa | apply ai | refine ae ?_ GE207.out)⟩
 ·rw [if_neg c5] at H
  have c5b0 : (a2 == 1) = false := beq_eq_false_iff_ne.mpr c5
  have c5b1 : (a2 != 1) = true := bne_iff_ne.mpr c5
  by_cases c18 : a2 = 2
  ·rw [if_pos c18] at H
   have c18b0 : (a2 == 2) = true := beq_iff_eq.mpr c18
   have c18b1 : (a2 != 2) = false := bne_eq_false_iff_eq.mpr c18
   clear c18
   have H' := av H
   clear H
   go_enter Try.func56, Try.ntmps56
   go_wp2_with (first | ((with_reducible refine aK (N := 4) rfl ?_); refine aI ?hg (N := 4) ?hd (cs := #[.int .i64 a0_0, .slice A0_1 l0_1.length c0_1, .slice A0_2 l0_2.length c0_2]) (t := 24) ?hr ?_; (case hd => rfl); (case hg => rfl); (case hr => first | (go_simp; done) | (go_simp; rfl)); intro gb207 hg w19 hbox hb; have BK207 := av (hbox); have GW207 := av ((by rw [hg]; exact (az (by with_reducible repeat (first | exact HB.out | apply ah | apply aa | apply ai))) : w.heap.size ≤ gb207)); have GE207 := av ((by rw [hg]; exact (az (by with_reducible repeat (first | exact HB.out | apply ah | apply aa | apply ai))) : w.heap.size ≤ gb207)); replace HB := av (aA (by with_reducible repeat (first | exact HB.out | apply ah | apply aa | apply ai)) hb); clear hb hbox hg; have hcz20_0 : w19.cell? ⟨gb207, 0, none⟩ = some (.int .i64 a0_0) := (ak BK207.out 0).trans rfl; have hcz20_1 : w19.cell? ⟨gb207, 1, none⟩ = some (.slice A0_1 l0_1.length c0_1) := (ak BK207.out 1).trans rfl; have hcz20_2 : w19.cell? ⟨gb207, 2, none⟩ = some (.slice A0_2 l0_2.length c0_2) := (ak BK207.out 2).trans rfl; have hfz20_0 := au BK207.out 0; have hfz20_1 := au BK207.out 1; have hfz20_2 := au BK207.out 2))
   go_loopg [73] k (fun kq v73 w' => ∃ (x73_1 : Int), v73 = .int .i64 x73_1 ∧ Aside0 (spec_l5Pick.l1 kq a1 (-1) l0_2 (l0_2.length : Int) x73_1 = some r) ∧ Aside0 (kq ≤ k) ∧ Aside0 (w'.heap[gb207]? = some (.cells #[.int .i64 a0_0, (.slice A0_1 l0_1.length c0_1), (.slice A0_2 l0_2.length c0_2)] 24 (0, 0))) ∧ Aside0 (Below w.heap.size w w'))
   case atStart => exact ⟨(0), (by first | rfl | (simp; done) | (simp [*]; done)), H', ⟨Nat.le_refl _⟩, ⟨by (with_reducible repeat (first | apply af | apply aj | apply ag)); exact BK207.out⟩, ⟨by with_reducible repeat (first | exact HB.out | apply ah | apply aa | apply ai | refine ae ?_ GE207.out)⟩⟩
   case round =>
    clear H'
    try clear c1
    try clear p2
    try clear q2
    try clear hx2
    try clear c5
    try clear c5b0
    try clear c5b1
    try clear p6
    try clear c8
    try clear c8b0
    try clear c9
    try clear c9b0
    try clear c10
    try clear c10b0
    try clear c11
    try clear c11b0
    try clear c13
    try clear c16
    try clear c18
    try clear c18b0
    try clear c18b1
    try clear p20
    try clear q20
    try clear hx20
    try clear hcz14_0
    try clear hcz14_1
    try clear hcz17_0
    try clear hcz17_1
    try clear hcz20_0
    try clear hcz20_1
    try clear hcz20_2
    try clear hcz7_0
    try clear hcz7_1
    try clear hcz7_2
    try clear hfz14_0
    try clear hfz14_1
    try clear hfz17_0
    try clear hfz17_1
    try clear hfz20_0
    try clear hfz20_1
    try clear hfz20_2
    try clear hfz7_0
    try clear hfz7_1
    try clear hfz7_2
    try clear hx208_0
    try clear hx208_1
    try clear p2
    try clear p208
    try clear p6
    try clear q208
    obtain ⟨x73_1, rfl, HA, HK1, BK207, HB⟩ := hrel
    cases gk with
    | zero => exact absurd HA.out (by simp [spec_l5Pick.l1])
    | succ k1 =>
     have H := HA.out
     clear HA
     simp only [spec_l5Pick.l1] at H
     by_cases c21 : x73_1 < (l0_2.length : Int)
     ·rw [if_pos c21] at H
      have c21b0 : decide (x73_1 < (l0_2.length : Int)) = true := decide_eq_true c21
      clear c21
      by_cases c22 : 0 ≤ x73_1
      ·rw [if_pos c22] at H
       have c22b0 : decide (0 ≤ x73_1) = true := decide_eq_true c22
       clear c22
       by_cases c23 : x73_1 < (l0_2.length : Int)
       ·rw [if_pos c23] at H
        have c23b0 : decide (x73_1 < (l0_2.length : Int)) = true := decide_eq_true c23
        clear c23
        by_cases c24 : ((ax l0_2 x73_1).f1) ≥ a1
        ·rw [if_pos c24] at H
         have c24b0 : decide (a1 ≤ ((ax l0_2 x73_1).f1)) = true := decide_eq_true c24
         clear c24
         obtain rfl := Option.some.inj H
         have p210 : 0 ≤ (x73_1 : Int) := of_decide_eq_true (by assumption)
         have q210 : x73_1 < (l0_2.length : Int) := of_decide_eq_true (by assumption)
         obtain ⟨ad210, e210, hx210_0, hx210_1⟩ := bC HR0_2.out x73_1 p210 q210
         cases e210
         replace hx210_0 := (HB.out.cell (World.block_lt_of_cell? w _ hx210_0)).trans hx210_0
         replace hx210_1 := (HB.out.cell (World.block_lt_of_cell? w _ hx210_1)).trans hx210_1
         replace p210 := eq_true p210
         replace q210 := eq_true q210
         go_wp2_with (first | ((with_reducible refine aK (N := 13) rfl ?_); refine aI ?hg (N := 13) ?hd (cs := #[.int .i64 0, .int .i64 0]) (t := 35) ?hr ?_; (case hd => rfl); (case hg => rfl); (case hr => first | (go_simp; done) | (go_simp; rfl)); intro gb211 hg w25 hbox hb; have BK211 := av (hbox); have GW211 := av ((by rw [hg]; exact (az (by with_reducible repeat (first | exact HB.out | apply ah | apply aa | apply ai | refine ae ?_ GE207.out))) : w.heap.size ≤ gb211)); have GE211 := av ((by rw [hg]; exact (az (by with_reducible repeat (first | exact HB.out | apply ah | apply aa | apply ai | refine ae ?_ GE207.out))) : w.heap.size ≤ gb211)); replace HB := av (aA (by with_reducible repeat (first | exact HB.out | apply ah | apply aa | apply ai | refine ae ?_ GE207.out)) hb); have NB207_211 := av ((by rw [hg]; exact Nat.ne_of_lt (aG (g := gb207) (o := .cells #[.int .i64 a0_0, .slice A0_1 l0_1.length c0_1, .slice (some ad210) l0_2.length c0_2] 24 (0, 0)) (by (with_reducible repeat (first | apply af | apply aj | apply ag)); exact BK207.out)) : gb207 ≠ gb211)); have NB211_207 := av ((by rw [hg]; exact Nat.ne_of_gt (aG (g := gb207) (o := .cells #[.int .i64 a0_0, .slice A0_1 l0_1.length c0_1, .slice (some ad210) l0_2.length c0_2] 24 (0, 0)) (by (with_reducible repeat (first | apply af | apply aj | apply ag)); exact BK207.out)) : gb211 ≠ gb207)); replace BK207 := av (ay (g := gb207) (o := .cells #[.int .i64 a0_0, .slice A0_1 l0_1.length c0_1, .slice (some ad210) l0_2.length c0_2] 24 (0, 0)) (by (with_reducible repeat (first | apply af | apply aj | apply ag)); exact BK207.out) hb); clear hb hbox hg; have hnb26 := NB211_207.out; have hnc26 := NB207_211.out; have hcz27_0 : w25.cell? ⟨gb211, 0, none⟩ = some (.int .i64 0) := (ak BK211.out 0).trans rfl; have hcz27_1 : w25.cell? ⟨gb211, 1, none⟩ = some (.int .i64 0) := (ak BK211.out 1).trans rfl; have hfz27_0 := au BK211.out 0; have hfz27_1 := au BK211.out 1))
         go_ret
         exact ⟨by first | rfl | (simp <;> rfl) | (simp [*] <;> rfl), by with_reducible repeat (first | exact HB.out | apply ah | apply aa | apply ai | refine ae ?_ GE207.out | refine ae ?_ GE211.out)⟩
        ·rw [if_neg c24] at H
         have c24b0 : decide (a1 ≤ ((ax l0_2 x73_1).f1)) = false := decide_eq_false c24
         clear c24
         have H' := av H
         clear H
         have p210 : 0 ≤ (x73_1 : Int) := of_decide_eq_true (by assumption)
         have q210 : x73_1 < (l0_2.length : Int) := of_decide_eq_true (by assumption)
         obtain ⟨ad210, e210, hx210_0, hx210_1⟩ := bC HR0_2.out x73_1 p210 q210
         cases e210
         replace hx210_0 := (HB.out.cell (World.block_lt_of_cell? w _ hx210_0)).trans hx210_0
         replace hx210_1 := (HB.out.cell (World.block_lt_of_cell? w _ hx210_1)).trans hx210_1
         replace p210 := eq_true p210
         replace q210 := eq_true q210
         go_wp2_with (first | ((with_reducible refine aK (N := 13) rfl ?_); refine aI ?hg (N := 13) ?hd (cs := #[.int .i64 0, .int .i64 0]) (t := 35) ?hr ?_; (case hd => rfl); (case hg => rfl); (case hr => first | (go_simp; done) | (go_simp; rfl)); intro gb211 hg w28 hbox hb; have BK211 := av (hbox); have GW211 := av ((by rw [hg]; exact (az (by with_reducible repeat (first | exact HB.out | apply ah | apply aa | apply ai | refine ae ?_ GE207.out))) : w.heap.size ≤ gb211)); have GE211 := av ((by rw [hg]; exact (az (by with_reducible repeat (first | exact HB.out | apply ah | apply aa | apply ai | refine ae ?_ GE207.out))) : w.heap.size ≤ gb211)); replace HB := av (aA (by with_reducible repeat (first | exact HB.out | apply ah | apply aa | apply ai | refine ae ?_ GE207.out)) hb); have NB207_211 := av ((by rw [hg]; exact Nat.ne_of_lt (aG (g := gb207) (o := .cells #[.int .i64 a0_0, .slice A0_1 l0_1.length c0_1, .slice (some ad210) l0_2.length c0_2] 24 (0, 0)) (by (with_reducible repeat (first | apply af | apply aj | apply ag)); exact BK207.out)) : gb207 ≠ gb211)); have NB211_207 := av ((by rw [hg]; exact Nat.ne_of_gt (aG (g := gb207) (o := .cells #[.int .i64 a0_0, .slice A0_1 l0_1.length c0_1, .slice (some ad210) l0_2.length c0_2] 24 (0, 0)) (by (with_reducible repeat (first | apply af | apply aj | apply ag)); exact BK207.out)) : gb211 ≠ gb207)); replace BK207 := av (ay (g := gb207) (o := .cells #[.int .i64 a0_0, .slice A0_1 l0_1.length c0_1, .slice (some ad210) l0_2.length c0_2] 24 (0, 0)) (by (with_reducible repeat (first | apply af | apply aj | apply ag)); exact BK207.out) hb); clear hb hbox hg; have hnb29 := NB211_207.out; have hnc29 := NB207_211.out; have hcz30_0 : w28.cell? ⟨gb211, 0, none⟩ = some (.int .i64 0) := (ak BK211.out 0).trans rfl; have hcz30_1 : w28.cell? ⟨gb211, 1, none⟩ = some (.int .i64 0) := (ak BK211.out 1).trans rfl; have hfz30_0 := au BK211.out 0; have hfz30_1 := au BK211.out 1))
         go_roundg k1
         case measure => have := HK1.out; omega
         case rel => exact ⟨(wrap64 (x73_1 + 1)), (by first | rfl | (simp; done) | (simp [*]; done)), H', ⟨by have := HK1.out; omega⟩, ⟨by (with_reducible repeat (first | apply af | apply aj | apply ag)); refine aJ ?_ NB207_211.out _; (with_reducible repeat (first | apply af | apply aj | apply ag)); refine aJ ?_ NB207_211.out _; (with_reducible repeat (first | apply af | apply aj | apply ag)); exact BK207.out⟩, ⟨by with_reducible repeat (first | exact HB.out | apply ah | apply aa | apply ai | refine ae ?_ GE207.out | refine ae ?_ GE211.out)⟩⟩
       ·rw [if_neg c23] at H
        exact absurd H (by simp)
      ·rw [if_neg c22] at H
       exact absurd H (by simp)
     ·rw [if_neg c21] at H
      have c21b0 : decide (x73_1 < (l0_2.length : Int)) = false := decide_eq_false c21
      clear c21
      obtain rfl := Option.some.inj H
      go_wp2
      go_ret
      exact ⟨by first | rfl | (simp <;> rfl) | (simp [*] <;> rfl), by with_reducible repeat (first | exact HB.out | apply ah | apply aa | apply ai | refine ae ?_ GE207.out)⟩
  ·rw [if_neg c18] at H
   have c18b0 : (a2 == 2) = false := beq_eq_false_iff_ne.mpr c18
   have c18b1 : (a2 != 2) = true := bne_iff_ne.mpr c18
   by_cases c31 : a2 = 3
   ·rw [if_pos c31] at H
    have c31b0 : (a2 == 3) = true := beq_iff_eq.mpr c31
    have c31b1 : (a2 != 3) = false := bne_eq_false_iff_eq.mpr c31
    clear c31
    by_cases c32 : (l0_2.length : Int) > 0
    ·rw [if_pos c32] at H
     have c32b0 : decide (0 < (l0_2.length : Int)) = true := decide_eq_true c32
     have c32b1 : decide (0 < l0_2.length) = true := decide_eq_true (by omega)
     clear c32
     obtain ⟨ji33, hji33⟩ : ∃ j_ : Int, (wrap64 ((l0_2.length : Int) - 1)) = j_ := ⟨_, rfl⟩
     replace H : (if 0 ≤ (ji33) then (if (ji33) < (l0_2.length : Int) then (if ((ax l0_2 (ji33)).f1) ≥ a1 then (some ((ax l0_2 (ji33)).f0)) else (some (-1))) else (none)) else (none)) = some r := by first | (rw [hji33] at H; exact H) | (simp only [hji33] at H ⊢; exact H)
     have hji33w : (IntKind.i64.wrap ((l0_2.length : Int) - 1)) = ji33 := (jX _).trans hji33
     by_cases c34 : 0 ≤ (ji33)
     ·rw [if_pos c34] at H
      have c34b0 : decide (0 ≤ (ji33)) = true := decide_eq_true c34
      clear c34
      by_cases c35 : (ji33) < (l0_2.length : Int)
      ·rw [if_pos c35] at H
       have c35b0 : decide ((ji33) < (l0_2.length : Int)) = true := decide_eq_true c35
       clear c35
       by_cases c36 : ((ax l0_2 (ji33)).f1) ≥ a1
       ·rw [if_pos c36] at H
        have c36b0 : decide (a1 ≤ ((ax l0_2 (ji33)).f1)) = true := decide_eq_true c36
        clear c36
        obtain rfl := Option.some.inj H
        go_enter Try.func56, Try.ntmps56
        go_wp2_with (first | ((with_reducible refine aK (N := 4) rfl ?_); refine aI ?hg (N := 4) ?hd (cs := #[.int .i64 a0_0, .slice A0_1 l0_1.length c0_1, .slice A0_2 l0_2.length c0_2]) (t := 24) ?hr ?_; (case hd => rfl); (case hg => rfl); (case hr => first | (go_simp; done) | (go_simp; rfl)); intro gb207 hg w37 hbox hb; have BK207 := av (hbox); have GW207 := av ((by rw [hg]; exact (az (by with_reducible repeat (first | exact HB.out | apply ah | apply aa | apply ai))) : w.heap.size ≤ gb207)); have GE207 := av ((by rw [hg]; exact (az (by with_reducible repeat (first | exact HB.out | apply ah | apply aa | apply ai))) : w.heap.size ≤ gb207)); replace HB := av (aA (by with_reducible repeat (first | exact HB.out | apply ah | apply aa | apply ai)) hb); clear hb hbox hg; have hcz38_0 : w37.cell? ⟨gb207, 0, none⟩ = some (.int .i64 a0_0) := (ak BK207.out 0).trans rfl; have hcz38_1 : w37.cell? ⟨gb207, 1, none⟩ = some (.slice A0_1 l0_1.length c0_1) := (ak BK207.out 1).trans rfl; have hcz38_2 : w37.cell? ⟨gb207, 2, none⟩ = some (.slice A0_2 l0_2.length c0_2) := (ak BK207.out 2).trans rfl; have hfz38_0 := au BK207.out 0; have hfz38_1 := au BK207.out 1; have hfz38_2 := au BK207.out 2; have p212 : 0 ≤ ((ji33) : Int) := of_decide_eq_true (by assumption); have q212 : (ji33) < (l0_2.length : Int) := of_decide_eq_true (by assumption); obtain ⟨ad212, e212, hx212_0, hx212_1⟩ := bC HR0_2.out (ji33) p212 q212; cases e212; replace hx212_0 := (HB.out.cell (World.block_lt_of_cell? w _ hx212_0)).trans hx212_0; replace hx212_1 := (HB.out.cell (World.block_lt_of_cell? w _ hx212_1)).trans hx212_1; replace p212 := eq_true p212; replace q212 := eq_true q212; have p213 : 0 ≤ ((ji33) : Int) := of_decide_eq_true (by assumption); have q213 : (ji33) < (l0_2.length : Int) := of_decide_eq_true (by assumption); obtain ⟨ad213, e213, hx213_0, hx213_1⟩ := bC HR0_2.out (ji33) p213 q213; obtain rfl : ad212 = ad213 := (by injection e213); replace hx213_0 := (HB.out.cell (World.block_lt_of_cell? w _ hx213_0)).trans hx213_0; replace hx213_1 := (HB.out.cell (World.block_lt_of_cell? w _ hx213_1)).trans hx213_1; replace p213 := eq_true p213; replace q213 := eq_true q213))
        go_ret
        exact ⟨by first | rfl | (simp [cK, cB] <;> rfl) | (simp only [← hji33]; first | rfl | (simp [cK, cB] <;> rfl)) | (simp [*, cK, cB] <;> rfl) | (simp [E.eB]; done) | (rw [E.fB]), by with_reducible repeat (first | exact HB.out | apply ah | apply aa | apply ai | refine ae ?_ GE207.out)⟩
       ·rw [if_neg c36] at H
        have c36b0 : decide (a1 ≤ ((ax l0_2 (ji33)).f1)) = false := decide_eq_false c36
        clear c36
        obtain rfl := Option.some.inj H
        go_enter Try.func56, Try.ntmps56
        go_wp2_with (first | ((with_reducible refine aK (N := 4) rfl ?_); refine aI ?hg (N := 4) ?hd (cs := #[.int .i64 a0_0, .slice A0_1 l0_1.length c0_1, .slice A0_2 l0_2.length c0_2]) (t := 24) ?hr ?_; (case hd => rfl); (case hg => rfl); (case hr => first | (go_simp; done) | (go_simp; rfl)); intro gb207 hg w39 hbox hb; have BK207 := av (hbox); have GW207 := av ((by rw [hg]; exact (az (by with_reducible repeat (first | exact HB.out | apply ah | apply aa | apply ai))) : w.heap.size ≤ gb207)); have GE207 := av ((by rw [hg]; exact (az (by with_reducible repeat (first | exact HB.out | apply ah | apply aa | apply ai))) : w.heap.size ≤ gb207)); replace HB := av (aA (by with_reducible repeat (first | exact HB.out | apply ah | apply aa | apply ai)) hb); clear hb hbox hg; have hcz40_0 : w39.cell? ⟨gb207, 0, none⟩ = some (.int .i64 a0_0) := (ak BK207.out 0).trans rfl; have hcz40_1 : w39.cell? ⟨gb207, 1, none⟩ = some (.slice A0_1 l0_1.length c0_1) := (ak BK207.out 1).trans rfl; have hcz40_2 : w39.cell? ⟨gb207, 2, none⟩ = some (.slice A0_2 l0_2.length c0_2) := (ak BK207.out 2).trans rfl; have hfz40_0 := au BK207.out 0; have hfz40_1 := au BK207.out 1; have hfz40_2 := au BK207.out 2; have p212 : 0 ≤ ((ji33) : Int) := of_decide_eq_true (by assumption); have q212 : (ji33) < (l0_2.length : Int) := of_decide_eq_true (by assumption); obtain ⟨ad212, e212, hx212_0, hx212_1⟩ := bC HR0_2.out (ji33) p212 q212; cases e212; replace hx212_0 := (HB.out.cell (World.block_lt_of_cell? w _ hx212_0)).trans hx212_0; replace hx212_1 := (HB.out.cell (World.block_lt_of_cell? w _ hx212_1)).trans hx212_1; replace p212 := eq_true p212; replace q212 := eq_true q212))
        go_ret
        exact ⟨by first | rfl | (simp [cK, cB] <;> rfl) | (simp only [← hji33]; first | rfl | (simp [cK, cB] <;> rfl)) | (simp [*, cK, cB] <;> rfl) | (simp [E.eB]; done) | (rw [E.fB]), by with_reducible repeat (first | exact HB.out | apply ah | apply aa | apply ai | refine ae ?_ GE207.out)⟩
      ·rw [if_neg c35] at H
       exact absurd H (by simp)
     ·rw [if_neg c34] at H
      exact absurd H (by simp)
    ·rw [if_neg c32] at H
     have c32b0 : decide (0 < (l0_2.length : Int)) = false := decide_eq_false c32
     have c32b1 : decide (0 < l0_2.length) = false := decide_eq_false (by omega)
     clear c32
     obtain rfl := Option.some.inj H
     go_enter Try.func56, Try.ntmps56
     go_wp2_with (first | ((with_reducible refine aK (N := 4) rfl ?_); refine aI ?hg (N := 4) ?hd (cs := #[.int .i64 a0_0, .slice A0_1 l0_1.length c0_1, .slice A0_2 l0_2.length c0_2]) (t := 24) ?hr ?_; (case hd => rfl); (case hg => rfl); (case hr => first | (go_simp; done) | (go_simp; rfl)); intro gb207 hg w41 hbox hb; have BK207 := av (hbox); have GW207 := av ((by rw [hg]; exact (az (by with_reducible repeat (first | exact HB.out | apply ah | apply aa | apply ai))) : w.heap.size ≤ gb207)); have GE207 := av ((by rw [hg]; exact (az (by with_reducible repeat (first | exact HB.out | apply ah | apply aa | apply ai))) : w.heap.size ≤ gb207)); replace HB := av (aA (by with_reducible repeat (first | exact HB.out | apply ah | apply aa | apply ai)) hb); clear hb hbox hg; have hcz42_0 : w41.cell? ⟨gb207, 0, none⟩ = some (.int .i64 a0_0) := (ak BK207.out 0).trans rfl; have hcz42_1 : w41.cell? ⟨gb207, 1, none⟩ = some (.slice A0_1 l0_1.length c0_1) := (ak BK207.out 1).trans rfl; have hcz42_2 : w41.cell? ⟨gb207, 2, none⟩ = some (.slice A0_2 l0_2.length c0_2) := (ak BK207.out 2).trans rfl; have hfz42_0 := au BK207.out 0; have hfz42_1 := au BK207.out 1; have hfz42_2 := au BK207.out 2))
     go_ret
     exact ⟨by first | rfl | (simp <;> rfl) | (simp [*] <;> rfl), by with_reducible repeat (first | exact HB.out | apply ah | apply aa | apply ai | refine ae ?_ GE207.out)⟩
   ·rw [if_neg c31] at H
    have c31b0 : (a2 == 3) = false := beq_eq_false_iff_ne.mpr c31
    have c31b1 : (a2 != 3) = true := bne_iff_ne.mpr c31
    have H' := av H
    clear H
    go_enter Try.func56, Try.ntmps56
    go_wp2_with (first | ((with_reducible refine aK (N := 4) rfl ?_); refine aI ?hg (N := 4) ?hd (cs := #[.int .i64 a0_0, .slice A0_1 l0_1.length c0_1, .slice A0_2 l0_2.length c0_2]) (t := 24) ?hr ?_; (case hd => rfl); (case hg => rfl); (case hr => first | (go_simp; done) | (go_simp; rfl)); intro gb207 hg w43 hbox hb; have BK207 := av (hbox); have GW207 := av ((by rw [hg]; exact (az (by with_reducible repeat (first | exact HB.out | apply ah | apply aa | apply ai))) : w.heap.size ≤ gb207)); have GE207 := av ((by rw [hg]; exact (az (by with_reducible repeat (first | exact HB.out | apply ah | apply aa | apply ai))) : w.heap.size ≤ gb207)); replace HB := av (aA (by with_reducible repeat (first | exact HB.out | apply ah | apply aa | apply ai)) hb); clear hb hbox hg; have hcz44_0 : w43.cell? ⟨gb207, 0, none⟩ = some (.int .i64 a0_0) := (ak BK207.out 0).trans rfl; have hcz44_1 : w43.cell? ⟨gb207, 1, none⟩ = some (.slice A0_1 l0_1.length c0_1) := (ak BK207.out 1).trans rfl; have hcz44_2 : w43.cell? ⟨gb207, 2, none⟩ = some (.slice A0_2 l0_2.length c0_2) := (ak BK207.out 2).trans rfl; have hfz44_0 := au BK207.out 0; have hfz44_1 := au BK207.out 1; have hfz44_2 := au BK207.out 2))
    go_loopg [9, 22] k (fun kq v9 v22 w' => ∃ (x9_1 : Int) (x22_1 : Int), v9 = .int .i64 x9_1 ∧ v22 = .int .i64 x22_1 ∧ Aside0 (spec_l5Pick.l2 kq a1 a3 x9_1 l0_1 (l0_1.length : Int) x22_1 = some r) ∧ Aside0 (kq ≤ k) ∧ Aside0 (w'.heap[gb207]? = some (.cells #[.int .i64 a0_0, (.slice A0_1 l0_1.length c0_1), (.slice A0_2 l0_2.length c0_2)] 24 (0, 0))) ∧ Aside0 (Below w.heap.size w w'))
    case atStart => exact ⟨((-1)), (0), (by first | rfl | (simp; done) | (simp [*]; done)), (by first | rfl | (simp; done) | (simp [*]; done)), H', ⟨Nat.le_refl _⟩, ⟨by (with_reducible repeat (first | apply af | apply aj | apply ag)); exact BK207.out⟩, ⟨by with_reducible repeat (first | exact HB.out | apply ah | apply aa | apply ai | refine ae ?_ GE207.out)⟩⟩
    case round =>
     clear H'
     try clear c1
     try clear c2
     try clear p2
     try clear q2
     try clear hx2
     try clear c3
     try clear c5
     try clear c5b0
     try clear c5b1
     try clear p6
     try clear c8
     try clear c8b0
     try clear c9
     try clear c9b0
     try clear c10
     try clear c10b0
     try clear c11
     try clear c11b0
     try clear c13
     try clear c16
     try clear c18
     try clear c18b0
     try clear c18b1
     try clear p20
     try clear q20
     try clear hx20
     try clear c21
     try clear c21b0
     try clear p21
     try clear q21
     try clear hx21
     try clear c22
     try clear c22b0
     try clear c23
     try clear c23b0
     try clear c24
     try clear c24b0
     try clear c26
     try clear c29
     try clear c31
     try clear c31b0
     try clear c31b1
     try clear c32
     try clear c32b0
     try clear c32b1
     try clear c34
     try clear c34b0
     try clear c35
     try clear c35b0
     try clear c36
     try clear c36b0
     try clear hcz14_0
     try clear hcz14_1
     try clear hcz17_0
     try clear hcz17_1
     try clear hcz20_0
     try clear hcz20_1
     try clear hcz20_2
     try clear hcz27_0
     try clear hcz27_1
     try clear hcz30_0
     try clear hcz30_1
     try clear hcz38_0
     try clear hcz38_1
     try clear hcz38_2
     try clear hcz40_0
     try clear hcz40_1
     try clear hcz40_2
     try clear hcz42_0
     try clear hcz42_1
     try clear hcz42_2
     try clear hcz44_0
     try clear hcz44_1
     try clear hcz44_2
     try clear hcz7_0
     try clear hcz7_1
     try clear hcz7_2
     try clear hfz14_0
     try clear hfz14_1
     try clear hfz17_0
     try clear hfz17_1
     try clear hfz20_0
     try clear hfz20_1
     try clear hfz20_2
     try clear hfz27_0
     try clear hfz27_1
     try clear hfz30_0
     try clear hfz30_1
     try clear hfz38_0
     try clear hfz38_1
     try clear hfz38_2
     try clear hfz40_0
     try clear hfz40_1
     try clear hfz40_2
     try clear hfz42_0
     try clear hfz42_1
     try clear hfz42_2
     try clear hfz44_0
     try clear hfz44_1
     try clear hfz44_2
     try clear hfz7_0
     try clear hfz7_1
     try clear hfz7_2
     try clear hx208_0
     try clear hx208_1
     try clear hx210_0
     try clear hx210_1
     try clear hx212_0
     try clear hx212_1
     try clear hx213_0
     try clear hx213_1
     try clear p2
     try clear p20
     try clear p208
     try clear p210
     try clear p212
     try clear p213
     try clear p6
     try clear q2
     try clear q20
     try clear q208
     try clear q210
     try clear q212
     try clear q213
     obtain ⟨x9_1, x22_1, rfl, rfl, HA, HK1, BK207, HB⟩ := hrel
     cases gk with
     | zero => exact absurd HA.out (by simp [spec_l5Pick.l2])
     | succ k1 =>
      have H := HA.out
      clear HA
      simp only [spec_l5Pick.l2] at H
      by_cases c45 : x22_1 < (l0_1.length : Int)
      ·rw [if_pos c45] at H
       have c45b0 : decide (x22_1 < (l0_1.length : Int)) = true := decide_eq_true c45
       clear c45
       by_cases c46 : 0 ≤ x22_1
       ·rw [if_pos c46] at H
        have c46b0 : decide (0 ≤ x22_1) = true := decide_eq_true c46
        clear c46
        by_cases c47 : x22_1 < (l0_1.length : Int)
        ·rw [if_pos c47] at H
         have c47b0 : decide (x22_1 < (l0_1.length : Int)) = true := decide_eq_true c47
         clear c47
         have H' := av H
         clear H
         have p214 : 0 ≤ (x22_1 : Int) := of_decide_eq_true (by assumption)
         have q214 : x22_1 < (l0_1.length : Int) := of_decide_eq_true (by assumption)
         obtain ⟨ad214, e214, hx214_0, hx214_1⟩ := bC HR0_1.out x22_1 p214 q214
         cases e214
         replace hx214_0 := (HB.out.cell (World.block_lt_of_cell? w _ hx214_0)).trans hx214_0
         replace hx214_1 := (HB.out.cell (World.block_lt_of_cell? w _ hx214_1)).trans hx214_1
         replace p214 := eq_true p214
         replace q214 := eq_true q214
         go_wp2_with (first | ((with_reducible refine aK (N := 16) rfl ?_); refine aI ?hg (N := 16) ?hd (cs := #[.int .i64 0, .int .i64 0]) (t := 35) ?hr ?_; (case hd => rfl); (case hg => rfl); (case hr => first | (go_simp; done) | (go_simp; rfl)); intro gb215 hg w48 hbox hb; have BK215 := av (hbox); have GW215 := av ((by rw [hg]; exact (az (by with_reducible repeat (first | exact HB.out | apply ah | apply aa | apply ai | refine ae ?_ GE207.out))) : w.heap.size ≤ gb215)); have GE215 := av ((by rw [hg]; exact (az (by with_reducible repeat (first | exact HB.out | apply ah | apply aa | apply ai | refine ae ?_ GE207.out))) : w.heap.size ≤ gb215)); replace HB := av (aA (by with_reducible repeat (first | exact HB.out | apply ah | apply aa | apply ai | refine ae ?_ GE207.out)) hb); have NB207_215 := av ((by rw [hg]; exact Nat.ne_of_lt (aG (g := gb207) (o := .cells #[.int .i64 a0_0, .slice (some ad214) l0_1.length c0_1, .slice A0_2 l0_2.length c0_2] 24 (0, 0)) (by (with_reducible repeat (first | apply af | apply aj | apply ag)); exact BK207.out)) : gb207 ≠ gb215)); have NB215_207 := av ((by rw [hg]; exact Nat.ne_of_gt (aG (g := gb207) (o := .cells #[.int .i64 a0_0, .slice (some ad214) l0_1.length c0_1, .slice A0_2 l0_2.length c0_2] 24 (0, 0)) (by (with_reducible repeat (first | apply af | apply aj | apply ag)); exact BK207.out)) : gb215 ≠ gb207)); replace BK207 := av (ay (g := gb207) (o := .cells #[.int .i64 a0_0, .slice (some ad214) l0_1.length c0_1, .slice A0_2 l0_2.length c0_2] 24 (0, 0)) (by (with_reducible repeat (first | apply af | apply aj | apply ag)); exact BK207.out) hb); clear hb hbox hg; have hnb49 := NB215_207.out; have hnc49 := NB207_215.out; have hcz50_0 : w48.cell? ⟨gb215, 0, none⟩ = some (.int .i64 0) := (ak BK215.out 0).trans rfl; have hcz50_1 : w48.cell? ⟨gb215, 1, none⟩ = some (.int .i64 0) := (ak BK215.out 1).trans rfl; have hfz50_0 := au BK215.out 0; have hfz50_1 := au BK215.out 1))
         go_loopg [9, 17] k1 (fun kq v9 v17 w' => ∃ (x9_2 : Int) (x17_2 : Int), v9 = .int .i64 x9_2 ∧ v17 = .int .i64 x17_2 ∧ Aside0 (spec_l5Pick.l3 kq a1 a3 x9_2 x17_2 l0_1 (l0_1.length : Int) x22_1 ((ax l0_1 x22_1).f0) ((ax l0_1 x22_1).f1) = some r) ∧ Aside0 (kq ≤ k1) ∧ Aside0 (w'.heap[gb207]? = some (.cells #[.int .i64 a0_0, (.slice (some ad214) l0_1.length c0_1), (.slice A0_2 l0_2.length c0_2)] 24 (0, 0))) ∧ Aside0 (w'.heap[gb215]? = some (.cells #[.int .i64 ((ax l0_1 x22_1).f0), .int .i64 ((ax l0_1 x22_1).f1)] 35 (0, 0))) ∧ Aside0 (Below w.heap.size w w'))
         case atStart => exact ⟨(x9_1), ((ax l0_1 x22_1).f0), (by first | rfl | (simp; done) | (simp [*]; done)), (by first | rfl | (simp; done) | (simp [*]; done)), H', ⟨Nat.le_refl _⟩, ⟨by (with_reducible repeat (first | apply af | apply aj | apply ag)); refine aJ ?_ NB207_215.out _; (with_reducible repeat (first | apply af | apply aj | apply ag)); refine aJ ?_ NB207_215.out _; (with_reducible repeat (first | apply af | apply aj | apply ag)); exact BK207.out⟩, ⟨by (with_reducible repeat (first | apply af | apply aj | apply ag)); refine aM (cs := #[.int .i64 ((ax l0_1 x22_1).f0), .int .i64 0]) ?_ 1 _ rfl; (with_reducible repeat (first | apply af | apply aj | apply ag)); refine aM (cs := #[.int .i64 0, .int .i64 0]) ?_ 0 _ rfl; (with_reducible repeat (first | apply af | apply aj | apply ag)); exact BK215.out⟩, ⟨by with_reducible repeat (first | exact HB.out | apply ah | apply aa | apply ai | refine ae ?_ GE207.out | refine ae ?_ GE215.out)⟩⟩
         case round =>
          clear H'
          try clear c1
          try clear c2
          try clear p2
          try clear q2
          try clear hx2
          try clear c3
          try clear c4
          try clear c5
          try clear c5b0
          try clear c5b1
          try clear p6
          try clear c8
          try clear c8b0
          try clear c9
          try clear c9b0
          try clear c10
          try clear c10b0
          try clear c11
          try clear c11b0
          try clear c13
          try clear c16
          try clear c18
          try clear c18b0
          try clear c18b1
          try clear p20
          try clear q20
          try clear hx20
          try clear c21
          try clear c21b0
          try clear p21
          try clear q21
          try clear hx21
          try clear c22
          try clear c22b0
          try clear c23
          try clear c23b0
          try clear c24
          try clear c24b0
          try clear c26
          try clear c29
          try clear c31
          try clear c31b0
          try clear c31b1
          try clear c32
          try clear c32b0
          try clear c32b1
          try clear c34
          try clear c34b0
          try clear c35
          try clear c35b0
          try clear c36
          try clear c36b0
          try clear c45
          try clear c45b0
          try clear c46
          try clear c46b0
          try clear c47
          try clear c47b0
          try clear c49
          try clear hcz14_0
          try clear hcz14_1
          try clear hcz17_0
          try clear hcz17_1
          try clear hcz20_0
          try clear hcz20_1
          try clear hcz20_2
          try clear hcz27_0
          try clear hcz27_1
          try clear hcz30_0
          try clear hcz30_1
          try clear hcz38_0
          try clear hcz38_1
          try clear hcz38_2
          try clear hcz40_0
          try clear hcz40_1
          try clear hcz40_2
          try clear hcz42_0
          try clear hcz42_1
          try clear hcz42_2
          try clear hcz44_0
          try clear hcz44_1
          try clear hcz44_2
          try clear hcz50_0
          try clear hcz50_1
          try clear hcz7_0
          try clear hcz7_1
          try clear hcz7_2
          try clear hfz14_0
          try clear hfz14_1
          try clear hfz17_0
          try clear hfz17_1
          try clear hfz20_0
          try clear hfz20_1
          try clear hfz20_2
          try clear hfz27_0
          try clear hfz27_1
          try clear hfz30_0
          try clear hfz30_1
          try clear hfz38_0
          try clear hfz38_1
          try clear hfz38_2
          try clear hfz40_0
          try clear hfz40_1
          try clear hfz40_2
          try clear hfz42_0
          try clear hfz42_1
          try clear hfz42_2
          try clear hfz44_0
          try clear hfz44_1
          try clear hfz44_2
          try clear hfz50_0
          try clear hfz50_1
          try clear hfz7_0
          try clear hfz7_1
          try clear hfz7_2
          try clear hx208_0
          try clear hx208_1
          try clear hx210_0
          try clear hx210_1
          try clear hx212_0
          try clear hx212_1
          try clear hx213_0
          try clear hx213_1
          try clear hx214_0
          try clear hx214_1
          try clear p2
          try clear p20
          try clear p208
          try clear p21
          try clear p210
          try clear p212
          try clear p213
          try clear p214
          try clear p6
          try clear q2
          try clear q20
          try clear q208
          try clear q21
          try clear q210
          try clear q212
          try clear q213
          try clear q214
          obtain ⟨x9_2, x17_2, rfl, rfl, HA, HK2, BK207, BK215, HB⟩ := hrel
          cases gk with
          | zero => exact absurd HA.out (by simp [spec_l5Pick.l3])
          | succ k2 =>
           have H := HA.out
           clear HA
           simp only [spec_l5Pick.l3] at H
           by_cases c51 : (wrap64 (x17_2 + a1)) ≤ (wrap64 (((ax l0_1 x22_1).f0) + ((ax l0_1 x22_1).f1)))
           ·rw [if_pos c51] at H
            have c51b0 : decide ((wrap64 (x17_2 + a1)) ≤ (wrap64 (((ax l0_1 x22_1).f0) + ((ax l0_1 x22_1).f1)))) = true := decide_eq_true c51
            clear c51
            by_cases c52 : x9_2 < 0
            ·rw [if_pos c52] at H
             have c52b0 : decide (x9_2 < 0) = true := decide_eq_true c52
             clear c52
             have H' := av H
             clear H
             have hnb53 := NB215_207.out
             have hnc53 := NB207_215.out
             have hcz54_0 : wr.cell? ⟨gb215, 0, none⟩ = some (.int .i64 ((ax l0_1 x22_1).f0)) := (ak BK215.out 0).trans rfl
             have hcz54_1 : wr.cell? ⟨gb215, 1, none⟩ = some (.int .i64 ((ax l0_1 x22_1).f1)) := (ak BK215.out 1).trans rfl
             have hfz54_0 := au BK215.out 0
             have hfz54_1 := au BK215.out 1
             go_wp2
             go_roundg k2
             case measure => have := HK1.out; have := HK2.out; omega
             case rel => exact ⟨(x17_2), (wrap64 (x17_2 + 1)), (by first | rfl | (simp; done) | (simp [*]; done)), (by first | rfl | (simp; done) | (simp [*]; done)), H', ⟨by have := HK1.out; have := HK2.out; omega⟩, ⟨by (with_reducible repeat (first | apply af | apply aj | apply ag)); exact BK207.out⟩, ⟨by (with_reducible repeat (first | apply af | apply aj | apply ag)); exact BK215.out⟩, ⟨by with_reducible repeat (first | exact HB.out | apply ah | apply aa | apply ai | refine ae ?_ GE207.out | refine ae ?_ GE215.out)⟩⟩
            ·rw [if_neg c52] at H
             have c52b0 : decide (x9_2 < 0) = false := decide_eq_false c52
             clear c52
             replace H := Option.bind_eq_some_iff.mp H
             obtain ⟨t216, A550, H⟩ := H
             replace H : ((spec_l5Gap.f x9_2 a3).bind fun t217 => (if t216 < t217 then (spec_l5Pick.l3 k2 a1 a3 x17_2 (wrap64 (x17_2 + 1)) l0_1 (l0_1.length : Int) x22_1 ((ax l0_1 x22_1).f0) ((ax l0_1 x22_1).f1)) else (spec_l5Pick.l3 k2 a1 a3 x9_2 (wrap64 (x17_2 + 1)) l0_1 (l0_1.length : Int) x22_1 ((ax l0_1 x22_1).f0) ((ax l0_1 x22_1).f1)))) = some r := H
             have A55 := av A550
             clear A550
             replace H := Option.bind_eq_some_iff.mp H
             obtain ⟨t217, A560, H⟩ := H
             replace H : (if t216 < t217 then (spec_l5Pick.l3 k2 a1 a3 x17_2 (wrap64 (x17_2 + 1)) l0_1 (l0_1.length : Int) x22_1 ((ax l0_1 x22_1).f0) ((ax l0_1 x22_1).f1)) else (spec_l5Pick.l3 k2 a1 a3 x9_2 (wrap64 (x17_2 + 1)) l0_1 (l0_1.length : Int) x22_1 ((ax l0_1 x22_1).f0) ((ax l0_1 x22_1).f1))) = some r := H
             have A56 := av A560
             clear A560
             by_cases c57 : t216 < t217
             ·rw [if_pos c57] at H
              have c57b0 : decide (t216 < t217) = true := decide_eq_true c57
              clear c57
              have H' := av H
              clear H
              have hnb58 := NB215_207.out
              have hnc58 := NB207_215.out
              have hcz59_0 : wr.cell? ⟨gb215, 0, none⟩ = some (.int .i64 ((ax l0_1 x22_1).f0)) := (ak BK215.out 0).trans rfl
              have hcz59_1 : wr.cell? ⟨gb215, 1, none⟩ = some (.int .i64 ((ax l0_1 x22_1).f1)) := (ak BK215.out 1).trans rfl
              have hfz59_0 := au BK215.out 0
              have hfz59_1 := au BK215.out 1
              go_wp2_with (first | (go_at_call 78; (with_reducible refine (spec_l5Gap.calls x17_2 a3 t216 _ A55.out).mono ?_); rintro e w' ⟨rfl, ⟨nd, rfl⟩⟩) | (go_at_call 78; (with_reducible refine (spec_l5Gap.calls x9_2 a3 t217 _ A56.out).mono ?_); rintro e w' ⟨rfl, ⟨nd, rfl⟩⟩))
              go_roundg k2
              case measure => have := HK1.out; have := HK2.out; omega
              case rel => exact ⟨(x17_2), (wrap64 (x17_2 + 1)), (by first | rfl | (simp; done) | (simp [*]; done)), (by first | rfl | (simp; done) | (simp [*]; done)), H', ⟨by have := HK1.out; have := HK2.out; omega⟩, ⟨by (with_reducible repeat (first | apply af | apply aj | apply ag)); exact BK207.out⟩, ⟨by (with_reducible repeat (first | apply af | apply aj | apply ag)); exact BK215.out⟩, ⟨by with_reducible repeat (first | exact HB.out | apply ah | apply aa | apply ai | refine ae ?_ GE207.out | refine ae ?_ GE215.out)⟩⟩
             ·rw [if_neg c57] at H
              have c57b0 : decide (t216 < t217) = false := decide_eq_false c57
              clear c57
              have H' := av H
              clear H
              have hnb60 := NB215_207.out
              have hnc60 := NB207_215.out
              have hcz61_0 : wr.cell? ⟨gb215, 0, none⟩ = some (.int .i64 ((ax l0_1 x22_1).f0)) := (ak BK215.out 0).trans rfl
              have hcz61_1 : wr.cell? ⟨gb215, 1, none⟩ = some (.int .i64 ((ax l0_1 x22_1).f1)) := (ak BK215.out 1).trans rfl
              have hfz61_0 := au BK215.out 0
              have hfz61_1 := au BK215.out 1
              go_wp2_with (first | (go_at_call 78; (with_reducible refine (spec_l5Gap.calls x17_2 a3 t216 _ A55.out).mono ?_); rintro e w' ⟨rfl, ⟨nd, rfl⟩⟩) | (go_at_call 78; (with_reducible refine (spec_l5Gap.calls x9_2 a3 t217 _ A56.out).mono ?_); rintro e w' ⟨rfl, ⟨nd, rfl⟩⟩))
              go_roundg k2
              case measure => have := HK1.out; have := HK2.out; omega
              case rel => exact ⟨(x9_2), (wrap64 (x17_2 + 1)), (by first | rfl | (simp; done) | (simp [*]; done)), (by first | rfl | (simp; done) | (simp [*]; done)), H', ⟨by have := HK1.out; have := HK2.out; omega⟩, ⟨by (with_reducible repeat (first | apply af | apply aj | apply ag)); exact BK207.out⟩, ⟨by (with_reducible repeat (first | apply af | apply aj | apply ag)); exact BK215.out⟩, ⟨by with_reducible repeat (first | exact HB.out | apply ah | apply aa | apply ai | refine ae ?_ GE207.out | refine ae ?_ GE215.out)⟩⟩
           ·rw [if_neg c51] at H
            have c51b0 : decide ((wrap64 (x17_2 + a1)) ≤ (wrap64 (((ax l0_1 x22_1).f0) + ((ax l0_1 x22_1).f1)))) = false := decide_eq_false c51
            clear c51
            have H' := av H
            clear H
            have hnb62 := NB215_207.out
            have hnc62 := NB207_215.out
            have hcz63_0 : wr.cell? ⟨gb215, 0, none⟩ = some (.int .i64 ((ax l0_1 x22_1).f0)) := (ak BK215.out 0).trans rfl
            have hcz63_1 : wr.cell? ⟨gb215, 1, none⟩ = some (.int .i64 ((ax l0_1 x22_1).f1)) := (ak BK215.out 1).trans rfl
            have hfz63_0 := au BK215.out 0
            have hfz63_1 := au BK215.out 1
            go_wp2
            go_roundg k2
            case measure => have := HK1.out; have := HK2.out; omega
            case rel => exact ⟨(x9_2), (wrap64 (x22_1 + 1)), (by first | rfl | (simp; done) | (simp [*]; done)), (by first | rfl | (simp; done) | (simp [*]; done)), H', ⟨by have := HK1.out; have := HK2.out; omega⟩, ⟨by (with_reducible repeat (first | apply af | apply aj | apply ag)); exact BK207.out⟩, ⟨by with_reducible repeat (first | exact HB.out | apply ah | apply aa | apply ai | refine ae ?_ GE207.out | refine ae ?_ GE215.out)⟩⟩
        ·rw [if_neg c47] at H
         exact absurd H (by simp)
       ·rw [if_neg c46] at H
        exact absurd H (by simp)
      ·rw [if_neg c45] at H
       have c45b0 : decide (x22_1 < (l0_1.length : Int)) = false := decide_eq_false c45
       clear c45
       obtain rfl := Option.some.inj H
       go_wp2
       go_ret
       exact ⟨by first | rfl | (simp <;> rfl) | (simp [*] <;> rfl), by with_reducible repeat (first | exact HB.out | apply ah | apply aa | apply ai | refine ae ?_ GE207.out)⟩
end Go.Proofs.Ytelblhkbogljnaa.PFre
