-- of this session: its walks are told by a program (wip/ext.py) out of the translation
import Derived.Test.YtgglcpcfmhpcmaaYFnSqueezedx0
import Derived.Test.YtgglcpcfmhpcmaaYFnSqueezedx2
namespace Go.Proofs.Ytgglcpcfmhpcmaa.PFnSqueezed
open Go.RowKit Go.Proofs.YtgglcpcfmhpcmaaW.PrintWords Go.Proofs.YtgglcpcfmhpcmaaW.PrintLast Go.Proofs.YtgglcpcfmhpcmaaW.PrintMore
attribute [local go_sem] max2_int min2_int max_two min_two max_three min_three max_four min_four   -- for this text's walks alone
set_option linter.unusedVariables false
set_option linter.unusedSimpArgs false

/-! ### impl_expanded: function 53 -/
mutual
def impl_expanded.l0 : Nat → List (S56) → List Int → List (S56) → Int → Int → Option (ByteArray × Bool)
  | 0, _, _, _, _, _ => none
  | k + 1, x0, x4, x8, x9, x10 => if x10 < x9 then (if 0 ≤ x10 then (if x10 < (x8.length : Int) then ((impl_Token_isLiteral.f ((rd_T56 x8 x10).f0) ((rd_T56 x8 x10).f1) ((rd_T56 x8 x10).f2)).bind fun t107 => (if t107 = true then (if (((rd_T56 x8 x10).f0).size : Int) > 64 then (impl_expanded.j1 k x0 x4 x8 x9 x10 true ((rd_T56 x8 x10).f0) ((rd_T56 x8 x10).f1) ((rd_T56 x8 x10).f2)) else (if ((rd_T56 x8 x10).f1) = 0 then (if ((rd_T56 x8 x10).f2) = 0 then (if x10 > 0 then (if 0 ≤ (wrap64 (x10 - 1)) then (if (wrap64 (x10 - 1)) < (x0.length : Int) then ((impl_Token_isLiteral.f ((rd_T56 x0 (wrap64 (x10 - 1))).f0) ((rd_T56 x0 (wrap64 (x10 - 1))).f1) ((rd_T56 x0 (wrap64 (x10 - 1))).f2)).bind fun t109 => (if t109 = true then (impl_expanded.j1 k x0 x4 x8 x9 x10 (decide ((((rd_T56 x0 (wrap64 (x10 - 1))).f0).size : Int) < 64)) ((rd_T56 x8 x10).f0) ((rd_T56 x8 x10).f1) ((rd_T56 x8 x10).f2)) else (impl_expanded.j1 k x0 x4 x8 x9 x10 false ((rd_T56 x8 x10).f0) ((rd_T56 x8 x10).f1) ((rd_T56 x8 x10).f2)))) else (none)) else (none)) else (impl_expanded.j1 k x0 x4 x8 x9 x10 false ((rd_T56 x8 x10).f0) ((rd_T56 x8 x10).f1) ((rd_T56 x8 x10).f2))) else (impl_expanded.j1 k x0 x4 x8 x9 x10 true ((rd_T56 x8 x10).f0) ((rd_T56 x8 x10).f1) ((rd_T56 x8 x10).f2))) else (impl_expanded.j1 k x0 x4 x8 x9 x10 true ((rd_T56 x8 x10).f0) ((rd_T56 x8 x10).f1) ((rd_T56 x8 x10).f2)))) else ((impl_within.f ((rd_T56 x8 x10).f1) 1 (mn 255 (x4.length : Int))).bind fun t114 => (if t114 = true then ((impl_within.f ((rd_T56 x8 x10).f2) 3 66).bind fun t115 => (impl_expanded.j2 k x0 x4 x8 x9 x10 (!t115) ((rd_T56 x8 x10).f0) ((rd_T56 x8 x10).f1) ((rd_T56 x8 x10).f2))) else (impl_expanded.j2 k x0 x4 x8 x9 x10 true ((rd_T56 x8 x10).f0) ((rd_T56 x8 x10).f1) ((rd_T56 x8 x10).f2)))))) else (none)) else (none)) else (some (strOfNums x4, true))
def impl_expanded.j1 : Nat → List (S56) → List Int → List (S56) → Int → Int → Bool → ByteArray → Int → Int → Option (ByteArray × Bool)
  | 0, _, _, _, _, _, _, _, _, _ => none
  | k + 1, x0, x4, x8, x9, x10, x52, x107000, x107001, x107002 => if x52 = true then (some ((⟨#[]⟩ : ByteArray), false)) else (if x4.length + x107000.size < 140737488355328 then ((some (x4 ++ bytesOf x107000 : List Int)).bind fun y111 => (if (y111.length : Int) > 600 then (some ((⟨#[]⟩ : ByteArray), false)) else (impl_expanded.l0 k x0 y111 x8 x9 (wrap64 (x10 + 1))))) else (none))
def impl_expanded.j2 : Nat → List (S56) → List Int → List (S56) → Int → Int → Bool → ByteArray → Int → Int → Option (ByteArray × Bool)
  | 0, _, _, _, _, _, _, _, _, _ => none
  | k + 1, x0, x4, x8, x9, x10, x69, x107000, x107001, x107002 => if x69 = true then (some ((⟨#[]⟩ : ByteArray), false)) else (impl_expanded.l1 k x0 x4 x8 x9 x10 x107002 0 x107000 x107001 x107002)
def impl_expanded.l1 : Nat → List (S56) → List Int → List (S56) → Int → Int → Int → Int → ByteArray → Int → Int → Option (ByteArray × Bool)
  | 0, _, _, _, _, _, _, _, _, _, _ => none
  | k + 1, x0, x4, x8, x9, x10, x71, x72, x107000, x107001, x107002 => if x72 < x71 then (if 0 ≤ (wrap64 ((x4.length : Int) - x107001)) then (if (wrap64 ((x4.length : Int) - x107001)) < (x4.length : Int) then (if x4.length < 140737488355328 then (impl_expanded.l1 k x0 (x4 ++ [rd x4 (wrap64 ((x4.length : Int) - x107001))]) x8 x9 x10 x71 (wrap64 (x72 + 1)) x107000 x107001 x107002) else (none)) else (none)) else (none)) else (if (x4.length : Int) > 600 then (some ((⟨#[]⟩ : ByteArray), false)) else (impl_expanded.l0 k x0 x4 x8 x9 (wrap64 (x10 + 1))))
end
def impl_expanded.f (k : Nat) (l0 : List (S56)) : Option (ByteArray × Bool) := impl_expanded.l0 k l0 (([] : List Int)) l0 (l0.length : Int) 0
theorem impl_expanded.mono_l : ∀ k, (∀ y0 y1 y2 y3 y4, LeO (impl_expanded.l0 k y0 y1 y2 y3 y4) (impl_expanded.l0 (k + 1) y0 y1 y2 y3 y4)) ∧ (∀ y0 y1 y2 y3 y4 y5 y6 y7 y8, LeO (impl_expanded.j1 k y0 y1 y2 y3 y4 y5 y6 y7 y8) (impl_expanded.j1 (k + 1) y0 y1 y2 y3 y4 y5 y6 y7 y8)) ∧ (∀ y0 y1 y2 y3 y4 y5 y6 y7 y8, LeO (impl_expanded.j2 k y0 y1 y2 y3 y4 y5 y6 y7 y8) (impl_expanded.j2 (k + 1) y0 y1 y2 y3 y4 y5 y6 y7 y8)) ∧ (∀ y0 y1 y2 y3 y4 y5 y6 y7 y8 y9, LeO (impl_expanded.l1 k y0 y1 y2 y3 y4 y5 y6 y7 y8 y9) (impl_expanded.l1 (k + 1) y0 y1 y2 y3 y4 y5 y6 y7 y8 y9))
  | 0 => ⟨fun _ _ _ _ _ r h => by simp [impl_expanded.l0] at h, fun _ _ _ _ _ _ _ _ _ r h => by simp [impl_expanded.j1] at h, fun _ _ _ _ _ _ _ _ _ r h => by simp [impl_expanded.j2] at h, fun _ _ _ _ _ _ _ _ _ _ r h => by simp [impl_expanded.l1] at h⟩
  | k + 1 => by
    obtain ⟨ih0, ih1, ih2, ih3⟩ := impl_expanded.mono_l k
    refine ⟨?_, ?_, ?_, ?_⟩
    · intro y0 y1 y2 y3 y4
      unfold impl_expanded.l0
      repeat' first
      | (with_reducible exact ih0 _ _ _ _ _)
      | (with_reducible exact ih1 _ _ _ _ _ _ _ _ _)
      | (with_reducible exact ih2 _ _ _ _ _ _ _ _ _)
      | (with_reducible exact ih3 _ _ _ _ _ _ _ _ _ _)
      | (with_reducible exact LeO.refl _)
      | (with_reducible exact LeO.none _)
      | (with_reducible refine LeO.ite ?_ ?_)
      | (with_reducible refine LeO.bind ?_ (fun _ => ?_))
      | exact ih0 _ _ _ _ _
      | exact ih1 _ _ _ _ _ _ _ _ _
      | exact ih2 _ _ _ _ _ _ _ _ _
      | exact ih3 _ _ _ _ _ _ _ _ _ _
      | exact LeO.none _
      | refine LeO.ite ?_ ?_
      | refine LeO.bind ?_ (fun _ => ?_)
    · intro y0 y1 y2 y3 y4 y5 y6 y7 y8
      unfold impl_expanded.j1
      repeat' first
      | (with_reducible exact ih0 _ _ _ _ _)
      | (with_reducible exact ih1 _ _ _ _ _ _ _ _ _)
      | (with_reducible exact ih2 _ _ _ _ _ _ _ _ _)
      | (with_reducible exact ih3 _ _ _ _ _ _ _ _ _ _)
      | (with_reducible exact LeO.refl _)
      | (with_reducible exact LeO.none _)
      | (with_reducible refine LeO.ite ?_ ?_)
      | (with_reducible refine LeO.bind ?_ (fun _ => ?_))
      | exact ih0 _ _ _ _ _
      | exact ih1 _ _ _ _ _ _ _ _ _
      | exact ih2 _ _ _ _ _ _ _ _ _
      | exact ih3 _ _ _ _ _ _ _ _ _ _
      | exact LeO.none _
      | refine LeO.ite ?_ ?_
      | refine LeO.bind ?_ (fun _ => ?_)
    · intro y0 y1 y2 y3 y4 y5 y6 y7 y8
      unfold impl_expanded.j2
      repeat' first
      | (with_reducible exact ih0 _ _ _ _ _)
      | (with_reducible exact ih1 _ _ _ _ _ _ _ _ _)
      | (with_reducible exact ih2 _ _ _ _ _ _ _ _ _)
      | (with_reducible exact ih3 _ _ _ _ _ _ _ _ _ _)
      | (with_reducible exact LeO.refl _)
      | (with_reducible exact LeO.none _)
      | (with_reducible refine LeO.ite ?_ ?_)
      | (with_reducible refine LeO.bind ?_ (fun _ => ?_))
      | exact ih0 _ _ _ _ _
      | exact ih1 _ _ _ _ _ _ _ _ _
      | exact ih2 _ _ _ _ _ _ _ _ _
      | exact ih3 _ _ _ _ _ _ _ _ _ _
      | exact LeO.none _
      | refine LeO.ite ?_ ?_
      | refine LeO.bind ?_ (fun _ => ?_)
    · intro y0 y1 y2 y3 y4 y5 y6 y7 y8 y9
      unfold impl_expanded.l1
      repeat' first
      | (with_reducible exact ih0 _ _ _ _ _)
      | (with_reducible exact ih1 _ _ _ _ _ _ _ _ _)
      | (with_reducible exact ih2 _ _ _ _ _ _ _ _ _)
      | (with_reducible exact ih3 _ _ _ _ _ _ _ _ _ _)
      | (with_reducible exact LeO.refl _)
      | (with_reducible exact LeO.none _)
      | (with_reducible refine LeO.ite ?_ ?_)
      | (with_reducible refine LeO.bind ?_ (fun _ => ?_))
      | exact ih0 _ _ _ _ _
      | exact ih1 _ _ _ _ _ _ _ _ _
      | exact ih2 _ _ _ _ _ _ _ _ _
      | exact ih3 _ _ _ _ _ _ _ _ _ _
      | exact LeO.none _
      | refine LeO.ite ?_ ?_
      | refine LeO.bind ?_ (fun _ => ?_)
theorem impl_expanded.mono : ∀ a0 k, LeO (impl_expanded.f k a0) (impl_expanded.f (k + 1) a0) := by
  intro a0 k
  obtain ⟨ih0, ih1, ih2, ih3⟩ := impl_expanded.mono_l k
  unfold impl_expanded.f
  repeat' first
      | (with_reducible exact ih0 _ _ _ _ _)
      | (with_reducible exact ih1 _ _ _ _ _ _ _ _ _)
      | (with_reducible exact ih2 _ _ _ _ _ _ _ _ _)
      | (with_reducible exact ih3 _ _ _ _ _ _ _ _ _ _)
      | (with_reducible exact LeO.refl _)
      | (with_reducible exact LeO.none _)
      | (with_reducible refine LeO.ite ?_ ?_)
      | (with_reducible refine LeO.bind ?_ (fun _ => ?_))
      | exact ih0 _ _ _ _ _
      | exact ih1 _ _ _ _ _ _ _ _ _
      | exact ih2 _ _ _ _ _ _ _ _ _
      | exact ih3 _ _ _ _ _ _ _ _ _ _
      | exact LeO.none _
      | refine LeO.ite ?_ ?_
      | refine LeO.bind ?_ (fun _ => ?_)
set_option maxHeartbeats 8000000 in
set_option maxRecDepth 100000 in
theorem impl_expanded.calls (k : Nat) (A0 : Option Addr) (c0 : Nat) (l0 : List (S56)) (r1 : ByteArray) (r2 : Bool) (w : World) (hr0 : Kd.C k56 w A0 l0.length l0) (hc0 : l0.length ≤ c0) (h : impl_expanded.f k l0 = some (r1, r2)) :
    Calls Try.prog 53 #[.slice A0 l0.length c0] w fun e w' => e = .returned (.tuple #[.string r1, .bool r2]) ∧ Below w.heap.size w w' := by
  have hu56 := Try.underlying56
  have HR0 := Aside0.mk hr0
  have HC0 := Aside0.mk hc0
  clear hr0 hc0
  have HB := Aside0.mk (Below.refl w.heap.size w)
  have H : (impl_expanded.l0 k l0 (([] : List Int)) l0 (l0.length : Int) 0) = some (r1, r2) := h
  clear h
  obtain ⟨y102, hy102⟩ : ∃ y_ : List Int, y_ = (([] : List Int)) := ⟨_, rfl⟩
  replace H : (impl_expanded.l0 k l0 y102 l0 (l0.length : Int) 0) = some (r1, r2) := by first | (rw [hy102]; with_reducible exact H) | (have H2_ := (Option.bind_some _ _).symm.trans H; rw [hy102]; with_reducible exact H2_) | (have H2_ := (Option.bind_some _ _).symm.trans H; with_reducible exact H2_) | with_reducible exact H | (rw [hy102]; exact H) | exact H
  have Ny102 := Aside0.mk hy102
  clear hy102
  have H' := Aside0.mk H
  clear H
  go_enter Try.func53, Try.ntmps53
  go_wp2_with (first | ((with_reducible refine gate_dst (N := 7) rfl ?_); (try (refine gate_guard (by rfl) ?_; dsimp only)); refine Kd.R_lit (Kd.int .u8) _ 5 ?hg (N := 7) ?hd (xs := ([] : List Int)) (inner := []) (ok := fun _ => True) (okp := fun _ => True) ?hr ?hp (fun _ hk => hk) trivial (Below.refl _ _) (Nat.le_refl _) (by simp) ?_; (case hd => rfl); (case hg => rfl); (case hr => first | (go_simp; done) | (go_simp; rfl)); (case hp => exact (Reps.none _ _)); intro v103 w2 ho3 hb hg_ hnew_; clear hg_ hnew_; (first | rw [← Ny102.out] at ho3 | (simp only [Int.reduceToNat] at ho3; rw [← Ny102.out] at ho3)); have n0_ := Aside0.mk (Kd.R_lower ho3 (below_size (by repeat (first | (with_reducible first | exact HB.out | apply below_alloc | apply pw_below_drewN | apply below_drew1) | exact HB.out)))); have n1_ := Aside0.mk (below_step (by repeat (first | (with_reducible first | exact HB.out | apply below_alloc | apply pw_below_drewN | apply below_drew1) | exact HB.out)) hb); clear HB; have HO104 := n0_; have HB := n1_; clear n0_ n1_; clear hb ho3))
  go_loopg [4, 10] k (fun kq v4 v10 w' => ∃ (x4_1 : List Int) (x10_1 : Int), v10 = .int .i64 x10_1 ∧ Aside0 (impl_expanded.l0 kq l0 x4_1 l0 (l0.length : Int) x10_1 = some (r1, r2)) ∧ Aside0 (kq ≤ k) ∧ Aside0 (Kd.R (Kd.int .u8) 5 w' w.heap.size (fun _ => True) v4 x4_1) ∧ Aside0 (Below w.heap.size w w'))
  case atStart => exact ⟨(y102), (0), (by first | rfl | (simp; done) | (simp [*]; done)), H', ⟨Nat.le_refl _⟩, ⟨by (with_reducible repeat (first | apply Kd.R_alloc | apply Kd.R_drewN | apply Kd.R_drew)); exact HO104.out⟩, ⟨by repeat (first | (with_reducible first | exact HB.out | apply below_alloc | apply pw_below_drewN | apply below_drew1) | exact HB.out)⟩⟩
  case round =>
    clear H'
    try clear p2
    obtain ⟨x4_1, x10_1, rfl, HA, HK1, HO_4, HB⟩ := hrel
    cases gk with
    | zero => exact absurd HA.out (by simp [impl_expanded.l0])
    | succ k1 =>
      have H := HA.out
      clear HA
      simp only [impl_expanded.l0] at H
      by_cases c4 : x10_1 < (l0.length : Int)
      · rw [if_pos c4] at H
        have c4b0 : decide (x10_1 < (l0.length : Int)) = true := decide_eq_true c4
        clear c4
        by_cases c5 : 0 ≤ x10_1
        · rw [if_pos c5] at H
          have c5b0 : decide (0 ≤ x10_1) = true := decide_eq_true c5
          clear c5
          by_cases c6 : x10_1 < (l0.length : Int)
          · rw [if_pos c6] at H
            have c6b0 : decide (x10_1 < (l0.length : Int)) = true := decide_eq_true c6
            clear c6
            replace H := Option.bind_eq_some_iff.mp H
            obtain ⟨t107, A70, H⟩ := H
            replace H : (if t107 = true then (if (((rd_T56 l0 x10_1).f0).size : Int) > 64 then (impl_expanded.j1 k1 l0 x4_1 l0 (l0.length : Int) x10_1 true ((rd_T56 l0 x10_1).f0) ((rd_T56 l0 x10_1).f1) ((rd_T56 l0 x10_1).f2)) else (if ((rd_T56 l0 x10_1).f1) = 0 then (if ((rd_T56 l0 x10_1).f2) = 0 then (if x10_1 > 0 then (if 0 ≤ (wrap64 (x10_1 - 1)) then (if (wrap64 (x10_1 - 1)) < (l0.length : Int) then ((impl_Token_isLiteral.f ((rd_T56 l0 (wrap64 (x10_1 - 1))).f0) ((rd_T56 l0 (wrap64 (x10_1 - 1))).f1) ((rd_T56 l0 (wrap64 (x10_1 - 1))).f2)).bind fun t109 => (if t109 = true then (impl_expanded.j1 k1 l0 x4_1 l0 (l0.length : Int) x10_1 (decide ((((rd_T56 l0 (wrap64 (x10_1 - 1))).f0).size : Int) < 64)) ((rd_T56 l0 x10_1).f0) ((rd_T56 l0 x10_1).f1) ((rd_T56 l0 x10_1).f2)) else (impl_expanded.j1 k1 l0 x4_1 l0 (l0.length : Int) x10_1 false ((rd_T56 l0 x10_1).f0) ((rd_T56 l0 x10_1).f1) ((rd_T56 l0 x10_1).f2)))) else (none)) else (none)) else (impl_expanded.j1 k1 l0 x4_1 l0 (l0.length : Int) x10_1 false ((rd_T56 l0 x10_1).f0) ((rd_T56 l0 x10_1).f1) ((rd_T56 l0 x10_1).f2))) else (impl_expanded.j1 k1 l0 x4_1 l0 (l0.length : Int) x10_1 true ((rd_T56 l0 x10_1).f0) ((rd_T56 l0 x10_1).f1) ((rd_T56 l0 x10_1).f2))) else (impl_expanded.j1 k1 l0 x4_1 l0 (l0.length : Int) x10_1 true ((rd_T56 l0 x10_1).f0) ((rd_T56 l0 x10_1).f1) ((rd_T56 l0 x10_1).f2)))) else ((impl_within.f ((rd_T56 l0 x10_1).f1) 1 (mn 255 (x4_1.length : Int))).bind fun t114 => (if t114 = true then ((impl_within.f ((rd_T56 l0 x10_1).f2) 3 66).bind fun t115 => (impl_expanded.j2 k1 l0 x4_1 l0 (l0.length : Int) x10_1 (!t115) ((rd_T56 l0 x10_1).f0) ((rd_T56 l0 x10_1).f1) ((rd_T56 l0 x10_1).f2))) else (impl_expanded.j2 k1 l0 x4_1 l0 (l0.length : Int) x10_1 true ((rd_T56 l0 x10_1).f0) ((rd_T56 l0 x10_1).f1) ((rd_T56 l0 x10_1).f2))))) = some (r1, r2) := H
            have A7 := Aside0.mk A70
            clear A70
            by_cases c8 : t107 = true
            · subst c8
              have H1 : (if (((rd_T56 l0 x10_1).f0).size : Int) > 64 then (impl_expanded.j1 k1 l0 x4_1 l0 (l0.length : Int) x10_1 true ((rd_T56 l0 x10_1).f0) ((rd_T56 l0 x10_1).f1) ((rd_T56 l0 x10_1).f2)) else (if ((rd_T56 l0 x10_1).f1) = 0 then (if ((rd_T56 l0 x10_1).f2) = 0 then (if x10_1 > 0 then (if 0 ≤ (wrap64 (x10_1 - 1)) then (if (wrap64 (x10_1 - 1)) < (l0.length : Int) then ((impl_Token_isLiteral.f ((rd_T56 l0 (wrap64 (x10_1 - 1))).f0) ((rd_T56 l0 (wrap64 (x10_1 - 1))).f1) ((rd_T56 l0 (wrap64 (x10_1 - 1))).f2)).bind fun t109 => (if t109 = true then (impl_expanded.j1 k1 l0 x4_1 l0 (l0.length : Int) x10_1 (decide ((((rd_T56 l0 (wrap64 (x10_1 - 1))).f0).size : Int) < 64)) ((rd_T56 l0 x10_1).f0) ((rd_T56 l0 x10_1).f1) ((rd_T56 l0 x10_1).f2)) else (impl_expanded.j1 k1 l0 x4_1 l0 (l0.length : Int) x10_1 false ((rd_T56 l0 x10_1).f0) ((rd_T56 l0 x10_1).f1) ((rd_T56 l0 x10_1).f2)))) else (none)) else (none)) else (impl_expanded.j1 k1 l0 x4_1 l0 (l0.length : Int) x10_1 false ((rd_T56 l0 x10_1).f0) ((rd_T56 l0 x10_1).f1) ((rd_T56 l0 x10_1).f2))) else (impl_expanded.j1 k1 l0 x4_1 l0 (l0.length : Int) x10_1 true ((rd_T56 l0 x10_1).f0) ((rd_T56 l0 x10_1).f1) ((rd_T56 l0 x10_1).f2))) else (impl_expanded.j1 k1 l0 x4_1 l0 (l0.length : Int) x10_1 true ((rd_T56 l0 x10_1).f0) ((rd_T56 l0 x10_1).f1) ((rd_T56 l0 x10_1).f2)))) = some (r1, r2) := by rw [if_pos rfl] at H; exact H
              clear H
              have H := H1
              clear H1
              have HC9 := Aside0.mk H
              clear H
              have p105 : 0 ≤ (x10_1 : Int) := of_decide_eq_true (by first | (with_reducible assumption) | assumption)
              have q105 : x10_1 < (l0.length : Int) := of_decide_eq_true (by first | (with_reducible assumption) | assumption)
              obtain ⟨ad105, e105, hx105_0, hx105_1, hx105_2⟩ := at_T56 HR0.out x10_1 p105 q105
              cases e105
              replace hx105_0 := (HB.out.cell (World.block_lt_of_cell? w _ hx105_0)).trans hx105_0
              replace hx105_1 := (HB.out.cell (World.block_lt_of_cell? w _ hx105_1)).trans hx105_1
              replace hx105_2 := (HB.out.cell (World.block_lt_of_cell? w _ hx105_2)).trans hx105_2
              replace p105 := eq_true p105
              replace q105 := eq_true q105
              go_upto_region 6 with (first | ((with_reducible refine gate_dst (N := 6) rfl ?_); (try (refine gate_guard (by rfl) ?_; dsimp only)); refine box_event ?hg (N := 6) ?hd (cs := #[.string (⟨#[]⟩ : ByteArray), .int .i64 0, .int .i64 0]) (t := 56) ?hr ?_; (case hd => rfl); (case hg => rfl); (case hr => first | (go_simp; done) | (go_simp; rfl)); intro gb106 hg w10 hbox hb; have n0_ := Aside0.mk (Kd.R_below (by (with_reducible repeat (first | apply Kd.R_alloc | apply Kd.R_drewN | apply Kd.R_drew)); exact HO_4.out) hb); have n1_ := Aside0.mk (below_step (by repeat (first | (with_reducible first | exact HB.out | apply below_alloc | apply pw_below_drewN | apply below_drew1) | exact HB.out)) hb); have n2_ := Aside0.mk (hbox); have n3_ := Aside0.mk ((by rw [hg]; exact (below_size (by repeat (first | (with_reducible first | exact HB.out | apply below_alloc | apply pw_below_drewN | apply below_drew1) | exact HB.out))) : w.heap.size ≤ gb106)); have n4_ := Aside0.mk ((by rw [hg]; exact (below_size (by repeat (first | (with_reducible first | exact HB.out | apply below_alloc | apply pw_below_drewN | apply below_drew1) | exact HB.out))) : w.heap.size ≤ gb106)); clear HO_4; clear HB; have HO_4 := n0_; have HB := n1_; have BK106 := n2_; have GW106 := n3_; have GE106 := n4_; clear n0_ n1_ n2_ n3_ n4_; clear hb hbox hg; have hcz11_0 : w10.cell? ⟨gb106, 0, none⟩ = some (.string (⟨#[]⟩ : ByteArray)) := (blk_cell BK106.out 0).trans rfl; have hcz11_1 : w10.cell? ⟨gb106, 1, none⟩ = some (.int .i64 0) := (blk_cell BK106.out 1).trans rfl; have hcz11_2 : w10.cell? ⟨gb106, 2, none⟩ = some (.int .i64 0) := (blk_cell BK106.out 2).trans rfl; have hfz11_0 := blk_frozen BK106.out 0; have hfz11_1 := blk_frozen BK106.out 1; have hfz11_2 := blk_frozen BK106.out 2) | ((with_reducible refine gate_callee (f := 67) rfl ?_); refine goesL_ (some 16) rfl rfl Try.func67 (by kernel_rfl) rfl #[.agg #[.string ((rd_T56 l0 x10_1).f0), .int .i64 ((rd_T56 l0 x10_1).f1), .int .i64 ((rd_T56 l0 x10_1).f2)]] rfl (by (try simp only [List.map_toArray, List.map_cons, List.map_nil]); first | done | rfl | (simp only [List.length_drop, List.length_take]; rfl)) ?_; (with_reducible refine (impl_Token_isLiteral.calls ((rd_T56 l0 x10_1).f0) ((rd_T56 l0 x10_1).f1) ((rd_T56 l0 x10_1).f2) true _ A7.out).mono ?_); rintro e w12 ⟨rfl, hb⟩; refine ⟨_, rfl, ?_⟩; have n0_ := Aside0.mk (Kd.R_below (by (with_reducible repeat (first | apply Kd.R_alloc | apply Kd.R_drewN | apply Kd.R_drew)); exact (Kd.R_mono (Kd.R_far (p := ⟨gb106, 2, none⟩) (Kd.R_far (p := ⟨gb106, 1, none⟩) (Kd.R_far (p := ⟨gb106, 0, none⟩) (Kd.R_types HO_4.out BK106.out (by decide)) (fun _ hk => hk.2) (.string ((rd_T56 l0 x10_1).f0))) (fun _ hk => hk.2) (.int .i64 ((rd_T56 l0 x10_1).f1))) (fun _ hk => hk.2) (.int .i64 ((rd_T56 l0 x10_1).f2))) (fun _ h_ => h_.1))) hb); have n1_ := Aside0.mk (blk_below (g := gb106) (o := .cells #[.string ((rd_T56 l0 x10_1).f0), .int .i64 ((rd_T56 l0 x10_1).f1), .int .i64 ((rd_T56 l0 x10_1).f2)] 56 (0, 0)) (by (with_reducible repeat (first | refine blk_drewN ?_ _ | refine blk_drew ?_ | refine blk_alloc ?_ _)); refine blk_put (cs := #[.string ((rd_T56 l0 x10_1).f0), .int .i64 ((rd_T56 l0 x10_1).f1), .int .i64 0]) ?_ 2 _ rfl; (with_reducible repeat (first | refine blk_drewN ?_ _ | refine blk_drew ?_ | refine blk_alloc ?_ _)); refine blk_put (cs := #[.string ((rd_T56 l0 x10_1).f0), .int .i64 0, .int .i64 0]) ?_ 1 _ rfl; (with_reducible repeat (first | refine blk_drewN ?_ _ | refine blk_drew ?_ | refine blk_alloc ?_ _)); refine blk_put (cs := #[.string (⟨#[]⟩ : ByteArray), .int .i64 0, .int .i64 0]) ?_ 0 _ rfl; (with_reducible repeat (first | refine blk_drewN ?_ _ | refine blk_drew ?_ | refine blk_alloc ?_ _)); exact BK106.out) hb); have n2_ := Aside0.mk (below_step (by repeat (first | (with_reducible first | exact HB.out | apply below_alloc | apply pw_below_drewN | apply below_drew1 | refine below_set ?_ GE106.out) | exact HB.out)) hb); clear HO_4; clear BK106; clear HB; have HO_4 := n0_; have BK106 := n1_; have HB := n2_; clear n0_ n1_ n2_; (try clear hb); (try clear hb2); (try clear hk); (try clear hi)))
              (try simp only [Act.put, List.setIfInBounds_toArray, List.set_cons_zero, List.set_cons_succ])
              go_cut [52] (fun v52 wc => ∃ (kq : Nat) (x52_8 : Bool), v52 = .bool x52_8 ∧ Aside0 (impl_expanded.j1 kq l0 x4_1 l0 (l0.length : Int) x10_1 x52_8 ((rd_T56 l0 x10_1).f0) ((rd_T56 l0 x10_1).f1) ((rd_T56 l0 x10_1).f2) = some (r1, r2)) ∧ Aside0 (kq ≤ k1) ∧ Aside0 (Kd.R (Kd.int .u8) 5 wc w.heap.size (fun _ => True) u4 x4_1) ∧ Aside0 (wc.heap[gb106]? = some (.cells #[.string ((rd_T56 l0 x10_1).f0), .int .i64 ((rd_T56 l0 x10_1).f1), .int .i64 ((rd_T56 l0 x10_1).f2)] 56 (0, 0))) ∧ Aside0 (Below w.heap.size w wc))
              case first =>
                have H := HC9.out
                clear HC9
                by_cases c13 : (((rd_T56 l0 x10_1).f0).size : Int) > 64
                · rw [if_pos c13] at H
                  have c13b0 : decide (64 < (((rd_T56 l0 x10_1).f0).size : Int)) = true := decide_eq_true c13
                  have c13b1 : decide (64 < ((rd_T56 l0 x10_1).f0).size) = true := decide_eq_true (by omega)
                  clear c13
                  (first | rw [c13b0] | (simp only [i64_w, i32_w]; rw [c13b0]) | skip)
                  have H' := Aside0.mk H
                  clear H
                  have hcz14_0 : w12.cell? ⟨gb106, 0, none⟩ = some (.string ((rd_T56 l0 x10_1).f0)) := (blk_cell BK106.out 0).trans rfl
                  have hcz14_1 : w12.cell? ⟨gb106, 1, none⟩ = some (.int .i64 ((rd_T56 l0 x10_1).f1)) := (blk_cell BK106.out 1).trans rfl
                  have hcz14_2 : w12.cell? ⟨gb106, 2, none⟩ = some (.int .i64 ((rd_T56 l0 x10_1).f2)) := (blk_cell BK106.out 2).trans rfl
                  have hfz14_0 := blk_frozen BK106.out 0
                  have hfz14_1 := blk_frozen BK106.out 1
                  have hfz14_2 := blk_frozen BK106.out 2
                  go_wp2
                  go_meet
                  case rel => exact ⟨_, (true), (by first | rfl | (simp; done) | (simp [*]; done)), H', ⟨by have := HK1.out; first | omega | exact Nat.le_refl _⟩, ⟨by (with_reducible repeat (first | apply Kd.R_alloc | apply Kd.R_drewN | apply Kd.R_drew)); exact HO_4.out⟩, ⟨by (with_reducible repeat (first | refine blk_drewN ?_ _ | refine blk_drew ?_ | refine blk_alloc ?_ _)); exact BK106.out⟩, ⟨by repeat (first | (with_reducible first | exact HB.out | apply below_alloc | apply pw_below_drewN | apply below_drew1 | refine below_set ?_ GE106.out) | exact HB.out)⟩⟩
                · rw [if_neg c13] at H
                  have c13b0 : decide (64 < (((rd_T56 l0 x10_1).f0).size : Int)) = false := decide_eq_false c13
                  have c13b1 : decide (64 < ((rd_T56 l0 x10_1).f0).size) = false := decide_eq_false (by omega)
                  clear c13
                  (first | rw [c13b0] | (simp only [i64_w, i32_w]; rw [c13b0]) | skip)
                  by_cases c15 : ((rd_T56 l0 x10_1).f1) = 0
                  · rw [if_pos c15] at H
                    have c15b0 : (((rd_T56 l0 x10_1).f1) == 0) = true := beq_iff_eq.mpr c15
                    have c15b1 : (((rd_T56 l0 x10_1).f1) != 0) = false := bne_eq_false_iff_eq.mpr c15
                    clear c15
                    by_cases c16 : ((rd_T56 l0 x10_1).f2) = 0
                    · rw [if_pos c16] at H
                      have c16b0 : (((rd_T56 l0 x10_1).f2) == 0) = true := beq_iff_eq.mpr c16
                      have c16b1 : (((rd_T56 l0 x10_1).f2) != 0) = false := bne_eq_false_iff_eq.mpr c16
                      clear c16
                      by_cases c17 : x10_1 > 0
                      · rw [if_pos c17] at H
                        have c17b0 : decide (0 < x10_1) = true := decide_eq_true c17
                        clear c17
                        obtain ⟨ji18, hji18⟩ : ∃ j_ : Int, (wrap64 (x10_1 - 1)) = j_ := ⟨_, rfl⟩
                        replace H : (if 0 ≤ (ji18) then (if (ji18) < (l0.length : Int) then ((impl_Token_isLiteral.f ((rd_T56 l0 (ji18)).f0) ((rd_T56 l0 (ji18)).f1) ((rd_T56 l0 (ji18)).f2)).bind fun t109 => (if t109 = true then (impl_expanded.j1 k1 l0 x4_1 l0 (l0.length : Int) x10_1 (decide ((((rd_T56 l0 (ji18)).f0).size : Int) < 64)) ((rd_T56 l0 x10_1).f0) ((rd_T56 l0 x10_1).f1) ((rd_T56 l0 x10_1).f2)) else (impl_expanded.j1 k1 l0 x4_1 l0 (l0.length : Int) x10_1 false ((rd_T56 l0 x10_1).f0) ((rd_T56 l0 x10_1).f1) ((rd_T56 l0 x10_1).f2)))) else (none)) else (none)) = some (r1, r2) := by first | (rw [hji18] at H; exact H) | (simp only [hji18] at H ⊢; exact H)
                        have hji18w : (IntKind.i64.wrap (x10_1 - 1)) = ji18 := (i64_w _).trans hji18
                        by_cases c19 : 0 ≤ (ji18)
                        · rw [if_pos c19] at H
                          have c19b0 : decide (0 ≤ (ji18)) = true := decide_eq_true c19
                          clear c19
                          by_cases c20 : (ji18) < (l0.length : Int)
                          · rw [if_pos c20] at H
                            have c20b0 : decide ((ji18) < (l0.length : Int)) = true := decide_eq_true c20
                            clear c20
                            replace H := Option.bind_eq_some_iff.mp H
                            obtain ⟨t109, A210, H⟩ := H
                            replace H : (if t109 = true then (impl_expanded.j1 k1 l0 x4_1 l0 (l0.length : Int) x10_1 (decide ((((rd_T56 l0 (ji18)).f0).size : Int) < 64)) ((rd_T56 l0 x10_1).f0) ((rd_T56 l0 x10_1).f1) ((rd_T56 l0 x10_1).f2)) else (impl_expanded.j1 k1 l0 x4_1 l0 (l0.length : Int) x10_1 false ((rd_T56 l0 x10_1).f0) ((rd_T56 l0 x10_1).f1) ((rd_T56 l0 x10_1).f2))) = some (r1, r2) := H
                            have A21 := Aside0.mk A210
                            clear A210
                            by_cases c22 : t109 = true
                            · subst c22
                              have H1 : (impl_expanded.j1 k1 l0 x4_1 l0 (l0.length : Int) x10_1 (decide ((((rd_T56 l0 (ji18)).f0).size : Int) < 64)) ((rd_T56 l0 x10_1).f0) ((rd_T56 l0 x10_1).f1) ((rd_T56 l0 x10_1).f2)) = some (r1, r2) := by rw [if_pos rfl] at H; exact H
                              clear H
                              have H := H1
                              clear H1
                              have H' := Aside0.mk H
                              clear H
                              have hcz23_0 : w12.cell? ⟨gb106, 0, none⟩ = some (.string ((rd_T56 l0 x10_1).f0)) := (blk_cell BK106.out 0).trans rfl
                              have hcz23_1 : w12.cell? ⟨gb106, 1, none⟩ = some (.int .i64 ((rd_T56 l0 x10_1).f1)) := (blk_cell BK106.out 1).trans rfl
                              have hcz23_2 : w12.cell? ⟨gb106, 2, none⟩ = some (.int .i64 ((rd_T56 l0 x10_1).f2)) := (blk_cell BK106.out 2).trans rfl
                              have hfz23_0 := blk_frozen BK106.out 0
                              have hfz23_1 := blk_frozen BK106.out 1
                              have hfz23_2 := blk_frozen BK106.out 2
                              have p108 : 0 ≤ ((ji18) : Int) := of_decide_eq_true (by first | (with_reducible assumption) | assumption)
                              have q108 : (ji18) < (l0.length : Int) := of_decide_eq_true (by first | (with_reducible assumption) | assumption)
                              obtain ⟨ad108, e108, hx108_0, hx108_1, hx108_2⟩ := at_T56 HR0.out (ji18) p108 q108
                              obtain rfl : ad105 = ad108 := (by injection e108)
                              replace hx108_0 := (HB.out.cell (World.block_lt_of_cell? w _ hx108_0)).trans hx108_0
                              replace hx108_1 := (HB.out.cell (World.block_lt_of_cell? w _ hx108_1)).trans hx108_1
                              replace hx108_2 := (HB.out.cell (World.block_lt_of_cell? w _ hx108_2)).trans hx108_2
                              replace p108 := eq_true p108
                              replace q108 := eq_true q108
                              go_wp2_with (first | (go_at_call 67; (with_reducible refine (impl_Token_isLiteral.calls ((rd_T56 l0 (ji18)).f0) ((rd_T56 l0 (ji18)).f1) ((rd_T56 l0 (ji18)).f2) true _ A21.out).mono ?_); rintro e w24 ⟨rfl, hb⟩; have n0_ := Aside0.mk (Kd.R_below (by (with_reducible repeat (first | apply Kd.R_alloc | apply Kd.R_drewN | apply Kd.R_drew)); exact HO_4.out) hb); have n1_ := Aside0.mk (blk_below (g := gb106) (o := .cells #[.string ((rd_T56 l0 x10_1).f0), .int .i64 ((rd_T56 l0 x10_1).f1), .int .i64 ((rd_T56 l0 x10_1).f2)] 56 (0, 0)) (by (with_reducible repeat (first | refine blk_drewN ?_ _ | refine blk_drew ?_ | refine blk_alloc ?_ _)); exact BK106.out) hb); have n2_ := Aside0.mk (below_step (by repeat (first | (with_reducible first | exact HB.out | apply below_alloc | apply pw_below_drewN | apply below_drew1 | refine below_set ?_ GE106.out) | exact HB.out)) hb); clear HO_4; clear BK106; clear HB; have HO_4 := n0_; have BK106 := n1_; have HB := n2_; clear n0_ n1_ n2_; (try clear hb); (try clear hb2); (try clear hk); (try clear hi); have p110 : 0 ≤ ((ji18) : Int) := of_decide_eq_true (by first | (with_reducible assumption) | assumption); have q110 : (ji18) < (l0.length : Int) := of_decide_eq_true (by first | (with_reducible assumption) | assumption); obtain ⟨ad110, e110, hx110_0, hx110_1, hx110_2⟩ := at_T56 HR0.out (ji18) p110 q110; obtain rfl : ad105 = ad110 := (by injection e110); replace hx110_0 := (HB.out.cell (World.block_lt_of_cell? w _ hx110_0)).trans hx110_0; replace hx110_1 := (HB.out.cell (World.block_lt_of_cell? w _ hx110_1)).trans hx110_1; replace hx110_2 := (HB.out.cell (World.block_lt_of_cell? w _ hx110_2)).trans hx110_2; replace p110 := eq_true p110; replace q110 := eq_true q110))
                              go_meet
                              case rel => exact ⟨_, (decide ((((rd_T56 l0 (ji18)).f0).size : Int) < 64)), (by first | rfl | (simp; done) | (simp only [← hji18] <;> (first | rfl | simp)) | (simp [*]; done)), H', ⟨by have := HK1.out; first | omega | exact Nat.le_refl _⟩, ⟨by (with_reducible repeat (first | apply Kd.R_alloc | apply Kd.R_drewN | apply Kd.R_drew)); exact HO_4.out⟩, ⟨by (with_reducible repeat (first | refine blk_drewN ?_ _ | refine blk_drew ?_ | refine blk_alloc ?_ _)); exact BK106.out⟩, ⟨by repeat (first | (with_reducible first | exact HB.out | apply below_alloc | apply pw_below_drewN | apply below_drew1 | refine below_set ?_ GE106.out) | exact HB.out)⟩⟩
                            · replace c22 := Bool.eq_false_iff.mpr c22
                              subst c22
                              have H1 : (impl_expanded.j1 k1 l0 x4_1 l0 (l0.length : Int) x10_1 false ((rd_T56 l0 x10_1).f0) ((rd_T56 l0 x10_1).f1) ((rd_T56 l0 x10_1).f2)) = some (r1, r2) := by rw [if_neg (show ¬ (false = true) by decide)] at H; exact H
                              clear H
                              have H := H1
                              clear H1
                              have H' := Aside0.mk H
                              clear H
                              have hcz25_0 : w12.cell? ⟨gb106, 0, none⟩ = some (.string ((rd_T56 l0 x10_1).f0)) := (blk_cell BK106.out 0).trans rfl
                              have hcz25_1 : w12.cell? ⟨gb106, 1, none⟩ = some (.int .i64 ((rd_T56 l0 x10_1).f1)) := (blk_cell BK106.out 1).trans rfl
                              have hcz25_2 : w12.cell? ⟨gb106, 2, none⟩ = some (.int .i64 ((rd_T56 l0 x10_1).f2)) := (blk_cell BK106.out 2).trans rfl
                              have hfz25_0 := blk_frozen BK106.out 0
                              have hfz25_1 := blk_frozen BK106.out 1
                              have hfz25_2 := blk_frozen BK106.out 2
                              have p108 : 0 ≤ ((ji18) : Int) := of_decide_eq_true (by first | (with_reducible assumption) | assumption)
                              have q108 : (ji18) < (l0.length : Int) := of_decide_eq_true (by first | (with_reducible assumption) | assumption)
                              obtain ⟨ad108, e108, hx108_0, hx108_1, hx108_2⟩ := at_T56 HR0.out (ji18) p108 q108
                              obtain rfl : ad105 = ad108 := (by injection e108)
                              replace hx108_0 := (HB.out.cell (World.block_lt_of_cell? w _ hx108_0)).trans hx108_0
                              replace hx108_1 := (HB.out.cell (World.block_lt_of_cell? w _ hx108_1)).trans hx108_1
                              replace hx108_2 := (HB.out.cell (World.block_lt_of_cell? w _ hx108_2)).trans hx108_2
                              replace p108 := eq_true p108
                              replace q108 := eq_true q108
                              go_wp2_with (first | (go_at_call 67; (with_reducible refine (impl_Token_isLiteral.calls ((rd_T56 l0 (ji18)).f0) ((rd_T56 l0 (ji18)).f1) ((rd_T56 l0 (ji18)).f2) false _ A21.out).mono ?_); rintro e w26 ⟨rfl, hb⟩; have n0_ := Aside0.mk (Kd.R_below (by (with_reducible repeat (first | apply Kd.R_alloc | apply Kd.R_drewN | apply Kd.R_drew)); exact HO_4.out) hb); have n1_ := Aside0.mk (blk_below (g := gb106) (o := .cells #[.string ((rd_T56 l0 x10_1).f0), .int .i64 ((rd_T56 l0 x10_1).f1), .int .i64 ((rd_T56 l0 x10_1).f2)] 56 (0, 0)) (by (with_reducible repeat (first | refine blk_drewN ?_ _ | refine blk_drew ?_ | refine blk_alloc ?_ _)); exact BK106.out) hb); have n2_ := Aside0.mk (below_step (by repeat (first | (with_reducible first | exact HB.out | apply below_alloc | apply pw_below_drewN | apply below_drew1 | refine below_set ?_ GE106.out) | exact HB.out)) hb); clear HO_4; clear BK106; clear HB; have HO_4 := n0_; have BK106 := n1_; have HB := n2_; clear n0_ n1_ n2_; (try clear hb); (try clear hb2); (try clear hk); (try clear hi)))
                              go_meet
                              case rel => exact ⟨_, (false), (by first | rfl | (simp; done) | (simp [*]; done)), H', ⟨by have := HK1.out; first | omega | exact Nat.le_refl _⟩, ⟨by (with_reducible repeat (first | apply Kd.R_alloc | apply Kd.R_drewN | apply Kd.R_drew)); exact HO_4.out⟩, ⟨by (with_reducible repeat (first | refine blk_drewN ?_ _ | refine blk_drew ?_ | refine blk_alloc ?_ _)); exact BK106.out⟩, ⟨by repeat (first | (with_reducible first | exact HB.out | apply below_alloc | apply pw_below_drewN | apply below_drew1 | refine below_set ?_ GE106.out) | exact HB.out)⟩⟩
                          · rw [if_neg c20] at H
                            exact absurd H (by simp)
                        · rw [if_neg c19] at H
                          exact absurd H (by simp)
                      · rw [if_neg c17] at H
                        have c17b0 : decide (0 < x10_1) = false := decide_eq_false c17
                        clear c17
                        have H' := Aside0.mk H
                        clear H
                        have hcz27_0 : w12.cell? ⟨gb106, 0, none⟩ = some (.string ((rd_T56 l0 x10_1).f0)) := (blk_cell BK106.out 0).trans rfl
                        have hcz27_1 : w12.cell? ⟨gb106, 1, none⟩ = some (.int .i64 ((rd_T56 l0 x10_1).f1)) := (blk_cell BK106.out 1).trans rfl
                        have hcz27_2 : w12.cell? ⟨gb106, 2, none⟩ = some (.int .i64 ((rd_T56 l0 x10_1).f2)) := (blk_cell BK106.out 2).trans rfl
                        have hfz27_0 := blk_frozen BK106.out 0
                        have hfz27_1 := blk_frozen BK106.out 1
                        have hfz27_2 := blk_frozen BK106.out 2
                        go_wp2
                        go_meet
                        case rel => exact ⟨_, (false), (by first | rfl | (simp; done) | (simp [*]; done)), H', ⟨by have := HK1.out; first | omega | exact Nat.le_refl _⟩, ⟨by (with_reducible repeat (first | apply Kd.R_alloc | apply Kd.R_drewN | apply Kd.R_drew)); exact HO_4.out⟩, ⟨by (with_reducible repeat (first | refine blk_drewN ?_ _ | refine blk_drew ?_ | refine blk_alloc ?_ _)); exact BK106.out⟩, ⟨by repeat (first | (with_reducible first | exact HB.out | apply below_alloc | apply pw_below_drewN | apply below_drew1 | refine below_set ?_ GE106.out) | exact HB.out)⟩⟩
                    · rw [if_neg c16] at H
                      have c16b0 : (((rd_T56 l0 x10_1).f2) == 0) = false := beq_eq_false_iff_ne.mpr c16
                      have c16b1 : (((rd_T56 l0 x10_1).f2) != 0) = true := bne_iff_ne.mpr c16
                      have H' := Aside0.mk H
                      clear H
                      have hcz28_0 : w12.cell? ⟨gb106, 0, none⟩ = some (.string ((rd_T56 l0 x10_1).f0)) := (blk_cell BK106.out 0).trans rfl
                      have hcz28_1 : w12.cell? ⟨gb106, 1, none⟩ = some (.int .i64 ((rd_T56 l0 x10_1).f1)) := (blk_cell BK106.out 1).trans rfl
                      have hcz28_2 : w12.cell? ⟨gb106, 2, none⟩ = some (.int .i64 ((rd_T56 l0 x10_1).f2)) := (blk_cell BK106.out 2).trans rfl
                      have hfz28_0 := blk_frozen BK106.out 0
                      have hfz28_1 := blk_frozen BK106.out 1
                      have hfz28_2 := blk_frozen BK106.out 2
                      go_wp2
                      go_meet
                      case rel => exact ⟨_, (true), (by first | rfl | (simp; done) | (simp [*]; done)), H', ⟨by have := HK1.out; first | omega | exact Nat.le_refl _⟩, ⟨by (with_reducible repeat (first | apply Kd.R_alloc | apply Kd.R_drewN | apply Kd.R_drew)); exact HO_4.out⟩, ⟨by (with_reducible repeat (first | refine blk_drewN ?_ _ | refine blk_drew ?_ | refine blk_alloc ?_ _)); exact BK106.out⟩, ⟨by repeat (first | (with_reducible first | exact HB.out | apply below_alloc | apply pw_below_drewN | apply below_drew1 | refine below_set ?_ GE106.out) | exact HB.out)⟩⟩
                  · rw [if_neg c15] at H
                    have c15b0 : (((rd_T56 l0 x10_1).f1) == 0) = false := beq_eq_false_iff_ne.mpr c15
                    have c15b1 : (((rd_T56 l0 x10_1).f1) != 0) = true := bne_iff_ne.mpr c15
                    have H' := Aside0.mk H
                    clear H
                    have hcz29_0 : w12.cell? ⟨gb106, 0, none⟩ = some (.string ((rd_T56 l0 x10_1).f0)) := (blk_cell BK106.out 0).trans rfl
                    have hcz29_1 : w12.cell? ⟨gb106, 1, none⟩ = some (.int .i64 ((rd_T56 l0 x10_1).f1)) := (blk_cell BK106.out 1).trans rfl
                    have hcz29_2 : w12.cell? ⟨gb106, 2, none⟩ = some (.int .i64 ((rd_T56 l0 x10_1).f2)) := (blk_cell BK106.out 2).trans rfl
                    have hfz29_0 := blk_frozen BK106.out 0
                    have hfz29_1 := blk_frozen BK106.out 1
                    have hfz29_2 := blk_frozen BK106.out 2
                    go_wp2
                    go_meet
                    case rel => exact ⟨_, (true), (by first | rfl | (simp; done) | (simp [*]; done)), H', ⟨by have := HK1.out; first | omega | exact Nat.le_refl _⟩, ⟨by (with_reducible repeat (first | apply Kd.R_alloc | apply Kd.R_drewN | apply Kd.R_drew)); exact HO_4.out⟩, ⟨by (with_reducible repeat (first | refine blk_drewN ?_ _ | refine blk_drew ?_ | refine blk_alloc ?_ _)); exact BK106.out⟩, ⟨by repeat (first | (with_reducible first | exact HB.out | apply below_alloc | apply pw_below_drewN | apply below_drew1 | refine below_set ?_ GE106.out) | exact HB.out)⟩⟩
              case rest =>
                clear HC9
                try clear c1
                try clear p1
                try clear q1
                try clear hx1
                try clear c2
                try clear p2
                try clear c4
                try clear c4b0
                try clear c5
                try clear c5b0
                try clear c6
                try clear c6b0
                try clear p6
                try clear c8
                try clear p10
                try clear q10
                try clear hx10
                try clear p11
                try clear q11
                try clear hx11
                try clear c13
                try clear c13b0
                try clear c13b1
                try clear c15
                try clear c15b0
                try clear c15b1
                try clear c16
                try clear c16b0
                try clear c16b1
                try clear c17
                try clear c17b0
                try clear c19
                try clear c19b0
                try clear c20
                try clear c20b0
                try clear c22
                try clear hcz11_0
                try clear hcz11_1
                try clear hcz11_2
                try clear hcz14_0
                try clear hcz14_1
                try clear hcz14_2
                try clear hcz23_0
                try clear hcz23_1
                try clear hcz23_2
                try clear hcz25_0
                try clear hcz25_1
                try clear hcz25_2
                try clear hcz27_0
                try clear hcz27_1
                try clear hcz27_2
                try clear hcz28_0
                try clear hcz28_1
                try clear hcz28_2
                try clear hcz29_0
                try clear hcz29_1
                try clear hcz29_2
                try clear hfz11_0
                try clear hfz11_1
                try clear hfz11_2
                try clear hfz14_0
                try clear hfz14_1
                try clear hfz14_2
                try clear hfz23_0
                try clear hfz23_1
                try clear hfz23_2
                try clear hfz25_0
                try clear hfz25_1
                try clear hfz25_2
                try clear hfz27_0
                try clear hfz27_1
                try clear hfz27_2
                try clear hfz28_0
                try clear hfz28_1
                try clear hfz28_2
                try clear hfz29_0
                try clear hfz29_1
                try clear hfz29_2
                try clear hx105_0
                try clear hx105_1
                try clear hx105_2
                try clear hx108_0
                try clear hx108_1
                try clear hx108_2
                try clear hx110_0
                try clear hx110_1
                try clear hx110_2
                try clear p105
                try clear p108
                try clear p110
                try clear p2
                try clear q105
                try clear q108
                try clear q110
                obtain ⟨kq, x52_8, rfl, HA, HJ8, HO_4, BK106, HB⟩ := hcut
                cases kq with
                | zero => exact absurd HA.out (by simp [impl_expanded.j1])
                | succ kj8 =>
                  have H := HA.out
                  clear HA
                  simp only [impl_expanded.j1] at H
                  by_cases c30 : x52_8 = true
                  · subst c30
                    have H1 : (some ((⟨#[]⟩ : ByteArray), false)) = some (r1, r2) := by rw [if_pos rfl] at H; exact H
                    clear H
                    have H := H1
                    clear H1
                    simp only [Option.some.injEq, Prod.mk.injEq] at H
                    obtain ⟨rfl, rfl⟩ := H
                    go_wp2
                    go_ret2
                    exact ⟨by first | rfl | (simp [errW_none, errW_some] <;> rfl) | (simp [*, errW_none, errW_some] <;> rfl) | (simp [Go.Proofs.Ytgglcpcfmhpcmaa.E.isEmpty_bne]; done) | (rw [Go.Proofs.Ytgglcpcfmhpcmaa.E.bne_empty]), by repeat (first | (with_reducible first | exact HB.out | apply below_alloc | apply pw_below_drewN | apply below_drew1 | refine below_set ?_ GE106.out) | exact HB.out)⟩
                  · replace c30 := Bool.eq_false_iff.mpr c30
                    subst c30
                    have H1 : (if x4_1.length + ((rd_T56 l0 x10_1).f0).size < 140737488355328 then ((some (x4_1 ++ bytesOf ((rd_T56 l0 x10_1).f0) : List Int)).bind fun y111 => (if (y111.length : Int) > 600 then (some ((⟨#[]⟩ : ByteArray), false)) else (impl_expanded.l0 kj8 l0 y111 l0 (l0.length : Int) (wrap64 (x10_1 + 1))))) else (none)) = some (r1, r2) := by rw [if_neg (show ¬ (false = true) by decide)] at H; exact H
                    clear H
                    have H := H1
                    clear H1
                    by_cases c31 : x4_1.length + ((rd_T56 l0 x10_1).f0).size < 140737488355328
                    · rw [if_pos c31] at H
                      have LMc31 := Aside0.mk c31
                      clear c31
                      obtain ⟨y111, hy111⟩ : ∃ y_ : List Int, y_ = (x4_1 ++ bytesOf ((rd_T56 l0 x10_1).f0)) := ⟨_, rfl⟩
                      replace H : (if (y111.length : Int) > 600 then (some ((⟨#[]⟩ : ByteArray), false)) else (impl_expanded.l0 kj8 l0 y111 l0 (l0.length : Int) (wrap64 (x10_1 + 1)))) = some (r1, r2) := by first | (rw [hy111]; with_reducible exact H) | (have H2_ := (Option.bind_some _ _).symm.trans H; rw [hy111]; with_reducible exact H2_) | (have H2_ := (Option.bind_some _ _).symm.trans H; with_reducible exact H2_) | with_reducible exact H | (rw [hy111]; exact H) | exact H
                      have Ny111 := Aside0.mk hy111
                      clear hy111
                      by_cases c32 : (y111.length : Int) > 600
                      · rw [if_pos c32] at H
                        have c32b0 : decide (600 < (y111.length : Int)) = true := decide_eq_true c32
                        have c32b1 : decide (600 < y111.length) = true := decide_eq_true (by omega)
                        clear c32
                        simp only [Option.some.injEq, Prod.mk.injEq] at H
                        obtain ⟨rfl, rfl⟩ := H
                        have hcz33_0 : wc.cell? ⟨gb106, 0, none⟩ = some (.string ((rd_T56 l0 x10_1).f0)) := (blk_cell BK106.out 0).trans rfl
                        have hcz33_1 : wc.cell? ⟨gb106, 1, none⟩ = some (.int .i64 ((rd_T56 l0 x10_1).f1)) := (blk_cell BK106.out 1).trans rfl
                        have hcz33_2 : wc.cell? ⟨gb106, 2, none⟩ = some (.int .i64 ((rd_T56 l0 x10_1).f2)) := (blk_cell BK106.out 2).trans rfl
                        have hfz33_0 := blk_frozen BK106.out 0
                        have hfz33_1 := blk_frozen BK106.out 1
                        have hfz33_2 := blk_frozen BK106.out 2
                        go_wp2_with (first | (at_builtin; refine print_append_str (w0 := w) w.heap.size rfl (.tmp 53) _ 37 9 5 rfl Try.underlying37 Try.underlying9 info5 u4 x4_1 ((rd_T56 l0 x10_1).f0) rfl rfl ?aO ?aB ?aS ?aL ?_; (case aB => exact (by repeat (first | (with_reducible first | exact HB.out | apply below_alloc | apply pw_below_drewN | apply below_drew1 | refine below_set ?_ GE106.out) | exact HB.out))); (case aO => exact (Kd.own_of_R (by (with_reducible repeat (first | apply Kd.R_alloc | apply Kd.R_drewN | apply Kd.R_drew)); exact HO_4.out))); (case aS => exact (below_size (by repeat (first | (with_reducible first | exact HB.out | apply below_alloc | apply pw_below_drewN | apply below_drew1 | refine below_set ?_ GE106.out) | exact HB.out)))); (case aL => have := LMc31.out; omega); intro v112 w34 ho0 hb hg; have ho := Kd.R_of_own (h1 := fun _ => rfl) (ok := fun _ => True) ho0 (fun _ _ => trivial); clear ho0; have hat := True.intro; rw [← Ny111.out] at ho; change Kd.R (Kd.int .u8) 5 w34 w.heap.size (fun _ => True) v112 y111 at ho; have n0_ := Aside0.mk (blk_grown (g := gb106) (o := .cells #[.string ((rd_T56 l0 x10_1).f0), .int .i64 ((rd_T56 l0 x10_1).f1), .int .i64 ((rd_T56 l0 x10_1).f2)] 56 (0, 0)) (by (with_reducible repeat (first | refine blk_drewN ?_ _ | refine blk_drew ?_ | refine blk_alloc ?_ _)); exact BK106.out) hg (Kd.R_ne HO_4.out BK106.out (by decide))); have n1_ := Aside0.mk (hb); have n2_ := Aside0.mk (ho); clear BK106; clear HB; clear HO_4; have BK106 := n0_; have HB := n1_; have HO113 := n2_; clear n0_ n1_ n2_; clear ho hb hg hat; obtain ⟨Ao35, co35, eo35⟩ := Kd.R_slice HO113.out; subst eo35))
                        go_ret2
                        exact ⟨by first | rfl | (simp [errW_none, errW_some] <;> rfl) | (simp [*, errW_none, errW_some] <;> rfl) | (simp [Go.Proofs.Ytgglcpcfmhpcmaa.E.isEmpty_bne]; done) | (rw [Go.Proofs.Ytgglcpcfmhpcmaa.E.bne_empty]), by repeat (first | (with_reducible first | exact HB.out | apply below_alloc | apply pw_below_drewN | apply below_drew1 | refine below_set ?_ GE106.out) | exact HB.out)⟩
                      · rw [if_neg c32] at H
                        have c32b0 : decide (600 < (y111.length : Int)) = false := decide_eq_false c32
                        have c32b1 : decide (600 < y111.length) = false := decide_eq_false (by omega)
                        clear c32
                        have H' := Aside0.mk H
                        clear H
                        have hcz36_0 : wc.cell? ⟨gb106, 0, none⟩ = some (.string ((rd_T56 l0 x10_1).f0)) := (blk_cell BK106.out 0).trans rfl
                        have hcz36_1 : wc.cell? ⟨gb106, 1, none⟩ = some (.int .i64 ((rd_T56 l0 x10_1).f1)) := (blk_cell BK106.out 1).trans rfl
                        have hcz36_2 : wc.cell? ⟨gb106, 2, none⟩ = some (.int .i64 ((rd_T56 l0 x10_1).f2)) := (blk_cell BK106.out 2).trans rfl
                        have hfz36_0 := blk_frozen BK106.out 0
                        have hfz36_1 := blk_frozen BK106.out 1
                        have hfz36_2 := blk_frozen BK106.out 2
                        go_wp2_with (first | (at_builtin; refine print_append_str (w0 := w) w.heap.size rfl (.tmp 53) _ 37 9 5 rfl Try.underlying37 Try.underlying9 info5 u4 x4_1 ((rd_T56 l0 x10_1).f0) rfl rfl ?aO ?aB ?aS ?aL ?_; (case aB => exact (by repeat (first | (with_reducible first | exact HB.out | apply below_alloc | apply pw_below_drewN | apply below_drew1 | refine below_set ?_ GE106.out) | exact HB.out))); (case aO => exact (Kd.own_of_R (by (with_reducible repeat (first | apply Kd.R_alloc | apply Kd.R_drewN | apply Kd.R_drew)); exact HO_4.out))); (case aS => exact (below_size (by repeat (first | (with_reducible first | exact HB.out | apply below_alloc | apply pw_below_drewN | apply below_drew1 | refine below_set ?_ GE106.out) | exact HB.out)))); (case aL => have := LMc31.out; omega); intro v112 w37 ho0 hb hg; have ho := Kd.R_of_own (h1 := fun _ => rfl) (ok := fun _ => True) ho0 (fun _ _ => trivial); clear ho0; have hat := True.intro; rw [← Ny111.out] at ho; change Kd.R (Kd.int .u8) 5 w37 w.heap.size (fun _ => True) v112 y111 at ho; have n0_ := Aside0.mk (blk_grown (g := gb106) (o := .cells #[.string ((rd_T56 l0 x10_1).f0), .int .i64 ((rd_T56 l0 x10_1).f1), .int .i64 ((rd_T56 l0 x10_1).f2)] 56 (0, 0)) (by (with_reducible repeat (first | refine blk_drewN ?_ _ | refine blk_drew ?_ | refine blk_alloc ?_ _)); exact BK106.out) hg (Kd.R_ne HO_4.out BK106.out (by decide))); have n1_ := Aside0.mk (hb); have n2_ := Aside0.mk (ho); clear BK106; clear HB; clear HO_4; have BK106 := n0_; have HB := n1_; have HO113 := n2_; clear n0_ n1_ n2_; clear ho hb hg hat; obtain ⟨Ao38, co38, eo38⟩ := Kd.R_slice HO113.out; subst eo38))
                        go_roundg kj8
                        case measure => have := HK1.out; have := HJ8.out; omega
                        case rel => exact ⟨(y111), (wrap64 (x10_1 + 1)), (by first | rfl | (simp; done) | (simp [*]; done)), H', ⟨by have := HK1.out; have := HJ8.out; omega⟩, ⟨by (with_reducible repeat (first | apply Kd.R_alloc | apply Kd.R_drewN | apply Kd.R_drew)); exact HO113.out⟩, ⟨by repeat (first | (with_reducible first | exact HB.out | apply below_alloc | apply pw_below_drewN | apply below_drew1 | refine below_set ?_ GE106.out) | exact HB.out)⟩⟩
                    · rw [if_neg c31] at H
                      exact absurd H (by simp)
            · replace c8 := Bool.eq_false_iff.mpr c8
              subst c8
              have H1 : ((impl_within.f ((rd_T56 l0 x10_1).f1) 1 (mn 255 (x4_1.length : Int))).bind fun t114 => (if t114 = true then ((impl_within.f ((rd_T56 l0 x10_1).f2) 3 66).bind fun t115 => (impl_expanded.j2 k1 l0 x4_1 l0 (l0.length : Int) x10_1 (!t115) ((rd_T56 l0 x10_1).f0) ((rd_T56 l0 x10_1).f1) ((rd_T56 l0 x10_1).f2))) else (impl_expanded.j2 k1 l0 x4_1 l0 (l0.length : Int) x10_1 true ((rd_T56 l0 x10_1).f0) ((rd_T56 l0 x10_1).f1) ((rd_T56 l0 x10_1).f2)))) = some (r1, r2) := by rw [if_neg (show ¬ (false = true) by decide)] at H; exact H
              clear H
              have H := H1
              clear H1
              have HC39 := Aside0.mk H
              clear H
              have p105 : 0 ≤ (x10_1 : Int) := of_decide_eq_true (by first | (with_reducible assumption) | assumption)
              have q105 : x10_1 < (l0.length : Int) := of_decide_eq_true (by first | (with_reducible assumption) | assumption)
              obtain ⟨ad105, e105, hx105_0, hx105_1, hx105_2⟩ := at_T56 HR0.out x10_1 p105 q105
              cases e105
              replace hx105_0 := (HB.out.cell (World.block_lt_of_cell? w _ hx105_0)).trans hx105_0
              replace hx105_1 := (HB.out.cell (World.block_lt_of_cell? w _ hx105_1)).trans hx105_1
              replace hx105_2 := (HB.out.cell (World.block_lt_of_cell? w _ hx105_2)).trans hx105_2
              replace p105 := eq_true p105
              replace q105 := eq_true q105
              go_upto_region 9 with (first | ((with_reducible refine gate_dst (N := 6) rfl ?_); (try (refine gate_guard (by rfl) ?_; dsimp only)); refine box_event ?hg (N := 6) ?hd (cs := #[.string (⟨#[]⟩ : ByteArray), .int .i64 0, .int .i64 0]) (t := 56) ?hr ?_; (case hd => rfl); (case hg => rfl); (case hr => first | (go_simp; done) | (go_simp; rfl)); intro gb106 hg w40 hbox hb; have n0_ := Aside0.mk (Kd.R_below (by (with_reducible repeat (first | apply Kd.R_alloc | apply Kd.R_drewN | apply Kd.R_drew)); exact HO_4.out) hb); have n1_ := Aside0.mk (below_step (by repeat (first | (with_reducible first | exact HB.out | apply below_alloc | apply pw_below_drewN | apply below_drew1) | exact HB.out)) hb); have n2_ := Aside0.mk (hbox); have n3_ := Aside0.mk ((by rw [hg]; exact (below_size (by repeat (first | (with_reducible first | exact HB.out | apply below_alloc | apply pw_below_drewN | apply below_drew1) | exact HB.out))) : w.heap.size ≤ gb106)); have n4_ := Aside0.mk ((by rw [hg]; exact (below_size (by repeat (first | (with_reducible first | exact HB.out | apply below_alloc | apply pw_below_drewN | apply below_drew1) | exact HB.out))) : w.heap.size ≤ gb106)); clear HO_4; clear HB; have HO_4 := n0_; have HB := n1_; have BK106 := n2_; have GW106 := n3_; have GE106 := n4_; clear n0_ n1_ n2_ n3_ n4_; clear hb hbox hg; have hcz41_0 : w40.cell? ⟨gb106, 0, none⟩ = some (.string (⟨#[]⟩ : ByteArray)) := (blk_cell BK106.out 0).trans rfl; have hcz41_1 : w40.cell? ⟨gb106, 1, none⟩ = some (.int .i64 0) := (blk_cell BK106.out 1).trans rfl; have hcz41_2 : w40.cell? ⟨gb106, 2, none⟩ = some (.int .i64 0) := (blk_cell BK106.out 2).trans rfl; have hfz41_0 := blk_frozen BK106.out 0; have hfz41_1 := blk_frozen BK106.out 1; have hfz41_2 := blk_frozen BK106.out 2) | ((with_reducible refine gate_callee (f := 67) rfl ?_); refine goesL_ (some 16) rfl rfl Try.func67 (by kernel_rfl) rfl #[.agg #[.string ((rd_T56 l0 x10_1).f0), .int .i64 ((rd_T56 l0 x10_1).f1), .int .i64 ((rd_T56 l0 x10_1).f2)]] rfl (by (try simp only [List.map_toArray, List.map_cons, List.map_nil]); first | done | rfl | (simp only [List.length_drop, List.length_take]; rfl)) ?_; (with_reducible refine (impl_Token_isLiteral.calls ((rd_T56 l0 x10_1).f0) ((rd_T56 l0 x10_1).f1) ((rd_T56 l0 x10_1).f2) false _ A7.out).mono ?_); rintro e w42 ⟨rfl, hb⟩; refine ⟨_, rfl, ?_⟩; have n0_ := Aside0.mk (Kd.R_below (by (with_reducible repeat (first | apply Kd.R_alloc | apply Kd.R_drewN | apply Kd.R_drew)); exact (Kd.R_mono (Kd.R_far (p := ⟨gb106, 2, none⟩) (Kd.R_far (p := ⟨gb106, 1, none⟩) (Kd.R_far (p := ⟨gb106, 0, none⟩) (Kd.R_types HO_4.out BK106.out (by decide)) (fun _ hk => hk.2) (.string ((rd_T56 l0 x10_1).f0))) (fun _ hk => hk.2) (.int .i64 ((rd_T56 l0 x10_1).f1))) (fun _ hk => hk.2) (.int .i64 ((rd_T56 l0 x10_1).f2))) (fun _ h_ => h_.1))) hb); have n1_ := Aside0.mk (blk_below (g := gb106) (o := .cells #[.string ((rd_T56 l0 x10_1).f0), .int .i64 ((rd_T56 l0 x10_1).f1), .int .i64 ((rd_T56 l0 x10_1).f2)] 56 (0, 0)) (by (with_reducible repeat (first | refine blk_drewN ?_ _ | refine blk_drew ?_ | refine blk_alloc ?_ _)); refine blk_put (cs := #[.string ((rd_T56 l0 x10_1).f0), .int .i64 ((rd_T56 l0 x10_1).f1), .int .i64 0]) ?_ 2 _ rfl; (with_reducible repeat (first | refine blk_drewN ?_ _ | refine blk_drew ?_ | refine blk_alloc ?_ _)); refine blk_put (cs := #[.string ((rd_T56 l0 x10_1).f0), .int .i64 0, .int .i64 0]) ?_ 1 _ rfl; (with_reducible repeat (first | refine blk_drewN ?_ _ | refine blk_drew ?_ | refine blk_alloc ?_ _)); refine blk_put (cs := #[.string (⟨#[]⟩ : ByteArray), .int .i64 0, .int .i64 0]) ?_ 0 _ rfl; (with_reducible repeat (first | refine blk_drewN ?_ _ | refine blk_drew ?_ | refine blk_alloc ?_ _)); exact BK106.out) hb); have n2_ := Aside0.mk (below_step (by repeat (first | (with_reducible first | exact HB.out | apply below_alloc | apply pw_below_drewN | apply below_drew1 | refine below_set ?_ GE106.out) | exact HB.out)) hb); clear HO_4; clear BK106; clear HB; have HO_4 := n0_; have BK106 := n1_; have HB := n2_; clear n0_ n1_ n2_; (try clear hb); (try clear hb2); (try clear hk); (try clear hi)))
              (try simp only [Act.put, List.setIfInBounds_toArray, List.set_cons_zero, List.set_cons_succ])
              go_cut [69] (fun v69 wc => ∃ (kq : Nat) (x69_38 : Bool), v69 = .bool x69_38 ∧ Aside0 (impl_expanded.j2 kq l0 x4_1 l0 (l0.length : Int) x10_1 x69_38 ((rd_T56 l0 x10_1).f0) ((rd_T56 l0 x10_1).f1) ((rd_T56 l0 x10_1).f2) = some (r1, r2)) ∧ Aside0 (kq ≤ k1) ∧ Aside0 (Kd.R (Kd.int .u8) 5 wc w.heap.size (fun _ => True) u4 x4_1) ∧ Aside0 (wc.heap[gb106]? = some (.cells #[.string ((rd_T56 l0 x10_1).f0), .int .i64 ((rd_T56 l0 x10_1).f1), .int .i64 ((rd_T56 l0 x10_1).f2)] 56 (0, 0))) ∧ Aside0 (Below w.heap.size w wc))
              case first =>
                have H := HC39.out
                clear HC39
                obtain ⟨ji43, hji43⟩ : ∃ j_ : Int, (mn 255 (x4_1.length : Int)) = j_ := ⟨_, rfl⟩
                replace H : ((impl_within.f ((rd_T56 l0 x10_1).f1) 1 (ji43)).bind fun t114 => (if t114 = true then ((impl_within.f ((rd_T56 l0 x10_1).f2) 3 66).bind fun t115 => (impl_expanded.j2 k1 l0 x4_1 l0 (l0.length : Int) x10_1 (!t115) ((rd_T56 l0 x10_1).f0) ((rd_T56 l0 x10_1).f1) ((rd_T56 l0 x10_1).f2))) else (impl_expanded.j2 k1 l0 x4_1 l0 (l0.length : Int) x10_1 true ((rd_T56 l0 x10_1).f0) ((rd_T56 l0 x10_1).f1) ((rd_T56 l0 x10_1).f2)))) = some (r1, r2) := by first | (rw [hji43] at H; exact H) | (simp only [hji43] at H ⊢; exact H)
                have hji43_ : (if (x4_1.length : Int) < 255 then (x4_1.length : Int) else 255) = ji43 := hji43
                replace H := Option.bind_eq_some_iff.mp H
                obtain ⟨t114, A440, H⟩ := H
                replace H : (if t114 = true then ((impl_within.f ((rd_T56 l0 x10_1).f2) 3 66).bind fun t115 => (impl_expanded.j2 k1 l0 x4_1 l0 (l0.length : Int) x10_1 (!t115) ((rd_T56 l0 x10_1).f0) ((rd_T56 l0 x10_1).f1) ((rd_T56 l0 x10_1).f2))) else (impl_expanded.j2 k1 l0 x4_1 l0 (l0.length : Int) x10_1 true ((rd_T56 l0 x10_1).f0) ((rd_T56 l0 x10_1).f1) ((rd_T56 l0 x10_1).f2))) = some (r1, r2) := H
                have A44 := Aside0.mk A440
                clear A440
                by_cases c45 : t114 = true
                · subst c45
                  have H1 : ((impl_within.f ((rd_T56 l0 x10_1).f2) 3 66).bind fun t115 => (impl_expanded.j2 k1 l0 x4_1 l0 (l0.length : Int) x10_1 (!t115) ((rd_T56 l0 x10_1).f0) ((rd_T56 l0 x10_1).f1) ((rd_T56 l0 x10_1).f2))) = some (r1, r2) := by rw [if_pos rfl] at H; exact H
                  clear H
                  have H := H1
                  clear H1
                  replace H := Option.bind_eq_some_iff.mp H
                  obtain ⟨t115, A460, H⟩ := H
                  replace H : (impl_expanded.j2 k1 l0 x4_1 l0 (l0.length : Int) x10_1 (!t115) ((rd_T56 l0 x10_1).f0) ((rd_T56 l0 x10_1).f1) ((rd_T56 l0 x10_1).f2)) = some (r1, r2) := H
                  have A46 := Aside0.mk A460
                  clear A460
                  have H' := Aside0.mk H
                  clear H
                  have hcz47_0 : w42.cell? ⟨gb106, 0, none⟩ = some (.string ((rd_T56 l0 x10_1).f0)) := (blk_cell BK106.out 0).trans rfl
                  have hcz47_1 : w42.cell? ⟨gb106, 1, none⟩ = some (.int .i64 ((rd_T56 l0 x10_1).f1)) := (blk_cell BK106.out 1).trans rfl
                  have hcz47_2 : w42.cell? ⟨gb106, 2, none⟩ = some (.int .i64 ((rd_T56 l0 x10_1).f2)) := (blk_cell BK106.out 2).trans rfl
                  have hfz47_0 := blk_frozen BK106.out 0
                  have hfz47_1 := blk_frozen BK106.out 1
                  have hfz47_2 := blk_frozen BK106.out 2
                  obtain ⟨Ao48, co48, eo48⟩ := Kd.R_slice HO_4.out
                  subst eo48
                  go_wp2_with (first | ((with_reducible refine gate_callee (f := 45) rfl ?_); refine goesL_ (some 62) rfl rfl Try.func45 (by kernel_rfl) rfl #[.int .i64 ((rd_T56 l0 x10_1).f1), .int .i64 1, .int .i64 ji43] rfl (by (try simp only [List.map_toArray, List.map_cons, List.map_nil]); first | done | (simp only [hji43]; rfl) | rfl | (simp only [List.length_drop, List.length_take]; rfl)) ?_; (with_reducible refine (impl_within.calls ((rd_T56 l0 x10_1).f1) 1 ji43 true _ A44.out).mono ?_); rintro e w' ⟨rfl, ⟨nd, rfl⟩⟩; refine ⟨_, rfl, ?_⟩) | (go_at_call 45; (with_reducible refine (impl_within.calls ((rd_T56 l0 x10_1).f2) 3 66 t115 _ A46.out).mono ?_); rintro e w' ⟨rfl, ⟨nd, rfl⟩⟩))
                  go_meet
                  case rel => exact ⟨_, (!t115), (by first | rfl | (simp; done) | (simp [*]; done)), H', ⟨by have := HK1.out; first | omega | exact Nat.le_refl _⟩, ⟨by (with_reducible repeat (first | apply Kd.R_alloc | apply Kd.R_drewN | apply Kd.R_drew)); exact HO_4.out⟩, ⟨by (with_reducible repeat (first | refine blk_drewN ?_ _ | refine blk_drew ?_ | refine blk_alloc ?_ _)); exact BK106.out⟩, ⟨by repeat (first | (with_reducible first | exact HB.out | apply below_alloc | apply pw_below_drewN | apply below_drew1 | refine below_set ?_ GE106.out) | exact HB.out)⟩⟩
                · replace c45 := Bool.eq_false_iff.mpr c45
                  subst c45
                  have H1 : (impl_expanded.j2 k1 l0 x4_1 l0 (l0.length : Int) x10_1 true ((rd_T56 l0 x10_1).f0) ((rd_T56 l0 x10_1).f1) ((rd_T56 l0 x10_1).f2)) = some (r1, r2) := by rw [if_neg (show ¬ (false = true) by decide)] at H; exact H
                  clear H
                  have H := H1
                  clear H1
                  have H' := Aside0.mk H
                  clear H
                  have hcz49_0 : w42.cell? ⟨gb106, 0, none⟩ = some (.string ((rd_T56 l0 x10_1).f0)) := (blk_cell BK106.out 0).trans rfl
                  have hcz49_1 : w42.cell? ⟨gb106, 1, none⟩ = some (.int .i64 ((rd_T56 l0 x10_1).f1)) := (blk_cell BK106.out 1).trans rfl
                  have hcz49_2 : w42.cell? ⟨gb106, 2, none⟩ = some (.int .i64 ((rd_T56 l0 x10_1).f2)) := (blk_cell BK106.out 2).trans rfl
                  have hfz49_0 := blk_frozen BK106.out 0
                  have hfz49_1 := blk_frozen BK106.out 1
                  have hfz49_2 := blk_frozen BK106.out 2
                  obtain ⟨Ao50, co50, eo50⟩ := Kd.R_slice HO_4.out
                  subst eo50
                  go_wp2_with (first | ((with_reducible refine gate_callee (f := 45) rfl ?_); refine goesL_ (some 62) rfl rfl Try.func45 (by kernel_rfl) rfl #[.int .i64 ((rd_T56 l0 x10_1).f1), .int .i64 1, .int .i64 ji43] rfl (by (try simp only [List.map_toArray, List.map_cons, List.map_nil]); first | done | (simp only [hji43]; rfl) | rfl | (simp only [List.length_drop, List.length_take]; rfl)) ?_; (with_reducible refine (impl_within.calls ((rd_T56 l0 x10_1).f1) 1 ji43 false _ A44.out).mono ?_); rintro e w' ⟨rfl, ⟨nd, rfl⟩⟩; refine ⟨_, rfl, ?_⟩))
                  go_meet
                  case rel => exact ⟨_, (true), (by first | rfl | (simp; done) | (simp [*]; done)), H', ⟨by have := HK1.out; first | omega | exact Nat.le_refl _⟩, ⟨by (with_reducible repeat (first | apply Kd.R_alloc | apply Kd.R_drewN | apply Kd.R_drew)); exact HO_4.out⟩, ⟨by (with_reducible repeat (first | refine blk_drewN ?_ _ | refine blk_drew ?_ | refine blk_alloc ?_ _)); exact BK106.out⟩, ⟨by repeat (first | (with_reducible first | exact HB.out | apply below_alloc | apply pw_below_drewN | apply below_drew1 | refine below_set ?_ GE106.out) | exact HB.out)⟩⟩
              case rest =>
                clear HC39
                try clear c1
                try clear p1
                try clear q1
                try clear hx1
                try clear c2
                try clear p2
                try clear c3
                try clear c4
                try clear c4b0
                try clear c5
                try clear c5b0
                try clear c6
                try clear c6b0
                try clear p6
                try clear c8
                try clear p10
                try clear q10
                try clear hx10
                try clear p11
                try clear q11
                try clear hx11
                try clear c13
                try clear c13b0
                try clear c13b1
                try clear c15
                try clear c15b0
                try clear c15b1
                try clear c16
                try clear c16b0
                try clear c16b1
                try clear c17
                try clear c17b0
                try clear c19
                try clear c19b0
                try clear c20
                try clear c20b0
                try clear c22
                try clear c30
                try clear c31
                try clear c32
                try clear c32b0
                try clear c32b1
                try clear c45
                try clear hcz11_0
                try clear hcz11_1
                try clear hcz11_2
                try clear hcz14_0
                try clear hcz14_1
                try clear hcz14_2
                try clear hcz23_0
                try clear hcz23_1
                try clear hcz23_2
                try clear hcz25_0
                try clear hcz25_1
                try clear hcz25_2
                try clear hcz27_0
                try clear hcz27_1
                try clear hcz27_2
                try clear hcz28_0
                try clear hcz28_1
                try clear hcz28_2
                try clear hcz29_0
                try clear hcz29_1
                try clear hcz29_2
                try clear hcz33_0
                try clear hcz33_1
                try clear hcz33_2
                try clear hcz36_0
                try clear hcz36_1
                try clear hcz36_2
                try clear hcz41_0
                try clear hcz41_1
                try clear hcz41_2
                try clear hcz47_0
                try clear hcz47_1
                try clear hcz47_2
                try clear hcz49_0
                try clear hcz49_1
                try clear hcz49_2
                try clear hfz11_0
                try clear hfz11_1
                try clear hfz11_2
                try clear hfz14_0
                try clear hfz14_1
                try clear hfz14_2
                try clear hfz23_0
                try clear hfz23_1
                try clear hfz23_2
                try clear hfz25_0
                try clear hfz25_1
                try clear hfz25_2
                try clear hfz27_0
                try clear hfz27_1
                try clear hfz27_2
                try clear hfz28_0
                try clear hfz28_1
                try clear hfz28_2
                try clear hfz29_0
                try clear hfz29_1
                try clear hfz29_2
                try clear hfz33_0
                try clear hfz33_1
                try clear hfz33_2
                try clear hfz36_0
                try clear hfz36_1
                try clear hfz36_2
                try clear hfz41_0
                try clear hfz41_1
                try clear hfz41_2
                try clear hfz47_0
                try clear hfz47_1
                try clear hfz47_2
                try clear hfz49_0
                try clear hfz49_1
                try clear hfz49_2
                try clear hx105_0
                try clear hx105_1
                try clear hx105_2
                try clear hx108_0
                try clear hx108_1
                try clear hx108_2
                try clear hx110_0
                try clear hx110_1
                try clear hx110_2
                try clear p1
                try clear p10
                try clear p105
                try clear p108
                try clear p11
                try clear p110
                try clear p2
                try clear p6
                try clear q1
                try clear q10
                try clear q105
                try clear q108
                try clear q11
                try clear q110
                obtain ⟨kq, x69_38, rfl, HA, HJ38, HO_4, BK106, HB⟩ := hcut
                cases kq with
                | zero => exact absurd HA.out (by simp [impl_expanded.j2])
                | succ kj38 =>
                  have H := HA.out
                  clear HA
                  simp only [impl_expanded.j2] at H
                  by_cases c51 : x69_38 = true
                  · subst c51
                    have H1 : (some ((⟨#[]⟩ : ByteArray), false)) = some (r1, r2) := by rw [if_pos rfl] at H; exact H
                    clear H
                    have H := H1
                    clear H1
                    simp only [Option.some.injEq, Prod.mk.injEq] at H
                    obtain ⟨rfl, rfl⟩ := H
                    go_wp2
                    go_ret2
                    exact ⟨by first | rfl | (simp [errW_none, errW_some] <;> rfl) | (simp [*, errW_none, errW_some] <;> rfl) | (simp [Go.Proofs.Ytgglcpcfmhpcmaa.E.isEmpty_bne]; done) | (rw [Go.Proofs.Ytgglcpcfmhpcmaa.E.bne_empty]), by repeat (first | (with_reducible first | exact HB.out | apply below_alloc | apply pw_below_drewN | apply below_drew1 | refine below_set ?_ GE106.out) | exact HB.out)⟩
                  · replace c51 := Bool.eq_false_iff.mpr c51
                    subst c51
                    have H1 : (impl_expanded.l1 kj38 l0 x4_1 l0 (l0.length : Int) x10_1 ((rd_T56 l0 x10_1).f2) 0 ((rd_T56 l0 x10_1).f0) ((rd_T56 l0 x10_1).f1) ((rd_T56 l0 x10_1).f2)) = some (r1, r2) := by rw [if_neg (show ¬ (false = true) by decide)] at H; exact H
                    clear H
                    have H := H1
                    clear H1
                    have H' := Aside0.mk H
                    clear H
                    have hcz52_0 : wc.cell? ⟨gb106, 0, none⟩ = some (.string ((rd_T56 l0 x10_1).f0)) := (blk_cell BK106.out 0).trans rfl
                    have hcz52_1 : wc.cell? ⟨gb106, 1, none⟩ = some (.int .i64 ((rd_T56 l0 x10_1).f1)) := (blk_cell BK106.out 1).trans rfl
                    have hcz52_2 : wc.cell? ⟨gb106, 2, none⟩ = some (.int .i64 ((rd_T56 l0 x10_1).f2)) := (blk_cell BK106.out 2).trans rfl
                    have hfz52_0 := blk_frozen BK106.out 0
                    have hfz52_1 := blk_frozen BK106.out 1
                    have hfz52_2 := blk_frozen BK106.out 2
                    go_wp2
                    go_loopg [4, 72] kj38 (fun kq v4 v72 w' => ∃ (x4_3 : List Int) (x72_3 : Int), v72 = .int .i64 x72_3 ∧ Aside0 (impl_expanded.l1 kq l0 x4_3 l0 (l0.length : Int) x10_1 ((rd_T56 l0 x10_1).f2) x72_3 ((rd_T56 l0 x10_1).f0) ((rd_T56 l0 x10_1).f1) ((rd_T56 l0 x10_1).f2) = some (r1, r2)) ∧ Aside0 (kq ≤ kj38) ∧ Aside0 (Kd.R (Kd.int .u8) 5 w' w.heap.size (fun _ => True) v4 x4_3) ∧ Aside0 (w'.heap[gb106]? = some (.cells #[.string ((rd_T56 l0 x10_1).f0), .int .i64 ((rd_T56 l0 x10_1).f1), .int .i64 ((rd_T56 l0 x10_1).f2)] 56 (0, 0))) ∧ Aside0 (Below w.heap.size w w'))
                    case atStart => exact ⟨(x4_1), (0), (by first | rfl | (simp; done) | (simp [*]; done)), H', ⟨Nat.le_refl _⟩, ⟨by (with_reducible repeat (first | apply Kd.R_alloc | apply Kd.R_drewN | apply Kd.R_drew)); exact HO_4.out⟩, ⟨by (with_reducible repeat (first | refine blk_drewN ?_ _ | refine blk_drew ?_ | refine blk_alloc ?_ _)); exact BK106.out⟩, ⟨by repeat (first | (with_reducible first | exact HB.out | apply below_alloc | apply pw_below_drewN | apply below_drew1 | refine below_set ?_ GE106.out) | exact HB.out)⟩⟩
                    case round =>
                      clear H'
                      try clear c1
                      try clear p1
                      try clear q1
                      try clear hx1
                      try clear c2
                      try clear p2
                      try clear c3
                      try clear c4
                      try clear c4b0
                      try clear c5
                      try clear c5b0
                      try clear c6
                      try clear c6b0
                      try clear p6
                      try clear c8
                      try clear p10
                      try clear q10
                      try clear hx10
                      try clear p11
                      try clear q11
                      try clear hx11
                      try clear c13
                      try clear c13b0
                      try clear c13b1
                      try clear c15
                      try clear c15b0
                      try clear c15b1
                      try clear c16
                      try clear c16b0
                      try clear c16b1
                      try clear c17
                      try clear c17b0
                      try clear c19
                      try clear c19b0
                      try clear c20
                      try clear c20b0
                      try clear c22
                      try clear c30
                      try clear c31
                      try clear c32
                      try clear c32b0
                      try clear c32b1
                      try clear c45
                      try clear c51
                      try clear hcz11_0
                      try clear hcz11_1
                      try clear hcz11_2
                      try clear hcz14_0
                      try clear hcz14_1
                      try clear hcz14_2
                      try clear hcz23_0
                      try clear hcz23_1
                      try clear hcz23_2
                      try clear hcz25_0
                      try clear hcz25_1
                      try clear hcz25_2
                      try clear hcz27_0
                      try clear hcz27_1
                      try clear hcz27_2
                      try clear hcz28_0
                      try clear hcz28_1
                      try clear hcz28_2
                      try clear hcz29_0
                      try clear hcz29_1
                      try clear hcz29_2
                      try clear hcz33_0
                      try clear hcz33_1
                      try clear hcz33_2
                      try clear hcz36_0
                      try clear hcz36_1
                      try clear hcz36_2
                      try clear hcz41_0
                      try clear hcz41_1
                      try clear hcz41_2
                      try clear hcz47_0
                      try clear hcz47_1
                      try clear hcz47_2
                      try clear hcz49_0
                      try clear hcz49_1
                      try clear hcz49_2
                      try clear hcz52_0
                      try clear hcz52_1
                      try clear hcz52_2
                      try clear hfz11_0
                      try clear hfz11_1
                      try clear hfz11_2
                      try clear hfz14_0
                      try clear hfz14_1
                      try clear hfz14_2
                      try clear hfz23_0
                      try clear hfz23_1
                      try clear hfz23_2
                      try clear hfz25_0
                      try clear hfz25_1
                      try clear hfz25_2
                      try clear hfz27_0
                      try clear hfz27_1
                      try clear hfz27_2
                      try clear hfz28_0
                      try clear hfz28_1
                      try clear hfz28_2
                      try clear hfz29_0
                      try clear hfz29_1
                      try clear hfz29_2
                      try clear hfz33_0
                      try clear hfz33_1
                      try clear hfz33_2
                      try clear hfz36_0
                      try clear hfz36_1
                      try clear hfz36_2
                      try clear hfz41_0
                      try clear hfz41_1
                      try clear hfz41_2
                      try clear hfz47_0
                      try clear hfz47_1
                      try clear hfz47_2
                      try clear hfz49_0
                      try clear hfz49_1
                      try clear hfz49_2
                      try clear hfz52_0
                      try clear hfz52_1
                      try clear hfz52_2
                      try clear hx105_0
                      try clear hx105_1
                      try clear hx105_2
                      try clear hx108_0
                      try clear hx108_1
                      try clear hx108_2
                      try clear hx110_0
                      try clear hx110_1
                      try clear hx110_2
                      try clear p1
                      try clear p10
                      try clear p105
                      try clear p108
                      try clear p11
                      try clear p110
                      try clear p2
                      try clear p6
                      try clear q1
                      try clear q10
                      try clear q105
                      try clear q108
                      try clear q11
                      try clear q110
                      obtain ⟨x4_3, x72_3, rfl, HA, HK3, HO_4, BK106, HB⟩ := hrel
                      cases gk with
                      | zero => exact absurd HA.out (by simp [impl_expanded.l1])
                      | succ k3 =>
                        have H := HA.out
                        clear HA
                        simp only [impl_expanded.l1] at H
                        by_cases c53 : x72_3 < ((rd_T56 l0 x10_1).f2)
                        · rw [if_pos c53] at H
                          have c53b0 : decide (x72_3 < ((rd_T56 l0 x10_1).f2)) = true := decide_eq_true c53
                          clear c53
                          obtain ⟨ji54, hji54⟩ : ∃ j_ : Int, (wrap64 ((x4_3.length : Int) - ((rd_T56 l0 x10_1).f1))) = j_ := ⟨_, rfl⟩
                          replace H : (if 0 ≤ (ji54) then (if (ji54) < (x4_3.length : Int) then (if x4_3.length < 140737488355328 then (impl_expanded.l1 k3 l0 (x4_3 ++ [rd x4_3 (ji54)]) l0 (l0.length : Int) x10_1 ((rd_T56 l0 x10_1).f2) (wrap64 (x72_3 + 1)) ((rd_T56 l0 x10_1).f0) ((rd_T56 l0 x10_1).f1) ((rd_T56 l0 x10_1).f2)) else (none)) else (none)) else (none)) = some (r1, r2) := by first | (rw [hji54] at H; exact H) | (simp only [hji54] at H ⊢; exact H)
                          have hji54w : (IntKind.i64.wrap ((x4_3.length : Int) - ((rd_T56 l0 x10_1).f1))) = ji54 := (i64_w _).trans hji54
                          by_cases c55 : 0 ≤ (ji54)
                          · rw [if_pos c55] at H
                            have c55b0 : decide (0 ≤ (ji54)) = true := decide_eq_true c55
                            clear c55
                            by_cases c56 : (ji54) < (x4_3.length : Int)
                            · rw [if_pos c56] at H
                              have c56b0 : decide ((ji54) < (x4_3.length : Int)) = true := decide_eq_true c56
                              clear c56
                              by_cases c57 : x4_3.length < 140737488355328
                              · rw [if_pos c57] at H
                                have LMc57 := Aside0.mk c57
                                clear c57
                                obtain ⟨y117, hy117⟩ : ∃ y_ : List Int, y_ = (x4_3 ++ [rd x4_3 (ji54)]) := ⟨_, rfl⟩
                                replace H : (impl_expanded.l1 k3 l0 y117 l0 (l0.length : Int) x10_1 ((rd_T56 l0 x10_1).f2) (wrap64 (x72_3 + 1)) ((rd_T56 l0 x10_1).f0) ((rd_T56 l0 x10_1).f1) ((rd_T56 l0 x10_1).f2)) = some (r1, r2) := by first | (rw [hy117]; with_reducible exact H) | (have H2_ := (Option.bind_some _ _).symm.trans H; rw [hy117]; with_reducible exact H2_) | (have H2_ := (Option.bind_some _ _).symm.trans H; with_reducible exact H2_) | with_reducible exact H | (rw [hy117]; exact H) | exact H
                                have Ny117 := Aside0.mk hy117
                                clear hy117
                                have H' := Aside0.mk H
                                clear H
                                obtain ⟨Ao58, co58, eo58⟩ := Kd.R_slice HO_4.out
                                subst eo58
                                have hcz59_0 : wr.cell? ⟨gb106, 0, none⟩ = some (.string ((rd_T56 l0 x10_1).f0)) := (blk_cell BK106.out 0).trans rfl
                                have hcz59_1 : wr.cell? ⟨gb106, 1, none⟩ = some (.int .i64 ((rd_T56 l0 x10_1).f1)) := (blk_cell BK106.out 1).trans rfl
                                have hcz59_2 : wr.cell? ⟨gb106, 2, none⟩ = some (.int .i64 ((rd_T56 l0 x10_1).f2)) := (blk_cell BK106.out 2).trans rfl
                                have hfz59_0 := blk_frozen BK106.out 0
                                have hfz59_1 := blk_frozen BK106.out 1
                                have hfz59_2 := blk_frozen BK106.out 2
                                have p116 : 0 ≤ ((ji54) : Int) := of_decide_eq_true (by first | (with_reducible assumption) | assumption)
                                have q116 : (ji54) < (x4_3.length : Int) := of_decide_eq_true (by first | (with_reducible assumption) | assumption)
                                obtain ⟨ad116, e116, hx116_0⟩ := Kd.at_int (Kd.R_reads' HO_4.out).2.2 (ji54) p116 q116
                                cases e116
                                replace p116 := eq_true p116
                                replace q116 := eq_true q116
                                go_wp2_with (first | ((with_reducible refine gate_builtin (b := .append) (xs := #[.tmp 74, .tmp 83]) rfl ?_); (try (refine gate_guard (by rfl) ?_; dsimp only)); at_builtin; refine Kd.R_append (Kd.int .u8) (w0 := w) w.heap.size rfl (.tmp 74) (.tmp 83) 37 5 (.int .u8 0) 1 rfl Try.underlying37 info5 rfl (by decide) (by omega) (.slice (some ad116) x4_3.length co58) x4_3 (rd x4_3 (ji54)) [.int .u8 (rd x4_3 (ji54))] (fun _ => True) (fun _ => False) rfl rfl ?aP (fun _ hk => hk.elim) ?aF ?aO ?aB ?aS ?aL ?_; (case aP => exact rfl); (case aB => exact (by repeat (first | (with_reducible first | exact HB.out | apply below_alloc | apply pw_below_drewN | apply below_drew1 | refine below_set ?_ GE106.out) | exact HB.out))); (case aF => exact (fun _ _ => trivial)); (case aO => exact (by (with_reducible repeat (first | apply Kd.R_alloc | apply Kd.R_drewN | apply Kd.R_drew)); exact HO_4.out)); (case aS => exact (below_size (by repeat (first | (with_reducible first | exact HB.out | apply below_alloc | apply pw_below_drewN | apply below_drew1 | refine below_set ?_ GE106.out) | exact HB.out)))); (case aL => have := LMc57.out; omega); intro v118 w60 ho hb hg hat; rw [← Ny117.out] at ho; have n0_ := Aside0.mk (blk_grown (g := gb106) (o := .cells #[.string ((rd_T56 l0 x10_1).f0), .int .i64 ((rd_T56 l0 x10_1).f1), .int .i64 ((rd_T56 l0 x10_1).f2)] 56 (0, 0)) (by (with_reducible repeat (first | refine blk_drewN ?_ _ | refine blk_drew ?_ | refine blk_alloc ?_ _)); exact BK106.out) hg (Kd.R_ne HO_4.out BK106.out (by decide))); have n1_ := Aside0.mk (hb); have n2_ := Aside0.mk (ho); clear BK106; clear HB; clear HO_4; have BK106 := n0_; have HB := n1_; have HO119 := n2_; clear n0_ n1_ n2_; clear ho hb hg hat))
                                go_roundg k3
                                case measure => have := HK1.out; have := HJ38.out; have := HK3.out; omega
                                case rel => exact ⟨(y117), (wrap64 (x72_3 + 1)), (by first | rfl | (simp; done) | (simp [*]; done)), H', ⟨by have := HK1.out; have := HJ38.out; have := HK3.out; omega⟩, ⟨by (with_reducible repeat (first | apply Kd.R_alloc | apply Kd.R_drewN | apply Kd.R_drew)); exact HO119.out⟩, ⟨by (with_reducible repeat (first | refine blk_drewN ?_ _ | refine blk_drew ?_ | refine blk_alloc ?_ _)); exact BK106.out⟩, ⟨by repeat (first | (with_reducible first | exact HB.out | apply below_alloc | apply pw_below_drewN | apply below_drew1 | refine below_set ?_ GE106.out) | exact HB.out)⟩⟩
                              · rw [if_neg c57] at H
                                exact absurd H (by simp)
                            · rw [if_neg c56] at H
                              exact absurd H (by simp)
                          · rw [if_neg c55] at H
                            exact absurd H (by simp)
                        · rw [if_neg c53] at H
                          have c53b0 : decide (x72_3 < ((rd_T56 l0 x10_1).f2)) = false := decide_eq_false c53
                          clear c53
                          by_cases c61 : (x4_3.length : Int) > 600
                          · rw [if_pos c61] at H
                            have c61b0 : decide (600 < (x4_3.length : Int)) = true := decide_eq_true c61
                            have c61b1 : decide (600 < x4_3.length) = true := decide_eq_true (by omega)
                            clear c61
                            simp only [Option.some.injEq, Prod.mk.injEq] at H
                            obtain ⟨rfl, rfl⟩ := H
                            obtain ⟨Ao62, co62, eo62⟩ := Kd.R_slice HO_4.out
                            subst eo62
                            go_wp2
                            go_ret2
                            exact ⟨by first | rfl | (simp [errW_none, errW_some] <;> rfl) | (simp [*, errW_none, errW_some] <;> rfl) | (simp [Go.Proofs.Ytgglcpcfmhpcmaa.E.isEmpty_bne]; done) | (rw [Go.Proofs.Ytgglcpcfmhpcmaa.E.bne_empty]), by repeat (first | (with_reducible first | exact HB.out | apply below_alloc | apply pw_below_drewN | apply below_drew1 | refine below_set ?_ GE106.out) | exact HB.out)⟩
                          · rw [if_neg c61] at H
                            have c61b0 : decide (600 < (x4_3.length : Int)) = false := decide_eq_false c61
                            have c61b1 : decide (600 < x4_3.length) = false := decide_eq_false (by omega)
                            clear c61
                            have H' := Aside0.mk H
                            clear H
                            obtain ⟨Ao63, co63, eo63⟩ := Kd.R_slice HO_4.out
                            subst eo63
                            go_wp2
                            go_roundg k3
                            case measure => have := HK1.out; have := HJ38.out; have := HK3.out; omega
                            case rel => exact ⟨(x4_3), (wrap64 (x10_1 + 1)), (by first | rfl | (simp; done) | (simp [*]; done)), H', ⟨by have := HK1.out; have := HJ38.out; have := HK3.out; omega⟩, ⟨by (with_reducible repeat (first | apply Kd.R_alloc | apply Kd.R_drewN | apply Kd.R_drew)); exact HO_4.out⟩, ⟨by repeat (first | (with_reducible first | exact HB.out | apply below_alloc | apply pw_below_drewN | apply below_drew1 | refine below_set ?_ GE106.out) | exact HB.out)⟩⟩
          · rw [if_neg c6] at H
            exact absurd H (by simp)
        · rw [if_neg c5] at H
          exact absurd H (by simp)
      · rw [if_neg c4] at H
        have c4b0 : decide (x10_1 < (l0.length : Int)) = false := decide_eq_false c4
        clear c4
        simp only [Option.some.injEq, Prod.mk.injEq] at H
        obtain ⟨rfl, rfl⟩ := H
        have hcv64 := own_string (P := Try.prog) Try.underlying37 Try.underlying5 Try.underlying9 (Kd.own_of_R HO_4.out)
        go_wp2
        go_ret2
        exact ⟨by first | rfl | (simp [errW_none, errW_some] <;> rfl) | (simp [*, errW_none, errW_some] <;> rfl) | (simp [Go.Proofs.Ytgglcpcfmhpcmaa.E.isEmpty_bne]; done) | (rw [Go.Proofs.Ytgglcpcfmhpcmaa.E.bne_empty]), by repeat (first | (with_reducible first | exact HB.out | apply below_alloc | apply pw_below_drewN | apply below_drew1) | exact HB.out)⟩

end Go.Proofs.Ytgglcpcfmhpcmaa.PFnSqueezed
