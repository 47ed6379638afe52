-- of this session: its walks are told by a program (wip/ext.py) out of the translation
import Derived.Test.YtdlaegianaofjaaYFnCutsx0
namespace Go.Proofs.Ytdlaegianaofjaa.PFnCuts
open Go.RowKit Go.Proofs.YtdlaegianaofjaaW.PrintWords Go.Proofs.YtdlaegianaofjaaW.PrintLast Go.Proofs.YtdlaegianaofjaaW.PrintMore
attribute [local go_sem] max2_int min2_int max_two min_two max_three min_three max_four min_four   -- for this text's walks alone
set_option linter.unusedVariables false
set_option linter.unusedSimpArgs false

/-! ### spec_l1In: function 65 -/
def spec_l1In.f (a0 : Int) (a1 : Int) (a2 : Int) : Option (Bool) := if a0 ≥ a1 then (some (decide (a0 ≤ a2))) else (some false)
set_option maxHeartbeats 8000000 in
set_option maxRecDepth 100000 in
theorem spec_l1In.calls (a0 : Int) (a1 : Int) (a2 : Int) (r : Bool) (w : World) (h : spec_l1In.f a0 a1 a2 = some r) :
    Calls Try.prog 65 #[.int .i64 a0, .int .i64 a1, .int .i64 a2] w fun e w' => e = .returned (.bool r) ∧ Drawn0 w w' := by
  have H : (if a0 ≥ a1 then (some (decide (a0 ≤ a2))) else (some false)) = some r := h
  clear h
  by_cases c4 : a0 ≥ a1
  · rw [if_pos c4] at H
    have c4b0 : decide (a1 ≤ a0) = true := decide_eq_true c4
    clear c4
    obtain rfl := Option.some.inj H
    go_enter Try.func65, Try.ntmps65
    go_wp2
    go_ret
    exact ⟨by first | rfl | (simp; done) | (simp [*]; done), by repeat (first | exact Drawn0.refl _ | apply Drawn0.step)⟩
  · rw [if_neg c4] at H
    have c4b0 : decide (a1 ≤ a0) = false := decide_eq_false c4
    clear c4
    obtain rfl := Option.some.inj H
    go_enter Try.func65, Try.ntmps65
    go_wp2
    go_ret
    exact ⟨by first | rfl | (simp; done) | (simp [*]; done), by repeat (first | exact Drawn0.refl _ | apply Drawn0.step)⟩

/-! ### spec_RollOn: function 32 -/
def spec_RollOn.f (a0 : Int) (a1 : Int) (a2 : Int) : Option (Int × Bool) := (spec_l1In.f a0 0 4092).bind fun t220 => (if t220 = true then (if (Int.tmod (wrap64 ((wrap64 ((wrap64 (31 * a0)) + (wrap64 (a2)))) - (wrap64 (2596 * (wrap64 (a1)))))) 4093) < 0 then (some (wrap64 ((Int.tmod (wrap64 ((wrap64 ((wrap64 (31 * a0)) + (wrap64 (a2)))) - (wrap64 (2596 * (wrap64 (a1)))))) 4093) + 4093), true)) else (some (Int.tmod (wrap64 ((wrap64 ((wrap64 (31 * a0)) + (wrap64 (a2)))) - (wrap64 (2596 * (wrap64 (a1)))))) 4093, true))) else (some (0, false)))
set_option maxHeartbeats 8000000 in
set_option maxRecDepth 100000 in
theorem spec_RollOn.calls (a0 : Int) (a1 : Int) (a2 : Int) (r1 : Int) (r2 : Bool) (w : World) (h : spec_RollOn.f a0 a1 a2 = some (r1, r2)) :
    Calls Try.prog 32 #[.int .i64 a0, .int .u8 a1, .int .u8 a2] w fun e w' => e = .returned (.tuple #[.int .i64 r1, .bool r2]) ∧ Drawn0 w w' := by
  have H : ((spec_l1In.f a0 0 4092).bind fun t220 => (if t220 = true then (if (Int.tmod (wrap64 ((wrap64 ((wrap64 (31 * a0)) + (wrap64 (a2)))) - (wrap64 (2596 * (wrap64 (a1)))))) 4093) < 0 then (some (wrap64 ((Int.tmod (wrap64 ((wrap64 ((wrap64 (31 * a0)) + (wrap64 (a2)))) - (wrap64 (2596 * (wrap64 (a1)))))) 4093) + 4093), true)) else (some (Int.tmod (wrap64 ((wrap64 ((wrap64 (31 * a0)) + (wrap64 (a2)))) - (wrap64 (2596 * (wrap64 (a1)))))) 4093, true))) else (some (0, false)))) = some (r1, r2) := h
  clear h
  replace H := Option.bind_eq_some_iff.mp H
  obtain ⟨t220, A40, H⟩ := H
  replace H : (if t220 = true then (if (Int.tmod (wrap64 ((wrap64 ((wrap64 (31 * a0)) + (wrap64 (a2)))) - (wrap64 (2596 * (wrap64 (a1)))))) 4093) < 0 then (some (wrap64 ((Int.tmod (wrap64 ((wrap64 ((wrap64 (31 * a0)) + (wrap64 (a2)))) - (wrap64 (2596 * (wrap64 (a1)))))) 4093) + 4093), true)) else (some (Int.tmod (wrap64 ((wrap64 ((wrap64 (31 * a0)) + (wrap64 (a2)))) - (wrap64 (2596 * (wrap64 (a1)))))) 4093, true))) else (some (0, false))) = some (r1, r2) := H
  have A4 := Aside0.mk A40
  clear A40
  by_cases c5 : t220 = true
  · subst c5
    have H1 : (if (Int.tmod (wrap64 ((wrap64 ((wrap64 (31 * a0)) + (wrap64 (a2)))) - (wrap64 (2596 * (wrap64 (a1)))))) 4093) < 0 then (some (wrap64 ((Int.tmod (wrap64 ((wrap64 ((wrap64 (31 * a0)) + (wrap64 (a2)))) - (wrap64 (2596 * (wrap64 (a1)))))) 4093) + 4093), true)) else (some (Int.tmod (wrap64 ((wrap64 ((wrap64 (31 * a0)) + (wrap64 (a2)))) - (wrap64 (2596 * (wrap64 (a1)))))) 4093, true))) = some (r1, r2) := by rw [if_pos rfl] at H; exact H
    clear H
    have H := H1
    clear H1
    by_cases c6 : (Int.tmod (wrap64 ((wrap64 ((wrap64 (31 * a0)) + (wrap64 (a2)))) - (wrap64 (2596 * (wrap64 (a1)))))) 4093) < 0
    · rw [if_pos c6] at H
      have c6b0 : decide ((Int.tmod (wrap64 ((wrap64 ((wrap64 (31 * a0)) + (wrap64 (a2)))) - (wrap64 (2596 * (wrap64 (a1)))))) 4093) < 0) = true := decide_eq_true c6
      clear c6
      simp only [Option.some.injEq, Prod.mk.injEq] at H
      obtain ⟨rfl, rfl⟩ := H
      go_enter Try.func32, Try.ntmps32
      go_wp2_with (first | ((with_reducible refine gate_callee (f := 65) rfl ?_); refine goesL_ (some 10) rfl rfl Try.func65 (by kernel_rfl) rfl #[.int .i64 a0, .int .i64 0, .int .i64 4092] rfl (by (try simp only [List.map_toArray, List.map_cons, List.map_nil]); first | done | rfl | (simp only [List.length_drop, List.length_take]; rfl)) ?_; (with_reducible refine (spec_l1In.calls a0 0 4092 true _ A4.out).mono ?_); rintro e w' ⟨rfl, ⟨nd, rfl⟩⟩; refine ⟨_, rfl, ?_⟩))
      go_ret2
      exact ⟨by first | rfl | (simp; done) | (simp [*]; done), by repeat (first | exact Drawn0.refl _ | apply Drawn0.step)⟩
    · rw [if_neg c6] at H
      have c6b0 : decide ((Int.tmod (wrap64 ((wrap64 ((wrap64 (31 * a0)) + (wrap64 (a2)))) - (wrap64 (2596 * (wrap64 (a1)))))) 4093) < 0) = false := decide_eq_false c6
      clear c6
      simp only [Option.some.injEq, Prod.mk.injEq] at H
      obtain ⟨rfl, rfl⟩ := H
      go_enter Try.func32, Try.ntmps32
      go_wp2_with (first | ((with_reducible refine gate_callee (f := 65) rfl ?_); refine goesL_ (some 10) rfl rfl Try.func65 (by kernel_rfl) rfl #[.int .i64 a0, .int .i64 0, .int .i64 4092] rfl (by (try simp only [List.map_toArray, List.map_cons, List.map_nil]); first | done | rfl | (simp only [List.length_drop, List.length_take]; rfl)) ?_; (with_reducible refine (spec_l1In.calls a0 0 4092 true _ A4.out).mono ?_); rintro e w' ⟨rfl, ⟨nd, rfl⟩⟩; refine ⟨_, rfl, ?_⟩))
      go_ret2
      exact ⟨by first | rfl | (simp; done) | (simp [*]; done), by repeat (first | exact Drawn0.refl _ | apply Drawn0.step)⟩
  · replace c5 := Bool.eq_false_iff.mpr c5
    subst c5
    have H1 : (some (0, false)) = some (r1, r2) := by rw [if_neg (show ¬ (false = true) by decide)] at H; exact H
    clear H
    have H := H1
    clear H1
    simp only [Option.some.injEq, Prod.mk.injEq] at H
    obtain ⟨rfl, rfl⟩ := H
    go_enter Try.func32, Try.ntmps32
    go_wp2_with (first | ((with_reducible refine gate_callee (f := 65) rfl ?_); refine goesL_ (some 10) rfl rfl Try.func65 (by kernel_rfl) rfl #[.int .i64 a0, .int .i64 0, .int .i64 4092] rfl (by (try simp only [List.map_toArray, List.map_cons, List.map_nil]); first | done | rfl | (simp only [List.length_drop, List.length_take]; rfl)) ?_; (with_reducible refine (spec_l1In.calls a0 0 4092 false _ A4.out).mono ?_); rintro e w' ⟨rfl, ⟨nd, rfl⟩⟩; refine ⟨_, rfl, ?_⟩))
    go_ret2
    exact ⟨by first | rfl | (simp; done) | (simp [*]; done), by repeat (first | exact Drawn0.refl _ | apply Drawn0.step)⟩

end Go.Proofs.Ytdlaegianaofjaa.PFnCuts
