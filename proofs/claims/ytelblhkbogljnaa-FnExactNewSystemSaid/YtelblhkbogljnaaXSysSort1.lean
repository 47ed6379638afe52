import Derived.Test.YtelblhkbogljnaaYSysx0
import Derived.Test.YtelblhkbogljnaaEv
/-! slices.SortFunc over at most one extent: nothing is done; walked by hand. -/
namespace Go.Proofs.Ytelblhkbogljnaa.PSys
open Go.RowKit Go.Proofs.YtelblhkbogljnaaW.PrintWords Go.Proofs.YtelblhkbogljnaaW.PrintLast Go.Proofs.YtelblhkbogljnaaW.PrintMore Go.Proofs.Ytelblhkbogljnaa.E
set_option linter.unusedSimpArgs false
set_option linter.unusedVariables false
set_option maxHeartbeats 4000000 in
set_option maxRecDepth 100000 in
theorem len64_small (n : Nat) (hn : n ≤ 1) (w : World) : Calls Try.prog 95 #[.int .u64 n] w fun e w' => ∃ r : Int, e = .returned (.int .i64 r) ∧ w = w' := by
 rcases (show n = 0 ∨ n = 1 by omega) with rfl | rfl
 all_goals
  go_enter Try.func95, Try.ntmps95
  go_wp2
  go_ret
  exact ⟨_, rfl, rfl⟩
set_option maxHeartbeats 4000000 in
set_option maxRecDepth 100000 in
theorem len_small (n : Nat) (hn : n ≤ 1) (w : World) : Calls Try.prog 81 #[.int .u64 n] w fun e w' => ∃ r : Int, e = .returned (.int .i64 r) ∧ w = w' := by
 go_enter Try.func81, Try.ntmps81
 go_wp2_with (go_at_call 95; refine (len64_small n hn w).mono ?_; rintro e w2 ⟨r, rfl, rfl⟩)
 go_ret
 exact ⟨_, rfl, rfl⟩
set_option maxHeartbeats 4000000 in
set_option maxRecDepth 100000 in
theorem insertion_one (A : Option Addr) (n c : Nat) (hn : n ≤ 1) (f : Value) (w : World) : Calls Try.prog 86 #[.slice A n c, .int .i64 0, .int .i64 n, f] w fun e w' => e = .returned (.tuple #[]) ∧ w = w' := by
 have hq : ((1 : Int) < (n : Int)) = False := eq_false (by omega)
 go_enter Try.func86, Try.ntmps86
 go_wp2
 go_loopw [8] (fun v8 wr => v8 = .int .i64 1 ∧ wr = w) (fun _ _ => 0)
 case atStart => exact ⟨rfl, rfl⟩
 case round =>
  obtain ⟨rfl, rfl⟩ := hrel
  go_wp2
  first | go_end0 | ((try simp only [Exit.inBlock, Exit.then]); refine bodyPost_ret (results_none rfl _ _ _) rfl ?_)
  exact ⟨rfl, rfl⟩
set_option maxHeartbeats 4000000 in
set_option maxRecDepth 100000 in
theorem pdq_one (A : Option Addr) (n c : Nat) (hn : n ≤ 1) (l : Int) (f : Value) (w : World) : Calls Try.prog 80 #[.slice A n c, .int .i64 0, .int .i64 n, .int .i64 l, f] w fun e w' => e = .returned (.tuple #[]) ∧ w = w' := by
 have hq : ((n : Int) ≤ 12) = True := eq_true (by omega)
 have hn2 : n ≤ 1000 := by omega
 have H := Aside0.mk hn
 clear hn
 go_enter Try.func80, Try.ntmps80
 go_wp2
 go_loopw [1, 2] (fun v1 v2 wr => v1 = .int .i64 0 ∧ v2 = .int .i64 n ∧ wr = w) (fun _ _ _ => 0)
 case atStart => exact ⟨rfl, rfl, rfl⟩
 case round =>
  obtain ⟨rfl, rfl, rfl⟩ := hrel
  go_wp2_with (go_at_call 86; refine (insertion_one A n c H.out f _).mono ?_; rintro e w3 ⟨rfl, rfl⟩)
  first | go_end0 | ((try simp only [Exit.inBlock, Exit.then]); refine bodyPost_ret (results_none rfl _ _ _) rfl ?_)
  exact ⟨rfl, rfl⟩
set_option maxHeartbeats 4000000 in
set_option maxRecDepth 100000 in
theorem sortFunc_one (A : Option Addr) (n c : Nat) (hn : n ≤ 1) (f : Value) (w : World) : Calls Try.prog 63 #[.slice A n c, f] w fun e w' => e = .returned (.tuple #[]) ∧ w = w' := by
 have hu : IntKind.u64.wrap (n : Int) = (n : Int) := by
  simp [IntKind.wrap, IntKind.bits, IntKind.signed]
  omega
 have H := Aside0.mk hn
 have hn2 : n ≤ 1000 := by omega
 clear hn
 go_enter Try.func63, Try.ntmps63
 go_wp2_with (first
  | (go_at_call 81; refine (len_small n H.out _).mono ?_; rintro e w2 ⟨r, rfl, rfl⟩)
  | (go_at_call 80; refine (pdq_one A n c H.out _ f _).mono ?_; rintro e w3 ⟨rfl, rfl⟩))
 first | go_end0 | ((try simp only [Exit.inBlock, Exit.then]); refine bodyPost_ret (results_none rfl _ _ _) rfl ?_)
 exact ⟨rfl, rfl⟩
end Go.Proofs.Ytelblhkbogljnaa.PSys
