import Derived.Test.YtelblhkbogljnaaYSysx0
import Derived.Test.YtelblhkbogljnaaEv
/-! A system without files: its row of files is none; walked by hand. -/
namespace Go.Proofs.Ytelblhkbogljnaa.PSys
open Go.RowKit Go.Proofs.YtelblhkbogljnaaW.PrintWords Go.Proofs.YtelblhkbogljnaaW.PrintLast Go.Proofs.YtelblhkbogljnaaW.PrintMore Go.Proofs.Ytelblhkbogljnaa.E
set_option linter.unusedSimpArgs false
set_option linter.unusedVariables false
set_option maxHeartbeats 2000000 in
theorem markHeldS_nil (A : Option Addr) (c : Nat) (m : Int) (w : World) : Calls Try.prog 41 #[.slice A 0 c, .int .i64 m] w fun e w' => e = .returned (.int .i64 m) ∧ w = w' := by
 go_enter Try.func41, Try.ntmps41
 go_wp2
 go_loopw [1, 5] (fun v1 v5 wr => v1 = .int .i64 m ∧ v5 = .int .i64 0 ∧ wr = w) (fun _ _ _ => 0)
 case atStart => exact ⟨rfl, rfl, rfl⟩
 case round =>
  obtain ⟨rfl, rfl, rfl⟩ := hrel
  go_wp2
  go_ret
  exact ⟨rfl, rfl⟩
def laws_heldHeldS.f (l : List S88) (m : Int) : Option Int := if l.length = 0 then some m else none
set_option maxHeartbeats 2000000 in
theorem laws_heldHeldS.calls (A0 : Option Addr) (c0 : Nat) (l0 : List S88) (a1 : Int) (r : Int) (w : World) (hr0 : Kd.C k88 w A0 l0.length l0) (hc0 : l0.length ≤ c0) (h : laws_heldHeldS.f l0 a1 = some r) :
  Calls Try.prog 43 #[.slice A0 l0.length c0, .int .i64 a1] w fun e w' => e = .returned (.int .i64 r) ∧ Below w.heap.size w w' := by
 unfold laws_heldHeldS.f at h
 split at h
 ·rename_i hl
  obtain rfl := Option.some.inj h
  rw [hl]
  clear hl h hr0 hc0
  go_enter Try.func43, Try.ntmps43
  go_wp2
  go_loopw [1, 5] (fun v1 v5 wr => v1 = .int .i64 a1 ∧ v5 = .int .i64 0 ∧ wr = w) (fun _ _ _ => 0)
  case atStart => exact ⟨rfl, rfl, rfl⟩
  case round =>
   obtain ⟨rfl, rfl, rfl⟩ := hrel
   go_wp2
   go_ret
   exact ⟨rfl, Below.refl _ _⟩
 ·cases h
def laws_eqHeldS.f (l m : List S88) : Option Bool := if l.length = 0 ∧ m.length = 0 then some true else none
set_option maxHeartbeats 2000000 in
theorem laws_eqHeldS.calls (A0 : Option Addr) (c0 : Nat) (l0 : List S88) (A1 : Option Addr) (c1 : Nat) (l1 : List S88) (r : Bool) (w : World) (hr0 : Kd.C k88 w A0 l0.length l0) (hc0 : l0.length ≤ c0) (hr1 : Kd.C k88 w A1 l1.length l1) (hc1 : l1.length ≤ c1) (h : laws_eqHeldS.f l0 l1 = some r) :
  Calls Try.prog 39 #[.slice A0 l0.length c0, .slice A1 l1.length c1] w fun e w' => e = .returned (.bool r) ∧ Below w.heap.size w w' := by
 unfold laws_eqHeldS.f at h
 split at h
 ·rename_i hl
  obtain rfl := Option.some.inj h
  rw [hl.1, hl.2]
  clear hl h hr0 hc0 hr1 hc1
  go_enter Try.func39, Try.ntmps39
  go_wp2
  go_loopw [5] (fun v5 wr => v5 = .int .i64 0 ∧ wr = w) (fun _ _ => 0)
  case atStart => exact ⟨rfl, rfl⟩
  case round =>
   obtain ⟨rfl, rfl⟩ := hrel
   go_wp2
   go_ret
   exact ⟨rfl, Below.refl _ _⟩
 ·cases h
end Go.Proofs.Ytelblhkbogljnaa.PSys
