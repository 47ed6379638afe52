import Derived.Test.YtjepecinpgjgdaaXVauMark
import Derived.Test.YtjepecinpgjgdaaYVaulawsH
/-! Small words for the walks of the vault laws. -/
namespace Go.Proofs.Ytjepecinpgjgdaa.PVau
open Go.RowKit Go.Proofs.YtjepecinpgjgdaaW.PrintWords Go.Proofs.YtjepecinpgjgdaaW.PrintLast Go.Proofs.YtjepecinpgjgdaaW.PrintMore Go.Proofs.Ytjepecinpgjgdaa.E
set_option linter.unusedSimpArgs false
set_option linter.unusedVariables false
theorem R_iv {α : Type} {d : Kd α} {e : Nat} {w w' : World} {ok : Nat → Prop} {v : Value} {r : List α} (h : d.R e w' w.heap.size ok v r) : d.R e w' w.heap.size (fun k => w.heap.size ≤ k ∧ k < w'.heap.size) v r := Kd.R_mono (Kd.R_bound h) (fun k hk => ⟨hk.2.1, hk.2.2.1⟩)
theorem S_iv {α : Type} {d : Kd α} {e : Nat} {w w' : World} {ok : Nat → Prop} {v : Value} {r : List α} (h : Kd.S d e w' w.heap.size ok v r) : Kd.S d e w' w.heap.size (fun k => ok k ∧ w.heap.size ≤ k ∧ k < w'.heap.size) v r := Kd.S_mono (Kd.S_bound h) (fun k hk => ⟨hk.1, hk.2.1, hk.2.2.1⟩)
theorem held_vault {k n0 n1 : Nat} {A0 A1 : Option Addr} {c0 c1 : Nat} {l0 : List KL} {l1 : List FL} {a r : Int} {w : World} (h0 : n0 = l0.length ∧ n0 ≤ c0 ∧ Kd.C k89 w A0 l0.length l0) (h1 : n1 = l1.length ∧ n1 ≤ c1 ∧ Kd.C k87 w A1 l1.length l1) (hf : laws_heldVault.f k l0 l1 a = some r) :
  Calls Try.prog 45 #[.agg #[.slice A0 n0 c0, .slice A1 n1 c1], .int .i64 a] w fun e w' => e = .returned (.int .i64 r) ∧ Below w.heap.size w w' := by
 obtain ⟨rfl, h2, h3⟩ := h0
 obtain ⟨rfl, h4, h5⟩ := h1
 exact laws_heldVault.calls k A0 c0 l0 A1 c1 l1 a r w h3 h2 h5 h4 hf
end Go.Proofs.Ytjepecinpgjgdaa.PVau
