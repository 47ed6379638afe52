import Derived.Test.YtacfalpgmibfnaaXCowMarkCow
/-! Small words for the walks of the cow laws. -/
namespace Go.Proofs.Ytacfalpgmibfnaa.PCow
open Go.RowKit Go.Proofs.YtacfalpgmibfnaaW.PrintWords Go.Proofs.YtacfalpgmibfnaaW.PrintLast Go.Proofs.YtacfalpgmibfnaaW.PrintMore Go.Proofs.Ytacfalpgmibfnaa.E
set_option linter.unusedSimpArgs false
set_option linter.unusedVariables false
theorem R_iv {α : Type} {d : Kd α} {e : Nat} {w w' : World} {ok : Nat → Prop} {v : Value} {r : List α} (h : d.R e w' w.heap.size ok v r) : d.R e w' w.heap.size (fun k => w.heap.size ≤ k ∧ k < w'.heap.size) v r := Kd.R_mono (Kd.R_bound h) (fun k hk => ⟨hk.2.1, hk.2.2.1⟩)
theorem S_iv {α : Type} {d : Kd α} {e : Nat} {w w' : World} {ok : Nat → Prop} {v : Value} {r : List α} (h : Kd.S d e w' w.heap.size ok v r) : Kd.S d e w' w.heap.size (fun k => ok k ∧ w.heap.size ≤ k ∧ k < w'.heap.size) v r := Kd.S_mono (Kd.S_bound h) (fun k hk => ⟨hk.1, hk.2.1, hk.2.2.1⟩)
end Go.Proofs.Ytacfalpgmibfnaa.PCow
