import Derived.Test.YtjepecinpgjgdaaXVauGoodS
/-! GoodVault of the reference answers what the program's does (the walk says so). -/
namespace Go.Proofs.Ytjepecinpgjgdaa.ZVau
open Go.RowKit Go.Proofs.Ytjepecinpgjgdaa.PVau Go.Proofs.YtjepecinpgjgdaaW.PrintWords Go.Proofs.YtjepecinpgjgdaaW.PrintLast Go.Proofs.YtjepecinpgjgdaaW.PrintMore Go.Proofs.Ytjepecinpgjgdaa.E
set_option linter.unusedVariables false
abbrev IK := S89
abbrev IF := S87
theorem spec_good (ps : List IK) (fs : List IF) (hl : (ps.length : Int) ≤ 1048576) (hf : (fs.length : Int) ≤ 1048576) (hw : ∀ x ∈ fs, (x.f0.length : Int) ≤ 1048576) : Ev (fun k => spec_GoodVault.f k ps fs) (good ps fs) := by
 unfold spec_GoodVault.f
 exact ev_pos (by omega) (ev_ret rfl)
end Go.Proofs.Ytjepecinpgjgdaa.ZVau
