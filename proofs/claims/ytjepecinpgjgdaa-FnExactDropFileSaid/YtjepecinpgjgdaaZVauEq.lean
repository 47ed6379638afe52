import Derived.Test.YtjepecinpgjgdaaYVaulawsE
import Derived.Test.YtjepecinpgjgdaaLoops
/-! A vault is like itself. -/
namespace Go.Proofs.Ytjepecinpgjgdaa.ZVau
open Go.RowKit Go.Proofs.Ytjepecinpgjgdaa.PVau Go.Proofs.YtjepecinpgjgdaaW.PrintWords Go.Proofs.YtjepecinpgjgdaaW.PrintLast Go.Proofs.YtjepecinpgjgdaaW.PrintMore Go.Proofs.Ytjepecinpgjgdaa.E
set_option linter.unusedSimpArgs false
set_option linter.unusedVariables false
abbrev LK := S108
abbrev LF := S110
abbrev IK := S89
abbrev IF := S87
theorem eqIntS (l : List Int) (h : (l.length : Int) ≤ 100000000000) : Ev (fun k => laws_eqIntS.f k l l) true := by
 unfold laws_eqIntS.f
 refine ev_pos rfl (up_loop (fun k i => laws_eqIntS.l0 k l l i) l.length true (Ev.step (fun _ => laws_eqIntS.l0.eq_2 ..) (ev_neg (by omega) (ev_ret rfl))) (fun i h0 h1 hr => ?_))
 refine Ev.step (fun _ => laws_eqIntS.l0.eq_2 ..) (ev_pos (by omega) (ev_pos h0 (ev_pos (by omega) (ev_pos rfl ?_))))
 rw [w64 (x := i + 1) (by omega) (by omega)]
 exact hr
theorem eqKeptS (l : List IK) (h : (l.length : Int) ≤ 100000000000) : Ev (fun k => laws_eqKeptS.f k l l) true := by
 unfold laws_eqKeptS.f
 refine ev_pos rfl (up_loop (fun k i => laws_eqKeptS.l0 k l l i) l.length true (Ev.step (fun _ => laws_eqKeptS.l0.eq_2 ..) (ev_neg (by omega) (ev_ret rfl))) (fun i h0 h1 hr => ?_))
 refine Ev.step (fun _ => laws_eqKeptS.l0.eq_2 ..) (ev_pos (by omega) (ev_pos h0 (ev_pos (by omega) (ev_bindc (a := true) ?_ (ev_true rfl ?_)))))
 ·unfold laws_eqKept.f
  rw [if_pos rfl, if_pos rfl]
 ·rw [w64 (x := i + 1) (by omega) (by omega)]
  exact hr
theorem eqFileS (l : List IF) (h : (l.length : Int) ≤ 100000000000) (hw : ∀ x ∈ l, (x.f0.length : Int) ≤ 100000000000) : Ev (fun k => laws_eqFileS.f k l l) true := by
 unfold laws_eqFileS.f
 refine ev_pos rfl (up_loop (fun k i => laws_eqFileS.l0 k l l i) l.length true (Ev.step (fun _ => laws_eqFileS.l0.eq_2 ..) (ev_neg (by omega) (ev_ret rfl))) (fun i h0 h1 hr => ?_))
 have hi : i.toNat < l.length := by omega
 have er : rd_T87 l i = l[i.toNat] := getD_at l _ i hi
 have h2 := hw _ (List.getElem_mem hi)
 rw [← er] at h2
 refine Ev.step (fun _ => laws_eqFileS.l0.eq_2 ..) (ev_pos (by omega) (ev_pos h0 (ev_pos (by omega) (Ev.bind (a := true) ?_ (ev_true rfl ?_)))))
 ·unfold laws_eqFile.f
  exact Ev.bind (eqIntS _ h2) (ev_true rfl (ev_ret rfl))
 ·rw [w64 (x := i + 1) (by omega) (by omega)]
  exact hr
theorem eqVault (l0 : List IK) (l1 : List IF) (h0 : (l0.length : Int) ≤ 100000000000) (h1 : (l1.length : Int) ≤ 100000000000) (hw : ∀ x ∈ l1, (x.f0.length : Int) ≤ 100000000000) : Ev (fun k => laws_eqVault.f k l0 l1 l0 l1) true := by
 unfold laws_eqVault.f
 exact Ev.bind (eqKeptS l0 h0) (ev_true rfl (Ev.bind (eqFileS l1 h1 hw) (ev_true rfl (ev_ret rfl))))
end Go.Proofs.Ytjepecinpgjgdaa.ZVau
