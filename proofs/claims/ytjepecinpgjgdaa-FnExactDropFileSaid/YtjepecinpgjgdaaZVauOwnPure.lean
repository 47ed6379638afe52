import Derived.Test.YtjepecinpgjgdaaXVauRow
import Derived.Test.YtjepecinpgjgdaaYVauspecl15Own
/-! The reference's own vault is the vault. -/
namespace Go.Proofs.Ytjepecinpgjgdaa.ZVau
open Go.RowKit Go.Proofs.Ytjepecinpgjgdaa.PVau Go.Proofs.YtjepecinpgjgdaaW.PrintWords Go.Proofs.YtjepecinpgjgdaaW.PrintLast Go.Proofs.YtjepecinpgjgdaaW.PrintMore Go.Proofs.Ytjepecinpgjgdaa.E
set_option linter.unusedSimpArgs false
set_option linter.unusedVariables false
theorem own_l (ps : List KL) (fs : List FL) (hf : fs.length ≤ 1048576) (hw : ∀ x ∈ fs, x.f0.length ≤ 1048576) : ∀ (f i : Nat), i + f = fs.length → Ev (fun k => spec_l15Own.l0 k (fs.take i) fs (fs.length : Int) (i : Int) ps fs) (ps, fs) := by
 intro f
 induction f with
 | zero =>
  intro i h
  rw [List.take_of_length_le (by omega)]
  exact Ev.step (fun _ => spec_l15Own.l0.eq_2 ..) (ev_neg (by omega) (ev_ret rfl))
 | succ f ih =>
  intro i h
  have hi : i < fs.length := by omega
  have er : rd_T87 fs (i : Int) = fs[i] := by
   rw [rd_fl, Int.toNat_natCast, List.getD_eq_getElem?_getD, List.getElem?_eq_getElem hi]
   rfl
  have hx := hw _ (List.getElem_mem hi)
  refine Ev.step (fun _ => spec_l15Own.l0.eq_2 ..) (ev_pos (by omega) (ev_pos (by omega) (ev_pos (by omega) (ev_some (ev_pos ?_ (ev_pos ?_ ?_))))))
  ·rw [er]; simp; omega
  ·rw [List.length_take]; omega
  ·rw [er, w64 (x := (i : Int) + 1) (by omega) (by omega)]
   have e : fs.take i ++ [(⟨[] ++ fs[i].f0⟩ : FL)] = fs.take (i + 1) := by rw [List.take_succ_eq_append_getElem hi]; rfl
   rw [e]
   exact ih (i + 1) (by omega)
theorem own_ev (ps : List KL) (fs : List FL) (hp : ps.length ≤ 1048576) (hf : fs.length ≤ 1048576) (hw : ∀ x ∈ fs, x.f0.length ≤ 1048576) : Ev (fun k => spec_l15Own.f k ps fs) (ps, fs) := by
 unfold spec_l15Own.f
 exact ev_some (ev_pos (by simp; omega) (own_l ps fs hf hw fs.length 0 (by omega)))
end Go.Proofs.Ytjepecinpgjgdaa.ZVau
