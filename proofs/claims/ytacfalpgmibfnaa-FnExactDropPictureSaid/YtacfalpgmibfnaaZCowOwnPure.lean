import Derived.Test.YtacfalpgmibfnaaZCowGood
import Derived.Test.YtacfalpgmibfnaaXCowRow
import Derived.Test.YtacfalpgmibfnaaYCowspecl14Own
/-! l14Own, plain law: a copy. -/
namespace Go.Proofs.Ytacfalpgmibfnaa.PCow
open Go.RowKit Go.Proofs.YtacfalpgmibfnaaW.PrintWords Go.Proofs.YtacfalpgmibfnaaW.PrintLast Go.Proofs.YtacfalpgmibfnaaW.PrintMore Go.Proofs.Ytacfalpgmibfnaa.E
set_option linter.unusedSimpArgs false
set_option linter.unusedVariables false
theorem own_l (C : List CL) (R : List Int) (L : Int) (hn : C.length ≤ 1048576) (hk : ∀ x ∈ C, x.f2.length ≤ 1048576) (hr : R.length ≤ 1048576) : ∀ f i : Nat, i + f = C.length → Ev (fun k => spec_l14Own.l0 k (C.take i) C (C.length : Int) (i : Int) C R L) (C, R, L) := by
  intro f
  induction f with
  | zero =>
    intro i hi
    rw [List.take_of_length_le (by omega)]
    exact Ev.step (fun _ => spec_l14Own.l0.eq_2 ..) (ev_neg (by omega) (ev_some (ev_pos (by simp; omega) (ev_ret rfl))))
  | succ f ih =>
    intro i hi
    have hil : i < C.length := by omega
    have e : rd_T68 C (i : Int) = C[i] := by rw [rd_cl, Int.toNat_natCast, List.getD_eq_getElem?_getD, List.getElem?_eq_getElem hil]; rfl
    have hx := hk _ (List.getElem_mem hil)
    rw [← e] at hx
    have h1 := ih (i + 1) (by omega)
    rw [List.take_succ_eq_append_getElem hil, ← e] at h1
    refine Ev.step (fun _ => spec_l14Own.l0.eq_2 ..) (ev_pos (by omega) (ev_pos (by omega) (ev_pos (by omega) (ev_some (ev_pos (by simp; omega) (ev_pos (by rw [List.length_take]; omega) ?_))))))
    rw [w64 (x := (i : Int) + 1) (by omega) (by omega)]
    exact h1
theorem own_ev (C : List CL) (R : List Int) (L : Int) (hn : C.length ≤ 1048576) (hk : ∀ x ∈ C, x.f2.length ≤ 1048576) (hr : R.length ≤ 1048576) : Ev (fun k => spec_l14Own.f k C R L) (C, R, L) := by
  unfold spec_l14Own.f
  exact own_l C R L hn hk hr C.length 0 (by omega)
theorem l1In_root (a : Int) (roots : List Int) (h : (roots.length : Int) ≤ 8) : spec_l1In.f a 0 (wrap64 ((roots.length : Int) - 1)) = some (decide (0 ≤ a ∧ a < (roots.length : Int))) := by
  rw [w64 (x := (roots.length : Int) - 1) (by omega) (by omega), in_dec]
  congr 1
  rw [decide_eq_decide]
  omega
theorem root_ref {C : List CL} {roots : List Int} {L : Int} {V c v : List Int} (hI : Inv C roots L V [] c v) (a : Int) (h0 : 0 ≤ a) (h1 : a < (roots.length : Int)) : RefOK C v (rd roots a, L) := by
  have hl : a.toNat < roots.length := by omega
  have := hI.root _ (List.getElem_mem hl)
  rw [← rd_getD hl, show ((a.toNat : Nat) : Int) = a by omega] at this
  exact this
end Go.Proofs.Ytacfalpgmibfnaa.PCow
