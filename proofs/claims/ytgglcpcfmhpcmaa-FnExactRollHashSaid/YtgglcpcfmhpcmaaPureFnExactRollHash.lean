/- RollHash of the program is RollHash of the reference, for all texts; no condition. -/
import Derived.Test.YtgglcpcfmhpcmaaPFnExactRollHashx1
import Derived.Test.YtgglcpcfmhpcmaaEv
namespace Go.Proofs.Ytgglcpcfmhpcmaa.Pure
open Go.RowKit Go.Proofs.Ytgglcpcfmhpcmaa.PFnExactRollHash Go.Proofs.YtgglcpcfmhpcmaaW.PrintWords Go.Proofs.YtgglcpcfmhpcmaaW.PrintLast Go.Proofs.Ytgglcpcfmhpcmaa.E
set_option linter.unusedSimpArgs false
set_option linter.unusedVariables false

namespace HRollHash
def hash (s : ByteArray) : Nat → Int → Int → Int
  | 0, h, _ => h
  | f + 1, h, i => hash s f (Int.tmod (wrap64 (wrap64 (31 * h) + wrap64 (bt s i))) 4093) (i + 1)
theorem spec_l (s : ByteArray) (hs : s.size ≤ 140737488351232) : ∀ (f : Nat) (h i : Int), 0 ≤ i → i + f = s.size → Ev (fun k => spec_l15Hash.l0 k s h i) (hash s f h i) := by
  intro f
  induction f with
  | zero =>
    intro h i h0 h1
    refine Ev.step (fun _ => spec_l15Hash.l0.eq_2 ..) ?_
    exact ev_neg (by omega) (ev_ret rfl)
  | succ f ih =>
    intro h i h0 h1
    refine Ev.step (fun _ => spec_l15Hash.l0.eq_2 ..) ?_
    refine ev_pos (by omega) (ev_pos h0 ?_)
    rw [w64 (x := i + 1) (by omega) (by omega)]
    exact ih _ _ (by omega) (by omega)
theorem impl_l (s : ByteArray) (hs : s.size ≤ 140737488351232) : ∀ (f : Nat) (h i : Int), 0 ≤ i → i + f = s.size → Ev (fun k => impl_rolled.l0 k s h s.size i) (hash s f h i) := by
  intro f
  induction f with
  | zero =>
    intro h i h0 h1
    refine Ev.step (fun _ => impl_rolled.l0.eq_2 ..) ?_
    exact ev_neg (by omega) (ev_ret rfl)
  | succ f ih =>
    intro h i h0 h1
    refine Ev.step (fun _ => impl_rolled.l0.eq_2 ..) ?_
    refine ev_pos (by omega) (ev_pos h0 (ev_pos (by omega) ?_))
    rw [w64 (x := i + 1) (by omega) (by omega)]
    exact ih _ _ (by omega) (by omega)
end HRollHash
open HRollHash

theorem FnExactRollHash : laws_FnExactRollHash.Pure := by
  intro s hs
  refine Ev.rounds (r := true) ?_
  unfold laws_FnExactRollHash.f spec_RollHash.f impl_RollHash.f spec_l15Hash.f impl_rolled.f
  have h1 := spec_l s hs s.size 0 0 (by omega) (by omega)
  have h2 := impl_l s hs s.size 0 0 (by omega) (by omega)
  by_cases hb : (s.size : Int) > 1048576
  · exact ev_pos hb (ev_ret rfl)
  · refine ev_neg hb ?_
    by_cases h4 : (s.size : Int) = 4
    · refine Ev.bind (ev_pos h4 (Ev.bind h1 (ev_ret rfl))) (Ev.bind (ev_pos h4 (Ev.bind h2 (ev_ret rfl))) ?_)
      exact ev_pos rfl (ev_neg (by simp) (ev_ret rfl))
    · refine Ev.bind (ev_neg h4 (ev_ret rfl)) (Ev.bind (ev_neg h4 (ev_ret rfl)) ?_)
      exact ev_pos rfl (ev_neg (by simp) (ev_ret rfl))

end Go.Proofs.Ytgglcpcfmhpcmaa.Pure
