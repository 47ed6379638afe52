import Derived.Test.YtgglcpcfmhpcmaaZFnExactExpandTokensLzGood
/-! The reference's expansion of good tokens. -/
namespace Go.Proofs.Ytgglcpcfmhpcmaa.ZFnExactExpandTokens
open Go.RowKit Go.Proofs.Ytgglcpcfmhpcmaa.PFnExactExpandTokens Go.Proofs.YtgglcpcfmhpcmaaW.PrintWords Go.Proofs.YtgglcpcfmhpcmaaW.PrintLast Go.Proofs.YtgglcpcfmhpcmaaW.PrintMore Go.Proofs.Ytgglcpcfmhpcmaa.E
set_option linter.unusedSimpArgs false
set_option linter.unusedVariables false

theorem spec_copy (l : List S56) (hl : (l.length : Int) ≤ 100000000000) (i d m : Int) (a : ByteArray) (hi : 0 ≤ i) (hi2 : i < l.length) (hm : m ≤ 66) {r : ByteArray} : ∀ (f : Nat) (out : List Int) (j : Int), 0 ≤ j → j + f = m → (f = 0 ∨ 1 ≤ d ∧ d ≤ out.length) → (out.length : Int) ≤ 1000 + j →
    (∀ out', out' = cpy f out d → Ev (fun k => spec_l16Expand.l0 k out' l (l.length : Int) (i + 1)) r) →
    Ev (fun k => spec_l16Expand.l1 k out j l (l.length : Int) i a d m) r := by
  intro f
  induction f with
  | zero =>
    intro out j h0 h1 h2 h4 H
    refine Ev.step (fun _ => spec_l16Expand.l1.eq_2 ..) (ev_neg (by omega) ?_)
    rw [w64 (x := i + 1) (by omega) (by omega)]
    exact H out rfl
  | succ f ih =>
    intro out j h0 h1 h2 h4 H
    refine Ev.step (fun _ => spec_l16Expand.l1.eq_2 ..) (ev_pos (by omega) ?_)
    rw [w64 (x := (out.length : Int) - d) (by omega) (by omega), w64 (x := j + 1) (by omega) (by omega)]
    refine ev_pos (by omega) (ev_pos (by omega) (ev_pos (by omega) ?_))
    exact ih _ _ (by omega) (by omega) (.inr (by simp; omega)) (by simp; omega) H
theorem spec_exp_l (l : List S56) (hl : (l.length : Int) ≤ 100000000000) : ∀ (f : Nat) (i : Int) (out : List Int), 0 ≤ i → i + f = l.length → gd l f i out.length = true → Ev (fun k => spec_l16Expand.l0 k out l (l.length : Int) i) (strOfNums (expM l f i out)) := by
  intro f
  induction f with
  | zero =>
    intro i out h0 h1 h2
    exact Ev.step (fun _ => spec_l16Expand.l0.eq_2 ..) (ev_neg (by omega) (ev_ret rfl))
  | succ f ih =>
    intro i out h0 h1 h2
    have h600 : (out.length : Int) ≤ 600 := by
      by_cases h : (out.length : Int) ≤ 600
      · exact h
      · rw [gd_big l (f + 1) i _ (by omega)] at h2
        cases h2
    simp only [gd] at h2
    by_cases ht : tokOk (rd_T56 l i) = true
    · have hb := tokOk_bd ht
      rw [if_pos ht] at h2
      by_cases h4 : (rd_T56 l i).f1 > (out.length : Int)
      · rw [if_pos h4] at h2
        cases h2
      · rw [if_neg h4] at h2
        split at h2
        · cases h2
        · refine Ev.step (fun _ => spec_l16Expand.l0.eq_2 ..) (ev_pos (by omega) (ev_pos h0 (ev_pos (by omega) (ev_pos (by omega) ?_))))
          refine spec_copy l hl i _ _ _ h0 (by omega) (by omega) (rd_T56 l i).f2.toNat _ 0 (by omega) (by omega) (by simp [bytesOf_len]; omega) (by simp [bytesOf_len]; omega) ?_
          intro out' ho
          have ho' : out' = put1 out (rd_T56 l i) := ho
          have e : ((put1 out (rd_T56 l i)).length : Int) = (out.length : Int) + (((rd_T56 l i).f0.size : Int) + (rd_T56 l i).f2) := by
            rw [put1_len]; omega
          rw [ho']
          exact ih _ _ (by omega) (by omega) (by rw [e]; exact h2)
    · rw [if_neg ht] at h2
      cases h2
theorem spec_exp (l : List S56) (hl : (l.length : Int) ≤ 100000000000) (h : gd l l.length 0 0 = true) : Ev (fun k => spec_l16Expand.f k l) (strOfNums (expM l l.length 0 [])) := by
  unfold spec_l16Expand.f
  exact spec_exp_l l hl _ _ _ (by omega) (by omega) h
end Go.Proofs.Ytgglcpcfmhpcmaa.ZFnExactExpandTokens
