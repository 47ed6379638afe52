import Derived.Test.YtgglcpcfmhpcmaaZFnLongestCur
/-! The cursor of the draws: a text of a length. -/
namespace Go.Proofs.Ytgglcpcfmhpcmaa.ZFnLongest
open Go.RowKit Go.Proofs.Ytgglcpcfmhpcmaa.PFnLongest Go.Proofs.YtgglcpcfmhpcmaaW.PrintWords Go.Proofs.YtgglcpcfmhpcmaaW.PrintLast Go.Proofs.YtgglcpcfmhpcmaaW.PrintMore Go.Proofs.Ytgglcpcfmhpcmaa.E
set_option linter.unusedSimpArgs false
set_option linter.unusedVariables false
theorem strOf_size (xs : List Int) : (strOfNums xs).size = xs.length := by
  simp [strOfNums, ByteArray.size]
theorem text_l {l : List Int} (hl : Bytes l) : ∀ (f : Nat) (x : List Int) (i p q : Int), 0 ≤ i → i + f = x.length → x.length ≤ 1000000 → 0 ≤ p → p + 2 * f ≤ 100000000000 →
    ∃ s p' q', Ev (fun k => spec_l1Cur_text.l0 k x (x.length : Int) i l p q) (s, p', q') ∧ s.size = x.length ∧ p ≤ p' ∧ p' ≤ p + 2 * f := by
  intro f
  induction f with
  | zero =>
    intro x i p q h0 h1 h2 h3 h4
    exact ⟨_, p, q, Ev.step (fun _ => spec_l1Cur_text.l0.eq_2 ..) (ev_neg (by omega) (ev_ret rfl)), strOf_size x, by omega, by omega⟩
  | succ f ih =>
    intro x i p q h0 h1 h2 h3 h4
    obtain ⟨b, p1, q1, e1, hb⟩ := pick_ok hl p q 256 h3 (by omega) (by omega)
    obtain ⟨s, p2, q2, e2, hs, ha, hc⟩ := ih (x.set i.toNat (b % 256)) (i + 1) p1 q1 (by omega) (by simp; omega) (by simpa using h2) (by omega) (by omega)
    rw [List.length_set] at e2 hs
    refine ⟨s, p2, q2, Ev.step (fun _ => spec_l1Cur_text.l0.eq_2 ..) (ev_pos (by omega) (ev_bindc e1 (ev_pos h0 (ev_pos (by omega) ?_)))), hs, by omega, by omega⟩
    rw [w64 (x := i + 1) (by omega) (by omega)]
    exact e2
theorem text_ok {l : List Int} (hl : Bytes l) (p q n : Int) (h0 : 0 ≤ p) (h1 : p ≤ 10000000000) (hn0 : 0 ≤ n) (hn : n ≤ 1000000) :
    ∃ s p' q', Ev (fun k => spec_l1Cur_text.f k l p q n) (s, p', q') ∧ (s.size : Int) = n ∧ p ≤ p' ∧ p' ≤ p + 2 * n := by
  obtain ⟨s, p', q', e, hs, ha, hb⟩ := text_l hl n.toNat (List.replicate n.toNat 0) 0 p q (by omega) (by simp) (by simp; omega) h0 (by omega)
  rw [List.length_replicate] at hs
  refine ⟨s, p', q', ?_, by omega, ha, by omega⟩
  unfold spec_l1Cur_text.f
  exact ev_pos hn0 (ev_pos (by omega) (ev_some e))
end Go.Proofs.Ytgglcpcfmhpcmaa.ZFnLongest
