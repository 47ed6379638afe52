import Derived.Test.YtgglcpcfmhpcmaaZFnLongestCurText
import Derived.Test.YtgglcpcfmhpcmaaZFnLongestCurOf
/-! The draws: a text of repeats comes to an end, and is short. -/
namespace Go.Proofs.Ytgglcpcfmhpcmaa.ZFnLongest
open Go.RowKit Go.Proofs.Ytgglcpcfmhpcmaa.PFnLongest Go.Proofs.YtgglcpcfmhpcmaaW.PrintWords Go.Proofs.YtgglcpcfmhpcmaaW.PrintLast Go.Proofs.YtgglcpcfmhpcmaaW.PrintMore Go.Proofs.Ytgglcpcfmhpcmaa.E
set_option linter.unusedSimpArgs false
set_option linter.unusedVariables false
theorem zeros_ok (n : Int) (h0 : 0 ≤ n) (h1 : n ≤ 1000000) : ∃ s, spec_l1Zeros.f n = some s ∧ (s.size : Int) = n := by
  refine ⟨strOfNums (List.replicate n.toNat 0), ?_, ?_⟩
  · unfold spec_l1Zeros.f
    rw [if_pos h0, if_pos (by omega)]
  · rw [strOf_size, List.length_replicate]; omega
theorem repeats_l {l : List Int} (hl : Bytes l) : ∀ (f : Nat) (x : ByteArray) (n p q : Int), n = f → n ≤ 100 → x.size ≤ 300 → 0 ≤ p → p + 100 * f ≤ 1000000000 →
    ∃ s p' q', Ev (fun k => spec_l1Cur_repeats.l0 k x n l p q) (s, p', q') ∧ s.size ≤ 700 ∧ p ≤ p' ∧ p' ≤ p + 1000 + 100 * f := by
  intro f
  induction f with
  | zero =>
    intro x n p q hn hn2 hx h0 h1
    obtain ⟨r, p1, q1, e1, h2, h3, h4, h5⟩ := pick_ok hl p q 30 h0 (by omega) (by omega)
    by_cases a : r = 0
    · obtain ⟨z, ez, hz⟩ := zeros_ok 300 (by omega) (by omega)
      exact ⟨x ++ z, p1, q1, Ev.step (fun _ => spec_l1Cur_repeats.l0.eq_2 ..) (ev_neg (by omega) (ev_bindc e1 (ev_pos a (ev_bindc ez (ev_pos (by omega) (ev_ret rfl)))))), by rw [ByteArray.size_append]; omega, by omega, by omega⟩
    · by_cases b : r = 1
      · obtain ⟨r2, p2, q2, e2, g2, g3, g4, g5⟩ := pick_ok hl p1 q1 2 (by omega) (by omega) (by omega)
        obtain ⟨z, ez, hz⟩ := zeros_ok (600 + r2) (by omega) (by omega)
        rw [← w64 (x := 600 + r2) (by omega) (by omega)] at ez
        exact ⟨z, p2, q2, Ev.step (fun _ => spec_l1Cur_repeats.l0.eq_2 ..) (ev_neg (by omega) (ev_bindc e1 (ev_neg a (ev_pos b (ev_bindc e2 (ev_bindc ez (ev_ret rfl))))))), by omega, by omega, by omega⟩
      · by_cases c : r = 2
        · obtain ⟨t, p2, q2, e2, ht, g1, g2⟩ := text_ok hl p1 q1 140 (by omega) (by omega) (by omega) (by omega)
          exact ⟨x ++ t, p2, q2, Ev.step (fun _ => spec_l1Cur_repeats.l0.eq_2 ..) (ev_neg (by omega) (ev_bindc e1 (ev_neg a (ev_neg b (ev_pos c (Ev.bind e2 (ev_pos (by show x.size + t.size ≤ _; omega) (ev_ret rfl)))))))), by rw [ByteArray.size_append]; omega, by omega, by omega⟩
        · exact ⟨x, p1, q1, Ev.step (fun _ => spec_l1Cur_repeats.l0.eq_2 ..) (ev_neg (by omega) (ev_bindc e1 (ev_neg a (ev_neg b (ev_neg c (ev_ret rfl)))))), by omega, by omega, by omega⟩
  | succ f ih =>
    intro x n p q hn hn2 hx h0 h1
    obtain ⟨r, p1, q1, e1, h2, h3, h4, h5⟩ := pick_ok hl p q 4 h0 (by omega) (by omega)
    have hw : wrap64 (n - 1) = n - 1 := w64 (by omega) (by omega)
    have go : ∀ (y : ByteArray) (pp qq : Int), y.size ≤ 1000 → p ≤ pp → pp ≤ p + 50 → ∃ s p' q', Ev (fun k => if (y.size : Int) > 300 then (if 0 ≤ 300 then (if 300 ≤ (y.size : Int) then (spec_l1Cur_repeats.l0 k (y.extract 0 300) (wrap64 (n - 1)) l pp qq) else (none)) else (none)) else (spec_l1Cur_repeats.l0 k y (wrap64 (n - 1)) l pp qq)) (s, p', q') ∧ s.size ≤ 700 ∧ p ≤ p' ∧ p' ≤ p + 1000 + 100 * ((f + 1 : Nat) : Int) := by
      intro y pp qq hy ha hb
      rw [hw]
      by_cases c : (y.size : Int) > 300
      · obtain ⟨s, p', q', e, g1, g2, g3⟩ := ih (y.extract 0 300) (n - 1) pp qq (by omega) (by omega) (by rw [ByteArray.size_extract]; omega) (by omega) (by omega)
        exact ⟨s, p', q', ev_pos c (ev_pos (by omega) (ev_pos (by omega) e)), g1, by omega, by omega⟩
      · obtain ⟨s, p', q', e, g1, g2, g3⟩ := ih y (n - 1) pp qq (by omega) (by omega) (by omega) (by omega) (by omega)
        exact ⟨s, p', q', ev_neg c e, g1, by omega, by omega⟩
    by_cases a : r = 0
    · obtain ⟨r2, p2, q2, e2, g2, g3, g4, g5⟩ := pick_ok hl p1 q1 5 (by omega) (by omega) (by omega)
      obtain ⟨t, p3, q3, e3, ht, k1, k2⟩ := text_ok hl p2 q2 r2 (by omega) (by omega) (by omega) (by omega)
      obtain ⟨s, p', q', e, hh⟩ := go (x ++ t) p3 q3 (by rw [ByteArray.size_append]; omega) (by omega) (by omega)
      exact ⟨s, p', q', Ev.step (fun _ => spec_l1Cur_repeats.l0.eq_2 ..) (ev_pos (by omega) (ev_bindc e1 (ev_pos a (ev_bindc e2 (Ev.bind e3 (ev_pos (by show x.size + t.size ≤ _; omega) e)))))), hh⟩
    · by_cases b : r = 1
      · obtain ⟨s, p', q', e, hh⟩ := go (x ++ x) p1 q1 (by rw [ByteArray.size_append]; omega) (by omega) (by omega)
        exact ⟨s, p', q', Ev.step (fun _ => spec_l1Cur_repeats.l0.eq_2 ..) (ev_pos (by omega) (ev_bindc e1 (ev_neg a (ev_pos b (ev_pos (by omega) e))))), hh⟩
      · obtain ⟨t, p2, q2, e2, ht, g1, g2⟩ := of_ok hl p1 q1 ([(⟨#[97, 98, 99]⟩ : ByteArray), (⟨#[97, 97, 97, 97, 97, 97, 97]⟩ : ByteArray), (⟨#[97, 98, 99, 97, 98, 99]⟩ : ByteArray), (⟨#[120]⟩ : ByteArray), (⟨#[116, 104, 101, 32, 102, 105, 108, 101, 32]⟩ : ByteArray)] : List ByteArray) (by omega) (by omega) (by simp) (by simp)
        have hts : t.size ≤ 9 := by
          simp only [List.mem_cons, List.not_mem_nil, or_false] at ht
          rcases ht with rfl | rfl | rfl | rfl | rfl <;> decide
        obtain ⟨s, p', q', e, hh⟩ := go (x ++ t) p2 q2 (by rw [ByteArray.size_append]; omega) (by omega) (by omega)
        exact ⟨s, p', q', Ev.step (fun _ => spec_l1Cur_repeats.l0.eq_2 ..) (ev_pos (by omega) (ev_bindc e1 (ev_neg a (ev_neg b (ev_bindc e2 (ev_pos (by show x.size + t.size ≤ _; omega) e)))))), hh⟩
theorem repeats_ok {l : List Int} (hl : Bytes l) (p q : Int) (h0 : 0 ≤ p) (h1 : p ≤ 10000000) : ∃ s p' q', Ev (fun k => spec_l1Cur_repeats.f k l p q) (s, p', q') ∧ s.size ≤ 700 ∧ p ≤ p' ∧ p' ≤ p + 10000 := by
  obtain ⟨r, p1, q1, e1, h2, h3, h4, h5⟩ := pick_ok hl p q 12 h0 (by omega) (by omega)
  obtain ⟨s, p', q', e, g1, g2, g3⟩ := repeats_l hl r.toNat ⟨#[]⟩ r p1 q1 (by omega) (by omega) (by decide) (by omega) (by omega)
  refine ⟨s, p', q', ?_, g1, by omega, by omega⟩
  unfold spec_l1Cur_repeats.f
  exact ev_bindc e1 e
end Go.Proofs.Ytgglcpcfmhpcmaa.ZFnLongest
