/- A hash that rolls on is that of the next window, for all bytes that the texts are drawn from; no condition. -/
import Derived.Test.YtdlaegianaofjaaYFnRolledx3
import Derived.Test.YtdlaegianaofjaaZFnRolledCurText
import Derived.Test.YtdlaegianaofjaaZFnRolledCurAmong
import Derived.Test.YtdlaegianaofjaaZFnRolledHash
namespace Go.Proofs.Ytdlaegianaofjaa.Pure
open Go.RowKit Go.Proofs.Ytdlaegianaofjaa.PFnRolled Go.Proofs.YtdlaegianaofjaaW.PrintWords Go.Proofs.YtdlaegianaofjaaW.PrintLast Go.Proofs.YtdlaegianaofjaaW.PrintMore Go.Proofs.Ytdlaegianaofjaa.E Go.Proofs.Ytdlaegianaofjaa.ZFnRolled
set_option linter.unusedSimpArgs false
set_option linter.unusedVariables false

namespace HRolled
theorem number_l (l : List Int) (hl : Bytes l) (hm : l.length ≤ 1000000000) : ∀ (f : Nat) (n i : Int), 0 ≤ n → n < 1000003 → 0 ≤ i → i + f = l.length → ∃ r, Ev (fun k => laws_numberOf.l0 k n l (l.length : Int) i) r ∧ 0 ≤ r ∧ r < 1000003 := by
  intro f
  induction f with
  | zero =>
    intro n i h0 h1 h2 h3
    exact ⟨n, Ev.step (fun _ => laws_numberOf.l0.eq_2 ..) (ev_neg (by omega) (ev_ret rfl)), h0, h1⟩
  | succ f ih =>
    intro n i h0 h1 h2 h3
    have hr := bytes_rd hl i
    obtain ⟨r, e, hb⟩ := ih ((31 * n + rd l i) % 1000003) (i + 1) (by omega) (by omega) (by omega) (by omega)
    refine ⟨r, Ev.step (fun _ => laws_numberOf.l0.eq_2 ..) (ev_pos (by omega) (ev_pos h2 (ev_pos (by omega) ?_))), hb⟩
    rw [w64 (x := 31 * n) (by omega) (by omega), w64 (x := rd l i) (by omega) (by omega), w64 (x := 31 * n + rd l i) (by omega) (by omega), w64 (x := i + 1) (by omega) (by omega), tmod_pos (by omega)]
    exact e
theorem number (l : List Int) (hl : Bytes l) (hm : l.length ≤ 1000000000) : ∃ r, Ev (fun k => laws_numberOf.f k l) r ∧ 0 ≤ r ∧ r < 1000003 := by
  unfold laws_numberOf.f
  exact number_l l hl hm l.length 0 0 (by omega) (by omega) (by omega) (by omega)
theorem hash4 (s : ByteArray) (h : s.size = 4) : hsh s = (31 * ((31 * ((31 * ((31 * 0 + bt s 0) % 4093) + bt s 1) % 4093) + bt s 2) % 4093) + bt s 3) % 4093 := by
  unfold hsh
  rw [h]
  rfl
theorem bt_tail (s y : ByteArray) (h : s.size = 4) (hy : y.size = 1) (i : Int) (h0 : 0 ≤ i) (h1 : i < 3) : bt (s.extract 1 s.size ++ y) i = bt s (i + 1) := by
  have hz : (s.extract 1 s.size).size = 3 := by rw [ByteArray.size_extract]; omega
  unfold bt
  rw [dif_pos (by rw [ByteArray.size_append]; omega), dif_pos (by omega)]
  rw [ByteArray.getElem_append_left (by omega), ByteArray.getElem_extract]
  congr 2
  have : 1 + i.toNat = (i + 1).toNat := by omega
  simp only [this]
theorem bt_last (s y : ByteArray) (h : s.size = 4) (hy : y.size = 1) : bt (s.extract 1 s.size ++ y) 3 = bt y 0 := by
  have hz : (s.extract 1 s.size).size = 3 := by rw [ByteArray.size_extract]; omega
  unfold bt
  rw [dif_pos (by rw [ByteArray.size_append]; omega), dif_pos (by omega)]
  rw [ByteArray.getElem_append_right (by omega)]
  congr 2
  simp only [hz]
  rfl
theorem bt_one (n : Int) (h0 : 0 ≤ n) (h1 : n < 256) : bt (strOfNums [n]) 0 = n := by
  show ((UInt8.ofNat n.toNat).toNat : Int) = n
  rw [UInt8.toNat_ofNat', Nat.mod_eq_of_lt (by omega)]
  omega
theorem roll (a b c d n : Int) (ha : 0 ≤ a ∧ a < 256) (hb : 0 ≤ b ∧ b < 256) (hc : 0 ≤ c ∧ c < 256) (hd : 0 ≤ d ∧ d < 256) (hn : 0 ≤ n ∧ n < 256) :
    impl_RollOn.f ((31 * ((31 * ((31 * ((31 * 0 + a) % 4093) + b) % 4093) + c) % 4093) + d) % 4093) a n = some ((31 * ((31 * ((31 * ((31 * 0 + b) % 4093) + c) % 4093) + d) % 4093) + n) % 4093, true) := by
  have e1 : (31 * ((31 * ((31 * ((31 * 0 + a) % 4093) + b) % 4093) + c) % 4093) + d) % 4093 = (29791 * a + 961 * b + 31 * c + d) % 4093 := by omega
  have e2 : (31 * ((31 * ((31 * ((31 * 0 + b) % 4093) + c) % 4093) + d) % 4093) + n) % 4093 = (29791 * b + 961 * c + 31 * d + n) % 4093 := by omega
  rw [e1, e2]
  generalize hh : (29791 * a + 961 * b + 31 * c + d) % 4093 = h
  unfold impl_RollOn.f impl_within.f
  have h1 : h ≥ 0 := by omega
  have h2 : decide (h ≤ 4092) = true := by simp; omega
  simp only [if_pos h1, h2, Option.bind_some, if_true]
  rw [w64 (x := a) (by omega) (by omega), w64 (x := n) (by omega) (by omega), w64 (x := a * 1140) (by omega) (by omega), w64 (x := h - a * 1140) (by omega) (by omega)]
  have t1 := tmod_cases (h - a * 1140) 4093
  generalize ht : Int.tmod (h - a * 1140) 4093 = t at t1 ⊢
  rw [w64 (x := 31 * t) (by omega) (by omega), w64 (x := 31 * t + n) (by omega) (by omega)]
  have t2 := tmod_cases (31 * t + n) 4093
  generalize ht2 : Int.tmod (31 * t + n) 4093 = t' at t2 ⊢
  rw [w64 (x := t' + 4093) (by omega) (by omega), tmod_pos (by omega)]
  have : (t' + 4093) % 4093 = (29791 * b + 961 * c + 31 * d + n) % 4093 := by omega
  rw [this]
end HRolled
open HRolled

theorem FnRolled : laws_FnRolled.Pure := by
  intro l0 l1 hm0 hs0 hw0 hm1 hs1 hw1
  refine Ev.rounds (r := true) ?_
  have hl0 := bytes_of hw0
  have hl1 := bytes_of hw1
  unfold laws_FnRolled.f
  rw [w64 (x := (l0.length : Int) + l1.length) (by omega) (by omega)]
  by_cases hb : (l0.length : Int) + l1.length > 1048576
  · exact ev_pos hb (ev_ret rfl)
  · refine ev_neg hb ?_
    obtain ⟨n, p1, q1, e1, hn, _, _⟩ := among_ok hl0 0 0 [4, 4, 4, 3, 5] (by omega) (by omega) (by simp) (by simp)
    have hn' : 3 ≤ n ∧ n ≤ 5 := by simp at hn; omega
    obtain ⟨s, p2, q2, e2, hs, _, _⟩ := text_ok hl0 p1 q1 n (by omega) (by omega) (by omega) (by omega)
    have hd : Ev (fun k => spec_DrawRollHash.f k l0) s := by
      unfold spec_DrawRollHash.f
      exact ev_bindc e1 (Ev.bind e2 (ev_ret rfl))
    refine Ev.bind hd ?_
    obtain ⟨r, er, hr⟩ := number l1 hl1 (by omega)
    by_cases h4 : (s.size : Int) = 4
    · have h4' : s.size = 4 := by omega
      have w1 : Ev (fun k => impl_RollHash.f k s) (hsh s, true) := by unfold impl_RollHash.f; exact ev_pos h4 (Ev.bind (impl_hash s (by omega)) (ev_ret rfl))
      have w2 : Ev (fun k => spec_RollHash.f k s) (hsh s, true) := by unfold spec_RollHash.f; exact ev_pos h4 (Ev.bind (spec_hash s (by omega)) (ev_ret rfl))
      refine Ev.bind w1 (Ev.bind w2 (ev_neg (by simp) ?_))
      have hy : (strOfNums [r % 256]).size = 1 := strOf_size _
      have hz : (s.extract 1 s.size ++ strOfNums [r % 256]).size = 4 := by rw [ByteArray.size_append, ByteArray.size_extract, hy]; omega
      have w3 : Ev (fun k => impl_RollHash.f k (s.extract 1 s.size ++ strOfNums [r % 256])) (hsh (s.extract 1 s.size ++ strOfNums [r % 256]), true) := by
        unfold impl_RollHash.f
        exact ev_pos (by omega) (Ev.bind (impl_hash _ (by omega)) (ev_ret rfl))
      have b0 := And.intro (bt_nonneg s 0) (bt_lt s 0)
      have b1 := And.intro (bt_nonneg s 1) (bt_lt s 1)
      have b2 := And.intro (bt_nonneg s 2) (bt_lt s 2)
      have b3 := And.intro (bt_nonneg s 3) (bt_lt s 3)
      have hroll := roll (bt s 0) (bt s 1) (bt s 2) (bt s 3) (r % 256) b0 b1 b2 b3 (by omega)
      rw [← hash4 s h4'] at hroll
      have e5 : hsh (s.extract 1 s.size ++ strOfNums [r % 256]) = (31 * ((31 * ((31 * ((31 * 0 + bt s 1) % 4093) + bt s 2) % 4093) + bt s 3) % 4093) + r % 256) % 4093 := by
        rw [hash4 _ hz, bt_tail s _ h4' hy 0 (by omega) (by omega), bt_tail s _ h4' hy 1 (by omega) (by omega), bt_tail s _ h4' hy 2 (by omega) (by omega), bt_last s _ h4' hy, bt_one _ (by omega) (by omega)]
        rfl
      rw [← e5] at hroll
      refine Ev.step (fun _ => laws_FnRolled.j0.eq_2 ..) (ev_neg (by simp) (ev_true rfl (Ev.bind er (ev_pos (by omega) (ev_bindc hroll (ev_pos (by omega) (ev_some (ev_pos ?_ (Ev.bind w3 (ev_true rfl (ev_true rfl (ev_ret ?_))))))))))))
      · rw [hy, ByteArray.size_extract]; omega
      · simp
    · have w1 : Ev (fun k => impl_RollHash.f k s) (0, false) := by unfold impl_RollHash.f; exact ev_neg h4 (ev_ret rfl)
      have w2 : Ev (fun k => spec_RollHash.f k s) (0, false) := by unfold spec_RollHash.f; exact ev_neg h4 (ev_ret rfl)
      refine Ev.bind w1 (Ev.bind w2 (ev_neg (by simp) ?_))
      exact Ev.step (fun _ => laws_FnRolled.j0.eq_2 ..) (ev_neg (by simp) (ev_false rfl (ev_ret rfl)))

end Go.Proofs.Ytdlaegianaofjaa.Pure
