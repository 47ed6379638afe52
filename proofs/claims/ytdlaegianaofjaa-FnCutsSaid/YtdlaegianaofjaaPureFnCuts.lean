/- The pieces of a text are its cuts, and a text that is cut again behind a cut is cut alike; for all texts; no condition. -/
import Derived.Test.YtdlaegianaofjaaYFnCutsx5
import Derived.Test.YtdlaegianaofjaaZFnCutsCutsMath
import Derived.Test.YtdlaegianaofjaaZFnCutsPiecesI
import Derived.Test.YtdlaegianaofjaaZFnCutsRollEq
import Derived.Test.YtdlaegianaofjaaZFnCutsCurByte
namespace Go.Proofs.Ytdlaegianaofjaa.Pure
open Go.RowKit Go.Proofs.Ytdlaegianaofjaa.PFnCuts Go.Proofs.YtdlaegianaofjaaW.PrintWords Go.Proofs.YtdlaegianaofjaaW.PrintLast Go.Proofs.YtdlaegianaofjaaW.PrintMore Go.Proofs.Ytdlaegianaofjaa.E Go.Proofs.Ytdlaegianaofjaa.ZFnCuts
set_option linter.unusedSimpArgs false
set_option linter.unusedVariables false

namespace HFnCuts
theorem same_l (l : List Int) (hm : l.length ≤ 1000000) : ∀ (f : Nat) (i : Int), 0 ≤ i → i + f = l.length → Ev (fun k => laws_sameInts.l0 k l l (l.length : Int) i) true := by
  intro f
  induction f with
  | zero => intro i h0 h1; exact Ev.step (fun _ => laws_sameInts.l0.eq_2 ..) (ev_neg (by omega) (ev_ret rfl))
  | succ f ih =>
    intro i h0 h1
    refine Ev.step (fun _ => laws_sameInts.l0.eq_2 ..) (ev_pos (by omega) (ev_pos h0 (ev_pos (by omega) (ev_pos (by omega) (ev_pos rfl ?_)))))
    rw [w64 (x := i + 1) (by omega) (by omega)]
    exact ih _ (by omega) (by omega)
theorem same (l : List Int) (hm : l.length ≤ 1000000) : Ev (fun k => laws_sameInts.f k l l) true := by
  unfold laws_sameInts.f
  exact ev_pos rfl (same_l l hm l.length 0 (by omega) (by omega))
theorem pieces_at_l (s : ByteArray) (c : List Int) : ∀ (f : Nat) (out : List ByteArray) (b i : Int), 0 ≤ i → i = out.length → b = prv c i →
    (∀ j : Int, 0 ≤ j → j < i → rdOf ByteArray.empty out j = s.extract (prv c j).toNat (rd c j).toNat) →
    ∀ j : Int, 0 ≤ j → j < i + f → rdOf ByteArray.empty (piecesM s c f out b i) j = s.extract (prv c j).toNat (rd c j).toNat := by
  intro f
  induction f with
  | zero => intro out b i h0 h1 h2 h3 j h4 h5; exact h3 j h4 (by omega)
  | succ f ih =>
    intro out b i h0 h1 h2 h3 j h4 h5
    simp only [piecesM]
    refine ih _ _ _ (by omega) (by simp; omega) ?_ ?_ j h4 (by omega)
    · unfold prv
      rw [if_neg (by omega), show i + 1 - 1 = i by omega]
    · intro j h4 h5
      by_cases hj : j < i
      · rw [← h3 j h4 hj]
        unfold rdOf
        rw [List.getD_eq_getElem?_getD, List.getD_eq_getElem?_getD, List.getElem?_append_left (by omega)]
      · have e : j = i := by omega
        subst e
        unfold rdOf
        rw [List.getD_eq_getElem?_getD, List.getElem?_append_right (by omega), h2]
        simp [show j.toNat - out.length = 0 by omega]
theorem pieces_at (s : ByteArray) (j : Int) (h0 : 0 ≤ j) (h1 : j < (cuts s).length) : rdOf ByteArray.empty (pieces s) j = s.extract (prv (cuts s) j).toNat (rd (cuts s) j).toNat :=
  pieces_at_l s (cuts s) (cuts s).length [] 0 0 (by omega) rfl rfl (fun j h4 h5 => by omega) j h0 (by omega)
theorem pieces_length (s : ByteArray) : (pieces s).length = (cuts s).length := by
  unfold pieces
  rw [piecesM_len]
  simp
theorem prv_next (c : List Int) (i : Int) (h : 0 ≤ i) : prv c (i + 1) = rd c i := by
  unfold prv
  rw [if_neg (by omega), show i + 1 - 1 = i by omega]
theorem cut_of (s : ByteArray) (i : Int) (h0 : 0 ≤ i) (h1 : i < (cuts s).length) : rd (cuts s) i ∈ cuts s := by
  rw [rd_get _ i h0 h1]
  exact List.getElem_mem _
theorem prv_bd (s : ByteArray) (i : Int) (h0 : 0 ≤ i) (h1 : i ≤ (cuts s).length) : 0 ≤ prv (cuts s) i ∧ prv (cuts s) i ≤ s.size := by
  unfold prv
  split
  · omega
  · have := (cuts_up s).1 _ (cut_of s (i - 1) (by omega) (by omega))
    omega
section
variable (x1 : List Int) (s : ByteArray) (hs : s.size ≤ 400)
include hs
theorem pieces_loop (H : Ev (fun k => laws_FnCuts.l1 k x1 s (cuts s) (cuts s) ((cuts s).length : Int) 0) true) : ∀ (f : Nat) (x : ByteArray) (i : Int), 0 ≤ i → i + f = (cuts s).length → x = s.extract 0 (prv (cuts s) i).toNat →
    Ev (fun k => laws_FnCuts.l0 k x1 s (cuts s) (pieces s) x (pieces s) ((pieces s).length : Int) i) true := by
  have hl := pieces_length s
  have hu := cuts_up s
  have hst := cuts_steps s
  intro f
  induction f with
  | zero =>
    intro x i h0 h1 hx
    refine Ev.step (fun _ => laws_FnCuts.l0.eq_2 ..) (ev_neg (by omega) (ev_pos ?_ H))
    rw [hx, show i = ((cuts s).length : Int) by omega, hst.2]
    rw [show ((s.size : Int)).toNat = s.size by omega, ByteArray.extract_zero_size]
  | succ f ih =>
    intro x i h0 h1 hx
    have hp := pieces_at s i h0 (by omega)
    have hb := prv_bd s i h0 (by omega)
    have hc := hu.1 _ (cut_of s i h0 (by omega))
    have hq := hst.1 i h0 (by omega)
    have hxs : (x.size : Int) = prv (cuts s) i := by rw [hx, ByteArray.size_extract]; omega
    have hps : ((rdOf ByteArray.empty (pieces s) i).size : Int) = rd (cuts s) i - prv (cuts s) i := by rw [hp, ByteArray.size_extract]; omega
    have hxp : x ++ rdOf ByteArray.empty (pieces s) i = s.extract 0 (rd (cuts s) i).toNat := by
      rw [hx, hp, ByteArray.extract_append_extract]
      congr 1 <;> omega
    have hz : rd (cuts s) i = ((x ++ rdOf ByteArray.empty (pieces s) i).size : Int) := by
      rw [ByteArray.size_append]; omega
    have go : Ev (fun k => laws_FnCuts.l0 k x1 s (cuts s) (pieces s) (x ++ rdOf ByteArray.empty (pieces s) i) (pieces s) ((pieces s).length : Int) (i + 1)) true :=
      ih _ _ (by omega) (by omega) (by rw [hxp, prv_next _ _ h0])
    refine Ev.step (fun _ => laws_FnCuts.l0.eq_2 ..) (ev_pos (by omega) (ev_pos h0 (ev_pos (by omega) (ev_pos (by omega) (ev_neg (by omega) ?_)))))
    rw [w64 (x := i + 1) (by omega) (by omega), w64 (x := ((pieces s).length : Int) - 1) (by omega) (by omega)]
    by_cases hi : i < ((pieces s).length : Int) - 1
    · refine ev_pos hi (ev_neg ?_ (ev_pos (by omega) (ev_pos hz go)))
      rcases hq.2.2 with h | h
      · omega
      · have h5 := hst.1 (i + 1) (by omega) (by omega)
        have h6 := hu.1 _ (cut_of s (i + 1) (by omega) (by omega))
        rw [prv_next _ _ h0] at h5
        omega
    · exact ev_neg hi (ev_pos (by omega) (ev_pos hz go))
omit hs in
theorem take_next (d : List Int) (j : Int) (h0 : 0 ≤ j) (h1 : j < d.length) : d.take (j + 1).toNat = d.take j.toNat ++ [rd d j] := by
  rw [show (j + 1).toNat = j.toNat + 1 by omega, List.take_add_one, List.getElem?_eq_getElem (by omega), rd_get d j h0 h1]
  rfl
omit hs in
theorem flt_next (d : List Int) (m j : Int) (h0 : 0 ≤ j) (h1 : j < d.length) :
    ((d.take (j + 1).toNat).filter (fun x => decide (x > m))).map (· - m) = ((d.take j.toNat).filter (fun x => decide (x > m))).map (· - m) ++ (if rd d j > m then [rd d j - m] else []) := by
  rw [take_next d j h0 h1, List.filter_append, List.map_append]
  congr 1
  by_cases h : rd d j > m
  · rw [if_pos h, List.filter_cons_of_pos (by simpa using h)]; rfl
  · rw [if_neg h, List.filter_cons_of_neg (by simpa using h)]; rfl
omit hs in
theorem flt_len (d : List Int) (m j : Int) : (((d.take j.toNat).filter (fun x => decide (x > m))).map (· - m)).length ≤ d.length := by
  rw [List.length_map]
  refine Nat.le_trans (List.length_filter_le _ _) ?_
  rw [List.length_take]
  omega
theorem loop3 (i k : Int) (b : Bool) (out : List Int) (hk : k ∈ cuts s) (hk8 : 8 ≤ k)
    (H : Ev (fun n => laws_FnCuts.l1 n x1 s (cuts s) (cuts s) ((cuts s).length : Int) (wrap64 (i + 1))) true)
    (hb : b = true → out = ((cuts s).filter (fun x => decide (x > k))).map (· - k)) : ∀ (f : Nat) (x : List Int) (j : Int), 0 ≤ j → j + f = (cuts s).length → x = (((cuts s).take j.toNat).filter (fun x => decide (x > k))).map (· - k) →
    Ev (fun n => laws_FnCuts.l3 n x1 s (cuts s) k b x out (cuts s) ((cuts s).length : Int) i (cuts s) ((cuts s).length : Int) j) true := by
  have hu := cuts_up s
  intro f
  induction f with
  | zero =>
    intro x j h0 h1 hx
    have hl := flt_len (cuts s) k j
    refine Ev.step (fun _ => laws_FnCuts.l3.eq_2 ..) (ev_neg (by omega) ?_)
    cases b with
    | true =>
      have e : x = out := by
        rw [hx, hb rfl, show j.toNat = (cuts s).length by omega, List.take_length]
      rw [← hx, e] at hl
      rw [e]
      exact ev_true rfl (Ev.bind (same out (by omega)) (ev_true rfl H))
    | false => exact ev_false rfl H
  | succ f ih =>
    intro x j h0 h1 hx
    have hl := flt_len (cuts s) k j
    rw [← hx] at hl
    have hn := flt_next (cuts s) k j h0 (by omega)
    have hc := hu.1 _ (cut_of s j h0 (by omega))
    rw [← hx] at hn
    refine Ev.step (fun _ => laws_FnCuts.l3.eq_2 ..) (ev_pos (by omega) (ev_pos h0 (ev_pos (by omega) ?_)))
    have hkk := hu.1 k hk
    rw [w64 (x := j + 1) (by omega) (by omega), w64 (x := rd (cuts s) j - k) (by omega) (by omega)]
    by_cases h : rd (cuts s) j > k
    · rw [if_pos h] at hn
      exact ev_pos h (ev_pos (by omega) (ih _ _ (by omega) (by omega) hn.symm))
    · rw [if_neg h, List.append_nil] at hn
      exact ev_neg h (ih _ _ (by omega) (by omega) hn.symm)
theorem loop2 (i k : Int) (hk : k ∈ cuts s) (hk8 : 8 ≤ k)
    (H : Ev (fun n => laws_FnCuts.l1 n x1 s (cuts s) (cuts s) ((cuts s).length : Int) (wrap64 (i + 1))) true) : ∀ (f : Nat) (b : Bool) (x : List Int) (j : Int), 0 ≤ j → j + f = (cuts (turn s k)).length →
    (b = true → (8 : Int) ∈ cuts (turn s k)) → x = (((cuts (turn s k)).take j.toNat).filter (fun x => decide (x > 8))).map (· - 8) →
    Ev (fun n => laws_FnCuts.l2 n x1 s (cuts s) k b x (cuts s) ((cuts s).length : Int) i (cuts (turn s k)) ((cuts (turn s k)).length : Int) j) true := by
  have hu := cuts_up s
  have hkk := hu.1 k hk
  have ht := turn_size s k hk8 hkk.2
  have hv := cuts_up (turn s k)
  intro f
  induction f with
  | zero =>
    intro b x j h0 h1 hb hx
    refine Ev.step (fun _ => laws_FnCuts.l2.eq_2 ..) (ev_neg (by omega) ?_)
    refine loop3 x1 s hs i k b x hk hk8 H ?_ (cuts s).length [] 0 (by omega) (by omega) (by simp)
    intro e
    rw [alike s k hk8 hk (hb e), hx, show j.toNat = (cuts (turn s k)).length by omega, List.take_length]
  | succ f ih =>
    intro b x j h0 h1 hb hx
    have hl := flt_len (cuts (turn s k)) 8 j
    rw [← hx] at hl
    have hn := flt_next (cuts (turn s k)) 8 j h0 (by omega)
    have hc := hv.1 _ (cut_of (turn s k) j h0 (by omega))
    rw [← hx] at hn
    refine Ev.step (fun _ => laws_FnCuts.l2.eq_2 ..) (ev_pos (by omega) (ev_pos h0 (ev_pos (by omega) ?_)))
    rw [w64 (x := j + 1) (by omega) (by omega), w64 (x := rd (cuts (turn s k)) j - 4) (by omega) (by omega), w64 (x := rd (cuts (turn s k)) j - 4 - 4) (by omega) (by omega), show rd (cuts (turn s k)) j - 4 - 4 = rd (cuts (turn s k)) j - 8 by omega]
    have hb8 : (rd (cuts (turn s k)) j == 8) = true → (8 : Int) ∈ cuts (turn s k) := by
      intro e
      rw [← (beq_iff_eq.1 e)]
      exact cut_of (turn s k) j h0 (by omega)
    by_cases h : rd (cuts (turn s k)) j > 8
    · rw [if_pos h] at hn
      cases b with
      | true => exact ev_true rfl (ev_pos h (ev_pos (by omega) (ih _ _ _ (by omega) (by omega) hb hn.symm)))
      | false => exact ev_false rfl (ev_pos h (ev_pos (by omega) (ih _ _ _ (by omega) (by omega) hb8 hn.symm)))
    · rw [if_neg h, List.append_nil] at hn
      cases b with
      | true => exact ev_true rfl (ev_neg h (ih _ _ _ (by omega) (by omega) hb hn.symm))
      | false => exact ev_false rfl (ev_neg h (ih _ _ _ (by omega) (by omega) hb8 hn.symm))
theorem loop1 (E : Ev (fun _ => (spec_DrawRollOn.f x1).bind fun bt238 => ((impl_RollOn.f bt238.1 bt238.2.1 bt238.2.2).bind fun bt241 => ((spec_RollOn.f bt238.1 bt238.2.1 bt238.2.2).bind fun bt243 => (if (bt241.2 == bt243.2) = true then (some (bt241.1 == bt243.1)) else (some false))))) true) : ∀ (f : Nat) (i : Int), 0 ≤ i → i + f = (cuts s).length →
    Ev (fun k => laws_FnCuts.l1 k x1 s (cuts s) (cuts s) ((cuts s).length : Int) i) true := by
  have hu := cuts_up s
  intro f
  induction f with
  | zero =>
    intro i h0 h1
    exact Ev.step (fun _ => laws_FnCuts.l1.eq_2 ..) (ev_neg (by omega) E)
  | succ f ih =>
    intro i h0 h1
    have hm := cut_of s i h0 (by omega)
    have hc := hu.1 _ hm
    have H := ih (i + 1) (by omega) (by omega)
    rw [← w64 (x := i + 1) (by omega) (by omega)] at H
    refine Ev.step (fun _ => laws_FnCuts.l1.eq_2 ..) (ev_pos (by omega) (ev_pos h0 (ev_pos (by omega) ?_)))
    by_cases h8 : rd (cuts s) i < 8
    · exact ev_pos h8 H
    · rw [w64 (x := rd (cuts s) i - 4) (by omega) (by omega)]
      have ht := turn_size s (rd (cuts s) i) (by omega) hc.2
      have hcut : Ev (fun k => impl_CutsOf.f k (turn s (rd (cuts s) i))) (cuts (turn s (rd (cuts s) i)), true) := by
        unfold impl_CutsOf.f
        exact ev_neg (by omega) (Ev.bind (impl_cuts _ (by omega)) (ev_ret rfl))
      have G := loop2 x1 s hs i (rd (cuts s) i) hm (by omega) H (cuts (turn s (rd (cuts s) i))).length false [] 0 (by omega) (by omega) (fun e => by cases e) (by simp)
      have et : (⟨#[122, 122, 122, 122]⟩ : ByteArray) ++ s.extract (rd (cuts s) i - 4).toNat s.size = turn s (rd (cuts s) i) := rfl
      simp only [et]
      refine ev_neg h8 (ev_pos (by omega) (ev_pos (by omega) (ev_pos (by rw [ByteArray.size_extract]; omega) (Ev.bind hcut (ev_true rfl ?_)))))
      dsimp only
      exact G
end
end HFnCuts
open HFnCuts

theorem FnCuts : laws_FnCuts.Pure := by
  intro l0 l1 hm0 hs0 hw0 hm1 hs1 hw1
  refine Ev.rounds (r := true) ?_
  have hl0 := bytes_of hw0
  have hl1 := bytes_of hw1
  unfold laws_FnCuts.f
  rw [w64 (x := (l0.length : Int) + l1.length) (by omega) (by omega)]
  by_cases hb : (l0.length : Int) + l1.length > 1048576
  · exact ev_pos hb (ev_ret rfl)
  · refine ev_neg hb ?_
    obtain ⟨s, p1, q1, e1, hs, _, _⟩ := words_ok hl0 0 0 (by omega) (by omega)
    have hd : Ev (fun k => spec_DrawCutsOf.f k l0) s := by
      unfold spec_DrawCutsOf.f
      exact Ev.bind e1 (ev_ret rfl)
    refine Ev.bind hd ?_
    have E : Ev (fun _ => (spec_DrawRollOn.f l1).bind fun bt238 => ((impl_RollOn.f bt238.1 bt238.2.1 bt238.2.2).bind fun bt241 => ((spec_RollOn.f bt238.1 bt238.2.1 bt238.2.2).bind fun bt243 => (if (bt241.2 == bt243.2) = true then (some (bt241.1 == bt243.1)) else (some false))))) true := by
      obtain ⟨h, p2, q2, e2, hh, _, _⟩ := among_ok hl1 0 0 [-1, 0, 100, 4092, 4093] (by omega) (by omega) (by simp) (by simp)
      obtain ⟨a, p3, q3, e3, ha0, ha1, _, _⟩ := byte_ok hl1 p2 q2 (by omega) (by omega)
      obtain ⟨b, p4, q4, e4, hb0, hb1, _, _⟩ := byte_ok hl1 p3 q3 (by omega) (by omega)
      obtain ⟨r, r1, r2⟩ := roll_eq h a b ⟨ha0, ha1⟩ ⟨hb0, hb1⟩
      have hdr : spec_DrawRollOn.f l1 = some (h, a, b) := by
        unfold spec_DrawRollOn.f
        rw [e2]
        simp only [Option.bind_some]
        rw [e3]
        simp only [Option.bind_some]
        rw [e4]
        rfl
      refine ev_bindc (f := fun _ b => (impl_RollOn.f b.1 b.2.1 b.2.2).bind fun c => (spec_RollOn.f b.1 b.2.1 b.2.2).bind fun d => if (c.2 == d.2) = true then some (c.1 == d.1) else some false) hdr ?_
      refine ev_bindc (f := fun _ c => (spec_RollOn.f h a b).bind fun d => if (c.2 == d.2) = true then some (c.1 == d.1) else some false) r1 ?_
      refine ev_bindc (f := fun _ d => if (r.2 == d.2) = true then some (r.1 == d.1) else some false) r2 ?_
      exact ev_pos (by simp) (ev_ret (by simp))
    by_cases h4 : (s.size : Int) > 400
    · have w1 : Ev (fun k => impl_CutsOf.f k s) ([], false) := by unfold impl_CutsOf.f; exact ev_pos h4 (ev_ret rfl)
      have w2 : Ev (fun k => spec_CutsOf.f k s) ([], false) := by unfold spec_CutsOf.f; exact ev_pos h4 (ev_ret rfl)
      have w3 : Ev (fun k => impl_PiecesOf.f k s) ([], false) := by unfold impl_PiecesOf.f; exact Ev.bind w1 (ev_false rfl (ev_ret rfl))
      refine Ev.bind w1 (Ev.bind w2 (Ev.bind w3 (ev_neg (by simp) (Ev.bind (same [] (by simp)) (ev_true rfl (ev_neg (by simp) ?_))))))
      exact Ev.step (fun _ => laws_FnCuts.j0.eq_2 ..) (ev_neg (by simp) (ev_false rfl E))
    · have hs4 : s.size ≤ 400 := by omega
      have w1 : Ev (fun k => impl_CutsOf.f k s) (cuts s, true) := by unfold impl_CutsOf.f; exact ev_neg h4 (Ev.bind (impl_cuts s (by omega)) (ev_ret rfl))
      have w2 : Ev (fun k => spec_CutsOf.f k s) (cuts s, true) := by unfold spec_CutsOf.f; exact ev_neg h4 (Ev.bind (spec_cuts s (by omega)) (ev_ret rfl))
      have w3 := impl_piecesOf s (by omega) h4
      have hlen := (cuts_up s).2.2
      refine Ev.bind w1 (Ev.bind w2 (Ev.bind w3 (ev_neg (by simp) (Ev.bind (same (cuts s) (by omega)) (ev_true rfl (ev_neg (by simp) ?_))))))
      refine Ev.step (fun _ => laws_FnCuts.j0.eq_2 ..) (ev_neg (by simp [pieces_length]) (ev_true rfl ?_))
      refine pieces_loop l1 s hs4 (loop1 l1 s hs4 E (cuts s).length 0 (by omega) (by omega)) (cuts s).length _ 0 (by omega) (by omega) ?_
      apply ByteArray.ext
      apply Array.ext
      · simp [prv]
      · intro i hi _
        simp at hi

end Go.Proofs.Ytdlaegianaofjaa.Pure
