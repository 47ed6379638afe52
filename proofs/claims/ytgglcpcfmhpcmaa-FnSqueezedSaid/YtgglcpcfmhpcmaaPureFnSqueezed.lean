/- A text comes back from what it was made short to, and that is short; for all texts; no condition. -/
import Derived.Test.YtgglcpcfmhpcmaaYFnSqueezedx10
import Derived.Test.YtgglcpcfmhpcmaaZFnSqueezedLzPackBack
import Derived.Test.YtgglcpcfmhpcmaaZFnSqueezedSpoilt
namespace Go.Proofs.Ytgglcpcfmhpcmaa.Pure
open Go.RowKit Go.Proofs.Ytgglcpcfmhpcmaa.PFnSqueezed Go.Proofs.YtgglcpcfmhpcmaaW.PrintWords Go.Proofs.YtgglcpcfmhpcmaaW.PrintLast Go.Proofs.YtgglcpcfmhpcmaaW.PrintMore Go.Proofs.Ytgglcpcfmhpcmaa.E Go.Proofs.Ytgglcpcfmhpcmaa.ZFnSqueezed
set_option linter.unusedSimpArgs false
set_option linter.unusedVariables false

namespace HFnSqueezed
theorem same_l (l : List S56) (hm : l.length ≤ 1000000) : ∀ (f : Nat) (i : Int), 0 ≤ i → i + f = l.length → Ev (fun k => laws_sameTokens.l0 k l l (l.length : Int) i) true := by
  intro f
  induction f with
  | zero => intro i h0 h1; exact Ev.step (fun _ => laws_sameTokens.l0.eq_2 ..) (ev_neg (by omega) (ev_ret rfl))
  | succ f ih =>
    intro i h0 h1
    refine Ev.step (fun _ => laws_sameTokens.l0.eq_2 ..) (ev_pos (by omega) (ev_pos h0 (ev_pos (by omega) (ev_pos (by omega) (ev_neg (by simp) ?_)))))
    rw [w64 (x := i + 1) (by omega) (by omega)]
    exact ih _ (by omega) (by omega)
theorem same (l : List S56) (hm : l.length ≤ 1000000) : Ev (fun k => laws_sameTokens.f k l l) true := by
  unfold laws_sameTokens.f
  exact ev_pos rfl (same_l l hm l.length 0 (by omega) (by omega))
theorem impl_sq (s : ByteArray) (h6 : ¬ (s.size : Int) > 600) : Ev (fun k => impl_Squeeze.f k s) (⟨(packL (tk s)).toArray⟩, true) := by
  have hb := tk_bd s (by omega)
  unfold impl_Squeeze.f
  refine Ev.bind (impl_tk s h6) (ev_true rfl (ev_bindc (a := ⟨(packL (tk s)).toArray⟩) ?_ (ev_ret rfl)))
  unfold impl_packed.f
  exact if_pos (show (packL (tk s)).length ≤ 140737488355328 by omega)
theorem expand (l : List S56) (hl : (l.length : Int) ≤ 100000000000) (r : ByteArray) (h : res l l.length 0 [] = (r, true)) : Ev (fun k => impl_expanded.f k l) (r, true) := by
  have := impl_exp l hl
  rw [h] at this
  exact this
theorem expandT (l : List S56) (hl : (l.length : Int) ≤ 100000000000) (r : ByteArray) (h : res l l.length 0 [] = (r, true)) : Ev (fun k => impl_ExpandTokens.f k l) (r, true) := by
  unfold impl_ExpandTokens.f
  exact Ev.bind (expand l hl r h) (ev_ret rfl)
theorem unsq (u : ByteArray) (hu : u.size ≤ 100000) (l : List S56) (hl : (l.length : Int) ≤ 100000000000) (r : ByteArray) (ha : ans (unp u u.size 0 []) = (l, true)) (h : res l l.length 0 [] = (r, true)) : Ev (fun k => impl_Unsqueeze.f k u) (r, true) := by
  have h1 := impl_unpack u (by omega)
  rw [ha] at h1
  unfold impl_Unsqueeze.f
  exact Ev.bind h1 (ev_true rfl (Ev.bind (expand l hl r h) (ev_ret rfl)))
/-- The law's second part: a drawn text, unpacked. -/
theorem part2 (l1 : List Int) (hl1 : Bytes l1) : Ev (fun k => laws_FnSqueezed.j1 k l1) true := by
  obtain ⟨t, p1, q1, e1, ht, _, _⟩ := repeats_ok hl1 0 0 (by omega) (by omega)
  obtain ⟨c, e2, hc⟩ : ∃ c : ByteArray × Bool, Ev (fun k => spec_Squeeze.f k t) c ∧ c.1.size ≤ 1400 := by
    by_cases h6 : (t.size : Int) > 600
    · refine ⟨(⟨#[]⟩, false), ?_, by show (⟨#[]⟩ : ByteArray).size ≤ 1400; decide⟩
      unfold spec_Squeeze.f
      exact ev_pos h6 (ev_ret rfl)
    · have hb := tk_bd t (by omega)
      exact ⟨_, spec_sq t h6, by show (⟨(packL (tk t)).toArray⟩ : ByteArray).size ≤ 1400; rw [mkB_size]; omega⟩
  obtain ⟨b, p2, q2, e3, _, _⟩ := one_ok hl1 p1 q1 3 (by omega) (by omega) (by omega)
  obtain ⟨u, hd, hu⟩ : ∃ u, Ev (fun k => spec_DrawUnpackTokens.f k l1) u ∧ u.size ≤ 2000 := by
    unfold spec_DrawUnpackTokens.f
    cases b with
    | true =>
      obtain ⟨s, p3, q3, e4, hs, _, _⟩ := spoilt_ok hl1 (⟨#[0, 64, 255]⟩ : ByteArray) (by decide) (by decide) p2 q2 c.1 (by omega) (by omega) (by omega)
      exact ⟨s, Ev.bind e1 (Ev.bind e2 (ev_bindc e3 (ev_true rfl (Ev.bind e4 (ev_ret rfl))))), by omega⟩
    | false => exact ⟨c.1, Ev.bind e1 (Ev.bind e2 (ev_bindc e3 (ev_false rfl (ev_ret rfl)))), by omega⟩
  have hw := spec_unpack u (by omega)
  have hi := impl_unpack u (by omega)
  have hlen := ans_len u
  refine Ev.step (fun _ => laws_FnSqueezed.j1.eq_2 ..) (Ev.bind hd (Ev.bind hi (Ev.bind hw (ev_neg (by simp) (Ev.bind (same _ (by omega)) ?_)))))
  cases hun : unp u u.size 0 [] with
  | none => exact Ev.step (fun _ => laws_FnSqueezed.j2.eq_2 ..) (ev_neg (by simp) (ev_false rfl (ev_ret rfl)))
  | some l =>
    by_cases hg : gd l l.length 0 0 = true
    · have ha : ans (some l) = (l, true) := if_pos hg
      have ha2 : ans (unp u u.size 0 []) = (l, true) := by rw [hun]; exact ha
      rw [ha2] at hlen
      dsimp only at hlen
      have hback := unp_back u l hun
      have hz : (packL l).length = u.size := by rw [← hback, mkB_size]
      have hr : res l l.length 0 [] = (strOfNums (expM l l.length 0 []), true) := if_pos hg
      have hgt : Ev (fun k => impl_GoodTokens.f k l) true := by
        have := impl_good l (by omega)
        rwa [hg] at this
      have hp : Ev (fun k => impl_PackTokens.f k l) (u, true) := by
        unfold impl_PackTokens.f
        refine Ev.bind hgt (ev_true rfl (ev_bindc (a := u) ?_ (ev_ret rfl)))
        unfold impl_packed.f
        rw [if_pos (by omega), hback]
      have hx := expandT l (by omega) _ hr
      have hq := unsq u (by omega) l (by omega) _ ha2 hr
      rw [ha]
      dsimp only
      exact Ev.step (fun _ => laws_FnSqueezed.j2.eq_2 ..) (ev_neg (by simp) (ev_true rfl (Ev.bind hp (Ev.bind hq (Ev.bind hx (ev_true rfl (ev_pos rfl (ev_true rfl (ev_true rfl (ev_ret (by simp))))))))) ))
    · have ha : ans (some l) = ([], false) := if_neg hg
      rw [ha]
      dsimp only
      exact Ev.step (fun _ => laws_FnSqueezed.j2.eq_2 ..) (ev_neg (by simp) (ev_false rfl (ev_ret rfl)))
end HFnSqueezed
open HFnSqueezed

theorem FnSqueezed : laws_FnSqueezed.Pure := by
  intro l0 l1 hm0 hs0 hw0 hm1 hs1 hw1
  refine Ev.rounds (r := true) ?_
  have hl0 := bytes_of hw0
  have hl1 := bytes_of hw1
  unfold laws_FnSqueezed.f
  rw [w64 (x := (l0.length : Int) + l1.length) (by omega) (by omega)]
  by_cases hb : (l0.length : Int) + l1.length > 1048576
  · exact ev_pos hb (ev_ret rfl)
  · refine ev_neg hb ?_
    obtain ⟨s, p1, q1, e1, hs, _, _⟩ := repeats_ok hl0 0 0 (by omega) (by omega)
    have hd : Ev (fun k => spec_DrawSqueeze.f k l0) s := by
      unfold spec_DrawSqueeze.f spec_DrawTokensOf.f
      exact Ev.bind (Ev.bind e1 (ev_ret rfl)) (ev_ret rfl)
    have P := part2 l1 hl1
    refine Ev.bind hd ?_
    by_cases h6 : (s.size : Int) > 600
    · have w1 : Ev (fun k => impl_Squeeze.f k s) (⟨#[]⟩, false) := by
        unfold impl_Squeeze.f impl_TokensOf.f
        exact Ev.bind (ev_pos h6 (ev_ret rfl)) (ev_false rfl (ev_ret rfl))
      have w2 : Ev (fun k => spec_Squeeze.f k s) (⟨#[]⟩, false) := by
        unfold spec_Squeeze.f
        exact ev_pos h6 (ev_ret rfl)
      refine Ev.bind w1 (Ev.bind w2 (ev_neg (by simp) ?_))
      exact Ev.step (fun _ => laws_FnSqueezed.j0.eq_2 ..) (ev_neg (by simp) (ev_false rfl P))
    · have hi := tk_inv s (by omega)
      have hbd := tk_bd s (by omega)
      have hpl := pack_len hi.1
      rw [hi.2.1] at hpl
      have hz := mkB_size (packL (tk s))
      have hgd := gd_good hi.1 (by rw [hi.2.1]; omega)
      have hgt : Ev (fun k => impl_GoodTokens.f k (tk s)) true := by
        have := impl_good (tk s) (by omega)
        rwa [hgd] at this
      refine Ev.bind (impl_sq s h6) (Ev.bind (spec_sq s h6) (ev_neg (by simp) ?_))
      refine Ev.step (fun _ => laws_FnSqueezed.j0.eq_2 ..) (ev_neg (by simp) (ev_true rfl ?_))
      refine Ev.bind (unsq (⟨(packL (tk s)).toArray⟩ : ByteArray) (by omega) (tk s) (by omega) s (tk_back s (by omega)) (tk_res s (by omega))) (Ev.bind (impl_tk s h6) (Ev.bind (expandT (tk s) (by omega) s (tk_res s (by omega))) ?_))
      refine ev_true rfl (ev_pos rfl (ev_true rfl (ev_true rfl (ev_pos rfl (Ev.bind hgt (ev_true rfl (ev_neg ?_ P)))))))
      rw [w64 (x := (s.size : Int) / 64) (by omega) (by omega), w64 (x := (s.size : Int) + (s.size : Int) / 64) (by omega) (by omega), w64 (by omega) (by omega)]
      dsimp only
      omega

end Go.Proofs.Ytgglcpcfmhpcmaa.Pure
