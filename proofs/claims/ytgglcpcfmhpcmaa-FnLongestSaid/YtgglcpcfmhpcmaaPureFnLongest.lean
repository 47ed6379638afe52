/- The longest match stands where it is reported, and there is no longer one and no nearer one, for all bytes that the texts are drawn from; no condition. -/
import Derived.Test.YtgglcpcfmhpcmaaYFnLongestx3
import Derived.Test.YtgglcpcfmhpcmaaZFnLongestRepeats
import Derived.Test.YtgglcpcfmhpcmaaZFnLongestLzLongest
namespace Go.Proofs.Ytgglcpcfmhpcmaa.Pure
open Go.RowKit Go.Proofs.Ytgglcpcfmhpcmaa.PFnLongest Go.Proofs.YtgglcpcfmhpcmaaW.PrintWords Go.Proofs.YtgglcpcfmhpcmaaW.PrintLast Go.Proofs.YtgglcpcfmhpcmaaW.PrintMore Go.Proofs.Ytgglcpcfmhpcmaa.E Go.Proofs.Ytgglcpcfmhpcmaa.ZFnLongest
set_option linter.unusedSimpArgs false
set_option linter.unusedVariables false

namespace HLongest
/-- The state of the search: no distance below d is better than what is held, and the held one is the nearest of its length. -/
def Best (s : ByteArray) (p dist long d : Int) : Prop :=
  (∀ e, 1 ≤ e → e < d → run s p e (lim s p) 0 ≤ long) ∧ (dist = 0 ∧ long = 2 ∨ 1 ≤ dist ∧ dist < d ∧ 3 ≤ long ∧ long = run s p dist (lim s p) 0 ∧ ∀ e, 1 ≤ e → e < dist → run s p e (lim s p) 0 < long)
theorem scan_best (s : ByteArray) (p : Int) : ∀ (f : Nat) (dist long d : Int), 1 ≤ d → Best s p dist long d →
    ∃ dist' long', Best s p dist' long' (d + f) ∧ scan s p f dist long d = if dist' = 0 then (0, 0) else (dist', long') := by
  intro f
  induction f with
  | zero =>
    intro dist long d hd h
    exact ⟨dist, long, by simpa using h, rfl⟩
  | succ f ih =>
    intro dist long d hd h
    have e : d + ((f + 1 : Nat) : Int) = d + 1 + f := by omega
    rw [e]
    simp only [scan]
    split
    · rename_i hg
      refine ih _ _ (d + 1) (by omega) ⟨?_, .inr ⟨by omega, by omega, ?_, rfl, ?_⟩⟩
      · intro e h1 h2
        by_cases h3 : e = d
        · rw [h3]; omega
        · have := h.1 e h1 (by omega); omega
      · rcases h.2 with ⟨_, h2⟩ | ⟨_, _, h2, _⟩ <;> omega
      · intro e h1 h2
        have := h.1 e h1 h2; omega
    · rename_i hg
      refine ih _ _ (d + 1) (by omega) ⟨?_, ?_⟩
      · intro e h1 h2
        by_cases h3 : e = d
        · rw [h3]; omega
        · exact h.1 e h1 (by omega)
      · rcases h.2 with h2 | ⟨h2, h3, h4⟩
        · exact .inl h2
        · exact .inr ⟨h2, by omega, h4⟩
theorem longest_best (s : ByteArray) (p : Int) (h0 : 0 ≤ p) : ∃ dist long, Best s p dist long ((if 255 ≤ p then 255 else p) + 1) ∧ longest s p = if dist = 0 then (0, 0) else (dist, long) := by
  unfold longest
  obtain ⟨dist, long, h, e⟩ := scan_best s p (if 255 ≤ p then 255 else p).toNat 0 2 1 (by omega) ⟨fun e h1 h2 => by omega, .inl ⟨rfl, rfl⟩⟩
  refine ⟨dist, long, ?_, e⟩
  have e2 : (1 : Int) + ((if 255 ≤ p then (255 : Int) else p).toNat : Int) = (if 255 ≤ p then 255 else p) + 1 := by split <;> omega
  rwa [e2] at h
/-- Where the run has come to, all bytes before are alike. -/
theorem run_alike (s : ByteArray) (p d : Int) : ∀ (f : Nat) (n i : Int), n ≤ i → i < run s p d f n → bt s (p + i) = bt s (p + i - d) := by
  intro f
  induction f with
  | zero => intro n i h0 h1; simp only [run] at h1; omega
  | succ f ih =>
    intro n i h0 h1
    simp only [run] at h1
    split at h1
    · rename_i he
      by_cases h : i = n
      · rw [h]; exact he
      · exact ih (n + 1) i (by omega) h1
    · omega
section
variable (s : ByteArray) (p : Int) (hs : s.size ≤ 1048576) (h0 : 0 ≤ p) (h1 : p ≤ s.size)
include hs h0 h1
/-- The law's third loop: every distance is tried anew. -/
theorem tried (dist long : Int) (hall : ∀ e, 1 ≤ e → e ≤ (if 255 ≤ p then 255 else p) → ¬ (run s p e (lim s p) 0 > long ∧ run s p e (lim s p) 0 ≥ 3) ∧ ¬ (run s p e (lim s p) 0 = long ∧ long > 0 ∧ e < dist)) :
    ∀ (m : Nat) (d : Int), 1 ≤ d → d + m = (if 255 ≤ p then 255 else p) + 1 → Ev (fun k => laws_FnLongest.l1 k s p dist long d) true := by
  have hl := lim_bd s p h1
  intro m
  induction m with
  | zero =>
    intro d hd hm
    refine Ev.step (fun _ => laws_FnLongest.l1.eq_2 ..) ?_
    have J : Ev (fun k => laws_FnLongest.j5 k s p dist long d false) true := Ev.step (fun _ => laws_FnLongest.j5.eq_2 ..) (ev_false rfl (ev_ret rfl))
    by_cases h : d ≤ p
    · have e : decide (d ≤ 255) = false := by
        rw [decide_eq_false_iff_not]
        split at hm <;> omega
      rw [e]
      exact ev_pos h J
    · exact ev_neg h J
  | succ m ih =>
    intro d hd hm
    have hdm : d ≤ (if 255 ≤ p then 255 else p) := by omega
    have hdp : d ≤ p ∧ d ≤ 255 := by split at hdm <;> omega
    have H := hall d hd hdm
    have next := ih (d + 1) (by omega) (by omega)
    have inner : ∀ (f : Nat) (n : Int), 0 ≤ n → n + f = lim s p → run s p d f n = run s p d (lim s p) 0 → Ev (fun k => laws_FnLongest.l2 k s p dist long d n) true := by
      intro f
      have fin : ∀ n : Int, n = run s p d (lim s p) 0 → Ev (fun k => (if n > long then (if n ≥ 3 then (some false) else (if n = long then (if long > 0 then (if d < dist then (some false) else (laws_FnLongest.l1 k s p dist long (wrap64 (d + 1)))) else (laws_FnLongest.l1 k s p dist long (wrap64 (d + 1)))) else (laws_FnLongest.l1 k s p dist long (wrap64 (d + 1))))) else (if n = long then (if long > 0 then (if d < dist then (some false) else (laws_FnLongest.l1 k s p dist long (wrap64 (d + 1)))) else (laws_FnLongest.l1 k s p dist long (wrap64 (d + 1)))) else (laws_FnLongest.l1 k s p dist long (wrap64 (d + 1)))))) true := by
        intro n hn
        rw [← hn] at H
        rw [w64 (x := d + 1) (by omega) (by omega)]
        have tailEv : Ev (fun k => if n = long then (if long > 0 then (if d < dist then (some false) else (laws_FnLongest.l1 k s p dist long (d + 1))) else (laws_FnLongest.l1 k s p dist long (d + 1))) else (laws_FnLongest.l1 k s p dist long (d + 1))) true := by
          by_cases a : n = long
          · refine ev_pos a ?_
            by_cases b : long > 0
            · exact ev_pos b (ev_neg (fun c => H.2 ⟨a, b, c⟩) next)
            · exact ev_neg b next
          · exact ev_neg a next
        by_cases a : n > long
        · exact ev_pos a (ev_neg (fun b => H.1 ⟨a, b⟩) tailEv)
        · exact ev_neg a tailEv
      induction f with
      | zero =>
        intro n hn hf hr
        simp only [run] at hr
        refine Ev.step (fun _ => laws_FnLongest.l2.eq_2 ..) ?_
        by_cases h : n < 66
        · refine ev_pos h (ev_neg ?_ (fin n hr))
          rw [w64 (x := p + n) (by omega) (by omega)]
          omega
        · exact ev_neg h (fin n hr)
      | succ f ihf =>
        intro n hn hf hr
        refine Ev.step (fun _ => laws_FnLongest.l2.eq_2 ..) ?_
        rw [w64 (x := p + n) (by omega) (by omega), w64 (x := p + n - d) (by omega) (by omega), w64 (x := n + 1) (by omega) (by omega)]
        refine ev_pos (by omega) (ev_pos (by omega) (ev_pos (by omega) (ev_pos (by omega) (ev_pos (by omega) ?_))))
        simp only [run] at hr
        by_cases e : bt s (p + n) = bt s (p + n - d)
        · rw [if_pos e] at hr
          exact ev_pos e (ihf (n + 1) (by omega) (by omega) hr)
        · rw [if_neg e] at hr
          exact ev_neg e (fin n hr)
    refine Ev.step (fun _ => laws_FnLongest.l1.eq_2 ..) (ev_pos hdp.1 ?_)
    rw [decide_eq_true hdp.2]
    exact Ev.step (fun _ => laws_FnLongest.j5.eq_2 ..) (ev_true rfl (inner (lim s p) 0 (by omega) (by omega) rfl))
/-- The law's first loop: the match stands where it is told. -/
theorem stands (dist long : Int) (hd0 : 0 ≤ dist) (hdp : dist ≤ p) (hlo : 0 ≤ long) (hlp : p + long ≤ s.size) (hal : ∀ i, 0 ≤ i → i < long → bt s (p + i) = bt s (p + i - dist))
    (hn : Ev (fun k => laws_FnLongest.l1 k s p dist long 1) true) : ∀ (f : Nat) (i : Int), 0 ≤ i → i + f = long → Ev (fun k => laws_FnLongest.l0 k s p dist long i) true := by
  intro f
  induction f with
  | zero =>
    intro i hi hf
    exact Ev.step (fun _ => laws_FnLongest.l0.eq_2 ..) (ev_neg (by omega) hn)
  | succ f ih =>
    intro i hi hf
    refine Ev.step (fun _ => laws_FnLongest.l0.eq_2 ..) (ev_pos (by omega) ?_)
    rw [w64 (x := p + i) (by omega) (by omega), w64 (x := p + i - dist) (by omega) (by omega), w64 (x := i + 1) (by omega) (by omega)]
    exact ev_pos (by omega) (ev_pos (by omega) (ev_pos (by omega) (ev_pos (by omega) (ev_pos (hal i hi (by omega)) (ih (i + 1) (by omega) (by omega))))))
end
end HLongest
open HLongest

theorem FnLongest : laws_FnLongest.Pure := by
  intro l hm hsz hw
  refine Ev.rounds (r := true) ?_
  have hl := bytes_of hw
  unfold laws_FnLongest.f
  by_cases hb : (l.length : Int) > 1048576
  · exact ev_pos hb (ev_ret rfl)
  · refine ev_neg hb ?_
    obtain ⟨s, p1, q1, e1, hs, a1, a2⟩ := repeats_ok hl 0 0 (by omega) (by omega)
    obtain ⟨n, p2, q2, e2, hn0, hn1, _, _⟩ := pick_ok hl p1 q1 ((s.size : Int) + 3) (by omega) (by omega) (by omega)
    have hd : Ev (fun k => spec_DrawLongestAt.f k l) (s, n - 1) := by
      unfold spec_DrawLongestAt.f
      refine Ev.bind e1 (ev_bindc (a := (n, p2, q2)) ?_ (ev_ret ?_))
      · rw [w64 (x := (s.size : Int) + 3) (by omega) (by omega)]; exact e2
      · rw [w64 (x := n - 1) (by omega) (by omega)]
    refine Ev.bind hd ?_
    show Ev (fun k => (impl_LongestAt.f k s (n - 1)).bind _) true
    generalize n - 1 = p
    by_cases hg : (s.size : Int) > 600 ∨ ¬ (0 ≤ p ∧ p ≤ (s.size : Int))
    · have w1 : Ev (fun k => impl_LongestAt.f k s p) (0, 0, false) := by
        unfold impl_LongestAt.f impl_within.f
        by_cases h6 : (s.size : Int) > 600
        · exact ev_pos h6 (ev_ret rfl)
        · refine ev_neg h6 ?_
          by_cases h0 : p ≥ 0
          · have e : decide (p ≤ (s.size : Int)) = false := by simp; omega
            simp only [if_pos h0, e, Option.bind_some]
            exact ev_neg (by simp) (ev_ret rfl)
          · simp only [if_neg h0, Option.bind_some]
            exact ev_neg (by simp) (ev_ret rfl)
      have w2 : Ev (fun k => spec_LongestAt.f k s p) (0, 0, false) := by
        unfold spec_LongestAt.f spec_l1In.f
        by_cases h6 : (s.size : Int) > 600
        · exact ev_pos h6 (ev_ret rfl)
        · refine ev_neg h6 ?_
          by_cases h0 : p ≥ 0
          · have e : decide (p ≤ (s.size : Int)) = false := by simp; omega
            simp only [if_pos h0, e, Option.bind_some]
            exact ev_neg (by simp) (ev_ret rfl)
          · simp only [if_neg h0, Option.bind_some]
            exact ev_neg (by simp) (ev_ret rfl)
      refine Ev.bind w1 (Ev.bind w2 (ev_neg (by simp) (ev_pos rfl ?_)))
      exact Ev.step (fun _ => laws_FnLongest.j0.eq_2 ..) (ev_neg (by simp) (ev_false rfl (Ev.step (fun _ => laws_FnLongest.j1.eq_2 ..) (ev_true rfl (ev_ret rfl)))))
    · have h6 : ¬ (s.size : Int) > 600 := fun h => hg (.inl h)
      have h01 : 0 ≤ p ∧ p ≤ (s.size : Int) := Classical.byContradiction fun h => hg (.inr h)
      have hin : decide (p ≤ (s.size : Int)) = true := by simp; omega
      have w1 : Ev (fun k => impl_LongestAt.f k s p) ((longest s p).1, (longest s p).2, true) := by
        unfold impl_LongestAt.f impl_within.f
        simp only [if_pos (show p ≥ 0 from h01.1), hin, Option.bind_some]
        exact ev_neg h6 (ev_pos (by simp) (Ev.bind (impl_longest s p (by omega) h01.1 h01.2) (ev_ret rfl)))
      have w2 : Ev (fun k => spec_LongestAt.f k s p) ((longest s p).1, (longest s p).2, true) := by
        unfold spec_LongestAt.f spec_l1In.f
        simp only [if_pos (show p ≥ 0 from h01.1), hin, Option.bind_some]
        exact ev_neg h6 (ev_pos (by simp) (Ev.bind (spec_longest s p (by omega) h01.1 h01.2) (ev_ret rfl)))
      refine Ev.bind w1 (Ev.bind w2 (ev_neg (by simp) (ev_pos rfl ?_)))
      refine Ev.step (fun _ => laws_FnLongest.j0.eq_2 ..) (ev_neg (by simp) (ev_true rfl (Ev.step (fun _ => laws_FnLongest.j1.eq_2 ..) ?_)))
      by_cases h3 : (s.size : Int) > 300
      · exact ev_true (decide_eq_true h3) (ev_ret rfl)
      · refine ev_false (decide_eq_false h3) ?_
        obtain ⟨dist, long, hbest, hlong⟩ := longest_best s p h01.1
        have hlim := lim_bd s p h01.2
        rw [hlong]
        rcases hbest.2 with ⟨hz, hl2⟩ | ⟨hd1, hd2, hl3, hrun, hnear⟩
        · subst hz
          rw [if_pos rfl]
          refine ev_neg (by simp) (Ev.step (fun _ => laws_FnLongest.j2.eq_2 ..) (ev_false rfl ?_))
          refine stands s p (by omega) h01.1 h01.2 0 0 (by omega) (by omega) (by omega) (by omega) (fun i _ _ => by omega) ?_ 0 0 (by omega) (by omega)
          refine tried s p (by omega) h01.1 h01.2 0 0 (fun e he1 he2 => ?_) (if 255 ≤ p then 255 else p).toNat 1 (by omega) (by split <;> omega)
          have := hbest.1 e he1 (by omega)
          exact ⟨by omega, by omega⟩
        · rw [if_neg (by omega)]
          have hrb := run_bd s p dist (lim s p) 0
          have hdp : dist ≤ p := by split at hd2 <;> omega
          refine ev_pos (by show dist > 0; omega) (ev_neg (by show ¬ dist > p; omega) (ev_neg (by show ¬ long < 3; omega) (ev_neg (by show ¬ long > 66; omega) ?_)))
          have e : decide (wrap64 (p + long) > (s.size : Int)) = false := by
            rw [w64 (by omega) (by omega), decide_eq_false_iff_not]; omega
          show Ev (fun k => laws_FnLongest.j2 k s p dist long (decide (wrap64 (p + long) > (s.size : Int)))) true
          rw [e]
          refine Ev.step (fun _ => laws_FnLongest.j2.eq_2 ..) (ev_false rfl ?_)
          refine stands s p (by omega) h01.1 h01.2 dist long (by omega) hdp (by omega) (by omega) (fun i hi1 hi2 => run_alike s p dist (lim s p) 0 i hi1 (by omega)) ?_ long.toNat 0 (by omega) (by omega)
          refine tried s p (by omega) h01.1 h01.2 dist long (fun e he1 he2 => ?_) (if 255 ≤ p then 255 else p).toNat 1 (by omega) (by split <;> omega)
          have h1 := hbest.1 e he1 (by omega)
          refine ⟨by omega, fun ⟨ha, _, hc⟩ => ?_⟩
          have := hnear e he1 hc
          omega

end Go.Proofs.Ytgglcpcfmhpcmaa.Pure
