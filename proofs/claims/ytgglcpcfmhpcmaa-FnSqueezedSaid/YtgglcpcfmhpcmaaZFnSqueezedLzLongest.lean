import Derived.Test.YtgglcpcfmhpcmaaYFnSqueezedx7
import Derived.Test.YtgglcpcfmhpcmaaEv
/-! What the longest match comes to: a number of bytes alike, and the best of the distances. -/
namespace Go.Proofs.Ytgglcpcfmhpcmaa.ZFnSqueezed
open Go.RowKit Go.Proofs.Ytgglcpcfmhpcmaa.PFnSqueezed Go.Proofs.YtgglcpcfmhpcmaaW.PrintWords Go.Proofs.YtgglcpcfmhpcmaaW.PrintLast Go.Proofs.YtgglcpcfmhpcmaaW.PrintMore Go.Proofs.Ytgglcpcfmhpcmaa.E
set_option linter.unusedSimpArgs false
set_option linter.unusedVariables false

def run (s : ByteArray) (p d : Int) : Nat → Int → Int
  | 0, n => n
  | f + 1, n => if bt s (p + n) = bt s (p + n - d) then run s p d f (n + 1) else n
theorem run_bd (s : ByteArray) (p d : Int) : ∀ (f : Nat) (n : Int), n ≤ run s p d f n ∧ run s p d f n ≤ n + f := by
  intro f
  induction f with
  | zero => intro n; simp [run]
  | succ f ih =>
    intro n
    have := ih (n + 1)
    simp only [run]
    split <;> omega
def lim (s : ByteArray) (p : Int) : Nat := (if 66 ≤ (s.size : Int) - p then 66 else (s.size : Int) - p).toNat
def scan (s : ByteArray) (p : Int) : Nat → Int → Int → Int → Int × Int
  | 0, dist, long, _ => if dist = 0 then (0, 0) else (dist, long)
  | f + 1, dist, long, d => if run s p d (lim s p) 0 > long then scan s p f d (run s p d (lim s p) 0) (d + 1) else scan s p f dist long (d + 1)
def longest (s : ByteArray) (p : Int) : Int × Int := scan s p (if 255 ≤ p then 255 else p).toNat 0 2 1

theorem lim_bd (s : ByteArray) (p : Int) (h1 : p ≤ s.size) : (lim s p : Int) ≤ 66 ∧ p + lim s p ≤ s.size ∧ ((lim s p : Int) = 66 ∨ p + lim s p = s.size) := by
  unfold lim
  split <;> omega
section
variable (s : ByteArray) (p : Int) (hs : s.size ≤ 1048576) (h0 : 0 ≤ p) (h1 : p ≤ s.size)
include hs h0 h1
theorem impl_l1 (dist long d : Int) (hd : 1 ≤ d) (hp : d ≤ p) {r : Int × Int} : ∀ (f : Nat) (n : Int), 0 ≤ n → n + f = lim s p →
    Ev (fun k => if run s p d f n > long then impl_longestAt.l0 k s p d (run s p d f n) (wrap64 (d + 1)) else impl_longestAt.l0 k s p dist long (wrap64 (d + 1))) r →
    Ev (fun k => impl_longestAt.l1 k s p dist long d n) r := by
  have hl := lim_bd s p h1
  intro f
  induction f with
  | zero =>
    intro n hn hf H
    simp only [run] at H
    refine Ev.step (fun _ => impl_longestAt.l1.eq_2 ..) ?_
    by_cases h : n < 66
    · refine ev_pos h (ev_neg ?_ H)
      rw [w64 (x := p + n) (by omega) (by omega)]
      omega
    · exact ev_neg h H
  | succ f ih =>
    intro n hn hf H
    refine Ev.step (fun _ => impl_longestAt.l1.eq_2 ..) ?_
    rw [w64 (x := p + n) (by omega) (by omega), w64 (x := p + n - d) (by omega) (by omega), w64 (x := n + 1) (by omega) (by omega)]
    refine ev_pos (by omega) (ev_pos (by omega) (ev_pos (by omega) (ev_pos (by omega) (ev_pos (by omega) ?_))))
    simp only [run] at H
    by_cases e : bt s (p + n) = bt s (p + n - d)
    · simp only [if_pos e] at H
      exact ev_pos e (ih (n + 1) (by omega) (by omega) H)
    · simp only [if_neg e] at H
      exact ev_neg e H
theorem impl_l0 : ∀ (f : Nat) (dist long d : Int), 1 ≤ d → d + f = (if 255 ≤ p then 255 else p) + 1 →
    Ev (fun k => impl_longestAt.l0 k s p dist long d) (scan s p f dist long d) := by
  have hl := lim_bd s p h1
  intro f
  induction f with
  | zero =>
    intro dist long d hd hf
    refine Ev.step (fun _ => impl_longestAt.l0.eq_2 ..) ?_
    rw [mn_eq]
    refine ev_neg (by split at hf <;> split <;> omega) ?_
    simp only [scan]
    by_cases h : dist = 0
    · exact ev_pos h (ev_ret (by rw [if_pos h]))
    · exact ev_neg h (ev_ret (by rw [if_neg h]))
  | succ f ih =>
    intro dist long d hd hf
    refine Ev.step (fun _ => impl_longestAt.l0.eq_2 ..) ?_
    rw [mn_eq]
    refine ev_pos (by split at hf <;> split <;> omega) ?_
    refine impl_l1 s p hs h0 h1 dist long d hd (by split at hf <;> omega) (lim s p) 0 (by omega) (by omega) ?_
    rw [w64 (x := d + 1) (by split at hf <;> omega) (by split at hf <;> omega)]
    simp only [scan]
    split
    · exact ih _ _ _ (by omega) (by omega)
    · exact ih _ _ _ (by omega) (by omega)
theorem impl_longest : Ev (fun k => impl_longestAt.f k s p) (longest s p) := by
  unfold impl_longestAt.f longest
  exact impl_l0 s p hs h0 h1 _ 0 2 1 (by omega) (by split <;> omega)
theorem spec_l1 (dist long d : Int) (hd : 1 ≤ d) (hp : d ≤ p) {r : Int × Int} : ∀ (f : Nat) (n : Int), 0 ≤ n → n + f = lim s p →
    Ev (fun k => if run s p d f n > long then spec_l16Longest.l0 k s p d (run s p d f n) (wrap64 (d + 1)) else spec_l16Longest.l0 k s p dist long (wrap64 (d + 1))) r →
    Ev (fun k => spec_l16Longest.l1 k s p dist long d n) r := by
  have hl := lim_bd s p h1
  intro f
  induction f with
  | zero =>
    intro n hn hf H
    simp only [run] at H
    refine Ev.step (fun _ => spec_l16Longest.l1.eq_2 ..) ?_
    by_cases h : n < 66
    · refine ev_pos h (ev_neg ?_ H)
      rw [w64 (x := p + n) (by omega) (by omega)]
      omega
    · exact ev_neg h H
  | succ f ih =>
    intro n hn hf H
    refine Ev.step (fun _ => spec_l16Longest.l1.eq_2 ..) ?_
    rw [w64 (x := p + n) (by omega) (by omega), w64 (x := p + n - d) (by omega) (by omega), w64 (x := n + 1) (by omega) (by omega)]
    refine ev_pos (by omega) (ev_pos (by omega) (ev_pos (by omega) (ev_pos (by omega) (ev_pos (by omega) ?_))))
    simp only [run] at H
    by_cases e : bt s (p + n) = bt s (p + n - d)
    · simp only [if_pos e] at H
      exact ev_pos e (ih (n + 1) (by omega) (by omega) H)
    · simp only [if_neg e] at H
      exact ev_neg e H
theorem spec_l0 : ∀ (f : Nat) (dist long d : Int), 1 ≤ d → d + f = (if 255 ≤ p then 255 else p) + 1 →
    Ev (fun k => spec_l16Longest.l0 k s p dist long d) (scan s p f dist long d) := by
  have hl := lim_bd s p h1
  intro f
  induction f with
  | zero =>
    intro dist long d hd hf
    have H : Ev (fun k => spec_l16Longest.j1 k s p dist long d false) (scan s p 0 dist long d) := by
      refine Ev.step (fun _ => spec_l16Longest.j1.eq_2 ..) (ev_false rfl ?_)
      simp only [scan]
      by_cases h : dist = 0
      · exact ev_pos h (ev_ret (by rw [if_pos h]))
      · exact ev_neg h (ev_ret (by rw [if_neg h]))
    refine Ev.step (fun _ => spec_l16Longest.l0.eq_2 ..) ?_
    by_cases h : d ≤ 255
    · have e : decide (d ≤ p) = false := by
        rw [decide_eq_false_iff_not]
        split at hf <;> omega
      rw [e]
      exact ev_pos h H
    · exact ev_neg h H
  | succ f ih =>
    intro dist long d hd hf
    refine Ev.step (fun _ => spec_l16Longest.l0.eq_2 ..) ?_
    have e : decide (d ≤ p) = true := by
      rw [decide_eq_true_iff]
      split at hf <;> omega
    rw [e]
    refine ev_pos (by split at hf <;> omega) ?_
    refine Ev.step (fun _ => spec_l16Longest.j1.eq_2 ..) (ev_true rfl ?_)
    refine spec_l1 s p hs h0 h1 dist long d hd (by split at hf <;> omega) (lim s p) 0 (by omega) (by omega) ?_
    rw [w64 (x := d + 1) (by split at hf <;> omega) (by split at hf <;> omega)]
    simp only [scan]
    split
    · exact ih _ _ _ (by omega) (by omega)
    · exact ih _ _ _ (by omega) (by omega)
theorem spec_longest : Ev (fun k => spec_l16Longest.f k s p) (longest s p) := by
  unfold spec_l16Longest.f longest
  exact spec_l0 s p hs h0 h1 _ 0 2 1 (by omega) (by split <;> omega)
end
end Go.Proofs.Ytgglcpcfmhpcmaa.ZFnSqueezed
