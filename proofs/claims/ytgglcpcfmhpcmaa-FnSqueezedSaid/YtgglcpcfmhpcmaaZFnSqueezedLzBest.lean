import Derived.Test.YtgglcpcfmhpcmaaZFnSqueezedLzTokens
/-! The longest match is a match. -/
namespace Go.Proofs.Ytgglcpcfmhpcmaa.ZFnSqueezed
open Go.RowKit Go.Proofs.Ytgglcpcfmhpcmaa.PFnSqueezed Go.Proofs.YtgglcpcfmhpcmaaW.PrintWords Go.Proofs.YtgglcpcfmhpcmaaW.PrintLast Go.Proofs.YtgglcpcfmhpcmaaW.PrintMore Go.Proofs.Ytgglcpcfmhpcmaa.E
set_option linter.unusedSimpArgs false
set_option linter.unusedVariables false
def Best (s : ByteArray) (p dist long d : Int) : Prop :=
  (∀ e, 1 ≤ e → e < d → run s p e (lim s p) 0 ≤ long) ∧ (dist = 0 ∧ long = 2 ∨ 1 ≤ dist ∧ dist < d ∧ 3 ≤ long ∧ long = run s p dist (lim s p) 0 ∧ ∀ e, 1 ≤ e → e < dist → run s p e (lim s p) 0 < long)
theorem scan_best (s : ByteArray) (p : Int) : ∀ (f : Nat) (dist long d : Int), 1 ≤ d → Best s p dist long d →
    ∃ dist' long', Best s p dist' long' (d + f) ∧ scan s p f dist long d = if dist' = 0 then (0, 0) else (dist', long') := by
  intro f
  induction f with
  | zero =>
    intro dist long d hd h
    exact ⟨dist, long, by simpa using h, rfl⟩
  | succ f ih =>
    intro dist long d hd h
    have e : d + ((f + 1 : Nat) : Int) = d + 1 + f := by omega
    rw [e]
    simp only [scan]
    split
    · rename_i hg
      refine ih _ _ (d + 1) (by omega) ⟨?_, .inr ⟨by omega, by omega, ?_, rfl, ?_⟩⟩
      · intro e h1 h2
        by_cases h3 : e = d
        · rw [h3]; omega
        · have := h.1 e h1 (by omega); omega
      · rcases h.2 with ⟨_, h2⟩ | ⟨_, _, h2, _⟩ <;> omega
      · intro e h1 h2
        have := h.1 e h1 h2; omega
    · rename_i hg
      refine ih _ _ (d + 1) (by omega) ⟨?_, ?_⟩
      · intro e h1 h2
        by_cases h3 : e = d
        · rw [h3]; omega
        · exact h.1 e h1 (by omega)
      · rcases h.2 with h2 | ⟨h2, h3, h4⟩
        · exact .inl h2
        · exact .inr ⟨h2, by omega, h4⟩
theorem longest_best (s : ByteArray) (p : Int) (h0 : 0 ≤ p) : ∃ dist long, Best s p dist long ((if 255 ≤ p then 255 else p) + 1) ∧ longest s p = if dist = 0 then (0, 0) else (dist, long) := by
  unfold longest
  obtain ⟨dist, long, h, e⟩ := scan_best s p (if 255 ≤ p then 255 else p).toNat 0 2 1 (by omega) ⟨fun e h1 h2 => by omega, .inl ⟨rfl, rfl⟩⟩
  refine ⟨dist, long, ?_, e⟩
  have e2 : (1 : Int) + ((if 255 ≤ p then (255 : Int) else p).toNat : Int) = (if 255 ≤ p then 255 else p) + 1 := by split <;> omega
  rwa [e2] at h
/-- Where the run has come to, all bytes before are alike. -/
theorem run_alike (s : ByteArray) (p d : Int) : ∀ (f : Nat) (n i : Int), n ≤ i → i < run s p d f n → bt s (p + i) = bt s (p + i - d) := by
  intro f
  induction f with
  | zero => intro n i h0 h1; simp only [run] at h1; omega
  | succ f ih =>
    intro n i h0 h1
    simp only [run] at h1
    split at h1
    · rename_i he
      by_cases h : i = n
      · rw [h]; exact he
      · exact ih (n + 1) i (by omega) h1
    · omega
end Go.Proofs.Ytgglcpcfmhpcmaa.ZFnSqueezed
