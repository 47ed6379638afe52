import Derived.Test.YtdlaegianaofjaaZFnCutsCuts
/-! What is true of the cuts: how far apart they lie, and that what stands ahead of a cut but for the last bytes does not matter. -/
namespace Go.Proofs.Ytdlaegianaofjaa.ZFnCuts
open Go.RowKit Go.Proofs.Ytdlaegianaofjaa.PFnCuts Go.Proofs.YtdlaegianaofjaaW.PrintWords Go.Proofs.YtdlaegianaofjaaW.PrintLast Go.Proofs.YtdlaegianaofjaaW.PrintMore Go.Proofs.Ytdlaegianaofjaa.E
set_option linter.unusedSimpArgs false
set_option linter.unusedVariables false

theorem rd_app_l (l : List Int) (x i : Int) (h0 : 0 ≤ i) (h1 : i < l.length) : rd (l ++ [x]) i = rd l i := by
  unfold rd
  rw [List.getD_eq_getElem?_getD, List.getD_eq_getElem?_getD, List.getElem?_append_left (by omega)]
theorem rd_app_r (l : List Int) (x i : Int) (h : i = l.length) : rd (l ++ [x]) i = x := by
  unfold rd
  rw [List.getD_eq_getElem?_getD, List.getElem?_append_right (by omega)]
  simp [show i.toNat - l.length = 0 by omega]
def prv (l : List Int) (i : Int) : Int := if i = 0 then 0 else rd l (i - 1)
def Steps (s : ByteArray) (l : List Int) : Prop := ∀ i : Int, 0 ≤ i → i < l.length → 1 ≤ rd l i - prv l i ∧ rd l i - prv l i ≤ 24 ∧ (3 ≤ rd l i - prv l i ∨ rd l i = s.size)
theorem cutsM_steps (s : ByteArray) : ∀ (f : Nat) (out : List Int) (b p : Int), 0 ≤ b → b < p → p ≤ b + 24 → p + f = s.size + 1 → (p = s.size + 1 → b = s.size) → b = prv out out.length → Steps s out →
    Steps s (cutsM s f out b p) ∧ prv (cutsM s f out b p) (cutsM s f out b p).length = s.size := by
  intro f
  induction f with
  | zero =>
    intro out b p h0 h1 h2 h3 h4 h5 h6
    simp only [cutsM]
    exact ⟨h6, by rw [← h5]; exact h4 (by omega)⟩
  | succ f ih =>
    intro out b p h0 h1 h2 h3 h4 h5 h6
    simp only [cutsM]
    split
    · rename_i hc
      refine ih _ _ _ (by omega) (by omega) (by omega) (by omega) (fun h => by omega) ?_ ?_
      · unfold prv
        rw [if_neg (by simp; omega), rd_app_r _ _ _ (by simp)]
      · intro i hi0 hi1
        by_cases hi : i < out.length
        · have := h6 i hi0 hi
          have e : prv (out ++ [p]) i = prv out i := by
            unfold prv
            split
            · rfl
            · rw [rd_app_l _ _ _ (by omega) (by omega)]
          rw [e, rd_app_l _ _ _ hi0 hi]
          exact this
        · have hie : i = out.length := by simp at hi1; omega
          have e : prv (out ++ [p]) i = b := by
            rw [h5, hie]
            unfold prv
            split
            · rfl
            · rw [rd_app_l _ _ _ (by omega) (by omega)]
          rw [e, rd_app_r _ _ _ hie]
          refine ⟨by omega, by omega, ?_⟩
          rcases hc with h | h | h
          · exact .inl h.1
          · exact .inl (by omega)
          · exact .inr h
    · rename_i hc
      have h24 : p - b ≠ 24 := fun h => hc (.inr (.inl h))
      have hz : p ≠ s.size := fun h => hc (.inr (.inr h))
      exact ih _ _ _ h0 (by omega) (by omega) (by omega) (fun h => by omega) h5 h6
theorem cuts_steps (s : ByteArray) : Steps s (cuts s) ∧ prv (cuts s) (cuts s).length = s.size :=
  cutsM_steps s s.size [] 0 1 (by omega) (by omega) (by omega) (by omega) (fun h => by omega) rfl (fun i h0 h1 => by simp at h1; omega)

def tailC (s : ByteArray) : Nat → Int → Int → List Int
  | 0, _, _ => []
  | f + 1, b, p => if cutAt s b p then p :: tailC s f p (p + 1) else tailC s f b (p + 1)
theorem cutsM_tail (s : ByteArray) : ∀ (f : Nat) (out : List Int) (b p : Int), cutsM s f out b p = out ++ tailC s f b p := by
  intro f
  induction f with
  | zero => intro out b p; simp [cutsM, tailC]
  | succ f ih =>
    intro out b p
    simp only [cutsM, tailC]
    split
    · rw [ih, List.append_assoc]; rfl
    · rw [ih]
theorem tailC_ge (s : ByteArray) : ∀ (f : Nat) (b p : Int), ∀ x ∈ tailC s f b p, p ≤ x := by
  intro f
  induction f with
  | zero => intro b p x hx; simp [tailC] at hx
  | succ f ih =>
    intro b p x hx
    simp only [tailC] at hx
    split at hx
    · rcases List.mem_cons.1 hx with h | h
      · omega
      · have := ih _ _ x h; omega
    · have := ih _ _ x hx; omega
theorem filter_all (l : List Int) (k : Int) (h : ∀ x ∈ l, k + 1 ≤ x) : l.filter (fun x => decide (x > k)) = l := by
  rw [List.filter_eq_self]
  intro x hx
  have := h x hx
  simp; omega
theorem tailC_split (s : ByteArray) (k : Int) : ∀ (f : Nat) (b p : Int), p + f = s.size + 1 → k ∈ tailC s f b p → ∃ f' : Nat, k + 1 + f' = s.size + 1 ∧ (tailC s f b p).filter (fun x => decide (x > k)) = tailC s f' k (k + 1) := by
  intro f
  induction f with
  | zero => intro b p _ hk; simp [tailC] at hk
  | succ f ih =>
    intro b p hf hk
    simp only [tailC] at hk ⊢
    split at hk
    · rename_i hc
      rw [if_pos hc]
      rcases List.mem_cons.1 hk with h | h
      · refine ⟨f, by omega, ?_⟩
        rw [List.filter_cons_of_neg (by simp; omega), ← h]
        exact filter_all _ k (fun x hx => tailC_ge s f k (k + 1) x hx)
      · have hg := tailC_ge s f p (p + 1) k h
        obtain ⟨f', e1, e2⟩ := ih p (p + 1) (by omega) h
        exact ⟨f', e1, by rw [List.filter_cons_of_neg (by simp; omega)]; exact e2⟩
    · rename_i hc
      rw [if_neg hc]
      exact ih b (p + 1) (by omega) hk
/-- Two texts that go on alike are cut alike. -/
theorem tailC_shift (s u : ByteArray) (o k : Int) (hk : 8 ≤ k) (ho : o = k - 8) (hz : (u.size : Int) = s.size - o) (hm : ∀ p, k + 1 ≤ p → p ≤ s.size → (mark s p ↔ mark u (p - o))) :
    ∀ (f : Nat) (b p : Int), k ≤ b → k + 1 ≤ p → p + f = s.size + 1 → (tailC s f b p).map (· - k) = (tailC u f (b - o) (p - o)).map (· - 8) := by
  intro f
  induction f with
  | zero => intro b p _ _ _; rfl
  | succ f ih =>
    intro b p hb hp hf
    have hc : cutAt s b p ↔ cutAt u (b - o) (p - o) := by
      have h1 := hm p hp (by omega)
      unfold cutAt
      rw [h1, hz]
      constructor
      · rintro (⟨a, c, d⟩ | a | a)
        · exact .inl ⟨by omega, by omega, d⟩
        · exact .inr (.inl (by omega))
        · exact .inr (.inr (by omega))
      · rintro (⟨a, c, d⟩ | a | a)
        · exact .inl ⟨by omega, by omega, d⟩
        · exact .inr (.inl (by omega))
        · exact .inr (.inr (by omega))
    simp only [tailC]
    by_cases h : cutAt s b p
    · rw [if_pos h, if_pos (hc.1 h)]
      simp only [List.map_cons]
      have := ih p (p + 1) (by omega) (by omega) (by omega)
      rw [show p + 1 - o = p - o + 1 by omega] at this
      rw [this, show p - k = p - o - 8 by omega]
    · rw [if_neg h, if_neg (fun a => h (hc.2 a))]
      have := ih b (p + 1) hb (by omega) (by omega)
      rw [show p + 1 - o = p - o + 1 by omega] at this
      exact this
def zz : ByteArray := ⟨#[122, 122, 122, 122]⟩
def turn (s : ByteArray) (k : Int) : ByteArray := zz ++ s.extract (k - 4).toNat s.size
theorem turn_size (s : ByteArray) (k : Int) (h0 : 8 ≤ k) (h1 : k ≤ s.size) : ((turn s k).size : Int) = s.size - (k - 8) := by
  unfold turn
  rw [ByteArray.size_append, ByteArray.size_extract]
  have : zz.size = 4 := rfl
  omega
theorem turn_mark (s : ByteArray) (k : Int) (h0 : 8 ≤ k) (h1 : k ≤ s.size) (p : Int) (hp : k + 1 ≤ p) (hp2 : p ≤ s.size) : mark s p ↔ mark (turn s k) (p - (k - 8)) := by
  have e : (turn s k).extract (p - (k - 8) - 4).toNat (p - (k - 8)).toNat = s.extract (p - 4).toNat p.toNat := by
    have hz : zz.size = 4 := rfl
    unfold turn
    rw [ByteArray.extract_append, hz, ByteArray.extract_extract]
    have e1 : zz.extract (p - (k - 8) - 4).toNat (p - (k - 8)).toNat = ByteArray.empty := by
      apply ByteArray.ext
      apply Array.ext
      · simp [ByteArray.size_data, ByteArray.size_extract, hz]
        omega
      · intro i hi _
        simp [ByteArray.size_data, ByteArray.size_extract, hz] at hi
        omega
    rw [e1, ByteArray.empty_append]
    congr 1 <;> omega
  unfold mark
  rw [e]
theorem alike (s : ByteArray) (k : Int) (h0 : 8 ≤ k) (hk : k ∈ cuts s) (h8 : (8 : Int) ∈ cuts (turn s k)) :
    ((cuts s).filter (fun x => decide (x > k))).map (· - k) = ((cuts (turn s k)).filter (fun x => decide (x > 8))).map (· - 8) := by
  have hu := (cuts_up s).1 k hk
  have hz := turn_size s k h0 hu.2
  unfold cuts at hk h8 ⊢
  rw [cutsM_tail, List.nil_append] at hk h8 ⊢
  rw [cutsM_tail, List.nil_append]
  obtain ⟨f1, a1, b1⟩ := tailC_split s k s.size 0 1 (by omega) hk
  obtain ⟨f2, a2, b2⟩ := tailC_split (turn s k) 8 (turn s k).size 0 1 (by omega) h8
  rw [b1, b2]
  have hf : f1 = f2 := by omega
  subst hf
  have := tailC_shift s (turn s k) (k - 8) k h0 rfl hz (fun p hp hp2 => turn_mark s k h0 hu.2 p hp hp2) f1 k (k + 1) (by omega) (by omega) (by omega)
  rw [show k - (k - 8) = 8 by omega, show k + 1 - (k - 8) = 9 by omega] at this
  exact this
end Go.Proofs.Ytdlaegianaofjaa.ZFnCuts
