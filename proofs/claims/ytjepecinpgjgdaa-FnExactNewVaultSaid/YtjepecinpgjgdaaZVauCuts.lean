import Derived.Test.YtjepecinpgjgdaaZVauHash
/-! Where a text is cut: the program's and the reference's cuts are the same. -/
namespace Go.Proofs.Ytjepecinpgjgdaa.ZVau
open Go.RowKit Go.Proofs.Ytjepecinpgjgdaa.PVau Go.Proofs.YtjepecinpgjgdaaW.PrintWords Go.Proofs.YtjepecinpgjgdaaW.PrintLast Go.Proofs.YtjepecinpgjgdaaW.PrintMore Go.Proofs.Ytjepecinpgjgdaa.E
set_option linter.unusedSimpArgs false
set_option linter.unusedVariables false

def mark (s : ByteArray) (p : Int) : Prop := hsh (s.extract (p - 4).toNat p.toNat) % 7 = 0
instance (s : ByteArray) (p : Int) : Decidable (mark s p) := by unfold mark; infer_instance
def cutAt (s : ByteArray) (b p : Int) : Prop := (p - b ≥ 3 ∧ p ≥ 4 ∧ mark s p) ∨ p - b = 24 ∨ p = s.size
instance (s : ByteArray) (b p : Int) : Decidable (cutAt s b p) := by unfold cutAt; infer_instance
def cutsM (s : ByteArray) : Nat → List Int → Int → Int → List Int
 | 0, out, _, _ => out
 | f + 1, out, b, p => if cutAt s b p then cutsM s f (out ++ [p]) p (p + 1) else cutsM s f out b (p + 1)
def cuts (s : ByteArray) : List Int := cutsM s s.size [] 0 1

section
variable (s : ByteArray) (hs : s.size ≤ 1048576)
include hs
theorem spec_cuts_l : ∀ (f : Nat) (out : List Int) (b p : Int), 0 ≤ b → b < p → (out.length : Int) < p → p + f = s.size + 1 → Ev (fun k => spec_l15Cuts.l0 k s out b p) (cutsM s f out b p) := by
 intro f
 induction f with
 | zero =>
  intro out b p h0 h1 h2 h3
  refine Ev.step (fun _ => spec_l15Cuts.l0.eq_2 ..) (ev_neg (by omega) (ev_ret rfl))
 | succ f ih =>
  intro out b p h0 h1 h2 h3
  refine Ev.step (fun _ => spec_l15Cuts.l0.eq_2 ..) (ev_pos (by omega) ?_)
  rw [w64 (x := p - b) (by omega) (by omega), w64 (x := p - 4) (by omega) (by omega), w64 (x := p + 1) (by omega) (by omega)]
  have A : cutAt s b p → Ev (fun k => if out.length < 17592186044416 then (spec_l15Cuts.l0 k s (out ++ [p]) p (p + 1)) else (none)) (cutsM s (f + 1) out b p) := fun h => by
   simp only [cutsM, if_pos h]
   exact ev_pos (by omega) (ih _ _ _ (by omega) (by omega) (by simp; omega) (by omega))
  have B : ¬ cutAt s b p → Ev (fun k => spec_l15Cuts.l0 k s out b (p + 1)) (cutsM s (f + 1) out b p) := fun h => by
   simp only [cutsM, if_neg h]
   exact ih _ _ _ (by omega) (by omega) (by omega) (by omega)
  have C : ¬ (p - b ≥ 3 ∧ p ≥ 4 ∧ mark s p) → Ev (fun k => if (p - b) = 24 then (if out.length < 17592186044416 then (spec_l15Cuts.l0 k s (out ++ [p]) p (p + 1)) else (none)) else (if p = (s.size : Int) then (if out.length < 17592186044416 then (spec_l15Cuts.l0 k s (out ++ [p]) p (p + 1)) else (none)) else (spec_l15Cuts.l0 k s out b (p + 1)))) (cutsM s (f + 1) out b p) := fun h => by
   by_cases h24 : p - b = 24
   ·exact ev_pos h24 (A (.inr (.inl h24)))
   ·by_cases hz : p = s.size
    ·exact ev_neg h24 (ev_pos hz (A (.inr (.inr hz))))
    ·exact ev_neg h24 (ev_neg hz (B (fun hc => by rcases hc with q | q | q; exact h q; exact h24 q; exact hz q)))
  by_cases h3 : p - b ≥ 3
  ·by_cases h4 : p ≥ 4
   ·refine ev_pos h3 (ev_pos h4 (ev_pos (by omega) (ev_pos (by omega) (Ev.bind (spec_hash (s.extract (p - 4).toNat p.toNat) (by rw [ByteArray.size_extract]; omega)) ?_))))
    have hb := hsh_bd (s.extract (p - 4).toNat p.toNat)
    rw [tmod_pos hb.1]
    by_cases hm : mark s p
    ·exact ev_pos hm (A (.inl ⟨h3, h4, hm⟩))
    ·exact ev_neg hm (C (fun h => hm h.2.2))
   ·exact ev_pos h3 (ev_neg h4 (C (fun h => h4 h.2.1)))
  ·exact ev_neg h3 (C (fun h => h3 h.1))
theorem impl_cuts_l : ∀ (f : Nat) (out : List Int) (b p : Int), 0 ≤ b → b < p → (out.length : Int) < p → p + f = s.size + 1 → Ev (fun k => impl_cutsOf.l0 k s out b p) (cutsM s f out b p) := by
 intro f
 induction f with
 | zero =>
  intro out b p h0 h1 h2 h3
  refine Ev.step (fun _ => impl_cutsOf.l0.eq_2 ..) (ev_neg (by omega) (ev_ret rfl))
 | succ f ih =>
  intro out b p h0 h1 h2 h3
  refine Ev.step (fun _ => impl_cutsOf.l0.eq_2 ..) (ev_pos (by omega) ?_)
  rw [w64 (x := p - b) (by omega) (by omega), w64 (x := p - 4) (by omega) (by omega), w64 (x := p + 1) (by omega) (by omega)]
  have A : cutAt s b p → Ev (fun k => if out.length < 17592186044416 then (impl_cutsOf.l0 k s (out ++ [p]) p (p + 1)) else (none)) (cutsM s (f + 1) out b p) := fun h => by
   simp only [cutsM, if_pos h]
   exact ev_pos (by omega) (ih _ _ _ (by omega) (by omega) (by simp; omega) (by omega))
  have B : ¬ cutAt s b p → Ev (fun k => impl_cutsOf.l0 k s out b (p + 1)) (cutsM s (f + 1) out b p) := fun h => by
   simp only [cutsM, if_neg h]
   exact ih _ _ _ (by omega) (by omega) (by omega) (by omega)
  have C : ¬ (p - b ≥ 3 ∧ p ≥ 4 ∧ mark s p) → Ev (fun k => if (p - b) = 24 then (if out.length < 17592186044416 then (impl_cutsOf.l0 k s (out ++ [p]) p (p + 1)) else (none)) else (if p = (s.size : Int) then (if out.length < 17592186044416 then (impl_cutsOf.l0 k s (out ++ [p]) p (p + 1)) else (none)) else (impl_cutsOf.l0 k s out b (p + 1)))) (cutsM s (f + 1) out b p) := fun h => by
   by_cases h24 : p - b = 24
   ·exact ev_pos h24 (A (.inr (.inl h24)))
   ·by_cases hz : p = s.size
    ·exact ev_neg h24 (ev_pos hz (A (.inr (.inr hz))))
    ·exact ev_neg h24 (ev_neg hz (B (fun hc => by rcases hc with q | q | q; exact h q; exact h24 q; exact hz q)))
  by_cases h3 : p - b ≥ 3
  ·by_cases h4 : p ≥ 4
   ·refine ev_pos h3 (ev_pos h4 (ev_pos (by omega) (ev_pos (by omega) (Ev.bind (impl_hash (s.extract (p - 4).toNat p.toNat) (by rw [ByteArray.size_extract]; omega)) ?_))))
    have hb := hsh_bd (s.extract (p - 4).toNat p.toNat)
    rw [tmod_pos hb.1]
    by_cases hm : mark s p
    ·exact ev_pos hm (A (.inl ⟨h3, h4, hm⟩))
    ·exact ev_neg hm (C (fun h => hm h.2.2))
   ·exact ev_pos h3 (ev_neg h4 (C (fun h => h4 h.2.1)))
  ·exact ev_neg h3 (C (fun h => h3 h.1))
theorem spec_cuts : Ev (fun k => spec_l15Cuts.f k s) (cuts s) := by
 unfold spec_l15Cuts.f cuts
 exact spec_cuts_l s hs _ _ _ _ (by omega) (by omega) (by simp) (by omega)
theorem impl_cuts : Ev (fun k => impl_cutsOf.f k s) (cuts s) := by
 unfold impl_cutsOf.f cuts
 exact impl_cuts_l s hs _ _ _ _ (by omega) (by omega) (by simp) (by omega)
end
/-- The cuts: each lies behind the one before it, and none behind the end. -/
theorem cutsM_up (s : ByteArray) : ∀ (f : Nat) (out : List Int) (b p : Int), 0 ≤ b → b < p → p + f = s.size + 1 → (out.length : Int) < p →
  (∀ x ∈ out, 0 < x ∧ x ≤ b) → out.Pairwise (· < ·) →
  (∀ x ∈ cutsM s f out b p, 0 < x ∧ x ≤ s.size) ∧ (cutsM s f out b p).Pairwise (· < ·) ∧ ((cutsM s f out b p).length : Int) ≤ s.size := by
 intro f
 induction f with
 | zero =>
  intro out b p h0 h1 h2 hl h3 h4
  simp only [cutsM]
  exact ⟨fun x hx => by have := h3 x hx; omega, h4, by omega⟩
 | succ f ih =>
  intro out b p h0 h1 h2 hl h3 h4
  simp only [cutsM]
  split
  ·refine ih _ _ _ (by omega) (by omega) (by omega) (by simp; omega) ?_ ?_
   ·intro x hx
    rcases List.mem_append.1 hx with hx | hx
    ·have := h3 x hx; omega
    ·simp at hx; omega
   ·rw [List.pairwise_append]
    refine ⟨h4, by simp, ?_⟩
    intro a ha c hc
    have := h3 a ha
    simp at hc
    omega
  ·exact ih _ _ _ h0 (by omega) (by omega) (by omega) h3 h4
theorem cuts_up (s : ByteArray) : (∀ x ∈ cuts s, 0 < x ∧ x ≤ s.size) ∧ (cuts s).Pairwise (· < ·) ∧ ((cuts s).length : Int) ≤ s.size :=
 cutsM_up s s.size [] 0 1 (by omega) (by omega) (by omega) (by simp) (by simp) (by simp)
end Go.Proofs.Ytjepecinpgjgdaa.ZVau
