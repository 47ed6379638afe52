import Derived.Test.YtjepecinpgjgdaaYVaucuts
import Derived.Test.YtjepecinpgjgdaaYVaucutsI
import Derived.Test.YtjepecinpgjgdaaEv
/-! The rolled hash of a text: the program's and the reference's are one. -/
namespace Go.Proofs.Ytjepecinpgjgdaa.ZVau
open Go.RowKit Go.Proofs.Ytjepecinpgjgdaa.PVau Go.Proofs.YtjepecinpgjgdaaW.PrintWords Go.Proofs.YtjepecinpgjgdaaW.PrintLast Go.Proofs.YtjepecinpgjgdaaW.PrintMore Go.Proofs.Ytjepecinpgjgdaa.E
set_option linter.unusedSimpArgs false
set_option linter.unusedVariables false

def hash (s : ByteArray) : Nat → Int → Int → Int
 | 0, h, _ => h
 | f + 1, h, i => hash s f ((31 * h + bt s i) % 4093) (i + 1)
def hsh (s : ByteArray) : Int := hash s s.size 0 0
theorem hash_bd (s : ByteArray) : ∀ (f : Nat) (h i : Int), 0 ≤ h → h < 4093 → 0 ≤ hash s f h i ∧ hash s f h i < 4093 := by
 intro f
 induction f with
 | zero => intro h i h0 h1; exact ⟨h0, h1⟩
 | succ f ih => intro h i h0 h1; exact ih _ _ (by omega) (by omega)
theorem hsh_bd (s : ByteArray) : 0 ≤ hsh s ∧ hsh s < 4093 := hash_bd s s.size 0 0 (by omega) (by omega)
theorem hash_w (s : ByteArray) (h i : Int) (h0 : 0 ≤ h) (h1 : h < 4093) : Int.tmod (wrap64 (wrap64 (31 * h) + wrap64 (bt s i))) 4093 = (31 * h + bt s i) % 4093 := by
 have b0 := bt_nonneg s i
 have b1 := bt_lt s i
 rw [w64 (x := 31 * h) (by omega) (by omega), w64 (x := bt s i) (by omega) (by omega), w64 (x := 31 * h + bt s i) (by omega) (by omega), tmod_pos (by omega)]
theorem spec_hash_l (s : ByteArray) (hs : s.size ≤ 140737488351232) : ∀ (f : Nat) (h i : Int), 0 ≤ h → h < 4093 → 0 ≤ i → i + f = s.size → Ev (fun k => spec_l15Hash.l0 k s h i) (hash s f h i) := by
 intro f
 induction f with
 | zero =>
  intro h i _ _ h0 h1
  refine Ev.step (fun _ => spec_l15Hash.l0.eq_2 ..) ?_
  exact ev_neg (by omega) (ev_ret rfl)
 | succ f ih =>
  intro h i ha hb h0 h1
  refine Ev.step (fun _ => spec_l15Hash.l0.eq_2 ..) ?_
  refine ev_pos (by omega) (ev_pos h0 ?_)
  rw [w64 (x := i + 1) (by omega) (by omega), hash_w s h i ha hb]
  exact ih _ _ (by omega) (by omega) (by omega) (by omega)
theorem impl_hash_l (s : ByteArray) (hs : s.size ≤ 140737488351232) : ∀ (f : Nat) (h i : Int), 0 ≤ h → h < 4093 → 0 ≤ i → i + f = s.size → Ev (fun k => impl_rolled.l0 k s h s.size i) (hash s f h i) := by
 intro f
 induction f with
 | zero =>
  intro h i _ _ h0 h1
  refine Ev.step (fun _ => impl_rolled.l0.eq_2 ..) ?_
  exact ev_neg (by omega) (ev_ret rfl)
 | succ f ih =>
  intro h i ha hb h0 h1
  refine Ev.step (fun _ => impl_rolled.l0.eq_2 ..) ?_
  refine ev_pos (by omega) (ev_pos h0 (ev_pos (by omega) ?_))
  rw [w64 (x := i + 1) (by omega) (by omega), hash_w s h i ha hb]
  exact ih _ _ (by omega) (by omega) (by omega) (by omega)
theorem spec_hash (s : ByteArray) (hs : s.size ≤ 140737488351232) : Ev (fun k => spec_l15Hash.f k s) (hsh s) := by
 unfold spec_l15Hash.f hsh
 exact spec_hash_l s hs _ _ _ (by omega) (by omega) (by omega) (by omega)
theorem impl_hash (s : ByteArray) (hs : s.size ≤ 140737488351232) : Ev (fun k => impl_rolled.f k s) (hsh s) := by
 unfold impl_rolled.f hsh
 exact impl_hash_l s hs _ _ _ (by omega) (by omega) (by omega) (by omega)
end Go.Proofs.Ytjepecinpgjgdaa.ZVau
/-! Where a text is cut: the program's and the reference's cuts are the same. -/
namespace Go.Proofs.Ytjepecinpgjgdaa.ZVau
open Go.RowKit Go.Proofs.Ytjepecinpgjgdaa.PVau Go.Proofs.YtjepecinpgjgdaaW.PrintWords Go.Proofs.YtjepecinpgjgdaaW.PrintLast Go.Proofs.YtjepecinpgjgdaaW.PrintMore Go.Proofs.Ytjepecinpgjgdaa.E
set_option linter.unusedSimpArgs false
set_option linter.unusedVariables false

def mark (s : ByteArray) (p : Int) : Prop := hsh (s.extract (p - 4).toNat p.toNat) % 7 = 0
instance (s : ByteArray) (p : Int) : Decidable (mark s p) := by unfold mark; infer_instance
def cutAt (s : ByteArray) (b p : Int) : Prop := (p - b ≥ 3 ∧ p ≥ 4 ∧ mark s p) ∨ p - b = 24 ∨ p = s.size
instance (s : ByteArray) (b p : Int) : Decidable (cutAt s b p) := by unfold cutAt; infer_instance
def cutsM (s : ByteArray) : Nat → List Int → Int → Int → List Int
 | 0, out, _, _ => out
 | f + 1, out, b, p => if cutAt s b p then cutsM s f (out ++ [p]) p (p + 1) else cutsM s f out b (p + 1)
def cuts (s : ByteArray) : List Int := cutsM s s.size [] 0 1

section
variable (s : ByteArray) (hs : s.size ≤ 1048576)
include hs
theorem spec_cuts_l : ∀ (f : Nat) (out : List Int) (b p : Int), 0 ≤ b → b < p → (out.length : Int) < p → p + f = s.size + 1 → Ev (fun k => spec_l15Cuts.l0 k s out b p) (cutsM s f out b p) := by
 intro f
 induction f with
 | zero =>
  intro out b p h0 h1 h2 h3
  refine Ev.step (fun _ => spec_l15Cuts.l0.eq_2 ..) (ev_neg (by omega) (ev_ret rfl))
 | succ f ih =>
  intro out b p h0 h1 h2 h3
  refine Ev.step (fun _ => spec_l15Cuts.l0.eq_2 ..) (ev_pos (by omega) ?_)
  rw [w64 (x := p - b) (by omega) (by omega), w64 (x := p - 4) (by omega) (by omega), w64 (x := p + 1) (by omega) (by omega)]
  have A : cutAt s b p → Ev (fun k => if out.length < 17592186044416 then (spec_l15Cuts.l0 k s (out ++ [p]) p (p + 1)) else (none)) (cutsM s (f + 1) out b p) := fun h => by
   simp only [cutsM, if_pos h]
   exact ev_pos (by omega) (ih _ _ _ (by omega) (by omega) (by simp; omega) (by omega))
  have B : ¬ cutAt s b p → Ev (fun k => spec_l15Cuts.l0 k s out b (p + 1)) (cutsM s (f + 1) out b p) := fun h => by
   simp only [cutsM, if_neg h]
   exact ih _ _ _ (by omega) (by omega) (by omega) (by omega)
  have C : ¬ (p - b ≥ 3 ∧ p ≥ 4 ∧ mark s p) → Ev (fun k => if (p - b) = 24 then (if out.length < 17592186044416 then (spec_l15Cuts.l0 k s (out ++ [p]) p (p + 1)) else (none)) else (if p = (s.size : Int) then (if out.length < 17592186044416 then (spec_l15Cuts.l0 k s (out ++ [p]) p (p + 1)) else (none)) else (spec_l15Cuts.l0 k s out b (p + 1)))) (cutsM s (f + 1) out b p) := fun h => by
   by_cases h24 : p - b = 24
   ·exact ev_pos h24 (A (.inr (.inl h24)))
   ·by_cases hz : p = s.size
    ·exact ev_neg h24 (ev_pos hz (A (.inr (.inr hz))))
    ·exact ev_neg h24 (ev_neg hz (B (fun hc => by rcases hc with q | q | q; exact h q; exact h24 q; exact hz q)))
  by_cases h3 : p - b ≥ 3
  ·by_cases h4 : p ≥ 4
   ·refine ev_pos h3 (ev_pos h4 (ev_pos (by omega) (ev_pos (by omega) (Ev.bind (spec_hash (s.extract (p - 4).toNat p.toNat) (by rw [ByteArray.size_extract]; omega)) ?_))))
    have hb := hsh_bd (s.extract (p - 4).toNat p.toNat)
    rw [tmod_pos hb.1]
    by_cases hm : mark s p
    ·exact ev_pos hm (A (.inl ⟨h3, h4, hm⟩))
    ·exact ev_neg hm (C (fun h => hm h.2.2))
   ·exact ev_pos h3 (ev_neg h4 (C (fun h => h4 h.2.1)))
  ·exact ev_neg h3 (C (fun h => h3 h.1))
theorem impl_cuts_l : ∀ (f : Nat) (out : List Int) (b p : Int), 0 ≤ b → b < p → (out.length : Int) < p → p + f = s.size + 1 → Ev (fun k => impl_cutsOf.l0 k s out b p) (cutsM s f out b p) := by
 intro f
 induction f with
 | zero =>
  intro out b p h0 h1 h2 h3
  refine Ev.step (fun _ => impl_cutsOf.l0.eq_2 ..) (ev_neg (by omega) (ev_ret rfl))
 | succ f ih =>
  intro out b p h0 h1 h2 h3
  refine Ev.step (fun _ => impl_cutsOf.l0.eq_2 ..) (ev_pos (by omega) ?_)
  rw [w64 (x := p - b) (by omega) (by omega), w64 (x := p - 4) (by omega) (by omega), w64 (x := p + 1) (by omega) (by omega)]
  have A : cutAt s b p → Ev (fun k => if out.length < 17592186044416 then (impl_cutsOf.l0 k s (out ++ [p]) p (p + 1)) else (none)) (cutsM s (f + 1) out b p) := fun h => by
   simp only [cutsM, if_pos h]
   exact ev_pos (by omega) (ih _ _ _ (by omega) (by omega) (by simp; omega) (by omega))
  have B : ¬ cutAt s b p → Ev (fun k => impl_cutsOf.l0 k s out b (p + 1)) (cutsM s (f + 1) out b p) := fun h => by
   simp only [cutsM, if_neg h]
   exact ih _ _ _ (by omega) (by omega) (by omega) (by omega)
  have C : ¬ (p - b ≥ 3 ∧ p ≥ 4 ∧ mark s p) → Ev (fun k => if (p - b) = 24 then (if out.length < 17592186044416 then (impl_cutsOf.l0 k s (out ++ [p]) p (p + 1)) else (none)) else (if p = (s.size : Int) then (if out.length < 17592186044416 then (impl_cutsOf.l0 k s (out ++ [p]) p (p + 1)) else (none)) else (impl_cutsOf.l0 k s out b (p + 1)))) (cutsM s (f + 1) out b p) := fun h => by
   by_cases h24 : p - b = 24
   ·exact ev_pos h24 (A (.inr (.inl h24)))
   ·by_cases hz : p = s.size
    ·exact ev_neg h24 (ev_pos hz (A (.inr (.inr hz))))
    ·exact ev_neg h24 (ev_neg hz (B (fun hc => by rcases hc with q | q | q; exact h q; exact h24 q; exact hz q)))
  by_cases h3 : p - b ≥ 3
  ·by_cases h4 : p ≥ 4
   ·refine ev_pos h3 (ev_pos h4 (ev_pos (by omega) (ev_pos (by omega) (Ev.bind (impl_hash (s.extract (p - 4).toNat p.toNat) (by rw [ByteArray.size_extract]; omega)) ?_))))
    have hb := hsh_bd (s.extract (p - 4).toNat p.toNat)
    rw [tmod_pos hb.1]
    by_cases hm : mark s p
    ·exact ev_pos hm (A (.inl ⟨h3, h4, hm⟩))
    ·exact ev_neg hm (C (fun h => hm h.2.2))
   ·exact ev_pos h3 (ev_neg h4 (C (fun h => h4 h.2.1)))
  ·exact ev_neg h3 (C (fun h => h3 h.1))
theorem spec_cuts : Ev (fun k => spec_l15Cuts.f k s) (cuts s) := by
 unfold spec_l15Cuts.f cuts
 exact spec_cuts_l s hs _ _ _ _ (by omega) (by omega) (by simp) (by omega)
theorem impl_cuts : Ev (fun k => impl_cutsOf.f k s) (cuts s) := by
 unfold impl_cutsOf.f cuts
 exact impl_cuts_l s hs _ _ _ _ (by omega) (by omega) (by simp) (by omega)
end
/-- The cuts: each lies behind the one before it, and none behind the end. -/
theorem cutsM_up (s : ByteArray) : ∀ (f : Nat) (out : List Int) (b p : Int), 0 ≤ b → b < p → p + f = s.size + 1 → (out.length : Int) < p →
  (∀ x ∈ out, 0 < x ∧ x ≤ b) → out.Pairwise (· < ·) →
  (∀ x ∈ cutsM s f out b p, 0 < x ∧ x ≤ s.size) ∧ (cutsM s f out b p).Pairwise (· < ·) ∧ ((cutsM s f out b p).length : Int) ≤ s.size := by
 intro f
 induction f with
 | zero =>
  intro out b p h0 h1 h2 hl h3 h4
  simp only [cutsM]
  exact ⟨fun x hx => by have := h3 x hx; omega, h4, by omega⟩
 | succ f ih =>
  intro out b p h0 h1 h2 hl h3 h4
  simp only [cutsM]
  split
  ·refine ih _ _ _ (by omega) (by omega) (by omega) (by simp; omega) ?_ ?_
   ·intro x hx
    rcases List.mem_append.1 hx with hx | hx
    ·have := h3 x hx; omega
    ·simp at hx; omega
   ·rw [List.pairwise_append]
    refine ⟨h4, by simp, ?_⟩
    intro a ha c hc
    have := h3 a ha
    simp at hc
    omega
  ·exact ih _ _ _ h0 (by omega) (by omega) (by omega) h3 h4
theorem cuts_up (s : ByteArray) : (∀ x ∈ cuts s, 0 < x ∧ x ≤ s.size) ∧ (cuts s).Pairwise (· < ·) ∧ ((cuts s).length : Int) ≤ s.size :=
 cutsM_up s s.size [] 0 1 (by omega) (by omega) (by omega) (by simp) (by simp) (by simp)
end Go.Proofs.Ytjepecinpgjgdaa.ZVau
/-! The pieces of a text: the program's and the reference's are the same. -/
namespace Go.Proofs.Ytjepecinpgjgdaa.ZVau
open Go.RowKit Go.Proofs.Ytjepecinpgjgdaa.PVau Go.Proofs.YtjepecinpgjgdaaW.PrintWords Go.Proofs.YtjepecinpgjgdaaW.PrintLast Go.Proofs.YtjepecinpgjgdaaW.PrintMore Go.Proofs.Ytjepecinpgjgdaa.E
set_option linter.unusedSimpArgs false
set_option linter.unusedVariables false

def piecesM (s : ByteArray) (c : List Int) : Nat → List ByteArray → Int → Int → List ByteArray
 | 0, out, _, _ => out
 | f + 1, out, b, i => piecesM s c f (out ++ [s.extract b.toNat (rd c i).toNat]) (rd c i) (i + 1)
def pieces (s : ByteArray) : List ByteArray := piecesM s (cuts s) (cuts s).length [] 0 0
theorem rd_get (c : List Int) (i : Int) (h0 : 0 ≤ i) (h1 : i < c.length) : rd c i = c[i.toNat]'(by omega) := by
 unfold rd
 rw [List.getD_eq_getElem?_getD, List.getElem?_eq_getElem (by omega)]
 rfl
section
variable (s : ByteArray) (hs : s.size ≤ 1048576)
include hs
theorem cut_at (b i : Int) (h0 : 0 ≤ i) (h1 : i < (cuts s).length) (hb : i = 0 ∧ b = 0 ∨ 1 ≤ i ∧ b = rd (cuts s) (i - 1)) : 0 ≤ b ∧ b ≤ rd (cuts s) i ∧ rd (cuts s) i ≤ s.size := by
 have hu := cuts_up s
 have hi := hu.1 _ (List.getElem_mem (l := cuts s) (n := i.toNat) (by omega))
 rw [rd_get _ i h0 h1]
 rcases hb with ⟨_, rfl⟩ | ⟨h, rfl⟩
 ·omega
 ·rw [rd_get _ (i - 1) (by omega) (by omega)]
  have hj := hu.1 _ (List.getElem_mem (l := cuts s) (n := (i - 1).toNat) (by omega))
  have := (List.pairwise_iff_getElem.1 hu.2.1) (i - 1).toNat i.toNat (by omega) (by omega) (by omega)
  omega
theorem spec_pieces_l : ∀ (f : Nat) (out : List ByteArray) (b i : Int), 0 ≤ i → i + f = (cuts s).length → (i = 0 ∧ b = 0 ∨ 1 ≤ i ∧ b = rd (cuts s) (i - 1)) → (out.length : Int) ≤ i →
  Ev (fun k => spec_l15Pieces.l0 k s out b (cuts s) ((cuts s).length : Int) i) (piecesM s (cuts s) f out b i) := by
 intro f
 induction f with
 | zero =>
  intro out b i h0 h1 hb hl
  exact Ev.step (fun _ => spec_l15Pieces.l0.eq_2 ..) (ev_neg (by omega) (ev_ret rfl))
 | succ f ih =>
  intro out b i h0 h1 hb hl
  have hu := (cuts_up s).2.2
  have hc := cut_at s hs b i h0 (by omega) hb
  refine Ev.step (fun _ => spec_l15Pieces.l0.eq_2 ..) (ev_pos (by omega) (ev_pos h0 (ev_pos (by omega) (ev_pos hc.1 (ev_pos hc.2.1 (ev_pos hc.2.2 (ev_pos (by omega) ?_)))))))
  rw [w64 (x := i + 1) (by omega) (by omega)]
  exact ih _ _ _ (by omega) (by omega) (.inr ⟨by omega, by rw [show i + 1 - 1 = i by omega]⟩) (by simp; omega)
theorem impl_pieces_l : ∀ (f : Nat) (out : List ByteArray) (b i : Int), 0 ≤ i → i + f = (cuts s).length → (i = 0 ∧ b = 0 ∨ 1 ≤ i ∧ b = rd (cuts s) (i - 1)) → (out.length : Int) ≤ i →
  Ev (fun k => impl_PiecesOf.l0 k s out b (cuts s) ((cuts s).length : Int) i) (piecesM s (cuts s) f out b i, true) := by
 intro f
 induction f with
 | zero =>
  intro out b i h0 h1 hb hl
  exact Ev.step (fun _ => impl_PiecesOf.l0.eq_2 ..) (ev_neg (by omega) (ev_ret rfl))
 | succ f ih =>
  intro out b i h0 h1 hb hl
  have hu := (cuts_up s).2.2
  have hc := cut_at s hs b i h0 (by omega) hb
  refine Ev.step (fun _ => impl_PiecesOf.l0.eq_2 ..) (ev_pos (by omega) (ev_pos h0 (ev_pos (by omega) (ev_pos hc.1 (ev_pos hc.2.1 (ev_pos hc.2.2 (ev_pos (by omega) ?_)))))))
  rw [w64 (x := i + 1) (by omega) (by omega)]
  exact ih _ _ _ (by omega) (by omega) (.inr ⟨by omega, by rw [show i + 1 - 1 = i by omega]⟩) (by simp; omega)
theorem spec_pieces : Ev (fun k => spec_l15Pieces.f k s) (pieces s) := by
 unfold spec_l15Pieces.f pieces
 exact Ev.bind (spec_cuts s hs) (spec_pieces_l s hs _ _ _ _ (by omega) (by omega) (.inl ⟨rfl, rfl⟩) (by simp))
theorem impl_piecesOf (h4 : ¬ (s.size : Int) > 400) : Ev (fun k => impl_PiecesOf.f k s) (pieces s, true) := by
 unfold impl_PiecesOf.f pieces impl_CutsOf.f
 exact Ev.bind (ev_neg h4 (Ev.bind (impl_cuts s hs) (ev_ret rfl))) (ev_true rfl (impl_pieces_l s hs _ _ _ _ (by omega) (by omega) (.inl ⟨rfl, rfl⟩) (by simp)))
end
theorem piecesM_len (s : ByteArray) (c : List Int) : ∀ (f : Nat) (out : List ByteArray) (b i : Int), (piecesM s c f out b i).length = out.length + f := by
 intro f
 induction f with
 | zero => intro out b i; rfl
 | succ f ih =>
  intro out b i
  simp only [piecesM]
  rw [ih]
  simp; omega
theorem pieces_len (s : ByteArray) : ((pieces s).length : Int) ≤ s.size := by
 have := (cuts_up s).2.2
 unfold pieces
 rw [piecesM_len]
 simpa using this
end Go.Proofs.Ytjepecinpgjgdaa.ZVau
/-! What is true of the cuts: how far apart they lie, and that what stands ahead of a cut but for the last bytes does not matter. -/
namespace Go.Proofs.Ytjepecinpgjgdaa.ZVau
open Go.RowKit Go.Proofs.Ytjepecinpgjgdaa.PVau Go.Proofs.YtjepecinpgjgdaaW.PrintWords Go.Proofs.YtjepecinpgjgdaaW.PrintLast Go.Proofs.YtjepecinpgjgdaaW.PrintMore Go.Proofs.Ytjepecinpgjgdaa.E
set_option linter.unusedSimpArgs false
set_option linter.unusedVariables false

theorem rd_app_l (l : List Int) (x i : Int) (h0 : 0 ≤ i) (h1 : i < l.length) : rd (l ++ [x]) i = rd l i := by
 unfold rd
 rw [List.getD_eq_getElem?_getD, List.getD_eq_getElem?_getD, List.getElem?_append_left (by omega)]
theorem rd_app_r (l : List Int) (x i : Int) (h : i = l.length) : rd (l ++ [x]) i = x := by
 unfold rd
 rw [List.getD_eq_getElem?_getD, List.getElem?_append_right (by omega)]
 simp [show i.toNat - l.length = 0 by omega]
def prv (l : List Int) (i : Int) : Int := if i = 0 then 0 else rd l (i - 1)
def Steps (s : ByteArray) (l : List Int) : Prop := ∀ i : Int, 0 ≤ i → i < l.length → 1 ≤ rd l i - prv l i ∧ rd l i - prv l i ≤ 24 ∧ (3 ≤ rd l i - prv l i ∨ rd l i = s.size)
theorem cutsM_steps (s : ByteArray) : ∀ (f : Nat) (out : List Int) (b p : Int), 0 ≤ b → b < p → p ≤ b + 24 → p + f = s.size + 1 → (p = s.size + 1 → b = s.size) → b = prv out out.length → Steps s out →
  Steps s (cutsM s f out b p) ∧ prv (cutsM s f out b p) (cutsM s f out b p).length = s.size := by
 intro f
 induction f with
 | zero =>
  intro out b p h0 h1 h2 h3 h4 h5 h6
  simp only [cutsM]
  exact ⟨h6, by rw [← h5]; exact h4 (by omega)⟩
 | succ f ih =>
  intro out b p h0 h1 h2 h3 h4 h5 h6
  simp only [cutsM]
  split
  ·rename_i hc
   refine ih _ _ _ (by omega) (by omega) (by omega) (by omega) (fun h => by omega) ?_ ?_
   ·unfold prv
    rw [if_neg (by simp; omega), rd_app_r _ _ _ (by simp)]
   ·intro i hi0 hi1
    by_cases hi : i < out.length
    ·have := h6 i hi0 hi
     have e : prv (out ++ [p]) i = prv out i := by
      unfold prv
      split
      ·rfl
      ·rw [rd_app_l _ _ _ (by omega) (by omega)]
     rw [e, rd_app_l _ _ _ hi0 hi]
     exact this
    ·have hie : i = out.length := by simp at hi1; omega
     have e : prv (out ++ [p]) i = b := by
      rw [h5, hie]
      unfold prv
      split
      ·rfl
      ·rw [rd_app_l _ _ _ (by omega) (by omega)]
     rw [e, rd_app_r _ _ _ hie]
     refine ⟨by omega, by omega, ?_⟩
     rcases hc with h | h | h
     ·exact .inl h.1
     ·exact .inl (by omega)
     ·exact .inr h
  ·rename_i hc
   have h24 : p - b ≠ 24 := fun h => hc (.inr (.inl h))
   have hz : p ≠ s.size := fun h => hc (.inr (.inr h))
   exact ih _ _ _ h0 (by omega) (by omega) (by omega) (fun h => by omega) h5 h6
theorem cuts_steps (s : ByteArray) : Steps s (cuts s) ∧ prv (cuts s) (cuts s).length = s.size :=
 cutsM_steps s s.size [] 0 1 (by omega) (by omega) (by omega) (by omega) (fun h => by omega) rfl (fun i h0 h1 => by simp at h1; omega)

def tailC (s : ByteArray) : Nat → Int → Int → List Int
 | 0, _, _ => []
 | f + 1, b, p => if cutAt s b p then p :: tailC s f p (p + 1) else tailC s f b (p + 1)
theorem cutsM_tail (s : ByteArray) : ∀ (f : Nat) (out : List Int) (b p : Int), cutsM s f out b p = out ++ tailC s f b p := by
 intro f
 induction f with
 | zero => intro out b p; simp [cutsM, tailC]
 | succ f ih =>
  intro out b p
  simp only [cutsM, tailC]
  split
  ·rw [ih, List.append_assoc]; rfl
  ·rw [ih]
theorem tailC_ge (s : ByteArray) : ∀ (f : Nat) (b p : Int), ∀ x ∈ tailC s f b p, p ≤ x := by
 intro f
 induction f with
 | zero => intro b p x hx; simp [tailC] at hx
 | succ f ih =>
  intro b p x hx
  simp only [tailC] at hx
  split at hx
  ·rcases List.mem_cons.1 hx with h | h
   ·omega
   ·have := ih _ _ x h; omega
  ·have := ih _ _ x hx; omega
theorem filter_all (l : List Int) (k : Int) (h : ∀ x ∈ l, k + 1 ≤ x) : l.filter (fun x => decide (x > k)) = l := by
 rw [List.filter_eq_self]
 intro x hx
 have := h x hx
 simp; omega
theorem tailC_split (s : ByteArray) (k : Int) : ∀ (f : Nat) (b p : Int), p + f = s.size + 1 → k ∈ tailC s f b p → ∃ f' : Nat, k + 1 + f' = s.size + 1 ∧ (tailC s f b p).filter (fun x => decide (x > k)) = tailC s f' k (k + 1) := by
 intro f
 induction f with
 | zero => intro b p _ hk; simp [tailC] at hk
 | succ f ih =>
  intro b p hf hk
  simp only [tailC] at hk ⊢
  split at hk
  ·rename_i hc
   rw [if_pos hc]
   rcases List.mem_cons.1 hk with h | h
   ·refine ⟨f, by omega, ?_⟩
    rw [List.filter_cons_of_neg (by simp; omega), ← h]
    exact filter_all _ k (fun x hx => tailC_ge s f k (k + 1) x hx)
   ·have hg := tailC_ge s f p (p + 1) k h
    obtain ⟨f', e1, e2⟩ := ih p (p + 1) (by omega) h
    exact ⟨f', e1, by rw [List.filter_cons_of_neg (by simp; omega)]; exact e2⟩
  ·rename_i hc
   rw [if_neg hc]
   exact ih b (p + 1) (by omega) hk
/-- Two texts that go on alike are cut alike. -/
theorem tailC_shift (s u : ByteArray) (o k : Int) (hk : 8 ≤ k) (ho : o = k - 8) (hz : (u.size : Int) = s.size - o) (hm : ∀ p, k + 1 ≤ p → p ≤ s.size → (mark s p ↔ mark u (p - o))) :
  ∀ (f : Nat) (b p : Int), k ≤ b → k + 1 ≤ p → p + f = s.size + 1 → (tailC s f b p).map (· - k) = (tailC u f (b - o) (p - o)).map (· - 8) := by
 intro f
 induction f with
 | zero => intro b p _ _ _; rfl
 | succ f ih =>
  intro b p hb hp hf
  have hc : cutAt s b p ↔ cutAt u (b - o) (p - o) := by
   have h1 := hm p hp (by omega)
   unfold cutAt
   rw [h1, hz]
   constructor
   ·rintro (⟨a, c, d⟩ | a | a)
    ·exact .inl ⟨by omega, by omega, d⟩
    ·exact .inr (.inl (by omega))
    ·exact .inr (.inr (by omega))
   ·rintro (⟨a, c, d⟩ | a | a)
    ·exact .inl ⟨by omega, by omega, d⟩
    ·exact .inr (.inl (by omega))
    ·exact .inr (.inr (by omega))
  simp only [tailC]
  by_cases h : cutAt s b p
  ·rw [if_pos h, if_pos (hc.1 h)]
   simp only [List.map_cons]
   have := ih p (p + 1) (by omega) (by omega) (by omega)
   rw [show p + 1 - o = p - o + 1 by omega] at this
   rw [this, show p - k = p - o - 8 by omega]
  ·rw [if_neg h, if_neg (fun a => h (hc.2 a))]
   have := ih b (p + 1) hb (by omega) (by omega)
   rw [show p + 1 - o = p - o + 1 by omega] at this
   exact this
def zz : ByteArray := ⟨#[122, 122, 122, 122]⟩
def turn (s : ByteArray) (k : Int) : ByteArray := zz ++ s.extract (k - 4).toNat s.size
theorem turn_size (s : ByteArray) (k : Int) (h0 : 8 ≤ k) (h1 : k ≤ s.size) : ((turn s k).size : Int) = s.size - (k - 8) := by
 unfold turn
 rw [ByteArray.size_append, ByteArray.size_extract]
 have : zz.size = 4 := rfl
 omega
theorem turn_mark (s : ByteArray) (k : Int) (h0 : 8 ≤ k) (h1 : k ≤ s.size) (p : Int) (hp : k + 1 ≤ p) (hp2 : p ≤ s.size) : mark s p ↔ mark (turn s k) (p - (k - 8)) := by
 have e : (turn s k).extract (p - (k - 8) - 4).toNat (p - (k - 8)).toNat = s.extract (p - 4).toNat p.toNat := by
  have hz : zz.size = 4 := rfl
  unfold turn
  rw [ByteArray.extract_append, hz, ByteArray.extract_extract]
  have e1 : zz.extract (p - (k - 8) - 4).toNat (p - (k - 8)).toNat = ByteArray.empty := by
   apply ByteArray.ext
   apply Array.ext
   ·simp [ByteArray.size_data, ByteArray.size_extract, hz]
    omega
   ·intro i hi _
    simp [ByteArray.size_data, ByteArray.size_extract, hz] at hi
    omega
  rw [e1, ByteArray.empty_append]
  congr 1 <;> omega
 unfold mark
 rw [e]
theorem alike (s : ByteArray) (k : Int) (h0 : 8 ≤ k) (hk : k ∈ cuts s) (h8 : (8 : Int) ∈ cuts (turn s k)) :
  ((cuts s).filter (fun x => decide (x > k))).map (· - k) = ((cuts (turn s k)).filter (fun x => decide (x > 8))).map (· - 8) := by
 have hu := (cuts_up s).1 k hk
 have hz := turn_size s k h0 hu.2
 unfold cuts at hk h8 ⊢
 rw [cutsM_tail, List.nil_append] at hk h8 ⊢
 rw [cutsM_tail, List.nil_append]
 obtain ⟨f1, a1, b1⟩ := tailC_split s k s.size 0 1 (by omega) hk
 obtain ⟨f2, a2, b2⟩ := tailC_split (turn s k) 8 (turn s k).size 0 1 (by omega) h8
 rw [b1, b2]
 have hf : f1 = f2 := by omega
 subst hf
 have := tailC_shift s (turn s k) (k - 8) k h0 rfl hz (fun p hp hp2 => turn_mark s k h0 hu.2 p hp hp2) f1 k (k + 1) (by omega) (by omega) (by omega)
 rw [show k - (k - 8) = 8 by omega, show k + 1 - (k - 8) = 9 by omega] at this
 exact this
end Go.Proofs.Ytjepecinpgjgdaa.ZVau
