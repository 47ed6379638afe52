import Derived.Test.YtjepecinpgjgdaaZVauCuts
/-! The pieces of a text: the program's and the reference's are the same. -/
namespace Go.Proofs.Ytjepecinpgjgdaa.ZVau
open Go.RowKit Go.Proofs.Ytjepecinpgjgdaa.PVau Go.Proofs.YtjepecinpgjgdaaW.PrintWords Go.Proofs.YtjepecinpgjgdaaW.PrintLast Go.Proofs.YtjepecinpgjgdaaW.PrintMore Go.Proofs.Ytjepecinpgjgdaa.E
set_option linter.unusedSimpArgs false
set_option linter.unusedVariables false

def piecesM (s : ByteArray) (c : List Int) : Nat → List ByteArray → Int → Int → List ByteArray
 | 0, out, _, _ => out
 | f + 1, out, b, i => piecesM s c f (out ++ [s.extract b.toNat (rd c i).toNat]) (rd c i) (i + 1)
def pieces (s : ByteArray) : List ByteArray := piecesM s (cuts s) (cuts s).length [] 0 0
theorem rd_get (c : List Int) (i : Int) (h0 : 0 ≤ i) (h1 : i < c.length) : rd c i = c[i.toNat]'(by omega) := by
 unfold rd
 rw [List.getD_eq_getElem?_getD, List.getElem?_eq_getElem (by omega)]
 rfl
section
variable (s : ByteArray) (hs : s.size ≤ 1048576)
include hs
theorem cut_at (b i : Int) (h0 : 0 ≤ i) (h1 : i < (cuts s).length) (hb : i = 0 ∧ b = 0 ∨ 1 ≤ i ∧ b = rd (cuts s) (i - 1)) : 0 ≤ b ∧ b ≤ rd (cuts s) i ∧ rd (cuts s) i ≤ s.size := by
 have hu := cuts_up s
 have hi := hu.1 _ (List.getElem_mem (l := cuts s) (n := i.toNat) (by omega))
 rw [rd_get _ i h0 h1]
 rcases hb with ⟨_, rfl⟩ | ⟨h, rfl⟩
 ·omega
 ·rw [rd_get _ (i - 1) (by omega) (by omega)]
  have hj := hu.1 _ (List.getElem_mem (l := cuts s) (n := (i - 1).toNat) (by omega))
  have := (List.pairwise_iff_getElem.1 hu.2.1) (i - 1).toNat i.toNat (by omega) (by omega) (by omega)
  omega
theorem spec_pieces_l : ∀ (f : Nat) (out : List ByteArray) (b i : Int), 0 ≤ i → i + f = (cuts s).length → (i = 0 ∧ b = 0 ∨ 1 ≤ i ∧ b = rd (cuts s) (i - 1)) → (out.length : Int) ≤ i →
  Ev (fun k => spec_l15Pieces.l0 k s out b (cuts s) ((cuts s).length : Int) i) (piecesM s (cuts s) f out b i) := by
 intro f
 induction f with
 | zero =>
  intro out b i h0 h1 hb hl
  exact Ev.step (fun _ => spec_l15Pieces.l0.eq_2 ..) (ev_neg (by omega) (ev_ret rfl))
 | succ f ih =>
  intro out b i h0 h1 hb hl
  have hu := (cuts_up s).2.2
  have hc := cut_at s hs b i h0 (by omega) hb
  refine Ev.step (fun _ => spec_l15Pieces.l0.eq_2 ..) (ev_pos (by omega) (ev_pos h0 (ev_pos (by omega) (ev_pos hc.1 (ev_pos hc.2.1 (ev_pos hc.2.2 (ev_pos (by omega) ?_)))))))
  rw [w64 (x := i + 1) (by omega) (by omega)]
  exact ih _ _ _ (by omega) (by omega) (.inr ⟨by omega, by rw [show i + 1 - 1 = i by omega]⟩) (by simp; omega)
theorem impl_pieces_l : ∀ (f : Nat) (out : List ByteArray) (b i : Int), 0 ≤ i → i + f = (cuts s).length → (i = 0 ∧ b = 0 ∨ 1 ≤ i ∧ b = rd (cuts s) (i - 1)) → (out.length : Int) ≤ i →
  Ev (fun k => impl_PiecesOf.l0 k s out b (cuts s) ((cuts s).length : Int) i) (piecesM s (cuts s) f out b i, true) := by
 intro f
 induction f with
 | zero =>
  intro out b i h0 h1 hb hl
  exact Ev.step (fun _ => impl_PiecesOf.l0.eq_2 ..) (ev_neg (by omega) (ev_ret rfl))
 | succ f ih =>
  intro out b i h0 h1 hb hl
  have hu := (cuts_up s).2.2
  have hc := cut_at s hs b i h0 (by omega) hb
  refine Ev.step (fun _ => impl_PiecesOf.l0.eq_2 ..) (ev_pos (by omega) (ev_pos h0 (ev_pos (by omega) (ev_pos hc.1 (ev_pos hc.2.1 (ev_pos hc.2.2 (ev_pos (by omega) ?_)))))))
  rw [w64 (x := i + 1) (by omega) (by omega)]
  exact ih _ _ _ (by omega) (by omega) (.inr ⟨by omega, by rw [show i + 1 - 1 = i by omega]⟩) (by simp; omega)
theorem spec_pieces : Ev (fun k => spec_l15Pieces.f k s) (pieces s) := by
 unfold spec_l15Pieces.f pieces
 exact Ev.bind (spec_cuts s hs) (spec_pieces_l s hs _ _ _ _ (by omega) (by omega) (.inl ⟨rfl, rfl⟩) (by simp))
theorem impl_piecesOf (h4 : ¬ (s.size : Int) > 400) : Ev (fun k => impl_PiecesOf.f k s) (pieces s, true) := by
 unfold impl_PiecesOf.f pieces impl_CutsOf.f
 exact Ev.bind (ev_neg h4 (Ev.bind (impl_cuts s hs) (ev_ret rfl))) (ev_true rfl (impl_pieces_l s hs _ _ _ _ (by omega) (by omega) (.inl ⟨rfl, rfl⟩) (by simp)))
end
theorem piecesM_len (s : ByteArray) (c : List Int) : ∀ (f : Nat) (out : List ByteArray) (b i : Int), (piecesM s c f out b i).length = out.length + f := by
 intro f
 induction f with
 | zero => intro out b i; rfl
 | succ f ih =>
  intro out b i
  simp only [piecesM]
  rw [ih]
  simp; omega
theorem pieces_len (s : ByteArray) : ((pieces s).length : Int) ≤ s.size := by
 have := (cuts_up s).2.2
 unfold pieces
 rw [piecesM_len]
 simpa using this
end Go.Proofs.Ytjepecinpgjgdaa.ZVau
