import Derived.Test.YtjepecinpgjgdaaXVauDropS
import Derived.Test.YtjepecinpgjgdaaZVauFinP
import Derived.Test.YtjepecinpgjgdaaZVauGoodEv
/-! DropFile: the program's and the reference's are one. -/
namespace Go.Proofs.Ytjepecinpgjgdaa.ZVau
open Go.RowKit Go.Proofs.Ytjepecinpgjgdaa.PVau Go.Proofs.YtjepecinpgjgdaaW.PrintWords Go.Proofs.YtjepecinpgjgdaaW.PrintLast Go.Proofs.YtjepecinpgjgdaaW.PrintMore Go.Proofs.Ytjepecinpgjgdaa.E
set_option linter.unusedSimpArgs false
set_option linter.unusedVariables false
theorem dropR_size {ps : List KL} {fs : List FL} (h : good ps fs = true) (a : Nat) : (dropR ps fs a).1.length ≤ 100 ∧ (dropR ps fs a).2.length ≤ 20 ∧ ∀ x ∈ (dropR ps fs a).2, x.f0.length ≤ 200 := by
 obtain ⟨h1, h2, h3⟩ := good_small h
 unfold dropR
 refine ⟨?_, ?_, ?_⟩
 ·have h4 := (packK_len (decK (rd_T87 fs a).f0 ps) [] []).2
  rw [decK_len] at h4
  simp only [List.length_nil, Nat.zero_add] at h4
  show (packK _ [] []).2.length ≤ 100
  omega
 ·show ((fs.eraseIdx a).map _).length ≤ 20
  rw [List.length_map, List.length_eraseIdx]
  split <;> omega
 ·intro x hx
  obtain ⟨y, hy, rfl⟩ := List.mem_map.1 hx
  have h5 := h3 y (List.mem_of_mem_eraseIdx hy)
  show (y.f0.map _).length ≤ 200
  rw [List.length_map]
  exact h5
theorem dropF_size (ps : List KL) (fs : List FL) (a : Int) : (dropF ps fs a).1.length ≤ 100 ∧ (dropF ps fs a).2.1.length ≤ 20 ∧ ∀ x ∈ (dropF ps fs a).2.1, x.f0.length ≤ 200 := by
 unfold dropF
 split
 ·rename_i h
  exact dropR_size h.1 a.toNat
 ·exact ⟨by simp, by simp, fun x hx => by cases hx⟩
theorem spec_drop (ps : List KL) (fs : List FL) (a : Int) (hp : ps.length ≤ 1048576) (hf : fs.length ≤ 1048576) (hw : ∀ x ∈ fs, x.f0.length ≤ 1048576) : Ev (fun k => spec_DropFile.f k ps fs a) (dropF ps fs a) := by
 have hg := spec_good ps fs (by omega) (by omega) (fun x hx => by have := hw x hx; omega)
 unfold spec_DropFile.f
 refine Ev.bind hg ?_
 cases hgg : good ps fs with
 | false =>
  refine ev_neg (by decide) ?_
  unfold dropF
  rw [if_neg (fun h => by rw [hgg] at h; exact absurd h.1 (by decide))]
  exact ev_ret rfl
 | true =>
  refine ev_pos rfl ?_
  by_cases ha : 0 ≤ a ∧ a < (fs.length : Int)
  ·refine ev_pos ha (Ev.bind (own_ev ps fs hp hf hw) ?_)
   refine ev_pos ⟨hgg, ha.2⟩ ?_
   unfold dropF
   rw [if_pos ⟨hgg, ha⟩]
   exact ev_ret rfl
  ·refine ev_neg ha ?_
   unfold dropF
   rw [if_neg (fun h => ha h.2)]
   exact ev_ret rfl
theorem impl_drop (ps : List KL) (fs : List FL) (a : Int) : Ev (fun k => impl_DropFile.f k ps fs a) (dropF ps fs a) := ev_ret rfl
theorem drop_both (ps : List KL) (fs : List FL) (a : Int) (hp : ps.length ≤ 1048576) (hf : fs.length ≤ 1048576) (hw : ∀ x ∈ fs, x.f0.length ≤ 1048576) :
  ∃ C R b, ((C.length : Int) ≤ 1048576 ∧ (R.length : Int) ≤ 1048576 ∧ ∀ x ∈ R, x.f0.length ≤ 1048576) ∧ Ev (fun k => spec_DropFile.f k ps fs a) (C, R, b) ∧ Ev (fun k => impl_DropFile.f k ps fs a) (C, R, b) := by
 obtain ⟨h1, h2, h3⟩ := dropF_size ps fs a
 exact ⟨(dropF ps fs a).1, (dropF ps fs a).2.1, (dropF ps fs a).2.2, ⟨by omega, by omega, fun x hx => by have := h3 x hx; omega⟩, spec_drop ps fs a hp hf hw, impl_drop ps fs a⟩
end Go.Proofs.Ytjepecinpgjgdaa.ZVau
