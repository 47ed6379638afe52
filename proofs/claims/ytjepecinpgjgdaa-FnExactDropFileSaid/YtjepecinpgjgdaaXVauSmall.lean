import Derived.Test.YtjepecinpgjgdaaXVauGood
import Derived.Test.YtjepecinpgjgdaaXVauRow
/-! What a good vault bounds; a store grows one row. -/
namespace Go.Proofs.Ytjepecinpgjgdaa.PVau
open Go.RowKit Go.Proofs.YtjepecinpgjgdaaW.PrintWords Go.Proofs.YtjepecinpgjgdaaW.PrintLast Go.Proofs.YtjepecinpgjgdaaW.PrintMore Go.Proofs.Ytjepecinpgjgdaa.E
set_option linter.unusedSimpArgs false
set_option linter.unusedVariables false
theorem gV_parts (n : Nat) : ∀ (fs : List FL) (U V : List Int), gV n U fs = some V → ∀ f ∈ fs, f.f0.length ≤ 200 := by
 intro fs
 induction fs with
 | nil => intro U V h f hf; cases hf
 | cons g r ih =>
  intro U V h f hf
  simp only [gV] at h
  split at h
  ·cases h
  ·obtain ⟨W, h1, h2⟩ := Option.bind_eq_some_iff.1 h
   rcases List.mem_cons.1 hf with rfl | hf
   ·omega
   ·exact ih _ _ h2 f hf
theorem good_small {ps : List KL} {fs : List FL} (h : good ps fs = true) : ps.length ≤ 100 ∧ fs.length ≤ 20 ∧ ∀ f ∈ fs, f.f0.length ≤ 200 := by
 unfold good at h
 split at h
 ·cases h
 ·rename_i hn
  split at h
  ·cases h
  ·rename_i V hV
   exact ⟨by omega, by omega, gV_parts _ _ _ _ hV⟩
theorem grown_cell (W : World) (g i : Nat) (v : Value) : W.grownBy (W.setCell ⟨g, i, none⟩ v) (some g) :=
 ⟨rfl, rfl, rfl, by simp [World.setCell], fun k _ hk => Below.heap_setCell W ⟨g, i, none⟩ v k (fun e_ => hk (by rw [e_]))⟩
end Go.Proofs.Ytjepecinpgjgdaa.PVau
