import Derived.Test.YtgglcpcfmhpcmaaWMore
import Derived.Test.YtgglcpcfmhpcmaaEv
/-! Small words for the draws: a row that a literal makes, read. -/
namespace Go.Proofs.Ytgglcpcfmhpcmaa.Dk
open Go.RowKit Go.Proofs.YtgglcpcfmhpcmaaW.PrintWords
set_option linter.unusedVariables false
theorem C_lit {α : Type} {enc : α → Value} {h1 : ∀ x, (enc x).oneCell' = true} (W : World) (e : TypeId) (l : List α) (hl : l.length ≤ 9223372036854775807) :
    Kd.C (Kd.scalar enc h1) (W.alloc (.cells (l.map enc).toArray e)) (some ⟨W.heap.size, 0, none⟩) l.length l := by
  refine ⟨rfl, hl, fun _ => ⟨_, rfl, fun j p hj => ⟨[enc p], rfl, rfl, fun i u hu => ?_⟩⟩⟩
  match i, hu with
  | 0, hu =>
    have hu' : u = enc p := by simpa using hu.symm
    subst hu'
    have hb := heap_alloc_new W (.cells (l.map enc).toArray e)
    have : (W.alloc (.cells (l.map enc).toArray e)).cell? ⟨W.heap.size, j, none⟩ = (l.map enc).toArray[j]? := by simp only [World.cell?, hb]; rfl
    have e1 : Addr.add ⟨W.heap.size, 0, none⟩ (j * 1 + 0) = ⟨W.heap.size, j, none⟩ := by simp [Addr.add] <;> omega
    have e2 : (Kd.scalar enc h1).sz = 1 := rfl
    rw [e2, e1, this]
    simp [hj]
end Go.Proofs.Ytgglcpcfmhpcmaa.Dk
