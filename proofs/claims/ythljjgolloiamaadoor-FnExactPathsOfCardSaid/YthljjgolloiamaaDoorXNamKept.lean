import Derived.Test.YthljjgolloiamaaDoorYNamx0
import Derived.Test.YthljjgolloiamaaDoorEv
/-! A cell that is read beside a row that is written: it stands where it stood. -/
namespace Go.Proofs.YthljjgolloiamaaDoor.PNam
open Go.RowKit Go.Proofs.YthljjgolloiamaaDoorW.PrintWords Go.Proofs.YthljjgolloiamaaDoorW.PrintLast Go.Proofs.YthljjgolloiamaaDoorW.PrintMore Go.Proofs.YthljjgolloiamaaDoor.E
set_option linter.unusedSimpArgs false
set_option linter.unusedVariables false
theorem away {α : Type} {d : Kd α} {w : World} {P : Nat → Prop} {A : Option Addr} {n : Nat} {xs : List α} (hs : 0 < d.sz) (h : ∀ W_, Kept w W_ (fun k_ => P k_) → d.C W_ A n xs) (hn : 0 < n) {ad : Addr} (hA : A = some ad) : ¬ P ad.block ∧ ad.block < w.heap.size := by
  have key : ∀ W_, Kept w W_ (fun k_ => P k_) → ∃ u, W_.cell? (ad.add 0) = some u := by
    intro W hk
    obtain ⟨hl, _, hc⟩ := h W hk
    obtain ⟨ad', e, hc⟩ := hc hn
    rw [hA] at e
    cases e
    obtain ⟨x, hx⟩ : ∃ x, xs[0]? = some x := ⟨_, List.getElem?_eq_getElem (by omega)⟩
    obtain ⟨c, hc1, hc2, hc3⟩ := hc 0 x hx
    obtain ⟨u, hu⟩ : ∃ u, c[0]? = some u := ⟨_, List.getElem?_eq_getElem (by omega)⟩
    have := hc3 0 u hu
    exact ⟨u, by simpa using this⟩
  obtain ⟨u0, h0⟩ := key w (Kept.refl _ _)
  have hlt : ad.block < w.heap.size := by
    have := World.block_lt_of_cell? w _ h0
    rwa [add_block] at this
  refine ⟨fun hP => ?_, hlt⟩
  obtain ⟨u, hu⟩ := key { w with heap := w.heap.setIfInBounds ad.block (.map #[] 0) } ⟨by simp, fun i hi hn => by
    have hne : ad.block ≠ i := fun e => hn (e ▸ hP)
    simp [Array.getElem?_setIfInBounds, hne]⟩
  unfold World.cell? at hu
  rw [add_block] at hu
  simp [Array.getElem?_setIfInBounds, hlt] at hu
theorem inode_kept {w W : World} {P : Nat → Prop} {ad : Addr} {xs : List S76} (h : ∀ W_, Kept w W_ (fun k_ => P k_) → Kd.C k76 W_ (some ad) xs.length xs) (i : Int) (h0 : 0 ≤ i) (h1 : i < xs.length) {A2 : Option Addr} {c2 : Nat} (hk0 : Kept w W (fun k_ => P k_)) (hc : W.cell? ⟨(ad.add (i.toNat * 3)).block, (ad.add (i.toNat * 3)).off + 2, none⟩ = some (.slice A2 (rd_T76 xs i).f2.length c2)) :
    ∀ W_, Kept w W_ (fun k_ => P k_) → Kd.C k60 W_ A2 (rd_T76 xs i).f2.length (rd_T76 xs i).f2 := by
  obtain ⟨hP, hlt⟩ := away (d := k76) (by decide) h (by omega) rfl
  obtain ⟨ad0, A0, c0, e, a0, a1, a2, hl, _⟩ := at_T76 (h w (Kept.refl _ _)) i h0 (by omega)
  cases e
  have e0 := cell_kept a2 hk0 (show ¬ P (ad.add (i.toNat * 3)).block by rw [add_block]; exact hP)
  rw [hc] at e0
  injection e0 with e0
  injection e0 with e3 e4 e5
  subst e3
  subst e5
  intro W' hk
  obtain ⟨ad', A2', c2', e', b0, b1, b2, _, hC⟩ := at_T76 (h W' hk) i h0 (by omega)
  cases e'
  have e2 := cell_kept a2 hk (show ¬ P (ad.add (i.toNat * 3)).block by rw [add_block]; exact hP)
  rw [b2] at e2
  injection e2 with e2
  injection e2 with e3 e4 e5
  subst e3
  subst e5
  exact hC
end Go.Proofs.YthljjgolloiamaaDoor.PNam
