import Derived.Test.YtacfalpgmibfnaaXCowRow
/-! A reference to a cell is taken away: what is computed, and the row of cells behind it. -/
namespace Go.Proofs.Ytacfalpgmibfnaa.PCow
open Go.RowKit Go.Proofs.YtacfalpgmibfnaaW.PrintWords Go.Proofs.YtacfalpgmibfnaaW.PrintLast Go.Proofs.YtacfalpgmibfnaaW.PrintMore Go.Proofs.Ytacfalpgmibfnaa.E
set_option linter.unusedSimpArgs false
set_option linter.unusedVariables false
def loopD (F : List CL → Int → Option (List CL)) : List Int → List CL → Option (List CL)
  | [], C => some C
  | z :: r, C => (F C z).bind fun D => loopD F r D
def dropM : Nat → List CL → Int → Option (List CL)
  | 0, _, _ => none
  | m + 1, C, k => if k < 0 then some C else if k < (C.length : Int) then (if wrap64 ((rd_T68 C k).f0 - 1) > 0 then some (C.set k.toNat ⟨wrap64 ((rd_T68 C k).f0 - 1), (rd_T68 C k).f1, (rd_T68 C k).f2⟩) else loopD (dropM m) (rd_T68 C k).f2 (C.set k.toNat z68)) else none
/-- What stands in cell k, for the walk: it is counted down (w1), then made empty (w2); its kids' row stands. -/
theorem drop_cell {w0 w : World} {g n c : Nat} {P : Nat → Prop} {C : List CL} (hB : Below w0.heap.size w0 w) (hS : CS w w0.heap.size P (.slice (some ⟨g, 0, none⟩) n c) C) (k : Int) (h0 : 0 ≤ k) (h1 : k < (n : Int)) (x : Int) :
    ∃ A2 c2 w1 w2, w.setCell ⟨g, k.toNat * 3, none⟩ (.int .i64 x) = w1 ∧ ((w1.setCell ⟨g, k.toNat * 3, none⟩ (.int .i64 0)).setCell ⟨g, k.toNat * 3 + 1, none⟩ (.string ⟨#[]⟩)).setCell ⟨g, k.toNat * 3 + 2, none⟩ (.slice none 0 0) = w2 ∧
      w.cell? ⟨g, k.toNat * 3, none⟩ = some (.int .i64 (rd_T68 C k).f0) ∧ w.frozen? ⟨g, k.toNat * 3, none⟩ = false ∧
      w1.cell? ⟨g, k.toNat * 3, none⟩ = some (.int .i64 x) ∧ w1.cell? ⟨g, k.toNat * 3 + 1, none⟩ = some (.string (rd_T68 C k).f1) ∧ w1.cell? ⟨g, k.toNat * 3 + 2, none⟩ = some (.slice A2 (rd_T68 C k).f2.length c2) ∧
      w1.frozen? ⟨g, k.toNat * 3, none⟩ = false ∧ w1.frozen? ⟨g, k.toNat * 3 + 1, none⟩ = false ∧ w1.frozen? ⟨g, k.toNat * 3 + 2, none⟩ = false ∧
      Aside0 (CS w1 w0.heap.size P (.slice (some ⟨g, 0, none⟩) n c) (C.set k.toNat ⟨x, (rd_T68 C k).f1, (rd_T68 C k).f2⟩)) ∧ Aside0 (CS w2 w0.heap.size P (.slice (some ⟨g, 0, none⟩) n c) (C.set k.toNat z68)) ∧
      Aside0 (Below w0.heap.size w0 w1) ∧ Aside0 (Below w0.heap.size w0 w2) ∧ Aside0 (Kept w w1 (fun j => j = g)) ∧ Aside0 (Kept w w2 (fun j => j = g)) ∧
      Aside0 (∀ W, Kept w W (fun j => j = g ∨ ¬ P j) → (Kd.int .i64).C W A2 (rd_T68 C k).f2.length (rd_T68 C k).f2) ∧ (rd_T68 C k).f2.length ≤ c2 := by
  have hn := cs_len hS
  have hge := Kd.S_base hS g rfl
  obtain ⟨oki, v, e0, e1, e2, hfr, hoki, hR, hH⟩ := cs_elem hS k h0 h1
  obtain ⟨A2, c2, rfl⟩ := Kd.R_slice hR
  have S1 := cs_put0 hS k h0 h1 x
  have hkn : k.toNat < C.length := by omega
  have hrd : rd_T68 (C.set k.toNat ⟨x, (rd_T68 C k).f1, (rd_T68 C k).f2⟩) k = ⟨x, (rd_T68 C k).f1, (rd_T68 C k).f2⟩ := by
    have := rd_cl_set hkn (⟨x, (rd_T68 C k).f1, (rd_T68 C k).f2⟩ : CL)
    rwa [show ((k.toNat : Nat) : Int) = k by omega] at this
  obtain ⟨oki1, v1, f0, f1, f2, hfr1, _, _, _⟩ := cs_elem S1 k h0 h1
  rw [hrd] at f0 f1
  have f2' : (w.setCell ⟨g, k.toNat * 3, none⟩ (.int .i64 x)).cell? ⟨g, k.toNat * 3 + 2, none⟩ = some (.slice A2 (rd_T68 C k).f2.length c2) := by
    rw [World.cell?_setCell_other]
    · exact e2
    · intro e_; injection e_ with _ h_ _; omega
  have S2 := cs_zero S1 k h0 h1
  rw [List.set_set] at S2
  have B1 : Below w0.heap.size w0 (w.setCell ⟨g, k.toNat * 3, none⟩ (.int .i64 x)) := below_set hB hge
  have K1 : Kept w (w.setCell ⟨g, k.toNat * 3, none⟩ (.int .i64 x)) (fun j => j = g) := (Kept.refl w (fun j => j = g)).setCell (p := ⟨g, k.toNat * 3, none⟩) (.inl rfl) _
  refine ⟨A2, c2, _, _, rfl, rfl, e0, hfr 0, f0, f1, f2', hfr1 0, hfr1 1, hfr1 2, ⟨S1⟩, ⟨S2⟩, ⟨B1⟩, ⟨below_set (below_set (below_set B1 hge) hge) hge⟩, ⟨K1⟩, ⟨((K1.setCell (p := ⟨g, k.toNat * 3, none⟩) (.inl rfl) _).setCell (p := ⟨g, k.toNat * 3 + 1, none⟩) (.inl rfl) _).setCell (p := ⟨g, k.toNat * 3 + 2, none⟩) (.inl rfl) _⟩, ⟨Kd.C_kept_own hR (fun j hj e_ => e_.elim (hoki j hj).2 (fun h_ => h_ (hoki j hj).1))⟩, (Kd.R_reads' hR).2.1⟩
end Go.Proofs.Ytacfalpgmibfnaa.PCow
