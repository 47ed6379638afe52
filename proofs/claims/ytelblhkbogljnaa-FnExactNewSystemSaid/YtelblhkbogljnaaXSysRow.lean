import Derived.Test.YtelblhkbogljnaaXSysClone
/-! Rows of extents of the call's own. -/
namespace Go.Proofs.Ytelblhkbogljnaa.PSys
open Go.RowKit Go.Proofs.YtelblhkbogljnaaW.PrintWords Go.Proofs.YtelblhkbogljnaaW.PrintLast Go.Proofs.YtelblhkbogljnaaW.PrintMore Go.Proofs.Ytelblhkbogljnaa.E
set_option linter.unusedSimpArgs false
set_option linter.unusedVariables false
abbrev ES (w : World) (base : Nat) (ok : Nat → Prop) (v : Value) (xs : List EL) : Prop := k35.R 35 w base ok v xs
theorem rd_el (xs : List EL) (i : Int) : rd_T35 xs i = xs.getD i.toNat z35 := rfl
theorem el_M {w : World} {base : Nat} {ok : Nat → Prop} {x : EL} {cs : List Value} : k35.M w base ok x cs ↔ cs = [.int .i64 x.f0, .int .i64 x.f1] := by
 constructor
 ·rintro ⟨c0, c1, rfl, h0, h1⟩
  have e0 : c0 = [.int .i64 x.f0] := h0
  have e1 : c1 = [.int .i64 x.f1] := h1
  subst e0 e1
  rfl
 ·rintro rfl
  exact ⟨[.int .i64 x.f0], [.int .i64 x.f1], rfl, rfl, rfl⟩
/-- Extent i: its cells. -/
theorem es_elem {W : World} {base g n cap : Nat} {ok : Nat → Prop} {xs : List EL} (h : ES W base ok (.slice (some ⟨g, 0, none⟩) n cap) xs) (i : Int) (h0 : 0 ≤ i) (h1 : i < n) :
  W.cell? ⟨g, i.toNat * 2, none⟩ = some (.int .i64 (rd_T35 xs i).f0) ∧ W.cell? ⟨g, i.toNat * 2 + 1, none⟩ = some (.int .i64 (rd_T35 xs i).f1) ∧ ∀ j, W.frozen? ⟨g, i.toNat * 2 + j, none⟩ = false := by
 obtain ⟨c, hcl, hM, hcc, hfr⟩ := Kd.R_elem h z35 i h0 h1
 rw [← rd_el, el_M] at hM
 subst hM
 exact ⟨hcc 0 _ rfl, hcc 1 _ rfl, hfr⟩
/-- a[i].Long = x -/
theorem es_put1 {W : World} {base g n cap : Nat} {ok : Nat → Prop} {xs : List EL} (h : ES W base ok (.slice (some ⟨g, 0, none⟩) n cap) xs) (i : Int) (h0 : 0 ≤ i) (h1 : i < n) (x : Int) :
  ES (W.setCell ⟨g, i.toNat * 2 + 1, none⟩ (.int .i64 x)) base ok (.slice (some ⟨g, 0, none⟩) n cap) (xs.set i.toNat ⟨(rd_T35 xs i).f0, x⟩) := by
 obtain ⟨c, hcl, hM0, hcc, hfr⟩ := Kd.R_elem h z35 i h0 h1
 rw [← rd_el, el_M] at hM0
 subst hM0
 exact (Kd.R_seg (okp := fun _ => False) (seg := [.int .i64 x]) (j := 1) h i h0 h1 hcl hcc (by show 1 + 1 ≤ 2; omega) (el_M.2 rfl) (fun _ hk => hk.elim)).1
end Go.Proofs.Ytelblhkbogljnaa.PSys
