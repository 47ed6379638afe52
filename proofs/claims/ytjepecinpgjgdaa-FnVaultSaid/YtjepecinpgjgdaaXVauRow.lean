import Derived.Test.YtjepecinpgjgdaaYVaux0
import Derived.Test.YtjepecinpgjgdaaEv
/-! Rows of pieces and of files of the call's own: what they say, and what a store into one of them does. -/
namespace Go.Proofs.Ytjepecinpgjgdaa.PVau
open Go.RowKit Go.Proofs.YtjepecinpgjgdaaW.PrintWords Go.Proofs.YtjepecinpgjgdaaW.PrintLast Go.Proofs.YtjepecinpgjgdaaW.PrintMore Go.Proofs.Ytjepecinpgjgdaa.E
set_option linter.unusedSimpArgs false
set_option linter.unusedVariables false
abbrev KL := S89
abbrev FL := S87
abbrev KS (w : World) (base : Nat) (ok : Nat → Prop) (v : Value) (xs : List KL) : Prop := k89.R 89 w base ok v xs
abbrev FS (w : World) (base : Nat) (ok : Nat → Prop) (v : Value) (xs : List FL) : Prop := Kd.S k87 87 w base ok v xs
abbrev IR (w : World) (base : Nat) (ok : Nat → Prop) (v : Value) (xs : List Int) : Prop := (Kd.int .i64).R 3 w base ok v xs
theorem rd_kl (xs : List KL) (i : Int) : rd_T89 xs i = xs.getD i.toNat z89 := rfl
theorem rd_fl (xs : List FL) (i : Int) : rd_T87 xs i = xs.getD i.toNat z87 := rfl
theorem kl_M {w : World} {base : Nat} {ok : Nat → Prop} {x : KL} {cs : List Value} : k89.M w base ok x cs ↔ cs = [.string x.f0, .int .i64 x.f1] := by
 constructor
 ·rintro ⟨c0, c1, rfl, h0, h1⟩
  have e0 : c0 = [.string x.f0] := h0
  have e1 : c1 = [.int .i64 x.f1] := h1
  subst e0 e1
  rfl
 ·rintro rfl
  exact ⟨[.string x.f0], [.int .i64 x.f1], rfl, rfl, rfl⟩
theorem fl_M {w : World} {base : Nat} {ok : Nat → Prop} {x : FL} {cs : List Value} : k87.M w base ok x cs ↔ ∃ v, cs = [v] ∧ IR w base ok v x.f0 := Iff.rfl
theorem rd_kl_set {xs : List KL} {q : Nat} (h : q < xs.length) (x : KL) : rd_T89 (xs.set q x) (q : Int) = x := by
 rw [rd_kl, Int.toNat_natCast, List.getD_eq_getElem?_getD, List.getElem?_set_self h]
 rfl
/-- Piece i: its cells. -/
theorem ks_elem {W : World} {base g n cap : Nat} {ok : Nat → Prop} {xs : List KL} (h : KS W base ok (.slice (some ⟨g, 0, none⟩) n cap) xs) (i : Int) (h0 : 0 ≤ i) (h1 : i < n) :
  W.cell? ⟨g, i.toNat * 2, none⟩ = some (.string (rd_T89 xs i).f0) ∧ W.cell? ⟨g, i.toNat * 2 + 1, none⟩ = some (.int .i64 (rd_T89 xs i).f1) ∧ ∀ j, W.frozen? ⟨g, i.toNat * 2 + j, none⟩ = false := by
 obtain ⟨c, hcl, hM, hcc, hfr⟩ := Kd.R_elem h z89 i h0 h1
 rw [← rd_kl, kl_M] at hM
 subst hM
 exact ⟨hcc 0 _ rfl, hcc 1 _ rfl, hfr⟩
theorem ks_put {W : World} {base g n cap : Nat} {ok : Nat → Prop} {xs : List KL} (h : KS W base ok (.slice (some ⟨g, 0, none⟩) n cap) xs) (i : Int) (h0 : 0 ≤ i) (h1 : i < n) (j : Nat) (hj : j < 2) (u : Value) (x' : KL)
  (hM : ([.string (rd_T89 xs i).f0, .int .i64 (rd_T89 xs i).f1] : List Value).take j ++ [u] ++ ([.string (rd_T89 xs i).f0, .int .i64 (rd_T89 xs i).f1] : List Value).drop (j + 1) = [.string x'.f0, .int .i64 x'.f1]) :
  KS (W.setCell ⟨g, i.toNat * 2 + j, none⟩ u) base ok (.slice (some ⟨g, 0, none⟩) n cap) (xs.set i.toNat x') := by
 obtain ⟨c, hcl, hM0, hcc, hfr⟩ := Kd.R_elem h z89 i h0 h1
 rw [← rd_kl, kl_M] at hM0
 subst hM0
 exact (Kd.R_seg (okp := fun _ => False) (seg := [u]) (j := j) h i h0 h1 hcl hcc (by show j + 1 ≤ 2; omega) (kl_M.2 hM) (fun _ hk => hk.elim)).1
/-- a[i].Text = x -/
theorem ks_put0 {W : World} {base g n cap : Nat} {ok : Nat → Prop} {xs : List KL} (h : KS W base ok (.slice (some ⟨g, 0, none⟩) n cap) xs) (i : Int) (h0 : 0 ≤ i) (h1 : i < n) (x : ByteArray) :
  KS (W.setCell ⟨g, i.toNat * 2, none⟩ (.string x)) base ok (.slice (some ⟨g, 0, none⟩) n cap) (xs.set i.toNat ⟨x, (rd_T89 xs i).f1⟩) := ks_put h i h0 h1 0 (by omega) _ _ rfl
/-- a[i].Uses = x -/
theorem ks_put1 {W : World} {base g n cap : Nat} {ok : Nat → Prop} {xs : List KL} (h : KS W base ok (.slice (some ⟨g, 0, none⟩) n cap) xs) (i : Int) (h0 : 0 ≤ i) (h1 : i < n) (x : Int) :
  KS (W.setCell ⟨g, i.toNat * 2 + 1, none⟩ (.int .i64 x)) base ok (.slice (some ⟨g, 0, none⟩) n cap) (xs.set i.toNat ⟨(rd_T89 xs i).f0, x⟩) := ks_put h i h0 h1 1 (by omega) _ _ rfl
/-- File i's parts are handed to what writes them. -/
theorem fs_inner {W : World} {base g n cap : Nat} {ok : Nat → Prop} {xs : List FL} (h : FS W base ok (.slice (some ⟨g, 0, none⟩) n cap) xs) (i : Int) (h0 : 0 ≤ i) (h1 : i < n) :
  ∃ v, W.cell? ⟨g, i.toNat, none⟩ = some v ∧ IR W base (fun k => some k = v.ownBlock) v (rd_T87 xs i).f0 ∧ (∀ k, v.ownBlock = some k → ok k ∧ k ≠ g) ∧
   ∀ w1 r2, Kept W w1 (fun k => some k = v.ownBlock) → IR w1 base (fun _ => True) v r2 → FS w1 base ok (.slice (some ⟨g, 0, none⟩) n cap) (xs.set i.toNat ⟨r2⟩) := by
 obtain ⟨oki, c, hcl, hM, hcc, hfr, hoki, hH⟩ := Kd.S_elem h z87 i h0 h1
 rw [← rd_fl] at hM
 obtain ⟨v, rfl, hR⟩ := fl_M.1 hM
 have hin : ∀ k, v.ownBlock = some k → oki k := fun k hk => hR.1 k hk
 have hv := hcc 0 _ rfl
 refine ⟨v, by rw [show i.toNat * k87.sz + 0 = i.toNat from by show i.toNat * 1 + 0 = _; omega] at hv; exact hv, Kd.R_of_own (Kd.own_of_R hR) (fun k hk => hk.symm), fun k hk => hoki k (hin k hk), fun w1 r2 hk hR2 => ?_⟩
 exact Kd.H_back (Kd.H_kept hH hk (fun k _ hn hs => hn (hin k hs.symm))) (okp := oki) (fl_M.2 ⟨v, rfl, Kd.R_of_own (Kd.own_of_R hR2) hin⟩) (fun _ hk => hk)
end Go.Proofs.Ytjepecinpgjgdaa.PVau
