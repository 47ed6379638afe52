import Derived.Test.YtacfalpgmibfnaaXCowLev
/-! A row of cells of the call's own: what its cells say, and what a store into one of them does. -/
namespace Go.Proofs.Ytacfalpgmibfnaa.PCow
open Go.RowKit Go.Proofs.YtacfalpgmibfnaaW.PrintWords Go.Proofs.YtacfalpgmibfnaaW.PrintLast Go.Proofs.YtacfalpgmibfnaaW.PrintMore Go.Proofs.Ytacfalpgmibfnaa.E
set_option linter.unusedSimpArgs false
set_option linter.unusedVariables false
abbrev CL := S68
abbrev CS (w : World) (base : Nat) (ok : Nat → Prop) (v : Value) (xs : List CL) : Prop := Kd.S k68 68 w base ok v xs
abbrev IR (w : World) (base : Nat) (ok : Nat → Prop) (v : Value) (xs : List Int) : Prop := (Kd.int .i64).R 3 w base ok v xs
theorem cl_M {w : World} {base : Nat} {ok : Nat → Prop} {x : CL} {cs : List Value} : k68.M w base ok x cs ↔ ∃ v, cs = [.int .i64 x.f0, .string x.f1, v] ∧ IR w base ok v x.f2 := by
  constructor
  · rintro ⟨c0, c1, rfl, h0, c2, c3, rfl, h1, v, rfl, hR⟩
    have e0 : c0 = [.int .i64 x.f0] := h0
    have e1 : c2 = [.string x.f1] := h1
    subst e0 e1
    exact ⟨v, rfl, hR⟩
  · rintro ⟨v, rfl, hR⟩
    exact ⟨[.int .i64 x.f0], [.string x.f1, v], rfl, rfl, [.string x.f1], [v], rfl, rfl, v, rfl, hR⟩
theorem rd_cl (xs : List CL) (i : Int) : rd_T68 xs i = xs.getD i.toNat z68 := rfl
theorem rd_cl_set {xs : List CL} {q : Nat} (h : q < xs.length) (x : CL) : rd_T68 (xs.set q x) (q : Int) = x := by
  rw [rd_cl, Int.toNat_natCast, List.getD_eq_getElem?_getD, List.getElem?_set_self h]
  rfl
/-- Element i: its cells, its kids' row, and the row without it. -/
theorem cs_elem {W : World} {base g n cap : Nat} {ok : Nat → Prop} {xs : List CL} (h : CS W base ok (.slice (some ⟨g, 0, none⟩) n cap) xs) (i : Int) (h0 : 0 ≤ i) (h1 : i < n) :
    ∃ (oki : Nat → Prop) (v : Value), W.cell? ⟨g, i.toNat * 3, none⟩ = some (.int .i64 (rd_T68 xs i).f0) ∧ W.cell? ⟨g, i.toNat * 3 + 1, none⟩ = some (.string (rd_T68 xs i).f1) ∧ W.cell? ⟨g, i.toNat * 3 + 2, none⟩ = some v ∧
      (∀ j, W.frozen? ⟨g, i.toNat * 3 + j, none⟩ = false) ∧ (∀ k, oki k → ok k ∧ k ≠ g) ∧ IR W base oki v (rd_T68 xs i).f2 ∧ Kd.H k68 68 W base ok (.slice (some ⟨g, 0, none⟩) n cap) xs i oki [.int .i64 (rd_T68 xs i).f0, .string (rd_T68 xs i).f1, v] := by
  obtain ⟨oki, c, hcl, hM, hcc, hfr, hoki, hH⟩ := Kd.S_elem h z68 i h0 h1
  rw [← rd_cl] at hM
  obtain ⟨v, rfl, hR⟩ := cl_M.1 hM
  exact ⟨oki, v, hcc 0 _ rfl, hcc 1 _ rfl, hcc 2 _ rfl, hfr, hoki, hR, hH⟩
theorem cs_len {W : World} {base : Nat} {ok : Nat → Prop} {A : Option Addr} {n cap : Nat} {xs : List CL} (h : CS W base ok (.slice A n cap) xs) : n = xs.length := (Kd.S_reads' h).1
theorem cs_put {W : World} {base g n cap : Nat} {ok oki okp : Nat → Prop} {xs : List CL} {i : Int} {c : List Value} (hH : Kd.H k68 68 W base ok (.slice (some ⟨g, 0, none⟩) n cap) xs i oki c) (h0 : 0 ≤ i) (h1 : i < n) (j : Nat) (hj : j < 3) (u : Value) (x' : CL)
    (hM : k68.M W base okp x' (c.take j ++ [u] ++ c.drop (j + 1))) (hok : ∀ k, okp k → oki k) :
    CS (W.setCell ⟨g, i.toNat * 3 + j, none⟩ u) base ok (.slice (some ⟨g, 0, none⟩) n cap) (xs.set i.toNat x') := by
  have := (Kd.S_seg (d := k68) (okg := fun _ => False) (seg := [u]) (j := j) (Kd.H_mono hH (fun k hk => ⟨hk, id⟩)) h0 h1 (by show j + 1 ≤ 3; omega) hM (fun k hk => .inl (hok k hk)) (fun _ hk => hk.elim)).1
  exact this
/-- a[i].Count = x -/
theorem cs_put0 {W : World} {base g n cap : Nat} {ok : Nat → Prop} {xs : List CL} (h : CS W base ok (.slice (some ⟨g, 0, none⟩) n cap) xs) (i : Int) (h0 : 0 ≤ i) (h1 : i < n) (x : Int) :
    CS (W.setCell ⟨g, i.toNat * 3, none⟩ (.int .i64 x)) base ok (.slice (some ⟨g, 0, none⟩) n cap) (xs.set i.toNat ⟨x, (rd_T68 xs i).f1, (rd_T68 xs i).f2⟩) := by
  obtain ⟨oki, v, _, _, _, _, _, hR, hH⟩ := cs_elem h i h0 h1
  exact cs_put hH h0 h1 0 (by omega) _ _ (cl_M.2 ⟨v, rfl, hR⟩) (fun _ hk => hk)
/-- a[i].Leaf = x -/
theorem cs_put1 {W : World} {base g n cap : Nat} {ok : Nat → Prop} {xs : List CL} (h : CS W base ok (.slice (some ⟨g, 0, none⟩) n cap) xs) (i : Int) (h0 : 0 ≤ i) (h1 : i < n) (x : ByteArray) :
    CS (W.setCell ⟨g, i.toNat * 3 + 1, none⟩ (.string x)) base ok (.slice (some ⟨g, 0, none⟩) n cap) (xs.set i.toNat ⟨(rd_T68 xs i).f0, x, (rd_T68 xs i).f2⟩) := by
  obtain ⟨oki, v, _, _, _, _, _, hR, hH⟩ := cs_elem h i h0 h1
  exact cs_put hH h0 h1 1 (by omega) _ _ (cl_M.2 ⟨v, rfl, hR⟩) (fun _ hk => hk)
/-- a[i].Kids is handed to what writes it. -/
theorem cs_inner {W : World} {base g n cap : Nat} {ok : Nat → Prop} {xs : List CL} (h : CS W base ok (.slice (some ⟨g, 0, none⟩) n cap) xs) (i : Int) (h0 : 0 ≤ i) (h1 : i < n) :
    ∃ v, W.cell? ⟨g, i.toNat * 3 + 2, none⟩ = some v ∧ IR W base (fun k => some k = v.ownBlock) v (rd_T68 xs i).f2 ∧ (∀ k, v.ownBlock = some k → ok k ∧ k ≠ g) ∧
      ∀ w1 r2, Kept W w1 (fun k => some k = v.ownBlock) → IR w1 base (fun _ => True) v r2 → CS w1 base ok (.slice (some ⟨g, 0, none⟩) n cap) (xs.set i.toNat ⟨(rd_T68 xs i).f0, (rd_T68 xs i).f1, r2⟩) := by
  obtain ⟨oki, v, _, _, hv, _, hoki, hR, hH⟩ := cs_elem h i h0 h1
  have hin : ∀ k, v.ownBlock = some k → oki k := fun k hk => hR.1 k hk
  refine ⟨v, hv, Kd.R_of_own (Kd.own_of_R hR) (fun k hk => hk.symm), fun k hk => hoki k (hin k hk), fun w1 r2 hk hR2 => ?_⟩
  refine Kd.H_back (Kd.H_kept hH hk (fun k _ hn hs => hn (hin k hs.symm))) (okp := oki) (cl_M.2 ⟨v, rfl, Kd.R_of_own (Kd.own_of_R hR2) hin⟩) (fun _ hk => hk)
/-- a[i] = x: x's row is one that a[i] had, or one that is nobody's so far (okg). -/
theorem cs_all {W : World} {base g n cap : Nat} {ok okg : Nat → Prop} {xs : List CL} (h : CS W base (fun k => ok k ∧ ¬ okg k) (.slice (some ⟨g, 0, none⟩) n cap) xs) (i : Int) (h0 : 0 ≤ i) (h1 : i < n) (x : CL) (v : Value) (hv : IR W base okg v x.f2) (hg : ∀ k, okg k → ok k ∧ k ≠ g) :
    CS (((W.setCell ⟨g, i.toNat * 3, none⟩ (.int .i64 x.f0)).setCell ⟨g, i.toNat * 3 + 1, none⟩ (.string x.f1)).setCell ⟨g, i.toNat * 3 + 2, none⟩ v) base ok (.slice (some ⟨g, 0, none⟩) n cap) (xs.set i.toNat x) := by
  obtain ⟨oki, u, _, _, _, _, _, _, hH⟩ := cs_elem h i h0 h1
  have := (Kd.S_seg (d := k68) (okg := okg) (seg := [.int .i64 x.f0, .string x.f1, v]) (j := 0) hH h0 h1 (by show 0 + 3 ≤ 3; omega) (cl_M.2 ⟨v, rfl, hv⟩) (fun k hk => .inr hk) hg).1
  exact this
theorem cs_zero {W : World} {base g n cap : Nat} {ok : Nat → Prop} {xs : List CL} (h : CS W base ok (.slice (some ⟨g, 0, none⟩) n cap) xs) (i : Int) (h0 : 0 ≤ i) (h1 : i < n) :
    CS (((W.setCell ⟨g, i.toNat * 3, none⟩ (.int .i64 0)).setCell ⟨g, i.toNat * 3 + 1, none⟩ (.string ⟨#[]⟩)).setCell ⟨g, i.toNat * 3 + 2, none⟩ (.slice none 0 0)) base ok (.slice (some ⟨g, 0, none⟩) n cap) (xs.set i.toNat z68) :=
  cs_all (okg := fun _ => False) (Kd.S_mono h (fun _ hk => ⟨hk, id⟩)) i h0 h1 z68 (.slice none 0 0) (Kd.R_nil _ _ _ _ _) (fun _ hk => hk.elim)
end Go.Proofs.Ytacfalpgmibfnaa.PCow
