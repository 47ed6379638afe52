import Derived.Test.YtjepecinpgjgdaaXVauFam
/-! DropFile: what it computes, and what stands between its steps. -/
namespace Go.Proofs.Ytjepecinpgjgdaa.PVau
open Go.RowKit Go.Proofs.YtjepecinpgjgdaaW.PrintWords Go.Proofs.YtjepecinpgjgdaaW.PrintLast Go.Proofs.YtjepecinpgjgdaaW.PrintMore Go.Proofs.Ytjepecinpgjgdaa.E
set_option linter.unusedSimpArgs false
set_option linter.unusedVariables false
def decK : List Int → List KL → List KL
 | [], p => p
 | k :: r, p => decK r (p.set k.toNat ⟨(rd_T89 p k).f0, wrap64 ((rd_T89 p k).f1 - 1)⟩)
def packK : List KL → List Int → List KL → List Int × List KL
 | [], pl, pc => (pl, pc)
 | x :: r, pl, pc => packK r (pl ++ [(pc.length : Int)]) (if x.f1 > 0 then pc ++ [x] else pc)
def mapP (pl : List Int) (f : FL) : FL := ⟨f.f0.map (fun k => rd pl k)⟩
def dropR (ps : List KL) (fs : List FL) (a : Nat) : List KL × List FL :=
 ((packK (decK (rd_T87 fs a).f0 ps) [] []).2, (fs.eraseIdx a).map (mapP (packK (decK (rd_T87 fs a).f0 ps) [] []).1))
def dropF (ps : List KL) (fs : List FL) (a : Int) : List KL × List FL × Bool :=
 if good ps fs = true ∧ 0 ≤ a ∧ a < (fs.length : Int) then ((dropR ps fs a.toNat).1, (dropR ps fs a.toNat).2, true) else ([], [], false)
theorem decK_len : ∀ (r : List Int) (p : List KL), (decK r p).length = p.length
 | [], p => rfl
 | k :: r, p => by unfold decK; rw [decK_len, List.length_set]
theorem packK_len : ∀ (r : List KL) (pl : List Int) (pc : List KL), (packK r pl pc).1.length = pl.length + r.length ∧ (packK r pl pc).2.length ≤ pc.length + r.length
 | [], pl, pc => ⟨rfl, Nat.le_refl _⟩
 | x :: r, pl, pc => by
  unfold packK
  obtain ⟨h1, h2⟩ := packK_len r (pl ++ [(pc.length : Int)]) (if x.f1 > 0 then pc ++ [x] else pc)
  refine ⟨by rw [h1]; simp; omega, ?_⟩
  have : (if x.f1 > 0 then pc ++ [x] else pc).length ≤ pc.length + 1 := by split <;> simp
  simp only [List.length_cons]; omega
theorem incs_rng (n : Nat) : ∀ (ks U V : List Int), incs n U ks = some V → ∀ k ∈ ks, 0 ≤ k ∧ k < n := by
 intro ks
 induction ks with
 | nil => intro U V h k hk; cases hk
 | cons q r ih =>
  intro U V h k hk
  simp only [incs] at h
  split at h
  ·rcases List.mem_cons.1 hk with rfl | hk
   ·omega
   ·exact ih _ _ h k hk
  ·cases h
theorem gV_rng (n : Nat) : ∀ (fs : List FL) (U V : List Int), gV n U fs = some V → ∀ f ∈ fs, ∀ k ∈ f.f0, 0 ≤ k ∧ k < n := by
 intro fs
 induction fs with
 | nil => intro U V h f hf; cases hf
 | cons g r ih =>
  intro U V h f hf
  simp only [gV] at h
  split at h
  ·cases h
  ·obtain ⟨W, h1, h2⟩ := Option.bind_eq_some_iff.1 h
   rcases List.mem_cons.1 hf with rfl | hf
   ·exact incs_rng n _ _ _ h1
   ·exact ih _ _ h2 f hf
theorem good_rng {ps : List KL} {fs : List FL} (h : good ps fs = true) : ∀ f ∈ fs, ∀ k ∈ f.f0, 0 ≤ k ∧ k < (ps.length : Int) := by
 unfold good at h
 split at h
 ·cases h
 ·split at h
  ·cases h
  ·rename_i V hV
   exact gV_rng _ _ _ _ hV
/-- The first loop: the pieces of the file that goes. -/
structure D1 (w W : World) (gz gb : Nat) (A6 : Option Addr) (c6 : Nat) (p : List KL) (A7 : Option Addr) (c7 : Nat) (l1 : List FL) (hs : List HV) : Prop where
 z : W.heap[gz]? = some (.cells #[.slice none 0 0, .slice none 0 0] 51 (0, 0))
 b : W.heap[gb]? = some (.cells #[.slice A6 p.length c6, .slice A7 l1.length c7] 51 (0, 0))
 ks : KS W w.heap.size (fun _ => True) (.slice A6 p.length c6) p
 hr : HR W w.heap.size (fun _ => True) (.slice A7 l1.length c7) hs
 fm : Fam W w.heap.size (fun _ => True) hs l1
 bl : Below w.heap.size w W
section
variable {w W W1 : World} {gz gb : Nat} {A6 : Option Addr} {c6 : Nat} {p : List KL} {A7 : Option Addr} {c7 : Nat} {l1 : List FL} {hs : List HV}
theorem D1.below (h : D1 w W gz gb A6 c6 p A7 c7 l1 hs) (hb : Below W.heap.size W W1) : D1 w W1 gz gb A6 c6 p A7 c7 l1 hs :=
 ⟨blk_below h.z hb, blk_below h.b hb, Kd.R_below h.ks hb, Kd.R_below h.hr hb, h.fm.below hb, below_step h.bl hb⟩
theorem D1.len (h : D1 w W gz gb A6 c6 p A7 c7 l1 hs) : hs.length = l1.length := h.fm.len
theorem D1.dec (h : D1 w W gz gb A6 c6 p A7 c7 l1 hs) (i : Int) (h0 : 0 ≤ i) (h1 : i < (p.length : Int)) (y : Int) :
  ∃ g6 w6, A6 = some ⟨g6, 0, none⟩ ∧ W.cell? ⟨g6, i.toNat * 2 + 1, none⟩ = some (.int .i64 (rd_T89 p i).f1) ∧ W.frozen? ⟨g6, i.toNat * 2 + 1, none⟩ = false ∧ W.setCell ⟨g6, i.toNat * 2 + 1, none⟩ (.int .i64 y) = w6 ∧
   D1 w w6 gz gb A6 c6 (p.set i.toNat ⟨(rd_T89 p i).f0, y⟩) A7 c7 l1 hs := by
 obtain ⟨g6, cap6, e6, _⟩ := Kd.R_form h.ks (by omega)
 injection e6 with eA en ec
 subst eA
 obtain ⟨_, e1, e2⟩ := ks_elem h.ks i h0 (by omega)
 have hg : W.grownBy (W.setCell ⟨g6, i.toNat * 2 + 1, none⟩ (.int .i64 y)) (Value.slice (some ⟨g6, 0, none⟩) p.length c6).ownBlock := grown_cell W g6 _ _
 have ty := Kd.R_typed h.ks
 have hl : (p.set i.toNat (⟨(rd_T89 p i).f0, y⟩ : KL)).length = p.length := List.length_set
 have hbase : w.heap.size ≤ g6 := Kd.R_base h.ks g6 rfl
 have ks := ks_put1 h.ks i h0 (by omega) y
 refine ⟨g6, _, rfl, e1, e2 1, rfl, blk_grown h.z hg (Kd.R_ne h.ks h.z (by decide)), ?_, ?_, Kd.R_over' h.hr ty (by decide) hg, h.fm.over ty (by decide) hg, below_set h.bl hbase⟩
 ·rw [hl]; exact blk_grown h.b hg (Kd.R_ne h.ks h.b (by decide))
 ·rw [hl]; exact ks
end
/-- The second loop: where the pieces go. -/
structure D2 (w W : World) (gz gb : Nat) (A6 : Option Addr) (c6 : Nat) (p : List KL) (A7 : Option Addr) (c7 : Nat) (l1 : List FL) (hs : List HV) (A8 : Option Addr) (c8 : Nat) (pc : List KL) (A10 : Option Addr) (c10 : Nat) (pl : List Int) : Prop where
 z : W.heap[gz]? = some (.cells #[.slice none 0 0, .slice none 0 0] 51 (0, 0))
 b : W.heap[gb]? = some (.cells #[.slice A6 p.length c6, .slice A7 l1.length c7] 51 (0, 0))
 k0 : KS W w.heap.size (fun k => True ∧ some k ≠ (Value.slice A8 pc.length c8).ownBlock) (.slice A6 p.length c6) p
 ks : KS W w.heap.size (fun _ => True) (.slice A8 pc.length c8) pc
 hr : HR W w.heap.size (fun _ => True) (.slice A7 l1.length c7) hs
 fm : Fam W w.heap.size (fun k => some k ≠ (Value.slice A10 pl.length c10).ownBlock) hs l1
 ir : IR W w.heap.size (fun _ => True) (.slice A10 pl.length c10) pl
 bl : Below w.heap.size w W
section
variable {w W W1 : World} {gz gb : Nat} {A6 : Option Addr} {c6 : Nat} {p : List KL} {A7 : Option Addr} {c7 : Nat} {l1 : List FL} {hs : List HV} {A8 : Option Addr} {c8 : Nat} {pc : List KL} {A10 : Option Addr} {c10 : Nat} {pl : List Int}
theorem D2.below (h : D2 w W gz gb A6 c6 p A7 c7 l1 hs A8 c8 pc A10 c10 pl) (hb : Below W.heap.size W W1) : D2 w W1 gz gb A6 c6 p A7 c7 l1 hs A8 c8 pc A10 c10 pl :=
 ⟨blk_below h.z hb, blk_below h.b hb, Kd.R_below h.k0 hb, Kd.R_below h.ks hb, Kd.R_below h.hr hb, h.fm.below hb, Kd.R_below h.ir hb, below_step h.bl hb⟩
/-- renamed[q] = y -/
theorem D2.ren (h : D2 w W gz gb A6 c6 p A7 c7 l1 hs A8 c8 pc A10 c10 pl) {q : Nat} (hq : q < pl.length) (y : Int) :
  ∃ g10 w6, A10 = some ⟨g10, 0, none⟩ ∧ W.cell? ⟨g10, q, none⟩ = some (.int .i64 (rd pl (q : Int))) ∧ W.frozen? ⟨g10, q, none⟩ = false ∧ W.setCell ⟨g10, q, none⟩ (.int .i64 y) = w6 ∧ W.grownBy w6 (some g10) ∧ (∃ cells, W.heap[g10]? = some (.cells cells 3 (0, 0))) ∧
   D2 w w6 gz gb A6 c6 p A7 c7 l1 hs A8 c8 pc A10 c10 (pl.set q y) := by
 obtain ⟨g10, cap, e6, _, _, hty⟩ := Kd.R_form h.ir (by omega)
 injection e6 with eA en ec
 subst eA
 obtain ⟨e1, e2, hg, hir⟩ := ir_put h.ir hq y
 have hl : (pl.set q y).length = pl.length := List.length_set
 have hbase : w.heap.size ≤ g10 := Kd.R_base h.ir g10 rfl
 have ty := Kd.R_typed h.ir
 have hg' : W.grownBy (W.setCell ⟨g10, q, none⟩ (.int .i64 y)) (Value.slice (some ⟨g10, 0, none⟩) pl.length c10).ownBlock := hg
 refine ⟨g10, _, rfl, e1, e2, rfl, hg, hty, blk_grown h.z hg (Kd.R_ne h.ir h.z (by decide)), blk_grown h.b hg (Kd.R_ne h.ir h.b (by decide)), Kd.R_over' h.k0 ty (by decide) hg', Kd.R_over' h.ks ty (by decide) hg', Kd.R_over' h.hr ty (by decide) hg', ?_, ?_, below_set h.bl hbase⟩
 ·rw [hl]; exact h.fm.grown hg' (fun k hk => hk)
 ·rw [hl]; exact hir
/-- A piece is put behind the new ones. -/
theorem D2.more {v4 : Value} {x : KL} (h : D2 w W gz gb A6 c6 p A7 c7 l1 hs A8 c8 pc A10 c10 pl) (ho : KS W1 w.heap.size (fun _ => True) v4 (pc ++ [x])) (hb : Below w.heap.size w W1) (hg : W.grownBy W1 (Value.slice A8 pc.length c8).ownBlock) (hat : v4.ownBlock = (Value.slice A8 pc.length c8).ownBlock ∨ ∃ b, v4.ownBlock = some b ∧ W.heap.size ≤ b) :
  ∃ A9 c9, v4 = .slice A9 (pc.length + 1) c9 ∧ D2 w W1 gz gb A6 c6 p A7 c7 l1 hs A9 c9 (pc ++ [x]) A10 c10 pl := by
 obtain ⟨A9, c9, rfl⟩ := Kd.R_slice ho
 have ty := Kd.R_typed h.ks
 have hl : (pc ++ [x]).length = pc.length + 1 := by simp
 refine ⟨A9, c9, by rw [hl], blk_grown h.z hg (Kd.R_ne h.ks h.z (by decide)), blk_grown h.b hg (Kd.R_ne h.ks h.b (by decide)), Kd.R_after (ok := fun _ => True) h.k0 hg hat, ho, Kd.R_over' h.hr ty (by decide) hg, h.fm.over ty (by decide) hg, Kd.R_over' h.ir ty (by decide) hg, hb⟩
/-- A box of the call's own is written. -/
theorem D2.box {g t : Nat} {cells : Array Value} (h : D2 w W gz gb A6 c6 p A7 c7 l1 hs A8 c8 pc A10 c10 pl) (hb : W.heap[g]? = some (.cells cells t (0, 0))) (ht : t = 51) (hge : w.heap.size ≤ g) (hz : gz ≠ g) (hb2 : gb ≠ g) (j : Nat) (u : Value) : D2 w (W.setCell ⟨g, j, none⟩ u) gz gb A6 c6 p A7 c7 l1 hs A8 c8 pc A10 c10 pl := by
 subst ht
 exact ⟨blk_far h.z hz _, blk_far h.b hb2 _, Kd.R_set h.k0 hb (by decide) j u, Kd.R_set h.ks hb (by decide) j u, Kd.R_set h.hr hb (by decide) j u, h.fm.set_ hb (by decide) j u, Kd.R_set h.ir hb (by decide) j u, below_set h.bl hge⟩
end
/-- The third loop: the files that stay. -/
structure D3 (w W : World) (gz : Nat) (hv : Value) (hs : List HV) (xs : List FL) (A8 : Option Addr) (c8 : Nat) (pc : List KL) (A10 : Option Addr) (c10 : Nat) (pl : List Int) : Prop where
 z : W.heap[gz]? = some (.cells #[.slice none 0 0, .slice none 0 0] 51 (0, 0))
 ks : KS W w.heap.size (fun _ => True) (.slice A8 pc.length c8) pc
 hr : HR W w.heap.size (fun _ => True) hv hs
 fm : Fam W w.heap.size (fun k => some k ≠ (Value.slice A10 pl.length c10).ownBlock) hs xs
 ir : IR W w.heap.size (fun _ => True) (.slice A10 pl.length c10) pl
 bl : Below w.heap.size w W
section
variable {w W W1 : World} {gz : Nat} {hv : Value} {hs : List HV} {xs : List FL} {A8 : Option Addr} {c8 : Nat} {pc : List KL} {A10 : Option Addr} {c10 : Nat} {pl : List Int}
theorem D3.below (h : D3 w W gz hv hs xs A8 c8 pc A10 c10 pl) (hb : Below W.heap.size W W1) : D3 w W1 gz hv hs xs A8 c8 pc A10 c10 pl :=
 ⟨blk_below h.z hb, Kd.R_below h.ks hb, Kd.R_below h.hr hb, h.fm.below hb, Kd.R_below h.ir hb, below_step h.bl hb⟩
/-- f.Parts[q] = y -/
theorem D3.put (h : D3 w W gz hv hs xs A8 c8 pc A10 c10 pl) {i q : Nat} {P : HV} {r : List Int} (hp : hs[i]? = some P) (hx : xs[i]? = some ⟨r⟩) (hq : q < r.length) (y : Int) :
  ∃ g c w6, P = (some ⟨g, 0, none⟩, r.length, c) ∧ W.cell? ⟨g, q, none⟩ = some (.int .i64 (rd r (q : Int))) ∧ W.frozen? ⟨g, q, none⟩ = false ∧ W.setCell ⟨g, q, none⟩ (.int .i64 y) = w6 ∧ W.grownBy w6 (some g) ∧ (∃ cells, W.heap[g]? = some (.cells cells 3 (0, 0))) ∧
   D3 w w6 gz hv hs (xs.set i ⟨r.set q y⟩) A8 c8 pc A10 c10 pl := by
 have hI := h.fm.at_ hp hx
 obtain ⟨g, c, e6, _, _, hty⟩ := Kd.R_form hI (by show 0 < r.length; omega)
 have hP : P = (some ⟨g, 0, none⟩, r.length, c) := by
  obtain ⟨P0, P1, P2⟩ := P
  injection e6 with e1 e2 e3
  have e1 : P0 = some ⟨g, 0, none⟩ := e1
  have e2 : P1 = r.length := e2
  have e3 : P2 = c := e3
  rw [e1, e2, e3]
 subst hP
 have hI' : IR W w.heap.size (fun k => some k ≠ (Value.slice A10 pl.length c10).ownBlock) (.slice (some ⟨g, 0, none⟩) r.length c) r := hI
 obtain ⟨e1, e2, hg, hir⟩ := ir_put hI' hq y
 have hbase : w.heap.size ≤ g := Kd.R_base hI' g rfl
 have ty := Kd.R_typed hI'
 have hne := hI'.1 g rfl
 have hg' : W.grownBy (W.setCell ⟨g, q, none⟩ (.int .i64 y)) (Value.slice (some ⟨g, 0, none⟩) r.length c).ownBlock := hg
 refine ⟨g, c, _, rfl, e1, e2, rfl, hg, hty, blk_grown h.z hg (Kd.R_ne hI' h.z (by decide)), Kd.R_over' h.ks ty (by decide) hg', Kd.R_over' h.hr ty (by decide) hg', h.fm.put hp hx hg' (Kd.R_mono hir (fun _ _ => trivial)), ?_, below_set h.bl hbase⟩
 exact Kd.R_grown1 h.ir rfl hg (fun e_ => hne e_)
/-- What a file's row says. -/
theorem D3.head (h : D3 w W gz hv hs xs A8 c8 pc A10 c10 pl) {i : Nat} (hi : i < xs.length) : ∃ P c, hs[i]? = some P ∧ encH P = .slice P.1 (xs[i]).f0.length c ∧ (xs[i]).f0.length ≤ c ∧ (Kd.int .i64).C W P.1 (xs[i]).f0.length (xs[i]).f0 := by
 have hh : i < hs.length := by rw [h.fm.len]; exact hi
 have hI := h.fm.at_ (List.getElem?_eq_getElem hh) (List.getElem?_eq_getElem hi)
 obtain ⟨A, c, e, hc, hC⟩ := Kd.R_reads hI
 injection e with e1 e2 e3
 refine ⟨hs[i], c, List.getElem?_eq_getElem hh, ?_, hc, ?_⟩
 ·show Value.slice _ _ _ = _
  rw [e2, e3]
 ·rw [e1]; exact hC
end
end Go.Proofs.Ytjepecinpgjgdaa.PVau
