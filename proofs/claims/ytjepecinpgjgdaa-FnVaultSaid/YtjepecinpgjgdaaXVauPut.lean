import Derived.Test.YtjepecinpgjgdaaXVauOwn
import Derived.Test.YtjepecinpgjgdaaXVauIdx
import Derived.Test.YtjepecinpgjgdaaYVaucutsI
import Derived.Test.YtjepecinpgjgdaaXVauSmall
/-! PutText of the program: walked by hand. -/
namespace Go.Proofs.Ytjepecinpgjgdaa.PVau
open Go.RowKit Go.Proofs.YtjepecinpgjgdaaW.PrintWords Go.Proofs.YtjepecinpgjgdaaW.PrintLast Go.Proofs.YtjepecinpgjgdaaW.PrintMore Go.Proofs.Ytjepecinpgjgdaa.E
set_option linter.unusedSimpArgs false
set_option linter.unusedVariables false
def putK (p : List KL) (t : ByteArray) : List KL × Int :=
 if idxK p t < 0 then (p ++ [⟨t, 1⟩], p.length)
 else (p.set (idxK p t).toNat ⟨(rd_T89 p (idxK p t)).f0, wrap64 ((rd_T89 p (idxK p t)).f1 + 1)⟩, idxK p t)
def putL : List ByteArray → List KL → List Int → List KL × List Int
 | [], p, o => (p, o)
 | t :: r, p, o => putL r (putK p t).1 (o ++ [(putK p t).2])
def impl_PutText.f (k : Nat) (l0_0 : List KL) (l0_1 : List FL) (s : ByteArray) : Option (List KL × List FL × Bool) :=
 (impl_PiecesOf.f k s).bind fun T => if T.2 = true then (if T.1.length ≤ 1000 then (if good l0_0 l0_1 = true then
  (if good (putL T.1 l0_0 []).1 (l0_1 ++ [⟨(putL T.1 l0_0 []).2⟩]) = true then some ((putL T.1 l0_0 []).1, l0_1 ++ [⟨(putL T.1 l0_0 []).2⟩], true) else some ([], [], false)) else some ([], [], false)) else none) else some ([], [], false)
theorem idxFrom_lt (t : ByteArray) : ∀ (l : List KL) (i : Nat), idxFrom t l i = -1 ∨ ((i : Int) ≤ idxFrom t l i ∧ idxFrom t l i < ((i + l.length : Nat) : Int))
 | [], i => .inl rfl
 | x :: l, i => by
  unfold idxFrom
  split
  ·right; simp only [List.length_cons]; omega
  ·rcases idxFrom_lt t l (i + 1) with h | h
   ·exact .inl h
   ·right; simp only [List.length_cons]; omega
theorem idxK_lt (l : List KL) (t : ByteArray) : idxK l t = -1 ∨ (0 ≤ idxK l t ∧ idxK l t < (l.length : Int)) := by
 rcases idxFrom_lt t l 0 with h | h
 ·exact .inl h
 ·right; unfold idxK; omega
theorem putK_len (p : List KL) (t : ByteArray) : (putK p t).1.length ≤ p.length + 1 := by
 unfold putK
 split
 ·simp
 ·simp
/-- What stands between the calls of PutText's loop. -/
structure PS (w W : World) (gz gb gf : Nat) (A6 : Option Addr) (c6 : Nat) (p : List KL) (A7 : Option Addr) (c7 : Nat) (l1 : List FL) (A8 : Option Addr) (c8 : Nat) (o : List Int) (A5 : Option Addr) (c5 : Nat) (T : List ByteArray) : Prop where
 z : W.heap[gz]? = some (.cells #[.slice none 0 0, .slice none 0 0] 51 (0, 0))
 b : W.heap[gb]? = some (.cells #[.slice A6 p.length c6, .slice A7 l1.length c7] 51 (0, 0))
 f : W.heap[gf]? = some (.cells #[.slice A8 o.length c8] 87 (0, 0))
 ks : KS W w.heap.size (fun _ => True) (.slice A6 p.length c6) p
 fs : FS W w.heap.size (fun k => k ≠ gf ∧ some k ≠ (Value.slice A8 o.length c8).ownBlock) (.slice A7 l1.length c7) l1
 is : IR W w.heap.size (fun _ => True) (.slice A8 o.length c8) o
 ts : Kd.R Kd.string 9 W w.heap.size (fun _ => True) (.slice A5 T.length c5) T
 bl : Below w.heap.size w W
structure PC (w : World) (gz gb gf : Nat) : Prop where
 z : w.heap.size ≤ gz
 b : w.heap.size ≤ gb
 f : w.heap.size ≤ gf
 zb : gz ≠ gb
section
variable {w W W1 : World} {gz gb gf : Nat} {A6 : Option Addr} {c6 : Nat} {p p' : List KL} {A7 : Option Addr} {c7 : Nat} {l1 : List FL} {A8 : Option Addr} {c8 : Nat} {o o' : List Int} {A5 : Option Addr} {c5 : Nat} {T : List ByteArray} {A9 : Option Addr} {c9 : Nat}
theorem PS.below (h : PS w W gz gb gf A6 c6 p A7 c7 l1 A8 c8 o A5 c5 T) (hb : Below W.heap.size W W1) : PS w W1 gz gb gf A6 c6 p A7 c7 l1 A8 c8 o A5 c5 T :=
 ⟨blk_below h.z hb, blk_below h.b hb, blk_below h.f hb, Kd.R_below h.ks hb, Kd.S_below h.fs hb, Kd.R_below h.is hb, Kd.R_below h.ts hb, below_step h.bl hb⟩
theorem PS.zf (h : PS w W gz gb gf A6 c6 p A7 c7 l1 A8 c8 o A5 c5 T) : gz ≠ gf := blk_ne h.z h.f (by decide)
theorem PS.bf (h : PS w W gz gb gf A6 c6 p A7 c7 l1 A8 c8 o A5 c5 T) : gb ≠ gf := blk_ne h.b h.f (by decide)
/-- out.Pieces = append(out.Pieces, ..) -/
theorem PS.grow (h : PS w W gz gb gf A6 c6 p A7 c7 l1 A8 c8 o A5 c5 T) (C : PC w gz gb gf) (hb : Below w.heap.size w W1) (hg : W.grownBy W1 (Value.slice A6 p.length c6).ownBlock) (ho : KS W1 w.heap.size (fun _ => True) (.slice A9 p'.length c9) p') :
  PS w (W1.setCell ⟨gb, 0, none⟩ (.slice A9 p'.length c9)) gz gb gf A9 c9 p' A7 c7 l1 A8 c8 o A5 c5 T := by
 have b1 := blk_grown h.b hg (Kd.R_ne h.ks h.b (by decide))
 have ty := Kd.R_typed h.ks
 exact ⟨blk_far (blk_grown h.z hg (Kd.R_ne h.ks h.z (by decide))) C.zb _, blk_put (cs := #[.slice A6 p.length c6, .slice A7 l1.length c7]) b1 0 _ rfl, blk_far (blk_grown h.f hg (Kd.R_ne h.ks h.f (by decide))) (Ne.symm h.bf) _,
  Kd.R_set ho b1 (by decide) 0 _, Kd.S_set (Kd.S_over' h.fs ty (by decide) hg) b1 (by decide) 0 _, Kd.R_set (Kd.R_over' h.is ty (by decide) hg) b1 (by decide) 0 _, Kd.R_set (Kd.R_over' h.ts ty (by decide) hg) b1 (by decide) 0 _, below_set hb C.b⟩
/-- out.Pieces[i].Uses = x -/
theorem PS.uses {g : Nat} (h : PS w W gz gb gf (some ⟨g, 0, none⟩) c6 p A7 c7 l1 A8 c8 o A5 c5 T) (i : Int) (h0 : 0 ≤ i) (h1 : i < (p.length : Int)) (x : Int) :
  PS w (W.setCell ⟨g, i.toNat * 2 + 1, none⟩ (.int .i64 x)) gz gb gf (some ⟨g, 0, none⟩) c6 (p.set i.toNat ⟨(rd_T89 p i).f0, x⟩) A7 c7 l1 A8 c8 o A5 c5 T := by
 have hg : W.grownBy (W.setCell ⟨g, i.toNat * 2 + 1, none⟩ (.int .i64 x)) (Value.slice (some ⟨g, 0, none⟩) p.length c6).ownBlock := grown_cell W g _ _
 have ty := Kd.R_typed h.ks
 have hl : (p.set i.toNat ⟨(rd_T89 p i).f0, x⟩).length = p.length := List.length_set
 have hbase : w.heap.size ≤ g := Kd.R_base h.ks g rfl
 have ks := ks_put1 h.ks i h0 h1 x
 refine ⟨blk_grown h.z hg (Kd.R_ne h.ks h.z (by decide)), ?_, blk_grown h.f hg (Kd.R_ne h.ks h.f (by decide)), ?_, Kd.S_over' h.fs ty (by decide) hg, Kd.R_over' h.is ty (by decide) hg, Kd.R_over' h.ts ty (by decide) hg, below_set h.bl hbase⟩
 ·rw [hl]; exact blk_grown h.b hg (Kd.R_ne h.ks h.b (by decide))
 ·rw [hl]; exact ks
/-- f.Parts = append(f.Parts, ..) -/
theorem PS.part (h : PS w W gz gb gf A6 c6 p A7 c7 l1 A8 c8 o A5 c5 T) (C : PC w gz gb gf) (hb : Below w.heap.size w W1) (hg : W.grownBy W1 (Value.slice A8 o.length c8).ownBlock) (hat : (Value.slice A9 o'.length c9).ownBlock = (Value.slice A8 o.length c8).ownBlock ∨ ∃ b, (Value.slice A9 o'.length c9).ownBlock = some b ∧ W.heap.size ≤ b) (ho : IR W1 w.heap.size (fun _ => True) (.slice A9 o'.length c9) o') :
  PS w (W1.setCell ⟨gf, 0, none⟩ (.slice A9 o'.length c9)) gz gb gf A6 c6 p A7 c7 l1 A9 c9 o' A5 c5 T := by
 have f1 := blk_grown h.f hg (Kd.R_ne h.is h.f (by decide))
 have ty := Kd.R_typed h.is
 exact ⟨blk_far (blk_grown h.z hg (Kd.R_ne h.is h.z (by decide))) h.zf _, blk_far (blk_grown h.b hg (Kd.R_ne h.is h.b (by decide))) h.bf _, blk_put (cs := #[.slice A8 o.length c8]) f1 0 _ rfl,
  Kd.R_set (Kd.R_over' h.ks ty (by decide) hg) f1 (by decide) 0 _, Kd.S_far (p := ⟨gf, 0, none⟩) (Kd.S_after (ok := fun k => k ≠ gf) h.fs hg hat) (fun _ hk => hk.1) _, Kd.R_set ho f1 (by decide) 0 _, Kd.R_set (Kd.R_over' h.ts ty (by decide) hg) f1 (by decide) 0 _, below_set hb C.f⟩
/-- A piece that is new. -/
theorem put_new {v4 : Value} {x : ByteArray} (h : PS w W gz gb gf A6 c6 p A7 c7 l1 A8 c8 o A5 c5 T) (C : PC w gz gb gf) (ho : KS W1 w.heap.size (fun _ => True) v4 (p ++ [⟨x, 0⟩])) (hb : Below w.heap.size w W1) (hg : W.grownBy W1 (Value.slice A6 p.length c6).ownBlock) :
  ∃ g4 c4 w5 w6, v4 = .slice (some ⟨g4, 0, none⟩) (p.length + 1) c4 ∧ W1.cell? ⟨gb, 0, none⟩ = some (.slice A6 p.length c6) ∧ W1.frozen? ⟨gb, 0, none⟩ = false ∧ W1.setCell ⟨gb, 0, none⟩ (.slice (some ⟨g4, 0, none⟩) (p.length + 1) c4) = w5 ∧ w5.cell? ⟨gb, 0, none⟩ = some (.slice (some ⟨g4, 0, none⟩) (p.length + 1) c4) ∧
   w5.cell? ⟨g4, p.length * 2 + 1, none⟩ = some (.int .i64 0) ∧ w5.frozen? ⟨g4, p.length * 2 + 1, none⟩ = false ∧ w5.setCell ⟨g4, p.length * 2 + 1, none⟩ (.int .i64 1) = w6 ∧ w6.cell? ⟨gf, 0, none⟩ = some (.slice A8 o.length c8) ∧ PS w w6 gz gb gf (some ⟨g4, 0, none⟩) c4 (p ++ [⟨x, 1⟩]) A7 c7 l1 A8 c8 o A5 c5 T := by
 obtain ⟨g4, c4, rfl, _⟩ := Kd.R_form ho (by simp)
 have b1 := blk_grown h.b hg (Kd.R_ne h.ks h.b (by decide))
 have P5 := h.grow C hb hg ho
 have hl : (p ++ [(⟨x, 0⟩ : KL)]).length = p.length + 1 := by simp
 have hr : rd_T89 (p ++ [(⟨x, 0⟩ : KL)]) (p.length : Int) = ⟨x, 0⟩ := by
  rw [rd_nat (by simp)]; simp
 obtain ⟨_, e1, e2⟩ := ks_elem P5.ks (p.length : Int) (by omega) (by rw [hl]; omega)
 have P6 := P5.uses (p.length : Int) (by omega) (by rw [hl]; omega) 1
 rw [hr] at e1 P6
 simp only [Int.toNat_natCast] at e1 e2 P6
 have hs : (p ++ [(⟨x, 0⟩ : KL)]).set p.length ⟨x, 1⟩ = p ++ [⟨x, 1⟩] := by
  rw [List.set_append_right _ _ (Nat.le_refl _)]; simp
 rw [hs] at P6
 have c5 := (blk_cell P5.b 0).trans rfl
 have c6 := (blk_cell P6.f 0).trans rfl
 rw [hl] at e1 e2 P6 c5 c6 ⊢
 exact ⟨g4, c4, _, _, rfl, (blk_cell b1 0).trans rfl, blk_frozen b1 0, rfl, c5, e1, e2 1, rfl, c6, P6⟩
/-- A piece that stands already. -/
theorem put_old (h : PS w W gz gb gf A6 c6 p A7 c7 l1 A8 c8 o A5 c5 T) (i : Int) (h0 : 0 ≤ i) (h1 : i < (p.length : Int)) :
  ∃ g6 w6, A6 = some ⟨g6, 0, none⟩ ∧ W.cell? ⟨g6, i.toNat * 2 + 1, none⟩ = some (.int .i64 (rd_T89 p i).f1) ∧ W.frozen? ⟨g6, i.toNat * 2 + 1, none⟩ = false ∧ W.setCell ⟨g6, i.toNat * 2 + 1, none⟩ (.int .i64 (wrap64 ((rd_T89 p i).f1 + 1))) = w6 ∧ w6.cell? ⟨gf, 0, none⟩ = some (.slice A8 o.length c8) ∧
   PS w w6 gz gb gf A6 c6 (p.set i.toNat ⟨(rd_T89 p i).f0, wrap64 ((rd_T89 p i).f1 + 1)⟩) A7 c7 l1 A8 c8 o A5 c5 T := by
 obtain ⟨g6, cap6, e6, _⟩ := Kd.R_form h.ks (by omega)
 injection e6 with eA en ec
 subst eA
 obtain ⟨_, e1, e2⟩ := ks_elem h.ks i h0 (by omega)
 have P6 := h.uses i h0 h1 (wrap64 ((rd_T89 p i).f1 + 1))
 exact ⟨g6, _, rfl, e1, e2 1, rfl, (blk_cell P6.f 0).trans rfl, P6⟩
/-- The piece's place is put behind the file's parts. -/
theorem put_part {v7 : Value} {k : Int} (h : PS w W gz gb gf A6 c6 p A7 c7 l1 A8 c8 o A5 c5 T) (C : PC w gz gb gf) (ho : IR W1 w.heap.size (fun _ => True) v7 (o ++ [k])) (hb : Below w.heap.size w W1) (hg : W.grownBy W1 (Value.slice A8 o.length c8).ownBlock) (hat : v7.ownBlock = (Value.slice A8 o.length c8).ownBlock ∨ ∃ b, v7.ownBlock = some b ∧ W.heap.size ≤ b) :
  ∃ A9 c9 w8, v7 = .slice A9 (o.length + 1) c9 ∧ W1.cell? ⟨gf, 0, none⟩ = some (.slice A8 o.length c8) ∧ W1.frozen? ⟨gf, 0, none⟩ = false ∧ W1.setCell ⟨gf, 0, none⟩ (.slice A9 (o.length + 1) c9) = w8 ∧ PS w w8 gz gb gf A6 c6 p A7 c7 l1 A9 c9 (o ++ [k]) A5 c5 T := by
 obtain ⟨A9, c9, rfl⟩ := Kd.R_slice ho
 have f1 := blk_grown h.f hg (Kd.R_ne h.is h.f (by decide))
 have P8 := h.part C hb hg hat ho
 have hl : (o ++ [k]).length = o.length + 1 := by simp
 rw [hl] at P8 ⊢
 exact ⟨A9, c9, _, rfl, (blk_cell f1 0).trans rfl, blk_frozen f1 0, rfl, P8⟩
end
/-- What stands behind the last append. -/
structure PF (w W : World) (gz gb : Nat) (A6 : Option Addr) (c6 : Nat) (p : List KL) (A7 : Option Addr) (c7 : Nat) (l1 : List FL) : Prop where
 z : W.heap[gz]? = some (.cells #[.slice none 0 0, .slice none 0 0] 51 (0, 0))
 b : W.heap[gb]? = some (.cells #[.slice A6 p.length c6, .slice A7 l1.length c7] 51 (0, 0))
 ks : KS W w.heap.size (fun _ => True) (.slice A6 p.length c6) p
 fs : FS W w.heap.size (fun _ => True) (.slice A7 l1.length c7) l1
 bl : Below w.heap.size w W
theorem PF.below {w W W1 : World} {gz gb : Nat} {A6 : Option Addr} {c6 : Nat} {p : List KL} {A7 : Option Addr} {c7 : Nat} {l1 : List FL} (h : PF w W gz gb A6 c6 p A7 c7 l1) (hb : Below W.heap.size W W1) : PF w W1 gz gb A6 c6 p A7 c7 l1 :=
 ⟨blk_below h.z hb, blk_below h.b hb, Kd.R_below h.ks hb, Kd.S_below h.fs hb, below_step h.bl hb⟩
theorem put_file {w W W1 : World} {gz gb gf : Nat} {A6 : Option Addr} {c6 : Nat} {p : List KL} {A7 : Option Addr} {c7 : Nat} {l1 l2 : List FL} {A8 : Option Addr} {c8 : Nat} {o : List Int} {A5 : Option Addr} {c5 : Nat} {T : List ByteArray} {v9 : Value} (h : PS w W gz gb gf A6 c6 p A7 c7 l1 A8 c8 o A5 c5 T) (C : PC w gz gb gf) (ho : FS W1 w.heap.size (fun k => k ≠ gf) v9 l2) (hb : Below w.heap.size w W1) (hg : W.grownBy W1 (Value.slice A7 l1.length c7).ownBlock) :
  ∃ A9 c9 w10, v9 = .slice A9 l2.length c9 ∧ W1.cell? ⟨gb, 1, none⟩ = some (.slice A7 l1.length c7) ∧ W1.frozen? ⟨gb, 1, none⟩ = false ∧ W1.setCell ⟨gb, 1, none⟩ (.slice A9 l2.length c9) = w10 ∧ w10.cell? ⟨gb, 0, none⟩ = some (.slice A6 p.length c6) ∧ w10.cell? ⟨gb, 1, none⟩ = some (.slice A9 l2.length c9) ∧ PF w w10 gz gb A6 c6 p A9 c9 l2 := by
 obtain ⟨A9, c9, rfl⟩ := Kd.S_slice ho
 have ty := Kd.R_typed (Kd.S_R h.fs)
 have b1 := blk_grown h.b hg (Kd.S_ne h.fs h.b (by decide))
 have b2 : (W1.setCell ⟨gb, 1, none⟩ (.slice A9 l2.length c9)).heap[gb]? = some (.cells #[.slice A6 p.length c6, .slice A9 l2.length c9] 51 (0, 0)) := blk_put (cs := #[.slice A6 p.length c6, .slice A7 l1.length c7]) b1 1 _ rfl
 exact ⟨A9, c9, _, rfl, (blk_cell b1 1).trans rfl, blk_frozen b1 1, rfl, (blk_cell b2 0).trans rfl, (blk_cell b2 1).trans rfl,
  blk_far (blk_grown h.z hg (Kd.S_ne h.fs h.z (by decide))) C.zb _, b2, Kd.R_set (Kd.R_over' h.ks ty (by decide) hg) b1 (by decide) 1 _, Kd.S_set (Kd.S_mono ho (fun _ _ => trivial)) b1 (by decide) 1 _, below_set hb C.b⟩
set_option maxHeartbeats 8000000 in
set_option maxRecDepth 100000 in
theorem impl_PutText.calls (k_ : Nat) (A0_0 : Option Addr) (c0_0 : Nat) (l0_0 : List KL) (A0_1 : Option Addr) (c0_1 : Nat) (l0_1 : List FL) (a1 : ByteArray) (r1 : List KL) (r2 : List FL) (r3 : Bool) (w : World) (hr0_0 : Kd.C k89 w A0_0 l0_0.length l0_0) (hc0_0 : l0_0.length ≤ c0_0) (hr0_1 : Kd.C k87 w A0_1 l0_1.length l0_1) (hc0_1 : l0_1.length ≤ c0_1) (h : impl_PutText.f k_ l0_0 l0_1 a1 = some (r1, r2, r3)) :
  Calls Try.prog 51 #[.agg #[.slice A0_0 l0_0.length c0_0, .slice A0_1 l0_1.length c0_1], .string a1] w fun e w' => ∃ v0_ v1_ : Value, e = .returned (.tuple #[.agg #[v0_, v1_], .bool r3]) ∧ Kd.R k89 89 w' w.heap.size (fun _ => True) v0_ r1 ∧ Kd.S k87 87 w' w.heap.size (fun _ => True) v1_ r2 ∧ Below w.heap.size w w' := by
 have huV := Try.underlying51
 have huF := Try.underlying87
 have huK := Try.underlying89
 have huFS := Try.underlying49
 have huKS := Try.underlying48
 obtain ⟨⟨T, ok⟩, hT, h⟩ := Option.bind_eq_some_iff.1 h
 have HR0 := Aside0.mk hr0_0
 have HR1 := Aside0.mk hr0_1
 have HC0 := Aside0.mk hc0_0
 have HC1 := Aside0.mk hc0_1
 have HT := Aside0.mk hT
 clear hr0_0 hr0_1 hc0_0 hc0_1 hT
 obtain ⟨W1, hW1⟩ : ∃ W, w.alloc (.cells #[.slice A0_0 l0_0.length c0_0, .slice A0_1 l0_1.length c0_1] 51) = W := ⟨_, rfl⟩
 obtain ⟨W2, hW2⟩ : ∃ W, W1.alloc (.cells #[.slice none 0 0, .slice none 0 0] 51) = W := ⟨_, rfl⟩
 have hb1 : Below w.heap.size w W1 := by rw [← hW1]; exact below_alloc (Below.refl _ _) _
 have hb2 : Below W1.heap.size W1 W2 := by rw [← hW2]; exact below_alloc (Below.refl _ _) _
 have X1 : W1.heap[w.heap.size]? = some (.cells #[.slice A0_0 l0_0.length c0_0, .slice A0_1 l0_1.length c0_1] 51 (0, 0)) := by rw [← hW1]; exact heap_alloc_new w _
 have Z1 : W2.heap[W1.heap.size]? = some (.cells #[.slice none 0 0, .slice none 0 0] 51 (0, 0)) := by rw [← hW2]; exact heap_alloc_new W1 _
 have B2 := Aside0.mk (below_step hb1 hb2)
 have X2 := Aside0.mk (blk_below X1 hb2)
 have Z2 := Aside0.mk Z1
 have ZG := Aside0.mk (show w.heap.size ≤ W1.heap.size from hb1.size)
 have ZN := Aside0.mk (show w.heap.size ≠ W1.heap.size by have := blk_lt X1; omega)
 clear hb1 hb2 X1 Z1
 have TT := Aside0.mk (impl_PiecesOf.calls k_ a1 T ok W2 HT.out)
 have HH := Aside0.mk h
 clear h HT
 go_enter Try.func51, Try.ntmps51
 go_wp2_with (go_at_call 25; refine TT.out.mono ?_)
 (first | rintro e w3 v5 rfl hr hb | rintro e w3 ⟨v5, rfl, hr, hb⟩)
 obtain ⟨A5, c5, rfl⟩ := Kd.R_slice hr
 clear TT hW1
 generalize hgz : W1.heap.size = gz at *
 clear hgz hW2
 have B3 := Aside0.mk (below_step B2.out hb)
 have X3 := Aside0.mk (blk_below X2.out hb)
 have Z3 := Aside0.mk (blk_below Z2.out hb)
 have T3 := Aside0.mk (Kd.R_lower hr B2.out.size)
 clear hr hb B2 X2 Z2
 have d0 : w3.cell? ⟨w.heap.size, 0, none⟩ = some (.slice A0_0 l0_0.length c0_0) := (blk_cell X3.out 0).trans rfl
 have d1 : w3.cell? ⟨w.heap.size, 1, none⟩ = some (.slice A0_1 l0_1.length c0_1) := (blk_cell X3.out 1).trans rfl
 have z0 : w3.cell? ⟨gz, 0, none⟩ = some (.slice none 0 0) := (blk_cell Z3.out 0).trans rfl
 have z1 : w3.cell? ⟨gz, 1, none⟩ = some (.slice none 0 0) := (blk_cell Z3.out 1).trans rfl
 have y0 := blk_frozen Z3.out 0
 have y1 := blk_frozen Z3.out 1
 cases ok with
 | false =>
  have h : some (([] : List KL), ([] : List FL), false) = some (r1, r2, r3) := HH.out
  simp only [Option.some.injEq, Prod.mk.injEq] at h
  obtain ⟨rfl, rfl, rfl⟩ := h
  go_wp2
  refine bodyPost_ret (results_ct rfl _ _ gz 51 #[.slice none 0 0, .slice none 0 0] (0, 0) _ rfl (put2 Z3.out _ _) Try.underlying51 rfl (by kernel_rfl)) rfl ?_
  exact ⟨_, _, rfl, Kd.R_nil _ _ _ _ _, Kd.S_nil _ _ _ _ _, below_set (below_set B3.out ZG.out) ZG.out⟩
 | true =>
  have h : (if T.length ≤ 1000 then (if good l0_0 l0_1 = true then (if good (putL T l0_0 []).1 (l0_1 ++ [⟨(putL T l0_0 []).2⟩]) = true then some ((putL T l0_0 []).1, l0_1 ++ [⟨(putL T l0_0 []).2⟩], true) else some ([], [], false)) else some ([], [], false)) else none) = some (r1, r2, r3) := HH.out
  clear HH
  by_cases hT : T.length ≤ 1000
  ·rw [if_pos hT] at h
   have TT := Aside0.mk (fun r hr => impl_GoodVault.calls A0_0 c0_0 l0_0 A0_1 c0_1 l0_1 r w3 (Kd.C_below HR0.out B3.out) HC0.out (Kd.C_below HR1.out B3.out) HC1.out hr)
   have HTL := Aside0.mk hT
   have hTl : T.length ≤ 9223372036854775807 := by omega
   clear hT
   cases hG : good l0_0 l0_1 with
   | false =>
    rw [hG, if_neg (by decide)] at h
    simp only [Option.some.injEq, Prod.mk.injEq] at h
    obtain ⟨rfl, rfl, rfl⟩ := h
    have TG := Aside0.mk (TT.out false (by unfold impl_GoodVault.f; rw [hG]))
    clear hG TT
    go_wp2_with (go_at_call 36; refine TG.out.mono ?_; (first | rintro e w4 rfl hb | rintro e w4 ⟨rfl, hb⟩); have Z4 := Aside0.mk (blk_below Z3.out hb); have B4 := Aside0.mk (below_step B3.out hb); clear hb d0 d1 z0 z1 y0 y1; have z0 : w4.cell? ⟨gz, 0, none⟩ = some (.slice none 0 0) := (blk_cell Z4.out 0).trans rfl; have z1 : w4.cell? ⟨gz, 1, none⟩ = some (.slice none 0 0) := (blk_cell Z4.out 1).trans rfl; have y0 := blk_frozen Z4.out 0; have y1 := blk_frozen Z4.out 1)
    refine bodyPost_ret (results_ct rfl _ _ gz 51 #[.slice none 0 0, .slice none 0 0] (0, 0) _ rfl (put2 Z4.out _ _) Try.underlying51 rfl (by kernel_rfl)) rfl ?_
    exact ⟨_, _, rfl, Kd.R_nil _ _ _ _ _, Kd.S_nil _ _ _ _ _, below_set (below_set B4.out ZG.out) ZG.out⟩
   | true =>
    rw [hG, if_pos rfl] at h
    have HS := Aside0.mk (good_small hG)
    have TG := Aside0.mk (TT.out true (by unfold impl_GoodVault.f; rw [hG]))
    have HH := Aside0.mk h
    clear hG TT h
    go_wp2_with (first
     | (go_at_call 36; refine TG.out.mono ?_; (first | rintro e w4 rfl hb | rintro e w4 ⟨rfl, hb⟩); have Z4 := Aside0.mk (blk_below Z3.out hb); have X4 := Aside0.mk (blk_below X3.out hb); have B4 := Aside0.mk (below_step B3.out hb); have T4 := Aside0.mk (Kd.R_below T3.out hb); clear hb d0 d1 z0 z1 y0 y1 B3 X3 Z3 T3; have d0 : w4.cell? ⟨w.heap.size, 0, none⟩ = some (.slice A0_0 l0_0.length c0_0) := (blk_cell X4.out 0).trans rfl; have d1 : w4.cell? ⟨w.heap.size, 1, none⟩ = some (.slice A0_1 l0_1.length c0_1) := (blk_cell X4.out 1).trans rfl)
     | (go_at_call 76; refine (ownVault_calls A0_0 c0_0 l0_0 A0_1 c0_1 l0_1 w4 (Kd.C_below HR0.out B4.out) HC0.out (Kd.C_below HR1.out B4.out) HC1.out (by have := HS.out.1; omega) (by have := HS.out.2.1; omega) (fun x hx => by have := HS.out.2.2 x hx; omega)).mono ?_))
    (first | rintro e w5 v6 v7 rfl hr0 hr1 hb | rintro e w5 ⟨v6, v7, rfl, hr0, hr1, hb⟩)
    clear TG d0 d1
    have Z5 := Aside0.mk (blk_below Z4.out hb)
    have B5 := Aside0.mk (below_step B4.out hb)
    have T5 := Aside0.mk (Kd.R_below T4.out hb)
    obtain ⟨A6, c6, rfl⟩ := Kd.R_slice hr0
    obtain ⟨A7, c7, rfl⟩ := Kd.S_slice hr1
    have K5 := Aside0.mk (Kd.R_lower hr0 B4.out.size)
    have F5 := Aside0.mk (Kd.S_lower hr1 B4.out.size)
    clear hr0 hr1 hb Z4 X4 B4 T4
    obtain ⟨W6, hW6⟩ : ∃ W, w5.alloc (.cells #[.slice A6 l0_0.length c6, .slice A7 l0_1.length c7] 51) = W := ⟨_, rfl⟩
    obtain ⟨W7, hW7⟩ : ∃ W, W6.alloc (.cells #[.slice none 0 0] 87) = W := ⟨_, rfl⟩
    have hb6 : Below w5.heap.size w5 W6 := by rw [← hW6]; exact below_alloc (Below.refl _ _) _
    have hb7 : Below W6.heap.size W6 W7 := by rw [← hW7]; exact below_alloc (Below.refl _ _) _
    have G6 : W6.heap[w5.heap.size]? = some (.cells #[.slice A6 l0_0.length c6, .slice A7 l0_1.length c7] 51 (0, 0)) := by rw [← hW6]; exact heap_alloc_new w5 _
    have G7 : W7.heap[W6.heap.size]? = some (.cells #[.slice none 0 0] 87 (0, 0)) := by rw [← hW7]; exact heap_alloc_new W6 _
    have hbb := below_step hb6 hb7
    have P7 := Aside0.mk (show PS w W7 gz w5.heap.size W6.heap.size A6 c6 l0_0 A7 c7 l0_1 none 0 [] A5 c5 T from
     ⟨blk_below Z5.out hbb, blk_below G6 hb7, G7, Kd.R_below K5.out hbb, Kd.S_mono (Kd.S_below (Kd.S_bound F5.out) hbb) (fun k hk => ⟨by have := hk.2.2.1; have := hb6.size; omega, by simp [Value.ownBlock]⟩), Kd.R_nil _ _ _ _ _, Kd.R_below T5.out hbb, below_step B5.out hbb⟩)
    have CC := Aside0.mk (show PC w gz w5.heap.size W6.heap.size from ⟨ZG.out, B5.out.size, Nat.le_trans B5.out.size hb6.size, by have := blk_lt Z5.out; omega⟩)
    have d2 : W7.cell? ⟨W6.heap.size, 0, none⟩ = some (.slice none 0 0) := (blk_cell G7 0).trans rfl
    have d3 : W7.frozen? ⟨W6.heap.size, 0, none⟩ = false := blk_frozen G7 0
    have d4 : W7.setCell ⟨W6.heap.size, 0, none⟩ (.slice none 0 0) = W7 := by rw [← hW7, World.setCell_alloc_new]; rfl
    clear hb6 hb7 G6 G7 hbb Z5 B5 T5 K5 F5 ZG ZN
    go_wp2
    clear d2 d3 d4 hW6 hW7
    generalize hgf : W6.heap.size = gf at *
    clear hgf
    generalize hgb : w5.heap.size = gb at *
    clear hgb
    go_loopw [31] (fun vi wr => ∃ (q : Nat) (A6 : Option Addr) (c6 : Nat) (p : List KL) (A8 : Option Addr) (c8 : Nat) (o : List Int), q ≤ T.length ∧ vi = .int .i64 q ∧ Aside0 (PS w wr gz gb gf A6 c6 p A7 c7 l0_1 A8 c8 o A5 c5 T) ∧ Aside0 (putL (T.drop q) p o = putL T l0_0 []) ∧ Aside0 (p.length ≤ 100 + q ∧ o.length = q)) (fun vi _ => T.length - (intOf vi).toNat)
    case atStart => exact ⟨0, A6, c6, l0_0, none, 0, [], Nat.zero_le _, rfl, P7, ⟨rfl⟩, ⟨⟨by have := HS.out.1; omega, rfl⟩⟩⟩
    case round =>
     clear P7
     obtain ⟨q, A6, c6, p, A8, c8, o, hq, rfl, P, HP, HL⟩ := hrel
     by_cases hql : q < T.length
     ·have hqq : ((q : Int) < (T.length : Int)) = True := eq_true (by omega)
      obtain ⟨ad, e5, x0⟩ := Kd.at_string (Kd.R_reads' P.out.ts).2.2 (q : Int) (by omega) (by omega)
      subst e5
      obtain ⟨x, hx⟩ : ∃ x, rdOf ByteArray.empty T (q : Int) = x := ⟨_, rfl⟩
      rw [hx] at x0
      simp only [Int.toNat_natCast] at x0
      have HX := Aside0.mk (show putL (T.drop (q + 1)) (putK p x).1 (o ++ [(putK p x).2]) = putL T l0_0 [] by
       have h1 := HP.out
       rw [List.drop_eq_getElem_cons hql] at h1
       have h2 : T[q] = x := by rw [← hx]; unfold rdOf; rw [Int.toNat_natCast, List.getD_eq_getElem?_getD, List.getElem?_eq_getElem hql]; rfl
       rw [h2] at h1
       exact h1)
      obtain ⟨V, hV⟩ : ∃ V, wr.alloc (.cells #[.string x] 9) = V := ⟨_, rfl⟩
      have hb : Below wr.heap.size wr V := by rw [← hV]; exact below_alloc (Below.refl _ _) _
      have GT := Aside0.mk (show V.heap[wr.heap.size]? = some (.cells #[.string x] 9 (0, 0)) by rw [← hV]; exact heap_alloc_new wr _)
      have PV := Aside0.mk (P.out.below hb)
      have b0 : V.cell? ⟨gb, 0, none⟩ = some (.slice A6 p.length c6) := (blk_cell PV.out.b 0).trans rfl
      have TT := Aside0.mk (slices_IndexFunc_K.calls A6 c6 p x wr.heap.size V (Kd.R_reads' PV.out.ks).2.2 (Kd.R_reads' PV.out.ks).2.1 (by have := HL.out.1; have := HTL.out; omega) GT.out)
      have HQ := Aside0.mk hql
      have hpl : p.length ≤ 9223372036854775807 := by have := HL.out.1; have := HTL.out; omega
      clear hb hx
      rcases idxK_lt p x with hk | ⟨hk0, hk1⟩
      ·have hpk := Aside0.mk (show putK p x = (p ++ [⟨x, 1⟩], (p.length : Int)) by unfold putK; rw [hk]; rfl)
       rw [hk] at TT
       clear hk
       have qq : ((p.length : Int) < ((p.length + 1 : Nat) : Int)) = True := eq_true (by omega)
       go_wp2_with (first
        | (go_at_call 81; refine TT.out.mono ?_; (first | rintro e w3 rfl hb | rintro e w3 ⟨rfl, hb⟩); have P3 := Aside0.mk (PV.out.below hb); have G3 := Aside0.mk (blk_below GT.out hb); clear hb b0; have b0 : w3.cell? ⟨gb, 0, none⟩ = some (.slice A6 p.length c6) := (blk_cell P3.out.b 0).trans rfl; have t0 : w3.cell? ⟨wr.heap.size, 0, none⟩ = some (.string x) := (blk_cell G3.out 0).trans rfl)
        | ((with_reducible refine gate_builtin (b := .append) (xs := #[.tmp 45, .tmp 48]) rfl ?_); at_builtin; refine Kd.R_append k89 (w0 := w) (W := w3) w.heap.size rfl (.tmp 45) (.tmp 48) 48 89 (.agg #[(.string ⟨#[]⟩), (.int .i64 0)]) 24 rfl Try.underlying48 info89 rfl (by decide) (by omega) (.slice A6 p.length c6) p (⟨x, 0⟩ : KL) [.string x, .int .i64 0] (fun _ => True) (fun _ => False) rfl rfl ?aP (fun _ h_ => h_.elim) (fun _ _ => trivial) P3.out.ks P3.out.bl P3.out.bl.size (by have := HL.out.1; have := HTL.out; omega) ?_; (case aP => exact kl_M.2 rfl); intro v4 w4 ho hb hg hat; obtain ⟨g4, c4, w5, w6, rfl, m0, m1, m2, m3, m4, m5, m6, m7, P6⟩ := put_new P3.out CC.out ho hb hg; clear ho hb hg hat b0 t0; have P6 := Aside0.mk P6)
        | ((with_reducible refine gate_builtin (b := .append) (xs := #[.tmp 61, .tmp 63]) rfl ?_); at_builtin; refine Kd.R_append (Kd.int .i64) (w0 := w) (W := w6) w.heap.size rfl (.tmp 61) (.tmp 63) 22 3 (.int .i64 0) 8 rfl Try.underlying22 info3 rfl (by decide) (by omega) (.slice A8 o.length c8) o (p.length : Int) [.int .i64 (p.length : Int)] (fun _ => True) (fun _ => False) rfl rfl ?aP (fun _ h_ => h_.elim) (fun _ _ => trivial) P6.out.is P6.out.bl P6.out.bl.size (by have := HL.out.2; have := HTL.out; have := HQ.out; omega) ?_; (case aP => rfl); intro v7 w7 ho hb hg hat; obtain ⟨A9, c9, w8, rfl, n0, n1, n2, P8⟩ := put_part P6.out CC.out ho hb hg hat; clear ho hb hg hat m0 m1 m2 m3 m4 m5 m6 m7; have P8 := Aside0.mk P8))
       go_roundw
       case rel => exact ⟨q + 1, some ⟨g4, 0, none⟩, c4, p ++ [⟨x, 1⟩], A9, c9, o ++ [(p.length : Int)], HQ.out, by go_num, P8, ⟨by have h1 := HX.out; rw [hpk.out] at h1; exact h1⟩, ⟨⟨by have := HL.out.1; simp; omega, by have := HL.out.2; simp; omega⟩⟩⟩
       case measure => simp [intOf]; omega
      ·have hpk := Aside0.mk (show putK p x = (p.set (idxK p x).toNat ⟨(rd_T89 p (idxK p x)).f0, wrap64 ((rd_T89 p (idxK p x)).f1 + 1)⟩, idxK p x) by unfold putK; rw [if_neg (by omega)])
       generalize hki : idxK p x = ki at *
       clear hki
       have q0 : (ki < 0) = False := eq_false (by omega)
       have q1 : (0 ≤ ki) = True := eq_true hk0
       have q2 : (ki < (p.length : Int)) = True := eq_true hk1
       have HK0 := Aside0.mk hk0
       have HK1 := Aside0.mk hk1
       clear hk0 hk1
       go_wp2_with (first
        | (go_at_call 81; refine TT.out.mono ?_; (first | rintro e w3 rfl hb | rintro e w3 ⟨rfl, hb⟩); have P3 := Aside0.mk (PV.out.below hb); clear hb b0; have b0 : w3.cell? ⟨gb, 0, none⟩ = some (.slice A6 p.length c6) := (blk_cell P3.out.b 0).trans rfl; obtain ⟨g6, w6, rfl, m1, m2, m3, m4, P6⟩ := put_old P3.out ki HK0.out HK1.out; have P6 := Aside0.mk P6)
        | ((with_reducible refine gate_builtin (b := .append) (xs := #[.tmp 61, .tmp 63]) rfl ?_); at_builtin; refine Kd.R_append (Kd.int .i64) (w0 := w) (W := w6) w.heap.size rfl (.tmp 61) (.tmp 63) 22 3 (.int .i64 0) 8 rfl Try.underlying22 info3 rfl (by decide) (by omega) (.slice A8 o.length c8) o ki [.int .i64 ki] (fun _ => True) (fun _ => False) rfl rfl ?aP (fun _ h_ => h_.elim) (fun _ _ => trivial) P6.out.is P6.out.bl P6.out.bl.size (by have := HL.out.2; have := HTL.out; have := HQ.out; omega) ?_; (case aP => rfl); intro v7 w7 ho hb hg hat; obtain ⟨A9, c9, w8, rfl, n0, n1, n2, P8⟩ := put_part P6.out CC.out ho hb hg hat; clear ho hb hg hat b0 m1 m2 m3 m4; have P8 := Aside0.mk P8))
       go_roundw
       case rel => exact ⟨q + 1, some ⟨g6, 0, none⟩, c6, _, A9, c9, o ++ [ki], HQ.out, by go_num, P8, ⟨by have h1 := HX.out; rw [hpk.out] at h1; exact h1⟩, ⟨⟨by have := HL.out.1; simp; omega, by have := HL.out.2; simp; omega⟩⟩⟩
       case measure => simp [intOf]; omega
     ·have hqq : ((q : Int) < (T.length : Int)) = False := eq_false (by omega)
      have hqT : q = T.length := by omega
      have hPL : putL T l0_0 [] = (p, o) := by
       have h1 := HP.out
       rw [hqT, List.drop_length] at h1
       exact h1.symm
      have hh := HH.out
      rw [hPL] at hh
      obtain ⟨l2, hl2⟩ : ∃ l2, l0_1 ++ [(⟨o⟩ : FL)] = l2 := ⟨_, rfl⟩
      have hh : (if good p l2 = true then some (p, l2, true) else some ([], [], false)) = some (r1, r2, r3) := by rw [← hl2]; exact hh
      have HH := Aside0.mk hh
      have HL2 := Aside0.mk hl2
      have b1 : wr.cell? ⟨gb, 1, none⟩ = some (.slice A7 l0_1.length c7) := (blk_cell P.out.b 1).trans rfl
      have f0 : wr.cell? ⟨gf, 0, none⟩ = some (.slice A8 o.length c8) := (blk_cell P.out.f 0).trans rfl
      clear hh hl2 hPL hqT HP hql
      cases hG : good p l2 with
      | false =>
       have h := HH.out
       rw [hG, if_neg (by decide)] at h
       simp only [Option.some.injEq, Prod.mk.injEq] at h
       obtain ⟨rfl, rfl, rfl⟩ := h
       have HG := Aside0.mk hG
       clear hG HH
       go_wp2_with (first
        | ((with_reducible refine gate_builtin (b := .append) (xs := #[.tmp 68, .tmp 70]) rfl ?_); at_builtin; refine Kd.S_append k87 (w0 := w) (W := wr) w.heap.size rfl (.tmp 68) (.tmp 70) 49 87 (.agg #[(.slice none 0 0)]) 24 rfl Try.underlying49 info87 rfl (by decide) (by omega) (.slice A7 l0_1.length c7) l0_1 (⟨o⟩ : FL) [.slice A8 o.length c8] (fun k => k ≠ gf) (fun k => some k = (Value.slice A8 o.length c8).ownBlock) rfl rfl ?aP ?aK ?aF ?aO P.out.bl P.out.bl.size ?aL ?_; (case aP => exact fl_M.2 ⟨_, rfl, Kd.R_of_own (Kd.own_of_R P.out.is) (fun k hk => hk.symm)⟩); (case aK => exact fun k hk => ⟨fun e_ => Kd.R_ne P.out.is P.out.f (by decide) (by rw [← e_]; exact hk), fun e_ => ((Kd.S_R P.out.fs).1 k e_.symm).2 hk⟩); (case aF => exact fun k hk => by have := blk_lt P.out.f; omega); (case aO => exact Kd.S_mono P.out.fs (fun k hk => ⟨hk.1, hk.2⟩)); (case aL => have := HS.out.2.1; omega); intro v9 w9 ho hb hg hat; rw [HL2.out] at ho; obtain ⟨A9, c9, w10, rfl, n0, n1, n2, n3, n4, P10⟩ := put_file P.out CC.out ho hb hg; clear ho hb hg hat; have P10 := Aside0.mk P10)
        | (go_at_call 36; refine (impl_GoodVault.calls A6 c6 p A9 c9 l2 false w10 (Kd.R_reads' P10.out.ks).2.2 (Kd.R_reads' P10.out.ks).2.1 (Kd.S_reads' P10.out.fs).2.2 (Kd.S_reads' P10.out.fs).2.1 (by unfold impl_GoodVault.f; rw [HG.out])).mono ?_; (first | rintro e w11 rfl hb | rintro e w11 ⟨rfl, hb⟩); have P11 := Aside0.mk (P10.out.below hb); clear hb b1 f0 n0 n1 n2 n3 n4; have z0 : w11.cell? ⟨gz, 0, none⟩ = some (.slice none 0 0) := (blk_cell P11.out.z 0).trans rfl; have z1 : w11.cell? ⟨gz, 1, none⟩ = some (.slice none 0 0) := (blk_cell P11.out.z 1).trans rfl; have y0 := blk_frozen P11.out.z 0; have y1 := blk_frozen P11.out.z 1))
       refine bodyPost_ret (results_ct rfl _ _ gz 51 #[.slice none 0 0, .slice none 0 0] (0, 0) _ rfl (put2 P11.out.z _ _) Try.underlying51 rfl (by kernel_rfl)) rfl ?_
       exact ⟨_, _, rfl, Kd.R_nil _ _ _ _ _, Kd.S_nil _ _ _ _ _, below_set (below_set P11.out.bl CC.out.z) CC.out.z⟩
      | true =>
       have h := HH.out
       rw [hG, if_pos rfl] at h
       simp only [Option.some.injEq, Prod.mk.injEq] at h
       obtain ⟨rfl, rfl, rfl⟩ := h
       have HG := Aside0.mk hG
       clear hG HH
       go_wp2_with (first
        | ((with_reducible refine gate_builtin (b := .append) (xs := #[.tmp 68, .tmp 70]) rfl ?_); at_builtin; refine Kd.S_append k87 (w0 := w) (W := wr) w.heap.size rfl (.tmp 68) (.tmp 70) 49 87 (.agg #[(.slice none 0 0)]) 24 rfl Try.underlying49 info87 rfl (by decide) (by omega) (.slice A7 l0_1.length c7) l0_1 (⟨o⟩ : FL) [.slice A8 o.length c8] (fun k => k ≠ gf) (fun k => some k = (Value.slice A8 o.length c8).ownBlock) rfl rfl ?aP ?aK ?aF ?aO P.out.bl P.out.bl.size ?aL ?_; (case aP => exact fl_M.2 ⟨_, rfl, Kd.R_of_own (Kd.own_of_R P.out.is) (fun k hk => hk.symm)⟩); (case aK => exact fun k hk => ⟨fun e_ => Kd.R_ne P.out.is P.out.f (by decide) (by rw [← e_]; exact hk), fun e_ => ((Kd.S_R P.out.fs).1 k e_.symm).2 hk⟩); (case aF => exact fun k hk => by have := blk_lt P.out.f; omega); (case aO => exact Kd.S_mono P.out.fs (fun k hk => ⟨hk.1, hk.2⟩)); (case aL => have := HS.out.2.1; omega); intro v9 w9 ho hb hg hat; rw [HL2.out] at ho; obtain ⟨A9, c9, w10, rfl, n0, n1, n2, n3, n4, P10⟩ := put_file P.out CC.out ho hb hg; clear ho hb hg hat; have P10 := Aside0.mk P10)
        | (go_at_call 36; refine (impl_GoodVault.calls A6 c6 p A9 c9 l2 true w10 (Kd.R_reads' P10.out.ks).2.2 (Kd.R_reads' P10.out.ks).2.1 (Kd.S_reads' P10.out.fs).2.2 (Kd.S_reads' P10.out.fs).2.1 (by unfold impl_GoodVault.f; rw [HG.out])).mono ?_; (first | rintro e w11 rfl hb | rintro e w11 ⟨rfl, hb⟩); have P11 := Aside0.mk (P10.out.below hb); clear hb b1 f0 n0 n1 n2 n3 n4; have z0 : w11.cell? ⟨gz, 0, none⟩ = some (.slice none 0 0) := (blk_cell P11.out.z 0).trans rfl; have z1 : w11.cell? ⟨gz, 1, none⟩ = some (.slice none 0 0) := (blk_cell P11.out.z 1).trans rfl; have y0 := blk_frozen P11.out.z 0; have y1 := blk_frozen P11.out.z 1; have n3 : w11.cell? ⟨gb, 0, none⟩ = some (.slice A6 p.length c6) := (blk_cell P11.out.b 0).trans rfl; have n4 : w11.cell? ⟨gb, 1, none⟩ = some (.slice A9 l2.length c9) := (blk_cell P11.out.b 1).trans rfl))
       refine bodyPost_ret (results_ct rfl _ _ gz 51 #[.slice A6 p.length c6, .slice A9 l2.length c9] (0, 0) _ rfl (put2 P11.out.z _ _) Try.underlying51 rfl (by kernel_rfl)) rfl ?_
       obtain ⟨r1_, r2_, r3_⟩ := ret_vault (x := .slice A6 p.length c6) (y := .slice A9 l2.length c9) P11.out.z CC.out.z P11.out.ks P11.out.fs P11.out.bl
       exact ⟨_, _, rfl, r1_, r2_, r3_⟩
  ·rw [if_neg hT] at h
   cases h
theorem impl_PutText.mono : ∀ a0 a1 a2 k, LeO (impl_PutText.f k a0 a1 a2) (impl_PutText.f (k + 1) a0 a1 a2) := by
 intro a0 a1 a2 k
 unfold impl_PutText.f
 exact LeO.bind (impl_PiecesOf.mono _ _) (fun _ => LeO.refl _)
end Go.Proofs.Ytjepecinpgjgdaa.PVau
