import Derived.Test.YtjepecinpgjgdaaZVauFinP
import Derived.Test.YtjepecinpgjgdaaZVauDropPure
import Derived.Test.YtjepecinpgjgdaaZVauWords
/-! (*l1Cur).vault: a vault that is drawn is small; walked by hand (the drawn regions' steps told by wip/vaucurv.py). -/
namespace Go.Proofs.Ytjepecinpgjgdaa.PVau
open Go.RowKit Go.Proofs.YtjepecinpgjgdaaW.PrintWords Go.Proofs.YtjepecinpgjgdaaW.PrintLast Go.Proofs.YtjepecinpgjgdaaW.PrintMore Go.Proofs.Ytjepecinpgjgdaa.E Go.Proofs.Ytjepecinpgjgdaa.ZVau
set_option linter.unusedSimpArgs false
set_option linter.unusedVariables false
def szV (ps : List KL) (fs : List FL) : Prop := ps.length ≤ 100 ∧ fs.length ≤ 20 ∧ ∀ x ∈ fs, x.f0.length ≤ 200
theorem drop_ex {ps : List KL} {fs : List FL} (h : szV ps fs) (a : Int) : ∃ (k : Nat) (C : List KL) (R : List FL) (b : Bool), spec_DropFile.f k ps fs a = some (C, R, b) ∧ szV C R := by
 obtain ⟨h1, h2, h3⟩ := h
 obtain ⟨K, hK⟩ := spec_drop ps fs a (by omega) (by omega) (fun x hx => by have := h3 x hx; omega)
 exact ⟨K, _, _, _, hK _ (Nat.le_refl _), dropF_size ps fs a⟩
theorem put_ex {ps : List KL} {fs : List FL} (h : szV ps fs) (s : ByteArray) : ∃ (k : Nat) (C : List KL) (R : List FL) (b : Bool), spec_PutText.f k ps fs s = some (C, R, b) ∧ szV C R := by
 obtain ⟨h1, h2, h3⟩ := h
 obtain ⟨K, hK⟩ := spec_put ps fs s (by omega) (by omega) (fun x hx => by have := h3 x hx; omega)
 exact ⟨K, _, _, _, hK _ (Nat.le_refl _), putF_size ps fs s⟩
/-- The vault that grows, and the cursor. -/
structure VB (w0 w W : World) (g gz gv : Nat) (l0 : List Int) (p q : Int) (A0 : Option Addr) (c0 : Nat) (ps : List KL) (A1 : Option Addr) (c1 : Nat) (fs : List FL) : Prop where
 i : IsS76 w0 W g l0 p q
 z : W.heap[gz]? = some (.cells #[.slice none 0 0, .slice none 0 0] 51 (0, 0))
 v : W.heap[gv]? = some (.cells #[.slice A0 ps.length c0, .slice A1 fs.length c1] 51 (0, 0))
 ks : KS W w.heap.size (fun _ => True) (.slice A0 ps.length c0) ps
 fs_ : FS W w.heap.size (fun _ => True) (.slice A1 fs.length c1) fs
 b : Below w0.heap.size w0 W
 k : KeepBut w W g none
structure VC (w0 w : World) (g gz gv : Nat) : Prop where
 lt : g < w.heap.size
 ge : w0.heap.size ≤ g
 z : w.heap.size ≤ gz
 v : w.heap.size ≤ gv
 ne : gz ≠ gv
section
variable {w0 w W W1 : World} {g gz gv : Nat} {l0 : List Int} {p q p' q' : Int} {A0 : Option Addr} {c0 : Nat} {ps : List KL} {A1 : Option Addr} {c1 : Nat} {fs : List FL}
theorem VB.below (h : VB w0 w W g gz gv l0 p q A0 c0 ps A1 c1 fs) (hb : Below W.heap.size W W1) : VB w0 w W1 g gz gv l0 p q A0 c0 ps A1 c1 fs :=
 ⟨h.i.below hb, blk_below h.z hb, blk_below h.v hb, Kd.R_below h.ks hb, Kd.S_below h.fs_ hb, below_step h.b hb, h.k.trans (KeepBut.of_below hb g none) (.inl rfl)⟩
theorem VB.drew (h : VB w0 w W g gz gv l0 p q A0 c0 ps A1 c1 fs) : VB w0 w W.drew g gz gv l0 p q A0 c0 ps A1 c1 fs := h.below (below_drew1 (Below.refl _ _))
/-- The cursor goes on. -/
theorem VB.cur (h : VB w0 w W g gz gv l0 p q A0 c0 ps A1 c1 fs) (C : VC w0 w g gz gv) (hi : IsS76 w0 W1 g l0 p' q') (hb : Below w0.heap.size w0 W1) (hk : KeepBut W W1 g none) : VB w0 w W1 g gz gv l0 p' q' A0 c0 ps A1 c1 fs :=
 ⟨hi, hk.blk h.z (by have := C.lt; have := C.z; omega) (by simp), hk.blk h.v (by have := C.lt; have := C.v; omega) (by simp), Kd.R_mono (Kd.R_keep (Kd.R_bound h.ks) hk (fun k h_ => by have := h_.2.1; have := C.lt; omega)) (fun _ _ => trivial), Kd.S_mono (Kd.S_keep (Kd.S_bound h.fs_) hk (fun k h_ => by have := h_.2.1; have := C.lt; omega)) (fun _ _ => trivial), hb, h.k.trans hk (.inl rfl)⟩
/-- A box of the call's own, not one of these, is written. -/
theorem VB.box (h : VB w0 w W g gz gv l0 p q A0 c0 ps A1 c1 fs) (C : VC w0 w g gz gv) {gx t : Nat} {cells : Array Value} (hX : W.heap[gx]? = some (.cells cells t (0, 0))) (ht : t = 51) (hge : w.heap.size ≤ gx) (hz : gz ≠ gx) (hv : gv ≠ gx) (j : Nat) (u : Value) : VB w0 w (W.setCell ⟨gx, j, none⟩ u) g gz gv l0 p q A0 c0 ps A1 c1 fs := by
 subst ht
 have hg : W.grownBy (W.setCell ⟨gx, j, none⟩ u) (some gx) := grown_cell W gx j u
 exact ⟨h.i.grown hg (by have := C.lt; intro e_; have := Option.some.inj e_; omega), blk_far h.z hz _, blk_far h.v hv _, Kd.R_set h.ks hX (by decide) j u, Kd.S_set h.fs_ hX (by decide) j u, below_set h.b (by have := C.lt; have := C.ge; show w0.heap.size ≤ gx; omega), keep_far h.k hge u⟩
/-- v = x -/
theorem VB.move {A0' : Option Addr} {c0' : Nat} {C' : List KL} {A1' : Option Addr} {c1' : Nat} {R' : List FL} (h : VB w0 w W g gz gv l0 p q A0 c0 ps A1 c1 fs) (C : VC w0 w g gz gv) (hk : KS W w.heap.size (fun _ => True) (.slice A0' C'.length c0') C') (hf : FS W w.heap.size (fun _ => True) (.slice A1' R'.length c1') R') :
  VB w0 w ((W.setCell ⟨gv, 0, none⟩ (.slice A0' C'.length c0')).setCell ⟨gv, 1, none⟩ (.slice A1' R'.length c1')) g gz gv l0 p q A0' c0' C' A1' c1' R' := by
 have h1 := blk_put (cs := #[.slice A0 ps.length c0, .slice A1 fs.length c1]) h.v 0 (.slice A0' C'.length c0') rfl
 have hg1 : W.grownBy (W.setCell ⟨gv, 0, none⟩ (.slice A0' C'.length c0')) (some gv) := grown_cell W gv 0 _
 have hg2 : (W.setCell ⟨gv, 0, none⟩ (.slice A0' C'.length c0')).grownBy ((W.setCell ⟨gv, 0, none⟩ (.slice A0' C'.length c0')).setCell ⟨gv, 1, none⟩ (.slice A1' R'.length c1')) (some gv) := grown_cell _ gv 1 _
 have hn : some g ≠ some gv := fun e_ => by have := Option.some.inj e_; have := C.lt; have := C.v; omega
 have hw0 : w0.heap.size ≤ gv := by have := C.lt; have := C.ge; have := C.v; omega
 exact ⟨(h.i.grown hg1 hn).grown hg2 hn, blk_far (blk_far h.z C.ne _) C.ne _, put2 h.v _ _, Kd.R_set (Kd.R_set hk h.v (by decide) 0 _) h1 (by decide) 1 _, Kd.S_set (Kd.S_set hf h.v (by decide) 0 _) h1 (by decide) 1 _, below_set (below_set h.b hw0) hw0, keep_far (keep_far h.k C.v _) C.v _⟩
/-- v.Pieces = append(v.Pieces, ..) -/
theorem VB.grow0 {A9 : Option Addr} {c9 : Nat} {p9 : List KL} (h : VB w0 w W g gz gv l0 p q A0 c0 ps A1 c1 fs) (C : VC w0 w g gz gv) (ho : KS W1 w.heap.size (fun _ => True) (.slice A9 p9.length c9) p9) (hb : Below w.heap.size W W1) (hg : W.grownBy W1 (Value.slice A0 ps.length c0).ownBlock) :
  W1.heap[gv]? = some (.cells #[.slice A0 ps.length c0, .slice A1 fs.length c1] 51 (0, 0)) ∧ VB w0 w (W1.setCell ⟨gv, 0, none⟩ (.slice A9 p9.length c9)) g gz gv l0 p q A9 c9 p9 A1 c1 fs := by
 have v1 := blk_grown h.v hg (Kd.R_ne h.ks h.v (by decide))
 have hg1 : W1.grownBy (W1.setCell ⟨gv, 0, none⟩ (.slice A9 p9.length c9)) (some gv) := grown_cell W1 gv 0 _
 have hn : some g ≠ some gv := fun e_ => by have := Option.some.inj e_; have := C.lt; have := C.v; omega
 have hw0 : w0.heap.size ≤ w.heap.size := by have := C.lt; have := C.ge; omega
 exact ⟨v1, (h.i.grown hg (IsS76.own_ne h.i h.ks (by decide))).grown hg1 hn, blk_far (blk_grown h.z hg (Kd.R_ne h.ks h.z (by decide))) C.ne _, blk_put (cs := #[.slice A0 ps.length c0, .slice A1 fs.length c1]) v1 0 _ rfl, Kd.R_set ho v1 (by decide) 0 _, Kd.S_set (Kd.S_over' h.fs_ (Kd.R_typed h.ks) (by decide) hg) v1 (by decide) 0 _, below_set (below_weaken h.b hw0 hb) (Nat.le_trans hw0 C.v), keep_far (h.k.trans (KeepBut.of_grown hg g) (Kd.R_base2 h.ks)) C.v _⟩
/-- v.Files = append(v.Files, ..) -/
theorem VB.grow1 {A9 : Option Addr} {c9 : Nat} {f9 : List FL} (h : VB w0 w W g gz gv l0 p q A0 c0 ps A1 c1 fs) (C : VC w0 w g gz gv) (ho : FS W1 w.heap.size (fun _ => True) (.slice A9 f9.length c9) f9) (hb : Below w.heap.size W W1) (hg : W.grownBy W1 (Value.slice A1 fs.length c1).ownBlock) :
  W1.heap[gv]? = some (.cells #[.slice A0 ps.length c0, .slice A1 fs.length c1] 51 (0, 0)) ∧ VB w0 w (W1.setCell ⟨gv, 1, none⟩ (.slice A9 f9.length c9)) g gz gv l0 p q A0 c0 ps A9 c9 f9 := by
 have v1 := blk_grown h.v hg (Kd.S_ne h.fs_ h.v (by decide))
 have hg1 : W1.grownBy (W1.setCell ⟨gv, 1, none⟩ (.slice A9 f9.length c9)) (some gv) := grown_cell W1 gv 1 _
 have hn : some g ≠ some gv := fun e_ => by have := Option.some.inj e_; have := C.lt; have := C.v; omega
 have hw0 : w0.heap.size ≤ w.heap.size := by have := C.lt; have := C.ge; omega
 exact ⟨v1, (h.i.grown hg (IsS76.own_neS h.i h.fs_ (by decide))).grown hg1 hn, blk_far (blk_grown h.z hg (Kd.S_ne h.fs_ h.z (by decide))) C.ne _, blk_put (cs := #[.slice A0 ps.length c0, .slice A1 fs.length c1]) v1 1 _ rfl, Kd.R_set (Kd.R_over' h.ks (Kd.S_typed h.fs_) (by decide) hg) v1 (by decide) 1 _, Kd.S_set ho v1 (by decide) 1 _, below_set (below_weaken h.b hw0 hb) (Nat.le_trans hw0 C.v), keep_far (h.k.trans (KeepBut.of_grown hg g) (Kd.S_base2 h.fs_)) C.v _⟩
/-- What is handed back. -/
theorem VB.ret (h : VB w0 w W g gz gv l0 p q A0 c0 ps A1 c1 fs) (C : VC w0 w g gz gv) :
  KS ((W.setCell ⟨gz, 0, none⟩ (.slice A0 ps.length c0)).setCell ⟨gz, 1, none⟩ (.slice A1 fs.length c1)) w.heap.size (fun _ => True) (.slice A0 ps.length c0) ps ∧ FS ((W.setCell ⟨gz, 0, none⟩ (.slice A0 ps.length c0)).setCell ⟨gz, 1, none⟩ (.slice A1 fs.length c1)) w.heap.size (fun _ => True) (.slice A1 fs.length c1) fs ∧ IsS76 w0 ((W.setCell ⟨gz, 0, none⟩ (.slice A0 ps.length c0)).setCell ⟨gz, 1, none⟩ (.slice A1 fs.length c1)) g l0 p q ∧ Below w0.heap.size w0 ((W.setCell ⟨gz, 0, none⟩ (.slice A0 ps.length c0)).setCell ⟨gz, 1, none⟩ (.slice A1 fs.length c1)) ∧ KeepBut w ((W.setCell ⟨gz, 0, none⟩ (.slice A0 ps.length c0)).setCell ⟨gz, 1, none⟩ (.slice A1 fs.length c1)) g none := by
 have h1 := blk_put (cs := #[.slice none 0 0, .slice none 0 0]) h.z 0 (.slice A0 ps.length c0) rfl
 have hn : some g ≠ some gz := fun e_ => by have := Option.some.inj e_; have := C.lt; have := C.z; omega
 have hw0 : w0.heap.size ≤ gz := by have := C.lt; have := C.ge; have := C.z; omega
 exact ⟨Kd.R_set (Kd.R_set h.ks h.z (by decide) 0 _) h1 (by decide) 1 _, Kd.S_set (Kd.S_set h.fs_ h.z (by decide) 0 _) h1 (by decide) 1 _, (h.i.grown (grown_cell W gz 0 _) hn).grown (grown_cell _ gz 1 _) hn, below_set (below_set h.b hw0) hw0, keep_far (keep_far h.k C.z _) C.z _⟩
end
set_option maxHeartbeats 8000000 in
set_option maxRecDepth 100000 in
theorem curVault_calls (g : Nat) (l0 : List Int) (p0 q0 : Int) (w0 w : World) (hl : Bytes l0) (hp0 : 0 ≤ p0) (hp1 : p0 ≤ 1000) (hI : IsS76 w0 w g l0 p0 q0) (hB : Below w0.heap.size w0 w) :
  Calls Try.prog 83 #[.pointer (some ⟨g, 0, none⟩)] w fun e w' => ∃ (v0_ v1_ : Value) (ps : List KL) (fs : List FL) (p q : Int), e = .returned (.agg #[v0_, v1_]) ∧ KS w' w.heap.size (fun _ => True) v0_ ps ∧ FS w' w.heap.size (fun _ => True) v1_ fs ∧ (0 ≤ p ∧ p ≤ 500000) ∧ (ps.length ≤ 101 ∧ fs.length ≤ 21 ∧ ∀ x ∈ fs, x.f0.length ≤ 200) ∧ IsS76 w0 w' g l0 p q ∧ Below w0.heap.size w0 w' ∧ KeepBut w w' g none := by
 have huV := Try.underlying51
 have huF := Try.underlying87
 have huK := Try.underlying89
 have huFS := Try.underlying49
 have huKS := Try.underlying48
 have huI := Try.underlying22
 have HBY := Aside0.mk hl
 obtain ⟨W1, hW1⟩ : ∃ W, w.alloc (.cells #[.slice none 0 0, .slice none 0 0] 51) = W := ⟨_, rfl⟩
 obtain ⟨W2, hW2⟩ : ∃ W, W1.alloc (.cells #[.slice none 0 0, .slice none 0 0] 51) = W := ⟨_, rfl⟩
 have hb1 : Below w.heap.size w W1 := by rw [← hW1]; exact below_alloc (Below.refl _ _) _
 have hb2 : Below W1.heap.size W1 W2 := by rw [← hW2]; exact below_alloc (Below.refl _ _) _
 have Z1 : W1.heap[w.heap.size]? = some (.cells #[.slice none 0 0, .slice none 0 0] 51 (0, 0)) := by rw [← hW1]; exact heap_alloc_new w _
 have V2 : W2.heap[W1.heap.size]? = some (.cells #[.slice none 0 0, .slice none 0 0] 51 (0, 0)) := by rw [← hW2]; exact heap_alloc_new W1 _
 have B0 := Aside0.mk (show VB w0 w W2 g w.heap.size W1.heap.size l0 p0 q0 none 0 [] none 0 [] from ⟨(hI.below hb1).below hb2, blk_below Z1 hb2, V2, Kd.R_nil _ _ _ _ _, Kd.S_nil _ _ _ _ _, below_step (below_step hB hb1) hb2, (KeepBut.of_below hb1 g none).trans (KeepBut.of_below hb2 g none) (.inl rfl)⟩)
 have hz := hb1.size
 have CC := Aside0.mk (show VC w0 w g w.heap.size W1.heap.size from ⟨by obtain ⟨_, _, h_, _⟩ := hI; exact blk_lt h_, by obtain ⟨_, _, _, h_, _⟩ := hI; exact h_, Nat.le_refl _, hz, Nat.ne_of_lt (blk_lt Z1)⟩)
 have n0 : W2.cell? ⟨W1.heap.size, 0, none⟩ = some (.slice none 0 0) := (blk_cell V2 0).trans rfl
 have n1 : W2.cell? ⟨W1.heap.size, 1, none⟩ = some (.slice none 0 0) := (blk_cell V2 1).trans rfl
 have n2 := blk_frozen V2 0
 have n3 := blk_frozen V2 1
 have n4 : W2.setCell ⟨W1.heap.size, 0, none⟩ (.slice none 0 0) = W2 := by rw [← hW2, World.setCell_alloc_new]; rfl
 have n5 : W2.setCell ⟨W1.heap.size, 1, none⟩ (.slice none 0 0) = W2 := by rw [← hW2, World.setCell_alloc_new]; rfl
 obtain ⟨a0, p1, q1, e1, ha0, ha1, hp2, hp3⟩ := pick_ok hl p0 q0 6 hp0 (by omega) (by omega)
 have TT := Aside0.mk (spec_l1Cur_pick.calls g l0 p0 q0 6 a0 p1 q1 w0 W2 B0.out.i B0.out.b e1)
 have HA := Aside0.mk (show 0 ≤ a0 ∧ a0 < 6 by omega)
 have HPP := Aside0.mk (show 0 ≤ p1 ∧ p1 ≤ 1002 by omega)
 clear hl hp0 hp1 hI hB hb1 hb2 Z1 V2 hz e1 ha0 ha1 hp2 hp3
 go_enter Try.func83, Try.ntmps83
 go_wp2_with (go_at_call 84; refine TT.out.mono ?_)
 rintro e w3 ⟨rfl, hI, hB, hK⟩
 have B3 := Aside0.mk (B0.out.cur CC.out hI hB hK)
 clear hI hB hK TT n0 n1 n2 n3 n4 n5 hW1 hW2 B0
 generalize W1.heap.size = gv at *
 generalize hgz : w.heap.size = gz at CC B3 ⊢
 obtain ⟨n0, rfl⟩ : ∃ n0 : Nat, a0 = (n0 : Int) := ⟨a0.toNat, by have := HA.out; omega⟩
 go_wp2
 go_loopw [4] (fun vi wr => ∃ (n : Nat) (p q : Int) (A0 : Option Addr) (c0 : Nat) (ps : List KL) (A1 : Option Addr) (c1 : Nat) (fs : List FL), n ≤ 5 ∧ vi = .int .i64 n ∧ Aside0 (0 ≤ p ∧ p + 21000 * (n : Int) ≤ 300000) ∧ Aside0 (szV ps fs) ∧ Aside0 (VB w0 w wr g gz gv l0 p q A0 c0 ps A1 c1 fs)) (fun vi _ => (intOf vi).toNat)
 case atStart => exact ⟨n0, p1, q1, none, 0, [], none, 0, [], by have := HA.out; omega, rfl, ⟨by have := HA.out; have := HPP.out; omega⟩, ⟨⟨by simp, by simp, fun x hx => by cases hx⟩⟩, B3⟩
 case round =>
  clear B3 HPP HA
  obtain ⟨n, p, q, A0, c0, ps, A1, c1, fs, hn, rfl, HPN, HSZ, B⟩ := hrel
  by_cases hn0 : 0 < n
  ·obtain ⟨n', rfl⟩ : ∃ n', n = n' + 1 := ⟨n - 1, by omega⟩
   have hnn : (0 < (((n' + 1 : Nat)) : Int)) = True := eq_true (by omega)
   obtain ⟨V1, hV1⟩ : ∃ V, wr.alloc (.cells #[.slice A0 ps.length c0, .slice A1 fs.length c1] 51) = V := ⟨_, rfl⟩
   have hb1 : Below wr.heap.size wr V1 := by rw [← hV1]; exact below_alloc (Below.refl _ _) _
   have X := Aside0.mk (show V1.heap[wr.heap.size]? = some (.cells #[.slice A0 ps.length c0, .slice A1 fs.length c1] 51 (0, 0)) by rw [← hV1]; exact heap_alloc_new wr _)
   have XG := Aside0.mk (show w.heap.size ≤ wr.heap.size from keep_size B.out.k)
   have XZ := Aside0.mk (show gz ≠ wr.heap.size from Nat.ne_of_lt (blk_lt B.out.z))
   have XV := Aside0.mk (show gv ≠ wr.heap.size from Nat.ne_of_lt (blk_lt B.out.v))
   have m0 : wr.cell? ⟨gv, 0, none⟩ = some (.slice A0 ps.length c0) := (blk_cell B.out.v 0).trans rfl
   have m1 : wr.cell? ⟨gv, 1, none⟩ = some (.slice A1 fs.length c1) := (blk_cell B.out.v 1).trans rfl
   replace B := Aside0.mk (B.out.below hb1)
   have HN := Aside0.mk (show n' + 1 ≤ 5 from hn)
   have HP0 := Aside0.mk (show 0 ≤ p ∧ p + 21000 * ((n' + 1 : Nat) : Int) ≤ 300000 from HPN.out)
   have hfl : fs.length ≤ 9223372036854775807 := by have := HSZ.out.2.1; omega
   clear hb1 hn0 HPN hn
   go_upto_region 6 with (fail)
   (try simp only [Act.put, List.setIfInBounds_toArray, List.set_cons_zero, List.set_cons_succ])
   clear m0 m1 hV1
   generalize wr.heap.size = gx at *
   go_cut [22] (fun v22 wc => ∃ (b : Bool) (p q : Int), v22 = .bool b ∧ Aside0 (0 ≤ p ∧ p + 21000 * (n' : Int) + 20998 ≤ 300000) ∧ Aside0 (b = true → 0 < fs.length) ∧ Aside0 (VB w0 w wc g gz gv l0 p q A0 c0 ps A1 c1 fs) ∧ Aside0 (wc.heap[gx]? = some (.cells #[.slice A0 ps.length c0, .slice A1 fs.length c1] 51 (0, 0))))
   case first =>
    have m1 : V1.cell? ⟨gv, 1, none⟩ = some (.slice A1 fs.length c1) := (blk_cell B.out.v 1).trans rfl
    by_cases hf : 0 < fs.length
    ·have c1_ : decide (0 < (fs.length : Int)) = true := decide_eq_true (by omega)
     have c2_ : decide (0 < fs.length) = true := decide_eq_true hf
     obtain ⟨b, p2, q2, e2, hp2, hp3⟩ := one_ok HBY.out p q 4 HP0.out.1 (by have := HP0.out; omega) (by omega)
     have TT := Aside0.mk (spec_l1Cur_one.calls g l0 p q 4 b p2 q2 w0 V1 B.out.i B.out.b e2)
     have HP2 := Aside0.mk (show 0 ≤ p2 ∧ p2 + 21000 * (n' : Int) + 20998 ≤ 300000 by have := HP0.out; omega)
     have HF := Aside0.mk hf
     clear e2 hp2 hp3 hf
     go_wp2_with (go_at_call 86; refine TT.out.mono ?_)
     rintro e w5 ⟨rfl, hI, hB, hK⟩
     have X5 := Aside0.mk (hK.blk X.out (by have := CC.out.lt; have := XG.out; omega) (by simp))
     have B5 := Aside0.mk (B.out.cur CC.out hI hB hK)
     clear hI hB hK TT m1
     go_wp2
     go_meet
     case rel => exact ⟨b, p2, q2, by first | rfl | simp, HP2, ⟨fun _ => HF.out⟩, B5, X5⟩
    ·have c1_ : decide (0 < (fs.length : Int)) = false := decide_eq_false (by omega)
     have c2_ : decide (0 < fs.length) = false := decide_eq_false hf
     clear hf
     go_wp2
     go_meet
     case rel => exact ⟨false, p, q, by first | rfl | simp, ⟨by have := HP0.out; omega⟩, ⟨fun h_ => by cases h_⟩, B, X⟩
   case rest =>
    clear B X HP0
    obtain ⟨b, p, q, rfl, HP, HF, B, X⟩ := hcut
    cases b with
    | true =>
     go_wp2
     refine start_ (n := 12) (S := fun w' => w'.cell? ⟨gv, 0, none⟩ = some (.slice A0 ps.length c0) ∧ w'.cell? ⟨gv, 1, none⟩ = some (.slice A1 fs.length c1)) (ds := [10]) (fl 12 0) (by kernel_rfl) rfl (by kernel_rfl) ⟨(blk_cell B.out.v 0).trans rfl, (blk_cell B.out.v 1).trans rfl⟩ (fun hHeld => ?_)
     replace B := Aside0.mk B.out.drew
     replace X := Aside0.mk (blk_drew X.out)
     generalize wc.drew = w5 at B X hHeld ⊢
     refine take_ (i := 0) (N := some 24) (v := ?_) (a' := ?_) (fl 12 1) rfl rfl (by kernel_rfl) (fun _ _ _ h => h) (Or.inl ⟨by rfl, ?_⟩) hHeld ?_ ?_
     rotate_left
     ·rintro w' ⟨s0, s1⟩
      go_simp
      with_reducible rfl
     rotate_left
     ·simp only [Act.put, List.setIfInBounds_toArray, List.set_cons_zero, List.set_cons_succ, i64_w, i32_w]
      rfl
     refine take_ (i := 1) (N := some 25) (v := ?_) (a' := ?_) (fl 12 3) rfl rfl (by kernel_rfl) (fun _ _ _ h => h) (Or.inl ⟨by rfl, ?_⟩) hHeld ?_ ?_
     rotate_left
     ·rintro w' ⟨s0, s1⟩
      go_simp
      with_reducible rfl
     rotate_left
     ·simp only [Act.put, List.setIfInBounds_toArray, List.set_cons_zero, List.set_cons_succ, i64_w, i32_w]
      rfl
     refine take_ (i := 2) (N := some 26) (v := ?_) (a' := ?_) (fl 12 7) rfl rfl (by kernel_rfl) (fun _ _ _ h => h) (Or.inl ⟨by rfl, ?_⟩) hHeld ?_ ?_
     rotate_left
     ·rintro w' ⟨s0, s1⟩
      go_simp
      with_reducible rfl
     rotate_left
     ·simp only [Act.put, List.setIfInBounds_toArray, List.set_cons_zero, List.set_cons_succ, i64_w, i32_w]
      rfl
     refine take_ (i := 3) (N := some 27) (v := ?_) (a' := ?_) (fl 12 15) rfl rfl (by kernel_rfl) (fun _ _ _ h => h) (Or.inl ⟨by rfl, ?_⟩) hHeld ?_ ?_
     rotate_left
     ·rintro w' ⟨s0, s1⟩
      go_simp
      with_reducible rfl
     rotate_left
     ·simp only [Act.put, List.setIfInBounds_toArray, List.set_cons_zero, List.set_cons_succ, i64_w, i32_w]
      rfl
     refine take_ (i := 4) (N := some 28) (v := ?_) (a' := ?_) (fl 12 31) rfl rfl (by kernel_rfl) (fun _ _ _ h => h) (Or.inl ⟨by rfl, ?_⟩) hHeld ?_ ?_
     rotate_left
     ·rintro w' ⟨s0, s1⟩
      go_simp
      with_reducible rfl
     rotate_left
     ·simp only [Act.put, List.setIfInBounds_toArray, List.set_cons_zero, List.set_cons_succ, i64_w, i32_w]
      rfl
     refine one_ (i := 5) (N := some 29) (fl 12 63) rfl rfl (by kernel_rfl) (by decide) (fun K hK => ?_)
     refine goes_ Try.func84 (by kernel_rfl) rfl #[.pointer (some ⟨g, 0, none⟩), .int .i64 (fs.length : Int)] (by rfl) rfl rfl (by (try simp only [List.map_toArray, List.map_cons, List.map_nil]); first | done | rfl | (simp only [List.length_drop, List.length_take]; rfl)) ?_
     obtain ⟨a, p2, q2, e2, ha0, ha1, hp2, hp3⟩ := pick_ok HBY.out p q (fs.length : Int) HP.out.1 (by have := HP.out; omega) (by have := HSZ.out.2.1; omega)
     refine (spec_l1Cur_pick.calls g l0 p q (fs.length : Int) a p2 q2 w0 w5 B.out.i B.out.b e2).mono ?_
     rintro e w6 ⟨rfl, hI, hB, hK⟩
     refine ⟨_, rfl, ?_⟩
     have HP2 := Aside0.mk (show 0 ≤ p2 ∧ p2 ≤ p + 20000 from ⟨by have := HP.out; omega, by omega⟩)
     replace X := Aside0.mk (hK.blk X.out (by have := CC.out.lt; have := XG.out; omega) (by simp))
     replace B := Aside0.mk (B.out.cur CC.out hI hB hK)
     clear hI hB hK e2 ha0 ha1 hp2 hp3
     refine hK.out _ _ ⟨(blk_cell B.out.v 0).trans rfl, (blk_cell B.out.v 1).trans rfl⟩ (fun hHeld => ?_)
     clear hK K
     refine norm_ (a' := ?_) ?_ ?_
     rotate_left
     ·show Act.put _ (some 29) _ = _
      simp only [Act.put, List.setIfInBounds_toArray, List.set_cons_zero, List.set_cons_succ, i64_w, i32_w]
      rfl
     refine one_ (i := 6) (N := some 30) (fl 12 127) rfl rfl (by kernel_rfl) (by decide) (fun K hK => ?_)
     refine goes_ Try.func42 (by kernel_rfl) rfl #[.agg #[.slice A0 ps.length c0, .slice A1 fs.length c1], .int .i64 a] (by rfl) rfl rfl (by (try simp only [List.map_toArray, List.map_cons, List.map_nil]); first | done | rfl | (simp only [List.length_drop, List.length_take]; rfl)) ?_
     obtain ⟨kk, C1, R1, ob, e3, hsz⟩ := drop_ex HSZ.out a
     refine (spec_DropFile.calls kk A0 c0 ps A1 c1 fs a C1 R1 ob w6 (Kd.R_reads' B.out.ks).2.2 (Kd.R_reads' B.out.ks).2.1 (Kd.S_reads' B.out.fs_).2.2 (Kd.S_reads' B.out.fs_).2.1 e3).mono ?_
     rintro e w7 ⟨v0, v1, rfl, hr, hs, hb⟩
     refine ⟨_, rfl, ?_⟩
     obtain ⟨A0', c0', rfl⟩ := Kd.R_slice hr
     obtain ⟨A1', c1', rfl⟩ := Kd.S_slice hs
     have K7 := Aside0.mk (Kd.R_lower hr (keep_size B.out.k))
     have F7 := Aside0.mk (Kd.S_lower hs (keep_size B.out.k))
     have HSZ2 := Aside0.mk hsz
     replace B := Aside0.mk (B.out.below hb)
     replace X := Aside0.mk (blk_below X.out hb)
     clear hr hs hb hsz e3
     refine hK.out _ _ ⟨(blk_cell B.out.v 0).trans rfl, (blk_cell B.out.v 1).trans rfl⟩ (fun hHeld => ?_)
     clear hK K
     refine norm_ (a' := ?_) ?_ ?_
     rotate_left
     ·show Act.put _ (some 30) _ = _
      simp only [Act.put, List.setIfInBounds_toArray, List.set_cons_zero, List.set_cons_succ, i64_w, i32_w]
      rfl
     refine pure_ (i := 7) (N := some 23) (v := ?_) (a' := ?_) (fl 12 255) rfl rfl (by kernel_rfl) (fun _ _ _ h => h) (Or.inl ⟨by rfl, ?_⟩) ?_ ?_
     rotate_left
     ·intro w'
      go_simp
      with_reducible rfl
     rotate_left
     ·simp only [Act.put, List.setIfInBounds_toArray, List.set_cons_zero, List.set_cons_succ, i64_w, i32_w]
      rfl
     refine pure_ (i := 8) (N := some 31) (v := ?_) (a' := ?_) (fl 12 511) rfl rfl (by kernel_rfl) (fun _ _ _ h => h) (Or.inl ⟨by rfl, ?_⟩) ?_ ?_
     rotate_left
     ·intro w'
      go_simp
      with_reducible rfl
     rotate_left
     ·simp only [Act.put, List.setIfInBounds_toArray, List.set_cons_zero, List.set_cons_succ, i64_w, i32_w]
      rfl
     refine pure_ (i := 9) (N := some 32) (v := ?_) (a' := ?_) (fl 12 1023) rfl rfl (by kernel_rfl) (fun _ _ _ h => h) (Or.inl ⟨by rfl, ?_⟩) ?_ ?_
     rotate_left
     ·intro w'
      go_simp
      with_reducible rfl
     rotate_left
     ·simp only [Act.put, List.setIfInBounds_toArray, List.set_cons_zero, List.set_cons_succ, i64_w, i32_w]
      rfl
     have x0 : w7.cell? ⟨gx, 0, none⟩ = some (.slice A0 ps.length c0) := (blk_cell X.out 0).trans rfl
     have x1 : w7.cell? ⟨gx, 1, none⟩ = some (.slice A1 fs.length c1) := (blk_cell X.out 1).trans rfl
     have y0 := blk_frozen X.out 0
     have y1 := blk_frozen X.out 1
     refine last_ (i := 10) (N := none) (fl 12 2047) rfl rfl (by kernel_rfl) (by decide) (fun K hK => ?_)
     refine skip_ (w1 := (w7.setCell ⟨gx, 0, none⟩ (.slice A0' C1.length c0')).setCell ⟨gx, 1, none⟩ (.slice A1' R1.length c1')) (by rfl) rfl ?_ ?_
     ·first | (go_simp; done) | (go_simp; rfl)
     refine hK.out _ _ ?_
     clear hK K x0 x1 y0 y1
     refine pure_ (i := 11) (N := some 6) (v := ?_) (a' := ?_) (fl 12 4095) rfl rfl (by kernel_rfl) (fun _ _ _ h => h) (Or.inl ⟨by rfl, ?_⟩) ?_ ?_
     rotate_left
     ·intro w'
      go_simp
      with_reducible rfl
     rotate_left
     ·simp only [Act.put, List.setIfInBounds_toArray, List.set_cons_zero, List.set_cons_succ, i64_w, i32_w]
      rfl
     refine done_ (by kernel_rfl) ?_
     clear hHeld
     have X1 := blk_put (cs := #[.slice A0 ps.length c0, .slice A1 fs.length c1]) X.out 0 (.slice A0' C1.length c0') rfl
     have B8 := Aside0.mk ((B.out.box CC.out X.out rfl XG.out XZ.out XV.out 0 (.slice A0' C1.length c0')).box CC.out X1 rfl XG.out XZ.out XV.out 1 (.slice A1' R1.length c1'))
     have K8 := Aside0.mk (Kd.R_set (Kd.R_set K7.out X.out (by decide) 0 (.slice A0' C1.length c0')) X1 (by decide) 1 (.slice A1' R1.length c1'))
     have F8 := Aside0.mk (Kd.S_set (Kd.S_set F7.out X.out (by decide) 0 (.slice A0' C1.length c0')) X1 (by decide) 1 (.slice A1' R1.length c1'))
     have X8 := Aside0.mk (put2 X.out (.slice A0' C1.length c0') (.slice A1' R1.length c1'))
     generalize (w7.setCell ⟨gx, 0, none⟩ (.slice A0' C1.length c0')).setCell ⟨gx, 1, none⟩ (.slice A1' R1.length c1') = w8 at B8 K8 F8 X8 ⊢
     clear X1 B X K7 F7
     have m0 : w8.cell? ⟨gx, 0, none⟩ = some (.slice A0' C1.length c0') := (blk_cell X8.out 0).trans rfl
     have m1 : w8.cell? ⟨gx, 1, none⟩ = some (.slice A1' R1.length c1') := (blk_cell X8.out 1).trans rfl
     have m2 : w8.cell? ⟨gv, 0, none⟩ = some (.slice A0 ps.length c0) := (blk_cell B8.out.v 0).trans rfl
     have m3 : w8.cell? ⟨gv, 1, none⟩ = some (.slice A1 fs.length c1) := (blk_cell B8.out.v 1).trans rfl
     have m4 := blk_frozen B8.out.v 0
     have m5 := blk_frozen B8.out.v 1
     cases ob with
     | true =>
      have B9 := Aside0.mk (B8.out.move CC.out K8.out F8.out)
      have hn5 : n' ≤ 5 := by have := HN.out; omega
      try go_wp2
      go_roundw
      case rel => exact ⟨n', p2, q2, A0', c0', C1, A1', c1', R1, by have := HN.out; omega, by go_num, ⟨by have := HP.out; have := HP2.out; have := HN.out; omega⟩, HSZ2, B9⟩
      case measure => first | (simp [intOf]; done) | (simp [intOf]; omega)
     | false =>
      have hn5 : n' ≤ 5 := by have := HN.out; omega
      try go_wp2
      go_roundw
      case rel => exact ⟨n', p2, q2, A0, c0, ps, A1, c1, fs, by have := HN.out; omega, by go_num, ⟨by have := HP.out; have := HP2.out; have := HN.out; omega⟩, HSZ, B8⟩
      case measure => first | (simp [intOf]; done) | (simp [intOf]; omega)
    | false =>
     go_wp2
     refine start_ (n := 9) (S := fun w' => w'.cell? ⟨gv, 0, none⟩ = some (.slice A0 ps.length c0) ∧ w'.cell? ⟨gv, 1, none⟩ = some (.slice A1 fs.length c1)) (ds := [7]) (fl 9 0) (by kernel_rfl) rfl (by kernel_rfl) ⟨(blk_cell B.out.v 0).trans rfl, (blk_cell B.out.v 1).trans rfl⟩ (fun hHeld => ?_)
     replace B := Aside0.mk B.out.drew
     replace X := Aside0.mk (blk_drew X.out)
     generalize wc.drew = w5 at B X hHeld ⊢
     refine take_ (i := 0) (N := some 34) (v := ?_) (a' := ?_) (fl 9 1) rfl rfl (by kernel_rfl) (fun _ _ _ h => h) (Or.inl ⟨by rfl, ?_⟩) hHeld ?_ ?_
     rotate_left
     ·rintro w' ⟨s0, s1⟩
      go_simp
      with_reducible rfl
     rotate_left
     ·simp only [Act.put, List.setIfInBounds_toArray, List.set_cons_zero, List.set_cons_succ, i64_w, i32_w]
      rfl
     refine take_ (i := 1) (N := some 35) (v := ?_) (a' := ?_) (fl 9 3) rfl rfl (by kernel_rfl) (fun _ _ _ h => h) (Or.inl ⟨by rfl, ?_⟩) hHeld ?_ ?_
     rotate_left
     ·rintro w' ⟨s0, s1⟩
      go_simp
      with_reducible rfl
     rotate_left
     ·simp only [Act.put, List.setIfInBounds_toArray, List.set_cons_zero, List.set_cons_succ, i64_w, i32_w]
      rfl
     refine one_ (i := 2) (N := some 36) (fl 9 7) rfl rfl (by kernel_rfl) (by decide) (fun K hK => ?_)
     refine goes_ Try.func63 (by kernel_rfl) rfl #[.pointer (some ⟨g, 0, none⟩)] (by rfl) rfl rfl (by (try simp only [List.map_toArray, List.map_cons, List.map_nil]); first | done | rfl | (simp only [List.length_drop, List.length_take]; rfl)) ?_
     obtain ⟨a, p2, q2, ⟨kw, e2⟩, ha0, hp2, hp3⟩ := words_ok HBY.out p q HP.out.1 (by have := HP.out; omega)
     refine (spec_l1Cur_words.calls kw g l0 p q a p2 q2 w0 w5 B.out.i B.out.b (e2 _ (Nat.le_refl _))).mono ?_
     rintro e w6 ⟨rfl, hI, hB, hK⟩
     refine ⟨_, rfl, ?_⟩
     have HP2 := Aside0.mk (show 0 ≤ p2 ∧ p2 ≤ p + 20000 from ⟨by have := HP.out; omega, by omega⟩)
     replace X := Aside0.mk (hK.blk X.out (by have := CC.out.lt; have := XG.out; omega) (by simp))
     replace B := Aside0.mk (B.out.cur CC.out hI hB hK)
     clear hI hB hK e2 ha0 hp2 hp3
     refine hK.out _ _ ⟨(blk_cell B.out.v 0).trans rfl, (blk_cell B.out.v 1).trans rfl⟩ (fun hHeld => ?_)
     clear hK K
     refine norm_ (a' := ?_) ?_ ?_
     rotate_left
     ·show Act.put _ (some 36) _ = _
      simp only [Act.put, List.setIfInBounds_toArray, List.set_cons_zero, List.set_cons_succ, i64_w, i32_w]
      rfl
     refine one_ (i := 3) (N := some 37) (fl 9 15) rfl rfl (by kernel_rfl) (by decide) (fun K hK => ?_)
     refine goes_ Try.func50 (by kernel_rfl) rfl #[.agg #[.slice A0 ps.length c0, .slice A1 fs.length c1], .string a] (by rfl) rfl rfl (by (try simp only [List.map_toArray, List.map_cons, List.map_nil]); first | done | rfl | (simp only [List.length_drop, List.length_take]; rfl)) ?_
     obtain ⟨kk, C1, R1, ob, e3, hsz⟩ := put_ex HSZ.out a
     refine (spec_PutText.calls kk A0 c0 ps A1 c1 fs a C1 R1 ob w6 (Kd.R_reads' B.out.ks).2.2 (Kd.R_reads' B.out.ks).2.1 (Kd.S_reads' B.out.fs_).2.2 (Kd.S_reads' B.out.fs_).2.1 e3).mono ?_
     rintro e w7 ⟨v0, v1, rfl, hr, hs, hb⟩
     refine ⟨_, rfl, ?_⟩
     obtain ⟨A0', c0', rfl⟩ := Kd.R_slice hr
     obtain ⟨A1', c1', rfl⟩ := Kd.S_slice hs
     have K7 := Aside0.mk (Kd.R_lower hr (keep_size B.out.k))
     have F7 := Aside0.mk (Kd.S_lower hs (keep_size B.out.k))
     have HSZ2 := Aside0.mk hsz
     replace B := Aside0.mk (B.out.below hb)
     replace X := Aside0.mk (blk_below X.out hb)
     clear hr hs hb hsz e3
     refine hK.out _ _ ⟨(blk_cell B.out.v 0).trans rfl, (blk_cell B.out.v 1).trans rfl⟩ (fun hHeld => ?_)
     clear hK K
     refine norm_ (a' := ?_) ?_ ?_
     rotate_left
     ·show Act.put _ (some 37) _ = _
      simp only [Act.put, List.setIfInBounds_toArray, List.set_cons_zero, List.set_cons_succ, i64_w, i32_w]
      rfl
     refine pure_ (i := 4) (N := some 33) (v := ?_) (a' := ?_) (fl 9 31) rfl rfl (by kernel_rfl) (fun _ _ _ h => h) (Or.inl ⟨by rfl, ?_⟩) ?_ ?_
     rotate_left
     ·intro w'
      go_simp
      with_reducible rfl
     rotate_left
     ·simp only [Act.put, List.setIfInBounds_toArray, List.set_cons_zero, List.set_cons_succ, i64_w, i32_w]
      rfl
     refine pure_ (i := 5) (N := some 38) (v := ?_) (a' := ?_) (fl 9 63) rfl rfl (by kernel_rfl) (fun _ _ _ h => h) (Or.inl ⟨by rfl, ?_⟩) ?_ ?_
     rotate_left
     ·intro w'
      go_simp
      with_reducible rfl
     rotate_left
     ·simp only [Act.put, List.setIfInBounds_toArray, List.set_cons_zero, List.set_cons_succ, i64_w, i32_w]
      rfl
     refine pure_ (i := 6) (N := some 39) (v := ?_) (a' := ?_) (fl 9 127) rfl rfl (by kernel_rfl) (fun _ _ _ h => h) (Or.inl ⟨by rfl, ?_⟩) ?_ ?_
     rotate_left
     ·intro w'
      go_simp
      with_reducible rfl
     rotate_left
     ·simp only [Act.put, List.setIfInBounds_toArray, List.set_cons_zero, List.set_cons_succ, i64_w, i32_w]
      rfl
     have x0 : w7.cell? ⟨gx, 0, none⟩ = some (.slice A0 ps.length c0) := (blk_cell X.out 0).trans rfl
     have x1 : w7.cell? ⟨gx, 1, none⟩ = some (.slice A1 fs.length c1) := (blk_cell X.out 1).trans rfl
     have y0 := blk_frozen X.out 0
     have y1 := blk_frozen X.out 1
     refine last_ (i := 7) (N := none) (fl 9 255) rfl rfl (by kernel_rfl) (by decide) (fun K hK => ?_)
     refine skip_ (w1 := (w7.setCell ⟨gx, 0, none⟩ (.slice A0' C1.length c0')).setCell ⟨gx, 1, none⟩ (.slice A1' R1.length c1')) (by rfl) rfl ?_ ?_
     ·first | (go_simp; done) | (go_simp; rfl)
     refine hK.out _ _ ?_
     clear hK K x0 x1 y0 y1
     refine pure_ (i := 8) (N := some 6) (v := ?_) (a' := ?_) (fl 9 511) rfl rfl (by kernel_rfl) (fun _ _ _ h => h) (Or.inl ⟨by rfl, ?_⟩) ?_ ?_
     rotate_left
     ·intro w'
      go_simp
      with_reducible rfl
     rotate_left
     ·simp only [Act.put, List.setIfInBounds_toArray, List.set_cons_zero, List.set_cons_succ, i64_w, i32_w]
      rfl
     refine done_ (by kernel_rfl) ?_
     clear hHeld
     have X1 := blk_put (cs := #[.slice A0 ps.length c0, .slice A1 fs.length c1]) X.out 0 (.slice A0' C1.length c0') rfl
     have B8 := Aside0.mk ((B.out.box CC.out X.out rfl XG.out XZ.out XV.out 0 (.slice A0' C1.length c0')).box CC.out X1 rfl XG.out XZ.out XV.out 1 (.slice A1' R1.length c1'))
     have K8 := Aside0.mk (Kd.R_set (Kd.R_set K7.out X.out (by decide) 0 (.slice A0' C1.length c0')) X1 (by decide) 1 (.slice A1' R1.length c1'))
     have F8 := Aside0.mk (Kd.S_set (Kd.S_set F7.out X.out (by decide) 0 (.slice A0' C1.length c0')) X1 (by decide) 1 (.slice A1' R1.length c1'))
     have X8 := Aside0.mk (put2 X.out (.slice A0' C1.length c0') (.slice A1' R1.length c1'))
     generalize (w7.setCell ⟨gx, 0, none⟩ (.slice A0' C1.length c0')).setCell ⟨gx, 1, none⟩ (.slice A1' R1.length c1') = w8 at B8 K8 F8 X8 ⊢
     clear X1 B X K7 F7
     have m0 : w8.cell? ⟨gx, 0, none⟩ = some (.slice A0' C1.length c0') := (blk_cell X8.out 0).trans rfl
     have m1 : w8.cell? ⟨gx, 1, none⟩ = some (.slice A1' R1.length c1') := (blk_cell X8.out 1).trans rfl
     have m2 : w8.cell? ⟨gv, 0, none⟩ = some (.slice A0 ps.length c0) := (blk_cell B8.out.v 0).trans rfl
     have m3 : w8.cell? ⟨gv, 1, none⟩ = some (.slice A1 fs.length c1) := (blk_cell B8.out.v 1).trans rfl
     have m4 := blk_frozen B8.out.v 0
     have m5 := blk_frozen B8.out.v 1
     cases ob with
     | true =>
      have B9 := Aside0.mk (B8.out.move CC.out K8.out F8.out)
      have hn5 : n' ≤ 5 := by have := HN.out; omega
      try go_wp2
      go_roundw
      case rel => exact ⟨n', p2, q2, A0', c0', C1, A1', c1', R1, by have := HN.out; omega, by go_num, ⟨by have := HP.out; have := HP2.out; have := HN.out; omega⟩, HSZ2, B9⟩
      case measure => first | (simp [intOf]; done) | (simp [intOf]; omega)
     | false =>
      have hn5 : n' ≤ 5 := by have := HN.out; omega
      try go_wp2
      go_roundw
      case rel => exact ⟨n', p2, q2, A0, c0, ps, A1, c1, fs, by have := HN.out; omega, by go_num, ⟨by have := HP.out; have := HP2.out; have := HN.out; omega⟩, HSZ, B8⟩
      case measure => first | (simp [intOf]; done) | (simp [intOf]; omega)
  ·obtain rfl : n = 0 := by omega
   obtain ⟨a, p2, q2, e2, ha0, ha1, hp2, hp3⟩ := pick_ok HBY.out p q 40 HPN.out.1 (by have := HPN.out; omega) (by omega)
   have TT := Aside0.mk (spec_l1Cur_pick.calls g l0 p q 40 a p2 q2 w0 wr B.out.i B.out.b e2)
   have HP := Aside0.mk (show 0 ≤ p2 ∧ p2 ≤ 300010 by have := HPN.out; omega)
   clear hn hn0 e2 ha0 ha1 hp2 hp3 HPN
   go_wp2_with (go_at_call 84; refine TT.out.mono ?_)
   rintro e w3 ⟨rfl, hI, hB, hK⟩
   replace B := Aside0.mk (B.out.cur CC.out hI hB hK)
   clear hI hB hK TT
   have FIN := Aside0.mk (show ∀ (W : World) (p q : Int) (A0 : Option Addr) (c0 : Nat) (ps : List KL) (A1 : Option Addr) (c1 : Nat) (fs : List FL), (0 ≤ p ∧ p ≤ 500000) → (ps.length ≤ 101 ∧ fs.length ≤ 21 ∧ ∀ x ∈ fs, x.f0.length ≤ 200) → VB w0 w W g gz gv l0 p q A0 c0 ps A1 c1 fs → True from fun _ _ _ _ _ _ _ _ _ _ _ _ => trivial)
   clear FIN
   by_cases ha0 : a = 0
   ·subst ha0
    go_wp2
    refine start_ (n := 9) (S := fun w' => w'.cell? ⟨gv, 0, none⟩ = some (.slice A0 ps.length c0) ∧ w'.cell? ⟨gv, 1, none⟩ = some (.slice A1 fs.length c1)) (ds := [8]) (fl 9 0) (by kernel_rfl) rfl (by kernel_rfl) ⟨(blk_cell B.out.v 0).trans rfl, (blk_cell B.out.v 1).trans rfl⟩ (fun hHeld => ?_)
    replace B := Aside0.mk B.out.drew
    generalize w3.drew = w5 at B hHeld ⊢
    refine take_ (i := 0) (N := some 46) (v := ?_) (a' := ?_) (fl 9 1) rfl rfl (by kernel_rfl) (fun _ _ _ h => h) (Or.inl ⟨by rfl, ?_⟩) hHeld ?_ ?_
    rotate_left
    ·rintro w' ⟨s0, s1⟩
     go_simp
     with_reducible rfl
    rotate_left
    ·simp only [Act.put, List.setIfInBounds_toArray, List.set_cons_zero, List.set_cons_succ, i64_w, i32_w]
     rfl
    refine take_ (i := 1) (N := some 47) (v := ?_) (a' := ?_) (fl 9 3) rfl rfl (by kernel_rfl) (fun _ _ _ h => h) (Or.inl ⟨by rfl, ?_⟩) hHeld ?_ ?_
    rotate_left
    ·rintro w' ⟨s0, s1⟩
     go_simp
     with_reducible rfl
    rotate_left
    ·simp only [Act.put, List.setIfInBounds_toArray, List.set_cons_zero, List.set_cons_succ, i64_w, i32_w]
     rfl
    refine take_ (i := 2) (N := some 48) (v := ?_) (a' := ?_) (fl 9 7) rfl rfl (by kernel_rfl) (fun _ _ _ h => h) (Or.inl ⟨by rfl, ?_⟩) hHeld ?_ ?_
    rotate_left
    ·rintro w' ⟨s0, s1⟩
     go_simp
     with_reducible rfl
    rotate_left
    ·simp only [Act.put, List.setIfInBounds_toArray, List.set_cons_zero, List.set_cons_succ, i64_w, i32_w]
     rfl
    refine one_ (i := 3) (N := some 49) (fl 9 15) rfl rfl (by kernel_rfl) (by decide) (fun K hK => ?_)
    refine goes_ Try.func84 (by kernel_rfl) rfl #[.pointer (some ⟨g, 0, none⟩), .int .i64 2] (by rfl) rfl rfl (by (try simp only [List.map_toArray, List.map_cons, List.map_nil]); first | done | rfl | (simp only [List.length_drop, List.length_take]; rfl)) ?_
    obtain ⟨a2, p3, q3, e3, ha2, ha3, hp4, hp5⟩ := pick_ok HBY.out p2 q2 2 HP.out.1 (by have := HP.out; omega) (by omega)
    refine (spec_l1Cur_pick.calls g l0 p2 q2 2 a2 p3 q3 w0 w5 B.out.i B.out.b e3).mono ?_
    rintro e w6 ⟨rfl, hI, hB, hK⟩
    refine ⟨_, rfl, ?_⟩
    have HP3 := Aside0.mk (show 0 ≤ p3 ∧ p3 ≤ 500000 from ⟨by have := HP.out; omega, by have := HP.out; omega⟩)
    replace B := Aside0.mk (B.out.cur CC.out hI hB hK)
    clear hI hB hK e3 ha2 ha3 hp4 hp5
    refine hK.out _ _ ⟨(blk_cell B.out.v 0).trans rfl, (blk_cell B.out.v 1).trans rfl⟩ (fun hHeld => ?_)
    clear hK K
    refine norm_ (a' := ?_) ?_ ?_
    rotate_left
    ·show Act.put _ (some 49) _ = _
     simp only [Act.put, List.setIfInBounds_toArray, List.set_cons_zero, List.set_cons_succ, i64_w, i32_w]
     rfl
    refine pure_ (i := 4) (N := some 50) (v := ?_) (a' := ?_) (fl 9 31) rfl rfl (by kernel_rfl) (fun _ _ _ h => h) (Or.inl ⟨by rfl, ?_⟩) ?_ ?_
    rotate_left
    ·intro w'
     go_simp
     with_reducible rfl
    rotate_left
    ·simp only [Act.put, List.setIfInBounds_toArray, List.set_cons_zero, List.set_cons_succ, i64_w, i32_w]
     rfl
    refine one_ (i := 5) (N := some 51) (fl 9 63) rfl rfl (by kernel_rfl) (by decide) (fun K hK => ?_)
    refine event_step (by rfl) (v := .slice (some ⟨w6.heap.size, 0, none⟩) 1 1) (w1 := w6.alloc (.cells #[.string ⟨#[122]⟩, .int .i64 a2] 89)) (by first | (go_simp; done) | (go_simp; rfl)) ?_
    have hb := below_alloc (Below.refl w6.heap.size w6) (.cells #[.string ⟨#[122]⟩, .int .i64 a2] 89)
    refine hK.out _ _ ⟨(blk_cell (blk_below B.out.v hb) 0).trans rfl, (blk_cell (blk_below B.out.v hb) 1).trans rfl⟩ (fun hHeld => ?_)
    clear hb
    clear hK K
    refine norm_ (a' := ?_) ?_ ?_
    rotate_left
    ·show Act.put _ (some 51) _ = _
     simp only [Act.put, List.setIfInBounds_toArray, List.set_cons_zero, List.set_cons_succ, i64_w, i32_w]
     rfl
    refine one_ (i := 6) (N := some 52) (fl 9 127) rfl rfl (by kernel_rfl) (by decide) (fun K hK => ?_)
    refine Kd.R_append_step k89 (w0 := w6) (W := w6) w.heap.size (by rfl) (.tmp 47) (.tmp 51) 48 89 (.agg #[(.string ⟨#[]⟩), (.int .i64 0)]) 24 rfl Try.underlying48 info89 rfl (by decide) (by omega) (.slice A0 ps.length c0) ps (⟨⟨#[122]⟩, a2⟩ : KL) [.string ⟨#[122]⟩, .int .i64 a2] (fun _ => True) (fun _ => False) rfl rfl (kl_M.2 rfl) (fun _ hk => hk.elim) (fun _ _ => trivial) B.out.ks (Below.refl _ _) (keep_size B.out.k) (by have := HSZ.out.1; omega) ?_
    intro v8 w8 ho hb hg hat
    obtain ⟨P9, hP9⟩ : ∃ P9, ps ++ [(⟨⟨#[122]⟩, a2⟩ : KL)] = P9 := ⟨_, rfl⟩
    rw [hP9] at ho
    have HP9 := Aside0.mk hP9
    clear hP9
    obtain ⟨A9, c9, rfl⟩ := Kd.R_slice ho
    obtain ⟨V8, B9⟩ := B.out.grow0 CC.out ho hb hg
    have V8 := Aside0.mk V8
    have B9 := Aside0.mk B9
    clear ho hb hg hat
    refine hK.out _ _ ⟨(blk_cell V8.out 0).trans rfl, (blk_cell V8.out 1).trans rfl⟩ (fun hHeld => ?_)
    clear hK K
    refine norm_ (a' := ?_) ?_ ?_
    rotate_left
    ·show Act.put _ (some 52) _ = _
     simp only [Act.put, List.setIfInBounds_toArray, List.set_cons_zero, List.set_cons_succ, i64_w, i32_w]
     rfl
    refine pure_ (i := 7) (N := some 53) (v := ?_) (a' := ?_) (fl 9 255) rfl rfl (by kernel_rfl) (fun _ _ _ h => h) (Or.inl ⟨by rfl, ?_⟩) ?_ ?_
    rotate_left
    ·intro w'
     go_simp
     with_reducible rfl
    rotate_left
    ·simp only [Act.put, List.setIfInBounds_toArray, List.set_cons_zero, List.set_cons_succ, i64_w, i32_w]
     rfl
    have g0 : w8.cell? ⟨gv, 0, none⟩ = some (.slice A0 ps.length c0) := (blk_cell V8.out 0).trans rfl
    have g1 := blk_frozen V8.out 0
    refine last_ (i := 8) (N := none) (fl 9 511) rfl rfl (by kernel_rfl) (by decide) (fun K hK => ?_)
    refine skip_ (w1 := w8.setCell ⟨gv, 0, none⟩ (.slice A9 P9.length c9)) (by rfl) rfl ?_ ?_
    ·first | (go_simp; done) | (go_simp; rfl)
    clear g0 g1
    refine hK.out _ _ ?_
    clear hK K
    refine done_ (by kernel_rfl) ?_
    clear hHeld
    generalize w8.setCell ⟨gv, 0, none⟩ (.slice A9 P9.length c9) = w9 at B9 ⊢
    have z0 := (blk_cell B9.out.z 0).trans (show _ = some (Value.slice none 0 0) from rfl)
    have z1 := (blk_cell B9.out.z 1).trans (show _ = some (Value.slice none 0 0) from rfl)
    have y0 := blk_frozen B9.out.z 0
    have y1 := blk_frozen B9.out.z 1
    have v0 := blk_cell B9.out.v 0
    have v1 := blk_cell B9.out.v 1
    replace v0 := v0.trans (show _ = some _ from rfl)
    replace v1 := v1.trans (show _ = some _ from rfl)
    try go_wp2
    refine bodyPost_ret (results_cell_row rfl _ _ gz 51 _ (0, 0) _ rfl (put2 B9.out.z _ _) Try.underlying51 rfl (by kernel_rfl)) rfl ?_
    obtain ⟨t1_, t2_, t3_, t4_, t5_⟩ := B9.out.ret CC.out
    refine ⟨_, _, _, _, _, _, rfl, t1_, t2_, ?_, ?_, t3_, t4_, t5_⟩
    ·have := HP3.out; omega
    ·refine ⟨?_, ?_, ?_⟩
     ·have := HSZ.out.1; rw [← HP9.out]; simp; omega
     ·have := HSZ.out.2.1; omega
     ·exact HSZ.out.2.2
   ·have q0 : (a == 0) = false := beq_eq_false_iff_ne.2 ha0
    have q1 : (a = 0) = False := eq_false ha0
    by_cases ha1 : a = 1
    ·subst ha1
     go_wp2
     refine start_ (n := 10) (S := fun w' => w'.cell? ⟨gv, 0, none⟩ = some (.slice A0 ps.length c0) ∧ w'.cell? ⟨gv, 1, none⟩ = some (.slice A1 fs.length c1)) (ds := [9]) (fl 10 0) (by kernel_rfl) rfl (by kernel_rfl) ⟨(blk_cell B.out.v 0).trans rfl, (blk_cell B.out.v 1).trans rfl⟩ (fun hHeld => ?_)
     replace B := Aside0.mk B.out.drew
     generalize w3.drew = w5 at B hHeld ⊢
     refine take_ (i := 0) (N := some 56) (v := ?_) (a' := ?_) (fl 10 1) rfl rfl (by kernel_rfl) (fun _ _ _ h => h) (Or.inl ⟨by rfl, ?_⟩) hHeld ?_ ?_
     rotate_left
     ·rintro w' ⟨s0, s1⟩
      go_simp
      with_reducible rfl
     rotate_left
     ·simp only [Act.put, List.setIfInBounds_toArray, List.set_cons_zero, List.set_cons_succ, i64_w, i32_w]
      rfl
     refine take_ (i := 1) (N := some 57) (v := ?_) (a' := ?_) (fl 10 3) rfl rfl (by kernel_rfl) (fun _ _ _ h => h) (Or.inl ⟨by rfl, ?_⟩) hHeld ?_ ?_
     rotate_left
     ·rintro w' ⟨s0, s1⟩
      go_simp
      with_reducible rfl
     rotate_left
     ·simp only [Act.put, List.setIfInBounds_toArray, List.set_cons_zero, List.set_cons_succ, i64_w, i32_w]
      rfl
     refine take_ (i := 2) (N := some 58) (v := ?_) (a' := ?_) (fl 10 7) rfl rfl (by kernel_rfl) (fun _ _ _ h => h) (Or.inl ⟨by rfl, ?_⟩) hHeld ?_ ?_
     rotate_left
     ·rintro w' ⟨s0, s1⟩
      go_simp
      with_reducible rfl
     rotate_left
     ·simp only [Act.put, List.setIfInBounds_toArray, List.set_cons_zero, List.set_cons_succ, i64_w, i32_w]
      rfl
     refine one_ (i := 3) (N := some 59) (fl 10 15) rfl rfl (by kernel_rfl) (by decide) (fun K hK => ?_)
     refine goes_ Try.func84 (by kernel_rfl) rfl #[.pointer (some ⟨g, 0, none⟩), .int .i64 3] (by rfl) rfl rfl (by (try simp only [List.map_toArray, List.map_cons, List.map_nil]); first | done | rfl | (simp only [List.length_drop, List.length_take]; rfl)) ?_
     obtain ⟨a2, p3, q3, e3, ha2, ha3, hp4, hp5⟩ := pick_ok HBY.out p2 q2 3 HP.out.1 (by have := HP.out; omega) (by omega)
     refine (spec_l1Cur_pick.calls g l0 p2 q2 3 a2 p3 q3 w0 w5 B.out.i B.out.b e3).mono ?_
     rintro e w6 ⟨rfl, hI, hB, hK⟩
     refine ⟨_, rfl, ?_⟩
     have HP3 := Aside0.mk (show 0 ≤ p3 ∧ p3 ≤ 500000 from ⟨by have := HP.out; omega, by have := HP.out; omega⟩)
     replace B := Aside0.mk (B.out.cur CC.out hI hB hK)
     clear hI hB hK e3 ha2 ha3 hp4 hp5
     refine hK.out _ _ ⟨(blk_cell B.out.v 0).trans rfl, (blk_cell B.out.v 1).trans rfl⟩ (fun hHeld => ?_)
     clear hK K
     refine norm_ (a' := ?_) ?_ ?_
     rotate_left
     ·show Act.put _ (some 59) _ = _
      simp only [Act.put, List.setIfInBounds_toArray, List.set_cons_zero, List.set_cons_succ, i64_w, i32_w]
      rfl
     refine one_ (i := 4) (N := some 60) (fl 10 31) rfl rfl (by kernel_rfl) (by decide) (fun K hK => ?_)
     refine Kd.R_lit_step (Kd.int .i64) (w0 := w6) w6.heap.size 3 (by rfl) (N := 60) rfl (xs := ([a2] : List Int)) (inner := [.int .i64 a2]) (ok := fun _ => True) (okp := fun _ => True) (by first | (go_simp; done) | (go_simp; rfl)) (Reps.one (show Kd.M (Kd.int .i64) _ _ _ a2 [.int .i64 a2] from rfl) (Reps.none _ _)) (fun _ hk => hk) trivial (Below.refl _ _) (Nat.le_refl _) (by simp) ?_
     intro v60 w7 ho hb hg hnew
     obtain ⟨A7, c7, rfl⟩ : ∃ A7 c7, v60 = .slice A7 1 c7 := by
      obtain ⟨A7, c7, e_⟩ := Kd.R_slice ho
      exact ⟨A7, c7, e_⟩
     have R7 := Aside0.mk (Kd.R_lower ho (keep_size B.out.k))
     have N7 := Aside0.mk (show ∀ k, (Value.slice A7 1 c7).ownBlock = some k → w6.heap.size ≤ k from Kd.R_base ho)
     have O7 := Aside0.mk (show ∀ k, (Value.slice A1 fs.length c1).ownBlock = some k → k < w6.heap.size from Kd.S_lt B.out.fs_)
     have F7 := Aside0.mk (show FS w7 w.heap.size (fun k => True ∧ ¬ some k = (Value.slice A7 1 c7).ownBlock) (.slice A1 fs.length c1) fs from Kd.S_mono (Kd.S_below (Kd.S_mono (Kd.S_bound B.out.fs_) (fun k h_ => (h_.2.2.1 : k < w6.heap.size))) hb) (fun k h_ => ⟨trivial, fun e_ => by have := N7.out k e_.symm; omega⟩))
     replace B := Aside0.mk (B.out.below hb)
     clear ho hb hg hnew
     refine hK.out _ _ ⟨(blk_cell B.out.v 0).trans rfl, (blk_cell B.out.v 1).trans rfl⟩ (fun hHeld => ?_)
     clear hK K
     refine norm_ (a' := ?_) ?_ ?_
     rotate_left
     ·show Act.put _ (some 60) _ = _
      simp only [Act.put, List.setIfInBounds_toArray, List.set_cons_zero, List.set_cons_succ, i64_w, i32_w]
      rfl
     refine pure_ (i := 5) (N := some 61) (v := ?_) (a' := ?_) (fl 10 63) rfl rfl (by kernel_rfl) (fun _ _ _ h => h) (Or.inl ⟨by rfl, ?_⟩) ?_ ?_
     rotate_left
     ·intro w'
      go_simp
      with_reducible rfl
     rotate_left
     ·simp only [Act.put, List.setIfInBounds_toArray, List.set_cons_zero, List.set_cons_succ, i64_w, i32_w]
      rfl
     refine one_ (i := 6) (N := some 62) (fl 10 127) rfl rfl (by kernel_rfl) (by decide) (fun K hK => ?_)
     refine event_step (by rfl) (v := .slice (some ⟨w7.heap.size, 0, none⟩) 1 1) (w1 := w7.alloc (.cells #[.slice A7 1 c7] 87)) (by first | (go_simp; done) | (go_simp; rfl)) ?_
     have hb := below_alloc (Below.refl w7.heap.size w7) (.cells #[.slice A7 1 c7] 87)
     refine hK.out _ _ ⟨(blk_cell (blk_below B.out.v hb) 0).trans rfl, (blk_cell (blk_below B.out.v hb) 1).trans rfl⟩ (fun hHeld => ?_)
     clear hb
     clear hK K
     refine norm_ (a' := ?_) ?_ ?_
     rotate_left
     ·show Act.put _ (some 62) _ = _
      simp only [Act.put, List.setIfInBounds_toArray, List.set_cons_zero, List.set_cons_succ, i64_w, i32_w]
      rfl
     refine one_ (i := 7) (N := some 63) (fl 10 255) rfl rfl (by kernel_rfl) (by decide) (fun K hK => ?_)
     refine Kd.S_append_step k87 (w0 := w7) (W := w7) w.heap.size (by rfl) (.tmp 57) (.tmp 62) 49 87 (.agg #[(.slice none 0 0)]) 24 rfl Try.underlying49 info87 rfl (by decide) (by omega) (.slice A1 fs.length c1) fs (⟨[a2]⟩ : FL) [.slice A7 1 c7] (fun _ => True) (fun k => some k = (Value.slice A7 1 c7).ownBlock) rfl rfl ?aP ?aK ?aF ?aO (Below.refl _ _) (keep_size B.out.k) ?aL ?_
     case aP => exact fl_M.2 ⟨_, rfl, Kd.R_of_own (Kd.own_of_R R7.out) (fun k hk => hk.symm)⟩
     case aK => exact fun k hk => ⟨trivial, fun e_ => by have := N7.out k hk.symm; have := O7.out k e_.symm; omega⟩
     case aF => exact fun _ _ => trivial
     case aO => exact F7.out
     case aL => have := HSZ.out.2.1; omega
     intro v8 w8 ho hb hg hat
     obtain ⟨P9, hP9⟩ : ∃ P9, fs ++ [(⟨[a2]⟩ : FL)] = P9 := ⟨_, rfl⟩
     rw [hP9] at ho
     have HP9 := Aside0.mk hP9
     clear hP9
     obtain ⟨A9, c9, rfl⟩ := Kd.S_slice ho
     obtain ⟨V8, B9⟩ := B.out.grow1 CC.out ho hb hg
     have V8 := Aside0.mk V8
     have B9 := Aside0.mk B9
     clear ho hb hg hat
     refine hK.out _ _ ⟨(blk_cell V8.out 0).trans rfl, (blk_cell V8.out 1).trans rfl⟩ (fun hHeld => ?_)
     clear hK K
     refine norm_ (a' := ?_) ?_ ?_
     rotate_left
     ·show Act.put _ (some 63) _ = _
      simp only [Act.put, List.setIfInBounds_toArray, List.set_cons_zero, List.set_cons_succ, i64_w, i32_w]
      rfl
     refine pure_ (i := 8) (N := some 64) (v := ?_) (a' := ?_) (fl 10 511) rfl rfl (by kernel_rfl) (fun _ _ _ h => h) (Or.inl ⟨by rfl, ?_⟩) ?_ ?_
     rotate_left
     ·intro w'
      go_simp
      with_reducible rfl
     rotate_left
     ·simp only [Act.put, List.setIfInBounds_toArray, List.set_cons_zero, List.set_cons_succ, i64_w, i32_w]
      rfl
     have g0 : w8.cell? ⟨gv, 1, none⟩ = some (.slice A1 fs.length c1) := (blk_cell V8.out 1).trans rfl
     have g1 := blk_frozen V8.out 1
     refine last_ (i := 9) (N := none) (fl 10 1023) rfl rfl (by kernel_rfl) (by decide) (fun K hK => ?_)
     refine skip_ (w1 := w8.setCell ⟨gv, 1, none⟩ (.slice A9 P9.length c9)) (by rfl) rfl ?_ ?_
     ·first | (go_simp; done) | (go_simp; rfl)
     clear g0 g1
     refine hK.out _ _ ?_
     clear hK K
     refine done_ (by kernel_rfl) ?_
     clear hHeld
     generalize w8.setCell ⟨gv, 1, none⟩ (.slice A9 P9.length c9) = w9 at B9 ⊢
     have z0 := (blk_cell B9.out.z 0).trans (show _ = some (Value.slice none 0 0) from rfl)
     have z1 := (blk_cell B9.out.z 1).trans (show _ = some (Value.slice none 0 0) from rfl)
     have y0 := blk_frozen B9.out.z 0
     have y1 := blk_frozen B9.out.z 1
     have v0 := blk_cell B9.out.v 0
     have v1 := blk_cell B9.out.v 1
     replace v0 := v0.trans (show _ = some _ from rfl)
     replace v1 := v1.trans (show _ = some _ from rfl)
     try go_wp2
     refine bodyPost_ret (results_cell_row rfl _ _ gz 51 _ (0, 0) _ rfl (put2 B9.out.z _ _) Try.underlying51 rfl (by kernel_rfl)) rfl ?_
     obtain ⟨t1_, t2_, t3_, t4_, t5_⟩ := B9.out.ret CC.out
     refine ⟨_, _, _, _, _, _, rfl, t1_, t2_, ?_, ?_, t3_, t4_, t5_⟩
     ·have := HP3.out; omega
     ·refine ⟨?_, ?_, ?_⟩
      ·have := HSZ.out.1; omega
      ·have := HSZ.out.2.1; rw [← HP9.out]; simp; omega
      ·intro x hx
       rw [← HP9.out] at hx
       rcases List.mem_append.1 hx with h1 | h1
       ·exact HSZ.out.2.2 x h1
       ·rw [List.mem_singleton.1 h1]; simp
    ·have q2 : (a == 1) = false := beq_eq_false_iff_ne.2 ha1
     have q3 : (a = 1) = False := eq_false ha1
     clear ha0 ha1
     have z0 := (blk_cell B.out.z 0).trans (show _ = some (Value.slice none 0 0) from rfl)
     have z1 := (blk_cell B.out.z 1).trans (show _ = some (Value.slice none 0 0) from rfl)
     have y0 := blk_frozen B.out.z 0
     have y1 := blk_frozen B.out.z 1
     have v0 := blk_cell B.out.v 0
     have v1 := blk_cell B.out.v 1
     replace v0 := v0.trans (show _ = some _ from rfl)
     replace v1 := v1.trans (show _ = some _ from rfl)
     try go_wp2
     refine bodyPost_ret (results_cell_row rfl _ _ gz 51 _ (0, 0) _ rfl (put2 B.out.z _ _) Try.underlying51 rfl (by kernel_rfl)) rfl ?_
     obtain ⟨t1_, t2_, t3_, t4_, t5_⟩ := B.out.ret CC.out
     refine ⟨_, _, _, _, _, _, rfl, t1_, t2_, ?_, ?_, t3_, t4_, t5_⟩
     ·have := HP.out; omega
     ·exact ⟨by have := HSZ.out.1; omega, by have := HSZ.out.2.1; omega, HSZ.out.2.2⟩
end Go.Proofs.Ytjepecinpgjgdaa.PVau
