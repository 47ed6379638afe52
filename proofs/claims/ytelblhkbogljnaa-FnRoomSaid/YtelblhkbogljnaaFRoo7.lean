/- The law FnRoom answers true at all its arguments, and leaves them as they were; no condition. -/
import Derived.Test.YtelblhkbogljnaaFRoo6
import Derived.Test.YtelblhkbogljnaaRows
import Derived.WalkKit
import Derived.ProofKit
import Derived.OpenShut
import Derived.ShutString
import Derived.ChangeOld
import Derived.Below
import Derived.SizedLaws
namespace Go.Proofs.Ytelblhkbogljnaa.PFre
open Go.RowKit Go.Proofs.YtelblhkbogljnaaW.PrintWords Go.Proofs.YtelblhkbogljnaaW.PrintLast Go.Proofs.YtelblhkbogljnaaW.PrintMore Go.Proofs.Ytelblhkbogljnaa.E Go.Proofs.Ytelblhkbogljnaa.ZFre
set_option linter.unusedSimpArgs false
set_option linter.unusedVariables false
def szF (b : Int) (P S : List EL) : Prop := 0 ≤ b ∧ b ≤ 401 ∧ P.length ≤ 61 ∧ S.length ≤ 61
theorem lU {l : List Int} (hl : Bytes l) (p q n : Int) (h0 : 0 ≤ p) (h1 : p ≤ 100000000000) (hn : n ≤ 1000000000000) : ∃ r p' q', spec_l1Cur_one.f l p q n = some (r, p', q') ∧ p ≤ p' ∧ p' ≤ p + 2 := by
 obtain ⟨r, p', q', e, _, _, h4, h5⟩ := dR hl p q n h0 h1 hn
 exact ⟨r == 0, p', q', by unfold spec_l1Cur_one.f; rw [e]; rfl, h4, h5⟩
theorem jL {b : Int} {P S : List EX} (h : cZ b P S = true) : (1 ≤ b ∧ b ≤ 400) ∧ P.length ≤ 60 ∧ S.length ≤ 60 := by
 obtain ⟨h1, h2, h3, h4⟩ := dF.1 h
 exact ⟨h1, h2, by rw [h4, fe]; exact h2⟩
theorem jJ {b : Int} {Q : List EX} (hb : 1 ≤ b ∧ b ≤ 400) (hn : Q.length ≤ 60) (hs : Sep b Q) : cZ b Q (bv Q) = true := dF.2 ⟨hb, hn, hs, rfl⟩
theorem qw {b : Int} {P S : List EX} (h : cZ b P S = true) (x y : Int) : ∃ (k : Nat) (b1 : Int) (P1 S1 : List EX) (o : Bool), spec_GiveRoom.f k b P S x y = some (b1, P1, S1, o) ∧ (o = true → cZ b1 P1 S1 = true) := by
 have hz := jL h
 obtain ⟨r, ⟨k, e⟩, _, e3⟩ := nY b P S ⟨x, y⟩ (by omega) (by omega)
 rcases e3 with rfl | ⟨Q, rfl, hG⟩
 ·exact ⟨k, _, _, _, _, e k (Nat.le_refl _), fun h_ => by cases h_⟩
 ·exact ⟨k, _, _, _, _, e k (Nat.le_refl _), fun _ => jJ hz.1 hG.n hG.s⟩
theorem oL {b : Int} {P S : List EX} (h : cZ b P S = true) (x y : Int) : ∃ (k : Nat) (b1 : Int) (P1 S1 : List EX) (o : Bool), spec_TakeExact.f k b P S x y = some (b1, P1, S1, o) ∧ (o = true → cZ b1 P1 S1 = true) := by
 have hz := jL h
 obtain ⟨r, ⟨k, e⟩, _, e3⟩ := mQ b P S ⟨x, y⟩ (by omega) (by omega)
 rcases e3 with rfl | ⟨Q, rfl, hG⟩
 ·exact ⟨k, _, _, _, _, e k (Nat.le_refl _), fun h_ => by cases h_⟩
 ·exact ⟨k, _, _, _, _, e k (Nat.le_refl _), fun _ => jJ hz.1 hG.n hG.s⟩
theorem qh {b : Int} {P S : List EX} (h : cZ b P S = true) (x y z : Int) : ∃ (k : Nat) (b1 : Int) (P1 S1 : List EX) (a : Int) (o : Bool), spec_TakeRoom.f k b P S x y z = some (b1, P1, S1, a, o) ∧ (o = true → cZ b1 P1 S1 = true) := by
 have hz := jL h
 obtain ⟨r, ⟨k, e⟩, _, e3⟩ := kT b P S x y z (by omega) (by omega)
 rcases e3 with rfl | ⟨Q, a, rfl, hG, _⟩
 ·exact ⟨k, _, _, _, _, _, e k (Nat.le_refl _), fun h_ => by cases h_⟩
 ·exact ⟨k, _, _, _, _, _, e k (Nat.le_refl _), fun _ => jJ hz.1 hG.n hG.s⟩
theorem qH {n : Int} (h : 1 ≤ n ∧ n ≤ 400) : ∃ (k : Nat) (P S : List EX), spec_NewFree.f k n = some (n, P, S, true) ∧ cZ n P S = true := by
 have hs : Sep n [(⟨0, n⟩ : EX)] := Sep.cons ⟨Int.le_refl 0, h.1, by show (0 : Int) + n ≤ n; omega⟩ (Sep.nil n) (fun y hy => by cases hy)
 have E : Ev (fun k => spec_NewFree.f k n) (n, [(⟨0, n⟩ : EX)], bv [(⟨0, n⟩ : EX)], true) := by
  unfold spec_NewFree.f
  rw [eT, decide_eq_true h]
  exact eP (aZ rfl (Ev.bind (mH [(⟨0, n⟩ : EX)] h (by simp)) (bS rfl)))
 obtain ⟨k, e⟩ := E
 exact ⟨k, _, _, e k (Nat.le_refl _), jJ h (by simp) hs⟩
theorem eY (w : World) (a b c : Value) : ∃ W1 W2, w.alloc (.cells #[.int .i64 0, .slice none 0 0, .slice none 0 0] 24) = W1 ∧ ((W1.setCell ⟨w.heap.size, 0, none⟩ a).setCell ⟨w.heap.size, 1, none⟩ b).setCell ⟨w.heap.size, 2, none⟩ c = W2 ∧
  W1.cell? ⟨w.heap.size, 0, none⟩ = some (.int .i64 0) ∧ W1.cell? ⟨w.heap.size, 1, none⟩ = some (.slice none 0 0) ∧ W1.cell? ⟨w.heap.size, 2, none⟩ = some (.slice none 0 0) ∧ W1.frozen? ⟨w.heap.size, 0, none⟩ = false ∧ W1.frozen? ⟨w.heap.size, 1, none⟩ = false ∧ W1.frozen? ⟨w.heap.size, 2, none⟩ = false ∧
  Aside0 (W2.heap[w.heap.size]? = some (.cells #[a, b, c] 24 (0, 0))) ∧ Aside0 (Below w.heap.size w W2) := by
 have h1 := heap_alloc_new w (.cells #[.int .i64 0, .slice none 0 0, .slice none 0 0] 24)
 have hb := ah (Below.refl w.heap.size w) (.cells #[.int .i64 0, .slice none 0 0, .slice none 0 0] 24)
 exact ⟨_, _, rfl, rfl, (ak h1 0).trans rfl, (ak h1 1).trans rfl, (ak h1 2).trans rfl, au h1 0, au h1 1, au h1 2, ⟨fK h1 a b c⟩, ⟨ae (ae (ae hb (Nat.le_refl _)) (Nat.le_refl _)) (Nat.le_refl _)⟩⟩
structure QB (w0 w W : World) (g gz gv : Nat) (l0 : List Int) (p q b : Int) (A1 : Option Addr) (c1 : Nat) (P : List EL) (A2 : Option Addr) (c2 : Nat) (S : List EL) : Prop where
 i : aW w0 W g l0 p q
 z : W.heap[gz]? = some (.cells #[.int .i64 0, .slice none 0 0, .slice none 0 0] 24 (0, 0))
 v : W.heap[gv]? = some (.cells #[.int .i64 b, .slice A1 P.length c1, .slice A2 S.length c2] 24 (0, 0))
 s : ES W w.heap.size (fun k => some k ≠ (Value.slice A2 S.length c2).ownBlock) (.slice A1 P.length c1) P
 r : ES W w.heap.size (fun k => some k ≠ (Value.slice A1 P.length c1).ownBlock) (.slice A2 S.length c2) S
 b : Below w0.heap.size w0 W
 k : bn w W g none
structure QC (w0 w : World) (g gz gv : Nat) : Prop where
 lt : g < w.heap.size
 ge : w0.heap.size ≤ g
 z : w.heap.size ≤ gz
 v : w.heap.size ≤ gv
 ne : gz ≠ gv
theorem mf (W : World) (g j : Nat) (u : Value) : W.grownBy (W.setCell ⟨g, j, none⟩ u) (some g) :=
 ⟨rfl, rfl, rfl, by simp [World.setCell], fun k _ hk => Below.heap_setCell W ⟨g, j, none⟩ u k (fun e_ => hk (by rw [e_]))⟩
theorem l6 {w W W1 : World} {g : Nat} (h : bn w W g none) (hb : Below w.heap.size W W1) : bn w W1 g none :=
 ⟨Nat.le_trans h.1 hb.size, fun i hi hg hr => (hb.block i hi).trans (h.2 i hi hg hr)⟩
theorem mE {w W W1 : World} {n : Nat} (h : Below w.heap.size w W) (hb : Below n W W1) (hn : w.heap.size ≤ n) : Below w.heap.size w W1 :=
 h.trans ⟨hb.os, hb.tape, hb.output, hb.size, fun i hi => hb.block i (Nat.lt_of_lt_of_le hi hn)⟩
theorem fJ {W : World} {base gx : Nat} {ok : Nat → Prop} {a b c x y z v : Value} {D : List EL} (h : ES W base ok v D) (hX : W.heap[gx]? = some (.cells #[a, b, c] 24 (0, 0))) : ES (((W.setCell ⟨gx, 0, none⟩ x).setCell ⟨gx, 1, none⟩ y).setCell ⟨gx, 2, none⟩ z) base ok v D :=
 Kd.gZ (Kd.gZ (Kd.gZ h hX (by decide) 0 x) (aM (cs := #[a, b, c]) hX 0 x rfl) (by decide) 1 y) (aM (cs := #[x, b, c]) (aM (cs := #[a, b, c]) hX 0 x rfl) 1 y rfl) (by decide) 2 z
section
variable {w0 w W W1 : World} {g gz gv : Nat} {l0 : List Int} {p q p' q' b : Int} {A1 : Option Addr} {c1 : Nat} {P : List EL} {A2 : Option Addr} {c2 : Nat} {S : List EL}
theorem QB.below (h : QB w0 w W g gz gv l0 p q b A1 c1 P A2 c2 S) (hb : Below W.heap.size W W1) : QB w0 w W1 g gz gv l0 p q b A1 c1 P A2 c2 S :=
 ⟨h.i.below hb, ay h.z hb, ay h.v hb, Kd.bq h.s hb, Kd.bq h.r hb, aA h.b hb, h.k.trans (bn.of_below hb g none) (.inl rfl)⟩
theorem QB.drew (h : QB w0 w W g gz gv l0 p q b A1 c1 P A2 c2 S) : QB w0 w W.drew g gz gv l0 p q b A1 c1 P A2 c2 S := h.below (ai (Below.refl _ _))
theorem QB.cur (h : QB w0 w W g gz gv l0 p q b A1 c1 P A2 c2 S) (Q : QC w0 w g gz gv) (hi : aW w0 W1 g l0 p' q') (hb : Below w0.heap.size w0 W1) (hk : bn W W1 g none) : QB w0 w W1 g gz gv l0 p' q' b A1 c1 P A2 c2 S :=
 ⟨hi, hk.blk h.z (by have := Q.lt; have := Q.z; omega) (by simp), hk.blk h.v (by have := Q.lt; have := Q.v; omega) (by simp), Kd.aY (Kd.lF (Kd.eu h.s) hk (fun k h_ => by have := h_.2.1; have := Q.lt; omega)) (fun _ h_ => h_.1), Kd.aY (Kd.lF (Kd.eu h.r) hk (fun k h_ => by have := h_.2.1; have := Q.lt; omega)) (fun _ h_ => h_.1), hb, h.k.trans hk (.inl rfl)⟩
theorem QB.box (h : QB w0 w W g gz gv l0 p q b A1 c1 P A2 c2 S) (Q : QC w0 w g gz gv) {gx : Nat} {cells : Array Value} (hX : W.heap[gx]? = some (.cells cells 24 (0, 0))) (hge : w.heap.size ≤ gx) (hz : gz ≠ gx) (hv : gv ≠ gx) (j : Nat) (u : Value) : QB w0 w (W.setCell ⟨gx, j, none⟩ u) g gz gv l0 p q b A1 c1 P A2 c2 S := by
 have hg : W.grownBy (W.setCell ⟨gx, j, none⟩ u) (some gx) := mf W gx j u
 exact ⟨h.i.grown hg (by have := Q.lt; intro e_; have := Option.some.inj e_; omega), aJ h.z hz _, aJ h.v hv _, Kd.gZ h.s hX (by decide) j u, Kd.gZ h.r hX (by decide) j u, ae h.b (by have := Q.lt; have := Q.ge; show w0.heap.size ≤ gx; omega), eO h.k hge u⟩
theorem QB.box3 (h : QB w0 w W g gz gv l0 p q b A1 c1 P A2 c2 S) (Q : QC w0 w g gz gv) {gx : Nat} {a b_ c : Value} (hX : W.heap[gx]? = some (.cells #[a, b_, c] 24 (0, 0))) (hge : w.heap.size ≤ gx) (hz : gz ≠ gx) (hv : gv ≠ gx) (x y z : Value) : QB w0 w (((W.setCell ⟨gx, 0, none⟩ x).setCell ⟨gx, 1, none⟩ y).setCell ⟨gx, 2, none⟩ z) g gz gv l0 p q b A1 c1 P A2 c2 S :=
 ((h.box Q hX hge hz hv 0 x).box Q (aM (cs := #[a, b_, c]) hX 0 x rfl) hge hz hv 1 y).box Q (aM (cs := #[x, b_, c]) (aM (cs := #[a, b_, c]) hX 0 x rfl) 1 y rfl) hge hz hv 2 z
theorem QB.move {b' : Int} {A1' : Option Addr} {c1' : Nat} {P' : List EL} {A2' : Option Addr} {c2' : Nat} {S' : List EL} (h : QB w0 w W g gz gv l0 p q b A1 c1 P A2 c2 S) (Q : QC w0 w g gz gv) (hs : ES W w.heap.size (fun k => some k ≠ (Value.slice A2' S'.length c2').ownBlock) (.slice A1' P'.length c1') P') (hr : ES W w.heap.size (fun k => some k ≠ (Value.slice A1' P'.length c1').ownBlock) (.slice A2' S'.length c2') S') :
  QB w0 w (((W.setCell ⟨gv, 0, none⟩ (.int .i64 b')).setCell ⟨gv, 1, none⟩ (.slice A1' P'.length c1')).setCell ⟨gv, 2, none⟩ (.slice A2' S'.length c2')) g gz gv l0 p q b' A1' c1' P' A2' c2' S' := by
 have hn : g ≠ gv := by have := Q.lt; have := Q.v; omega
 have hw0 : w0.heap.size ≤ gv := by have := Q.lt; have := Q.ge; have := Q.v; omega
 exact ⟨((h.i.far (p := ⟨gv, 0, none⟩) hn _).far (p := ⟨gv, 1, none⟩) hn _).far (p := ⟨gv, 2, none⟩) hn _, aJ (aJ (aJ h.z (show gz ≠ (⟨gv, _, none⟩ : Addr).block from Q.ne) _) (show gz ≠ (⟨gv, _, none⟩ : Addr).block from Q.ne) _) (show gz ≠ (⟨gv, _, none⟩ : Addr).block from Q.ne) _, fK h.v _ _ _, fJ hs h.v, fJ hr h.v, ae (ae (ae h.b hw0) hw0) hw0, eO (eO (eO h.k (p := ⟨gv, 0, none⟩) Q.v _) (p := ⟨gv, 1, none⟩) Q.v _) (p := ⟨gv, 2, none⟩) Q.v _⟩
theorem QB.setB (h : QB w0 w W g gz gv l0 p q b A1 c1 P A2 c2 S) (Q : QC w0 w g gz gv) (x : Int) : QB w0 w (W.setCell ⟨gv, 0, none⟩ (.int .i64 x)) g gz gv l0 p q x A1 c1 P A2 c2 S :=
 ⟨h.i.far (p := ⟨gv, 0, none⟩) (by have := Q.lt; have := Q.v; show g ≠ gv; omega) _, aJ h.z (show gz ≠ (⟨gv, _, none⟩ : Addr).block from Q.ne) _, aM (cs := #[.int .i64 b, .slice A1 P.length c1, .slice A2 S.length c2]) h.v 0 _ rfl, Kd.gZ h.s h.v (by decide) 0 _, Kd.gZ h.r h.v (by decide) 0 _, ae h.b (by have := Q.lt; have := Q.ge; have := Q.v; omega), eO h.k (p := ⟨gv, 0, none⟩) Q.v _⟩
theorem QB.setS {gs : Nat} (h : QB w0 w W g gz gv l0 p q b A1 c1 P (some ⟨gs, 0, none⟩) c2 S) (Q : QC w0 w g gz gv) (hn : 0 < S.length) (x : Int) :
  QB w0 w (W.setCell ⟨gs, 1, none⟩ (.int .i64 x)) g gz gv l0 p q b A1 c1 P (some ⟨gs, 0, none⟩) c2 (S.set 0 ⟨(ax S 0).f0, x⟩) := by
 have hb := Kd.dM h.r gs rfl
 have hz := Kd.gX h.r h.z (by decide)
 have hv := Kd.gX h.r h.v (by decide)
 have hg : g ≠ gs := by have := Q.lt; omega
 have hl : (S.set 0 (⟨(ax S 0).f0, x⟩ : EL)).length = S.length := List.length_set
 refine ⟨h.i.far (p := ⟨gs, 1, none⟩) hg _, aJ h.z (p := ⟨gs, 1, none⟩) (fun e_ => hz (by rw [e_]; rfl)) _, ?_, ?_, ?_, ae h.b (by have := Q.lt; have := Q.ge; omega), eO h.k (p := ⟨gs, 1, none⟩) hb _⟩
 ·rw [hl]
  exact aJ h.v (p := ⟨gs, 1, none⟩) (fun e_ => hv (by rw [e_]; rfl)) _
 ·rw [hl]
  exact Kd.aX (p := ⟨gs, 1, none⟩) h.s (fun k hk e_ => hk (by rw [e_]; rfl)) _
 ·rw [hl]
  exact nJ h.r 0 (by omega) (by omega) x
theorem QB.app {A1' : Option Addr} {c1' : Nat} {P' : List EL} (h : QB w0 w W g gz gv l0 p q b A1 c1 P A2 c2 S) (Q : QC w0 w g gz gv) (hs : ES W1 w.heap.size (fun k => some k ≠ (Value.slice A2 S.length c2).ownBlock) (.slice A1' P'.length c1') P') (hb : Below w.heap.size W W1) (hg : W.grownBy W1 (Value.slice A1 P.length c1).ownBlock) :
  QB w0 w (W1.setCell ⟨gv, 1, none⟩ (.slice A1' P'.length c1')) g gz gv l0 p q b A1' c1' P' A2 c2 S := by
 have hn : g ≠ gv := by have := Q.lt; have := Q.v; omega
 have hw0 : w0.heap.size ≤ gv := by have := Q.lt; have := Q.ge; have := Q.v; omega
 have hv := bg h.v hg (Kd.gX h.s h.v (by decide))
 have hr := Kd.qg h.r hg (fun k hk => hk)
 have hi := h.i.grown hg (fun e_ => by have := Kd.dM h.s _ e_.symm; have := Q.lt; omega)
 refine ⟨hi.far (p := ⟨gv, 1, none⟩) hn _, aJ (bg h.z hg (Kd.gX h.s h.z (by decide))) (show gz ≠ (⟨gv, _, none⟩ : Addr).block from Q.ne) _, aM (cs := #[.int .i64 b, .slice A1 P.length c1, .slice A2 S.length c2]) hv 1 _ rfl, Kd.gZ hs hv (by decide) 1 _, ?_, ae (mE h.b hb (by have := Q.lt; have := Q.ge; omega)) hw0, eO (l6 h.k hb) (p := ⟨gv, 1, none⟩) Q.v _⟩
 exact Kd.aY (Kd.pX rfl (Kd.gZ hr hv (by decide) 1 _)) (fun k hk e_ => hs.1 k e_.symm hk)
theorem QB.ret {x y z : Value} (h : QB w0 w W g gz gv l0 p q b A1 c1 P A2 c2 S) (Q : QC w0 w g gz gv) : ES (((W.setCell ⟨gz, 0, none⟩ x).setCell ⟨gz, 1, none⟩ y).setCell ⟨gz, 2, none⟩ z) w.heap.size (fun k => some k ≠ (Value.slice A2 S.length c2).ownBlock) (.slice A1 P.length c1) P ∧ ES (((W.setCell ⟨gz, 0, none⟩ x).setCell ⟨gz, 1, none⟩ y).setCell ⟨gz, 2, none⟩ z) w.heap.size (fun k => some k ≠ (Value.slice A1 P.length c1).ownBlock) (.slice A2 S.length c2) S ∧
  aW w0 (((W.setCell ⟨gz, 0, none⟩ x).setCell ⟨gz, 1, none⟩ y).setCell ⟨gz, 2, none⟩ z) g l0 p q ∧ Below w0.heap.size w0 (((W.setCell ⟨gz, 0, none⟩ x).setCell ⟨gz, 1, none⟩ y).setCell ⟨gz, 2, none⟩ z) ∧ bn w (((W.setCell ⟨gz, 0, none⟩ x).setCell ⟨gz, 1, none⟩ y).setCell ⟨gz, 2, none⟩ z) g none := by
 have hn : g ≠ gz := by have := Q.lt; have := Q.z; omega
 have hw0 : w0.heap.size ≤ gz := by have := Q.lt; have := Q.ge; have := Q.z; omega
 exact ⟨fJ h.s h.z, fJ h.r h.z, ((h.i.far (p := ⟨gz, 0, none⟩) hn _).far (p := ⟨gz, 1, none⟩) hn _).far (p := ⟨gz, 2, none⟩) hn _, ae (ae (ae h.b hw0) hw0) hw0, eO (eO (eO h.k (p := ⟨gz, 0, none⟩) Q.z _) (p := ⟨gz, 1, none⟩) Q.z _) (p := ⟨gz, 2, none⟩) Q.z _⟩
end
set_option maxHeartbeats 16000000 in
set_option maxRecDepth 100000 in
theorem kK (g : Nat) (l0 : List Int) (p0 q0 : Int) (w0 w : World) (hl : Bytes l0) (hp0 : 0 ≤ p0) (hp1 : p0 ≤ 1000) (hI : aW w0 w g l0 p0 q0) (hB : Below w0.heap.size w0 w) :
  Calls Try.prog 44 #[.pointer (some ⟨g, 0, none⟩)] w fun e w' => ∃ (v1_ v2_ : Value) (b : Int) (P S : List EL) (p q : Int), e = .returned (.agg #[.int .i64 b, v1_, v2_]) ∧ ES w' w.heap.size (fun k => some k ≠ v2_.ownBlock) v1_ P ∧ ES w' w.heap.size (fun k => some k ≠ v1_.ownBlock) v2_ S ∧ (0 ≤ p ∧ p ≤ 500000) ∧ szF b P S ∧ aW w0 w' g l0 p q ∧ Below w0.heap.size w0 w' ∧ bn w w' g none := by
 have huF := Try.underlying24
 have huE := Try.underlying35
 have huES := Try.underlying22
 have huI := Try.underlying94
 have HBY := av hl
 obtain ⟨W1, hW1⟩ : ∃ W, w.alloc (.cells #[.int .i64 0, .slice none 0 0, .slice none 0 0] 24) = W := ⟨_, rfl⟩
 have hb1 : Below w.heap.size w W1 := by rw [← hW1]; exact ah (Below.refl _ _) _
 have Z1 := av (show W1.heap[w.heap.size]? = some (.cells #[.int .i64 0, .slice none 0 0, .slice none 0 0] 24 (0, 0)) by rw [← hW1]; exact heap_alloc_new w _)
 obtain ⟨a0, p1, q1, e1, ha0, ha1, hp2, hp3⟩ := dR hl p0 q0 60 hp0 (by omega) (by omega)
 have TT := av (spec_l1Cur_pick.calls g l0 p0 q0 60 a0 p1 q1 w0 W1 (hI.below hb1) (aA hB hb1) e1)
 have GL := av (show g < w.heap.size ∧ w0.heap.size ≤ g from ⟨hI.lt, hI.ge⟩)
 have KB := av (bn.of_below hb1 g none)
 obtain ⟨L0, hL0⟩ : ∃ z, wrap64 (1 + a0) = z := ⟨_, rfl⟩
 have HL0 := av (show 1 ≤ L0 ∧ L0 ≤ 400 by rw [← hL0, w64 (x := 1 + a0) (by omega) (by omega)]; omega)
 have HPP := av (show 0 ≤ p1 ∧ p1 ≤ 1002 by omega)
 have WZ := av (show w.heap.size < W1.heap.size from aG Z1.out)
 clear hl hp0 hp1 hI hB hb1 e1 ha0 ha1 hp2 hp3
 go_enter Try.func44, Try.ntmps44
 go_wp2_with (go_at_call 46; refine TT.out.mono ?_)
 rintro e w2 ⟨rfl, hI, hB, hK⟩
 have Z2 := av (hK.blk Z1.out (by have := GL.out; omega) (by simp))
 have I2 := av hI
 have B2 := av hB
 replace KB := av (KB.out.trans hK (.inl rfl))
 clear hI hB hK TT Z1 hW1
 obtain ⟨ob, p2, q2, e2, hp2, hp3⟩ := lU HBY.out p1 q1 12 HPP.out.1 (by have := HPP.out; omega) (by omega)
 have TT := av (spec_l1Cur_one.calls g l0 p1 q1 12 ob p2 q2 w0 w2 I2.out B2.out e2)
 have HP2 := av (show 0 ≤ p2 ∧ p2 ≤ 1004 by have := HPP.out; omega)
 clear e2 hp2 hp3
 go_wp2_with (go_at_call 47; refine TT.out.mono ?_)
 rintro e wc ⟨rfl, hI, hB, hK⟩
 replace Z2 := av (hK.blk Z2.out (by have := GL.out; omega) (by simp))
 replace I2 := av hI
 replace B2 := av hB
 replace KB := av (KB.out.trans hK (.inl rfl))
 clear hI hB hK TT HPP
 go_upto_if 13 with (fail)
 (try simp only [apu_])
 go_cut [3] (fun v3 wx => ∃ n : Int, v3 = .int .i64 n ∧ Aside0 (1 ≤ n ∧ n ≤ 400) ∧ wx = wc)
 case first =>
  cases ob with
  | true =>
   go_wp2
   go_meet
   case rel => exact ⟨400, by first | rfl | simp, ⟨by omega⟩, rfl⟩
  | false =>
   go_wp2
   go_meet
   case rel => exact ⟨L0, by first | rfl | simp | (rw [← hL0]; done) | (rw [← hL0]; rfl), HL0, rfl⟩
 case rest =>
  clear HL0 hL0 WZ
  obtain ⟨n, rfl, HN, rfl⟩ := hcut
  obtain ⟨HPP⟩ : Aside0 (Aside0 (0 ≤ p2 ∧ p2 ≤ 1004)) := ⟨HP2⟩
  obtain ⟨kn, P0, S0, en, hgn⟩ := qH HN.out
  have GD := av hgn
  have TT := av (spec_NewFree.calls kn n n P0 S0 true wc en)
  clear en hgn
  go_wp2_with (go_at_call 72; refine TT.out.mono ?_; (rintro e w3 ⟨v0, v1, rfl, hs, hr, hb⟩); (obtain ⟨A1, c1, rfl⟩ := Kd.bu hs); (obtain ⟨A2, c2, rfl⟩ := Kd.bu hr); (obtain ⟨W4, W5, hW4, hW5, y0, y1, y2, z0, z1, z2, V5, BL⟩ := eY w3 (.int .i64 n) (.slice A1 P0.length c1) (.slice A2 S0.length c2)); (have QI := av (show QB w0 w W5 g w.heap.size w3.heap.size l0 p2 q2 n A1 c1 P0 A2 c2 S0 from ⟨(I2.out.below hb).below BL.out, ay (ay Z2.out hb) BL.out, V5.out, Kd.bE (Kd.bq hs BL.out) (dI KB.out), Kd.bE (Kd.bq hr BL.out) (dI KB.out), aA (aA B2.out hb) BL.out, (KB.out.trans (bn.of_below hb g none) (.inl rfl)).trans (bn.of_below BL.out g none) (.inl rfl)⟩)); (have QX := av (show QC w0 w g w.heap.size w3.heap.size from ⟨GL.out.1, GL.out.2, Nat.le_refl _, Nat.le_trans (dI KB.out) hb.size, Nat.ne_of_lt (aG (ay Z2.out hb))⟩)); clear hs hr hb V5 BL TT)
  generalize w3.heap.size = gv at QI QX ⊢
  clear I2 B2 Z2 KB hW4 hW5 y0 y1 y2 z0 z1 z2
  clear HP2
  obtain ⟨a0, p3, q3, e1, ha0, ha1, hp2, hp3⟩ := dR HBY.out p2 q2 14 HPP.out.1 (by have := HPP.out; omega) (by omega)
  have TT := av (spec_l1Cur_pick.calls g l0 p2 q2 14 a0 p3 q3 w0 W5 QI.out.i QI.out.b e1)
  have HA := av (show 0 ≤ a0 ∧ a0 < 14 by omega)
  have HP1 := av (show 0 ≤ p3 ∧ p3 ≤ 1006 by have := HPP.out; omega)
  clear e1 ha0 ha1 hp2 hp3
  obtain ⟨m, hm⟩ : ∃ m : Int, n = m := ⟨_, rfl⟩
  rw [hm]
  replace HN := av (show 1 ≤ m ∧ m ≤ 400 by have := HN.out; omega)
  go_wp2_with (go_at_call 46; refine TT.out.mono ?_)
  rintro e w6 ⟨rfl, hI, hB, hK⟩
  replace QI := av (QI.out.cur QX.out hI hB hK)
  clear hI hB hK TT HPP
  obtain ⟨n0, rfl⟩ : ∃ n0 : Nat, a0 = (n0 : Int) := ⟨a0.toNat, by have := HA.out; omega⟩
  go_wp2
  go_loopw [6] (fun vi wr => ∃ (n : Nat) (p q b : Int) (A1 : Option Addr) (c1 : Nat) (P : List EL) (A2 : Option Addr) (c2 : Nat) (S : List EL), n ≤ 13 ∧ vi = .int .i64 n ∧ Aside0 (0 ≤ p ∧ p + 1000 * (n : Int) ≤ 100000) ∧ Aside0 (cZ b P S = true) ∧ Aside0 (QB w0 w wr g w.heap.size gv l0 p q b A1 c1 P A2 c2 S)) (fun vi _ => (intOf vi).toNat)
  case atStart => exact ⟨n0, p3, q3, n, A1, c1, P0, A2, c2, S0, by have := HA.out; omega, rfl, ⟨by have := HA.out; have := HP1.out; omega⟩, GD, QI⟩
  case round =>
   clear QI HP1 HA GD
   obtain ⟨n, p, q, b, A1, c1, P, A2, c2, S, hn, rfl, HPN, GD, B⟩ := hrel
   by_cases hn0 : 0 < n
   ·obtain ⟨n', rfl⟩ : ∃ n', n = n' + 1 := ⟨n - 1, by omega⟩
    have hnn : (0 < (((n' + 1 : Nat)) : Int)) = True := eq_true (by omega)
    have hnn2 : ((((n' + 1 : Nat)) : Int) > 0) = True := eq_true (by omega)
    obtain ⟨V1, V2, hV1, hV2, y0, y1, y2, z0, z1, z2, X, BL⟩ := eY wr (.int .i64 b) (.slice A1 P.length c1) (.slice A2 S.length c2)
    have XG := av (show w.heap.size ≤ wr.heap.size from dI B.out.k)
    have XZ := av (show w.heap.size ≠ wr.heap.size from Nat.ne_of_lt (aG B.out.z))
    have XV := av (show gv ≠ wr.heap.size from Nat.ne_of_lt (aG B.out.v))
    have k0 : wr.cell? ⟨gv, 0, none⟩ = some (.int .i64 b) := (ak B.out.v 0).trans rfl
    have k1 : wr.cell? ⟨gv, 1, none⟩ = some (.slice A1 P.length c1) := (ak B.out.v 1).trans rfl
    have k2 : wr.cell? ⟨gv, 2, none⟩ = some (.slice A2 S.length c2) := (ak B.out.v 2).trans rfl
    have XS := av (Kd.bq B.out.s BL.out)
    have XR := av (Kd.bq B.out.r BL.out)
    replace B := av (B.out.below BL.out)
    have HP := av (show 0 ≤ p ∧ p + 1000 * ((n' + 1 : Nat) : Int) ≤ 100000 from HPN.out)
    have HQ := av (show n' ≤ 12 by omega)
    have hn5 : n' ≤ 12 := HQ.out
    clear BL hn0 hn HPN XS XR
    obtain ⟨ob, p2, q2, e2, hp2, hp3⟩ := lU HBY.out p q 2 HP.out.1 (by have := HP.out; omega) (by omega)
    have TT := av (spec_l1Cur_one.calls g l0 p q 2 ob p2 q2 w0 V2 B.out.i B.out.b e2)
    replace HP := av (show 0 ≤ p2 ∧ p2 + 1000 * ((n' + 1 : Nat) : Int) ≤ 100002 by have := HP.out; omega)
    clear e2 hp2 hp3
    go_wp2_with (go_at_call 47; refine TT.out.mono ?_)
    rintro e w4 ⟨rfl, hI, hB, hK⟩
    replace X := av (hK.blk X.out (by have := QX.out.lt; have := XG.out; omega) (by simp))
    replace B := av (B.out.cur QX.out hI hB hK)
    clear hI hB hK TT
    clear k0 k1 k2 hV1 hV2 y0 y1 y2 z0 z1 z2
    go_upto_if 27 with (fail)
    (try simp only [apu_])
    generalize wr.heap.size = gx at X XG XZ XV ⊢
    go_cut [8] (fun v8 wx => ∃ (ob : Bool) (p q b' : Int) (A1' : Option Addr) (c1' : Nat) (P' : List EL) (A2' : Option Addr) (c2' : Nat) (S' : List EL), v8 = .bool ob ∧ Aside0 (0 ≤ p ∧ p + 1000 * ((n' + 1 : Nat) : Int) ≤ 100020) ∧ Aside0 (ob = true → cZ b' P' S' = true) ∧ Aside0 (QB w0 w wx g w.heap.size gv l0 p q b A1 c1 P A2 c2 S) ∧ Aside0 (wx.heap[gx]? = some (.cells #[.int .i64 b', .slice A1' P'.length c1', .slice A2' S'.length c2'] 24 (0, 0))) ∧ Aside0 (ES wx w.heap.size (fun k => some k ≠ (Value.slice A2' S'.length c2').ownBlock) (.slice A1' P'.length c1') P') ∧ Aside0 (ES wx w.heap.size (fun k => some k ≠ (Value.slice A1' P'.length c1').ownBlock) (.slice A2' S'.length c2') S'))
    case first =>
     cases ob with
     | true =>
      obtain ⟨x0, pp0, qq0, e_, ha0, ha1, hp2, hp3⟩ := dR HBY.out p2 q2 6 (by have := HP.out; omega) (by have := HP.out; omega) (by omega)
      have E0 := av e_
      have HB0 := av (show 0 ≤ pp0 ∧ pp0 + 1000 * ((n' + 1 : Nat) : Int) ≤ 100010 by have := HP.out; omega)
      clear e_ ha0 ha1 hp2 hp3
      obtain ⟨x1, pp1, qq1, e_, ha0, ha1, hp2, hp3⟩ := dR HBY.out pp0 qq0 4 (by exact HB0.out.1) (by have := HB0.out; omega) (by omega)
      have E1 := av e_
      have HB1 := av (show 0 ≤ pp1 ∧ pp1 + 1000 * ((n' + 1 : Nat) : Int) ≤ 100012 by have := HB0.out; omega)
      clear e_ ha0 ha1 hp2 hp3
      obtain ⟨x2, pp2, qq2, e_, ha0, ha1, hp2, hp3⟩ := dR HBY.out pp1 qq1 m (by exact HB1.out.1) (by have := HB1.out; omega) (by have := HN.out; omega)
      have E2 := av e_
      have HB2 := av (show 0 ≤ pp2 ∧ pp2 + 1000 * ((n' + 1 : Nat) : Int) ≤ 100014 by have := HB1.out; omega)
      clear e_ ha0 ha1 hp2 hp3
      obtain ⟨z0, hz0⟩ : ∃ z, wrap64 (1 + x0) = z := ⟨_, rfl⟩
      obtain ⟨z1, hz1⟩ : ∃ z, wrap64 (1 + x1) = z := ⟨_, rfl⟩
      obtain ⟨kk, b', P', S', ra, ob, e3, hsz⟩ := qh GD.out z0 z1 x2
      have E9 := av e3
      have HSZ2 := av hsz
      clear e3 hsz
      go_wp2
      refine dY (n := 17) (S := fun w' => w'.cell? ⟨gv, 0, none⟩ = some (.int .i64 b) ∧ w'.cell? ⟨gv, 1, none⟩ = some (.slice A1 P.length c1) ∧ w'.cell? ⟨gv, 2, none⟩ = some (.slice A2 S.length c2)) (ds := [15]) #[false, false, false, false, false, false, false, false, false, false, false, false, false, false, false, false, false] (by kernel_rfl) rfl rfl ⟨(ak B.out.v 0).trans rfl, (ak B.out.v 1).trans rfl, (ak B.out.v 2).trans rfl⟩ (fun hHeld => ?_)
      have BA := av (B.out.below (ai (Below.refl _ _)))
      have XA := av (aj X.out)
      generalize w4.drew = wa at BA XA hHeld ⊢
      clear B X
      refine bG (i := 0) (N := some 29) (v := ?_) (a' := ?_) #[true, false, false, false, false, false, false, false, false, false, false, false, false, false, false, false, false] rfl rfl (by kernel_rfl) (fun _ _ _ h => h) (Or.inl ⟨by rfl, ?_⟩) hHeld ?_ ?_
      rotate_left
      ·rintro w' ⟨s0, s1, s2⟩
       go_simp
       with_reducible rfl
      rotate_left
      ·simp only [apu_]
       rfl
      refine bG (i := 1) (N := some 30) (v := ?_) (a' := ?_) #[true, true, false, false, false, false, false, false, false, false, false, false, false, false, false, false, false] rfl rfl (by kernel_rfl) (fun _ _ _ h => h) (Or.inl ⟨by rfl, ?_⟩) hHeld ?_ ?_
      rotate_left
      ·rintro w' ⟨s0, s1, s2⟩
       go_simp
       with_reducible rfl
      rotate_left
      ·simp only [apu_]
       rfl
      refine bG (i := 4) (N := some 33) (v := ?_) (a' := ?_) #[true, true, false, false, true, false, false, false, false, false, false, false, false, false, false, false, false] rfl rfl (by kernel_rfl) (fun _ _ _ h => h) (Or.inl ⟨by rfl, ?_⟩) hHeld ?_ ?_
      rotate_left
      ·rintro w' ⟨s0, s1, s2⟩
       go_simp
       with_reducible rfl
      rotate_left
      ·simp only [apu_]
       rfl
      refine bG (i := 7) (N := some 36) (v := ?_) (a' := ?_) #[true, true, false, false, true, false, false, true, false, false, false, false, false, false, false, false, false] rfl rfl (by kernel_rfl) (fun _ _ _ h => h) (Or.inl ⟨by rfl, ?_⟩) hHeld ?_ ?_
      rotate_left
      ·rintro w' ⟨s0, s1, s2⟩
       go_simp
       with_reducible rfl
      rotate_left
      ·simp only [apu_]
       rfl
      refine bG (i := 8) (N := some 37) (v := ?_) (a' := ?_) #[true, true, false, false, true, false, false, true, true, false, false, false, false, false, false, false, false] rfl rfl (by kernel_rfl) (fun _ _ _ h => h) (Or.inl ⟨by rfl, ?_⟩) hHeld ?_ ?_
      rotate_left
      ·rintro w' ⟨s0, s1, s2⟩
       go_simp
       with_reducible rfl
      rotate_left
      ·simp only [apu_]
       rfl
      refine dG (i := 2) (N := some 31) #[true, true, true, false, true, false, false, true, true, false, false, false, false, false, false, false, false] rfl rfl (by kernel_rfl) (by decide) (fun K hK => ?_)
      refine cu Try.func46 (by kernel_rfl) rfl #[.pointer (some ⟨g, 0, none⟩), .int .i64 6] (by rfl) rfl rfl (by (try simp only [amp_]); first | done | rfl | (simp only [ald_]; rfl)) ?_
      refine (spec_l1Cur_pick.calls g l0 p2 q2 6 x0 pp0 qq0 w0 wa BA.out.i BA.out.b E0.out).mono ?_
      rintro e wp0 ⟨rfl, hI, hB, hK5⟩
      refine ⟨_, rfl, ?_⟩
      have XP0 := av (hK5.blk XA.out (by have := QX.out.lt; have := XG.out; omega) (by simp))
      have BP0 := av (BA.out.cur QX.out hI hB hK5)
      clear hI hB hK5 BA XA
      refine hK.out _ _ ⟨(ak BP0.out.v 0).trans rfl, (ak BP0.out.v 1).trans rfl, (ak BP0.out.v 2).trans rfl⟩ (fun hHeld => ?_)
      clear hK K
      refine bN (a' := ?_) ?_ ?_
      rotate_left
      ·show Act.put _ (some 31) _ = _
       simp only [apu_]
       rfl
      refine bG (i := 3) (N := some 32) (v := ?_) (a' := ?_) #[true, true, true, true, true, false, false, true, true, false, false, false, false, false, false, false, false] rfl rfl (by kernel_rfl) (fun _ _ _ h => h) (Or.inl ⟨by rfl, ?_⟩) hHeld ?_ ?_
      rotate_left
      ·rintro w' ⟨s0, s1, s2⟩
       go_simp
       with_reducible rfl
      rotate_left
      ·simp only [apu_]
       rfl
      try rw [hz0]
      refine dG (i := 5) (N := some 34) #[true, true, true, true, true, true, false, true, true, false, false, false, false, false, false, false, false] rfl rfl (by kernel_rfl) (by decide) (fun K hK => ?_)
      refine cu Try.func46 (by kernel_rfl) rfl #[.pointer (some ⟨g, 0, none⟩), .int .i64 4] (by rfl) rfl rfl (by (try simp only [amp_]); first | done | rfl | (simp only [ald_]; rfl)) ?_
      refine (spec_l1Cur_pick.calls g l0 pp0 qq0 4 x1 pp1 qq1 w0 wp0 BP0.out.i BP0.out.b E1.out).mono ?_
      rintro e wp1 ⟨rfl, hI, hB, hK5⟩
      refine ⟨_, rfl, ?_⟩
      have XP1 := av (hK5.blk XP0.out (by have := QX.out.lt; have := XG.out; omega) (by simp))
      have BP1 := av (BP0.out.cur QX.out hI hB hK5)
      clear hI hB hK5 BP0 XP0
      refine hK.out _ _ ⟨(ak BP1.out.v 0).trans rfl, (ak BP1.out.v 1).trans rfl, (ak BP1.out.v 2).trans rfl⟩ (fun hHeld => ?_)
      clear hK K
      refine bN (a' := ?_) ?_ ?_
      rotate_left
      ·show Act.put _ (some 34) _ = _
       simp only [apu_]
       rfl
      refine bG (i := 6) (N := some 35) (v := ?_) (a' := ?_) #[true, true, true, true, true, true, true, true, true, false, false, false, false, false, false, false, false] rfl rfl (by kernel_rfl) (fun _ _ _ h => h) (Or.inl ⟨by rfl, ?_⟩) hHeld ?_ ?_
      rotate_left
      ·rintro w' ⟨s0, s1, s2⟩
       go_simp
       with_reducible rfl
      rotate_left
      ·simp only [apu_]
       rfl
      try rw [hz1]
      refine dG (i := 9) (N := some 38) #[true, true, true, true, true, true, true, true, true, true, false, false, false, false, false, false, false] rfl rfl (by kernel_rfl) (by decide) (fun K hK => ?_)
      refine cu Try.func46 (by kernel_rfl) rfl #[.pointer (some ⟨g, 0, none⟩), .int .i64 m] (by rfl) rfl rfl (by (try simp only [amp_]); first | done | rfl | (simp only [ald_]; rfl)) ?_
      refine (spec_l1Cur_pick.calls g l0 pp1 qq1 m x2 pp2 qq2 w0 wp1 BP1.out.i BP1.out.b E2.out).mono ?_
      rintro e wp2 ⟨rfl, hI, hB, hK5⟩
      refine ⟨_, rfl, ?_⟩
      have XP2 := av (hK5.blk XP1.out (by have := QX.out.lt; have := XG.out; omega) (by simp))
      have BP2 := av (BP1.out.cur QX.out hI hB hK5)
      clear hI hB hK5 BP1 XP1
      refine hK.out _ _ ⟨(ak BP2.out.v 0).trans rfl, (ak BP2.out.v 1).trans rfl, (ak BP2.out.v 2).trans rfl⟩ (fun hHeld => ?_)
      clear hK K
      refine bN (a' := ?_) ?_ ?_
      rotate_left
      ·show Act.put _ (some 38) _ = _
       simp only [apu_]
       rfl
      refine dG (i := 10) (N := some 39) #[true, true, true, true, true, true, true, true, true, true, true, false, false, false, false, false, false] rfl rfl (by kernel_rfl) (by decide) (fun K hK => ?_)
      refine cu Try.func24 (by kernel_rfl) rfl #[.agg #[.int .i64 b, .slice A1 P.length c1, .slice A2 S.length c2], .int .i64 z0, .int .i64 z1, .int .i64 x2] (by rfl) rfl rfl (by (try simp only [amp_]); first | done | rfl | (simp only [ald_]; rfl)) ?_
      refine (spec_TakeRoom.calls kk b A1 c1 P A2 c2 S z0 z1 x2 b' P' S' ra ob wp2 (Kd.R_reads' BP2.out.s).2.2 (Kd.R_reads' BP2.out.s).2.1 (Kd.R_reads' BP2.out.r).2.2 (Kd.R_reads' BP2.out.r).2.1 E9.out).mono ?_
      rintro e w7 ⟨v0, v1, rfl, hs, hr, hb⟩
      refine ⟨_, rfl, ?_⟩
      obtain ⟨A1', c1', rfl⟩ := Kd.bu hs
      obtain ⟨A2', c2', rfl⟩ := Kd.bu hr
      have S7 := av (Kd.bE hs (dI BP2.out.k))
      have R7 := av (Kd.bE hr (dI BP2.out.k))
      have B7 := av (BP2.out.below hb)
      have X7 := av (ay XP2.out hb)
      clear hs hr hb BP2 XP2
      refine hK.out _ _ ⟨(ak B7.out.v 0).trans rfl, (ak B7.out.v 1).trans rfl, (ak B7.out.v 2).trans rfl⟩ (fun hHeld => ?_)
      clear hK K
      refine bN (a' := ?_) ?_ ?_
      rotate_left
      ·show Act.put _ (some 39) _ = _
       simp only [apu_]
       rfl
      refine aQ (i := 11) (N := some 28) (v := ?_) (a' := ?_) #[true, true, true, true, true, true, true, true, true, true, true, true, false, false, false, false, false] rfl rfl (by kernel_rfl) (fun _ _ _ h => h) (Or.inl ⟨by rfl, ?_⟩) ?_ ?_
      rotate_left
      ·intro w'
       go_simp
       with_reducible rfl
      rotate_left
      ·simp only [apu_]
       rfl
      refine aQ (i := 12) (N := some 40) (v := ?_) (a' := ?_) #[true, true, true, true, true, true, true, true, true, true, true, true, true, false, false, false, false] rfl rfl (by kernel_rfl) (fun _ _ _ h => h) (Or.inl ⟨by rfl, ?_⟩) ?_ ?_
      rotate_left
      ·intro w'
       go_simp
       with_reducible rfl
      rotate_left
      ·simp only [apu_]
       rfl
      refine aQ (i := 13) (N := some 41) (v := ?_) (a' := ?_) #[true, true, true, true, true, true, true, true, true, true, true, true, true, true, false, false, false] rfl rfl (by kernel_rfl) (fun _ _ _ h => h) (Or.inl ⟨by rfl, ?_⟩) ?_ ?_
      rotate_left
      ·intro w'
       go_simp
       with_reducible rfl
      rotate_left
      ·simp only [apu_]
       rfl
      refine aQ (i := 14) (N := some 42) (v := ?_) (a' := ?_) #[true, true, true, true, true, true, true, true, true, true, true, true, true, true, true, false, false] rfl rfl (by kernel_rfl) (fun _ _ _ h => h) (Or.inl ⟨by rfl, ?_⟩) ?_ ?_
      rotate_left
      ·intro w'
       go_simp
       with_reducible rfl
      rotate_left
      ·simp only [apu_]
       rfl
      have x0_ : w7.cell? ⟨gx, 0, none⟩ = some (.int .i64 b) := (ak X7.out 0).trans rfl
      have x1_ : w7.cell? ⟨gx, 1, none⟩ = some (.slice A1 P.length c1) := (ak X7.out 1).trans rfl
      have x2_ : w7.cell? ⟨gx, 2, none⟩ = some (.slice A2 S.length c2) := (ak X7.out 2).trans rfl
      have y0 := au X7.out 0
      have y1 := au X7.out 1
      have y2 := au X7.out 2
      refine ll (i := 15) (N := none) #[true, true, true, true, true, true, true, true, true, true, true, true, true, true, true, true, false] rfl rfl (by kernel_rfl) (by decide) (fun K hK => ?_)
      refine jF (w1 := ((w7.setCell ⟨gx, 0, none⟩ (.int .i64 b')).setCell ⟨gx, 1, none⟩ (.slice A1' P'.length c1')).setCell ⟨gx, 2, none⟩ (.slice A2' S'.length c2')) (by rfl) rfl ?_ ?_
      ·first | (go_simp; done) | (go_simp; rfl)
      refine hK.out _ _ ?_
      clear hK K x0_ x1_ x2_ y0 y1 y2
      refine aQ (i := 16) (N := some 8) (v := ?_) (a' := ?_) #[true, true, true, true, true, true, true, true, true, true, true, true, true, true, true, true, true] rfl rfl (by kernel_rfl) (fun _ _ _ h => h) (Or.inl ⟨by rfl, ?_⟩) ?_ ?_
      rotate_left
      ·intro w'
       go_simp
       with_reducible rfl
      rotate_left
      ·simp only [apu_]
       rfl
      refine eZ (by kernel_rfl) ?_
      clear hHeld
      have X8 := av (fK X7.out (.int .i64 b') (.slice A1' P'.length c1') (.slice A2' S'.length c2'))
      have B8 := av (B7.out.box3 QX.out X7.out XG.out XZ.out XV.out (.int .i64 b') (.slice A1' P'.length c1') (.slice A2' S'.length c2'))
      have S8 := av (fJ (x := .int .i64 b') (y := .slice A1' P'.length c1') (z := .slice A2' S'.length c2') S7.out X7.out)
      have R8 := av (fJ (x := .int .i64 b') (y := .slice A1' P'.length c1') (z := .slice A2' S'.length c2') R7.out X7.out)
      generalize ((w7.setCell ⟨gx, 0, none⟩ (.int .i64 b')).setCell ⟨gx, 1, none⟩ (.slice A1' P'.length c1')).setCell ⟨gx, 2, none⟩ (.slice A2' S'.length c2') = w8 at X8 B8 S8 R8 ⊢
      clear X7 B7 S7 R7
      try go_wp2
      go_meet
      case rel => exact ⟨ob, pp2, qq2, b', A1', c1', P', A2', c2', S', by first | rfl | simp, ⟨by have := HB2.out; omega⟩, HSZ2, B8, X8, S8, R8⟩
     | false =>
      obtain ⟨ob, p3, q3, e2, hp2, hp3⟩ := lU HBY.out p2 q2 2 HP.out.1 (by have := HP.out; omega) (by omega)
      have TT := av (spec_l1Cur_one.calls g l0 p2 q2 2 ob p3 q3 w0 w4 B.out.i B.out.b e2)
      replace HP := av (show 0 ≤ p3 ∧ p3 + 1000 * ((n' + 1 : Nat) : Int) ≤ 100004 by have := HP.out; omega)
      clear e2 hp2 hp3
      go_wp2_with (go_at_call 47; refine TT.out.mono ?_)
      rintro e w5 ⟨rfl, hI, hB, hK⟩
      replace X := av (hK.blk X.out (by have := QX.out.lt; have := XG.out; omega) (by simp))
      replace B := av (B.out.cur QX.out hI hB hK)
      clear hI hB hK TT
      cases ob with
      | true =>
       obtain ⟨x0, pp0, qq0, e_, ha0, ha1, hp2, hp3⟩ := dR HBY.out p3 q3 m (by have := HP.out; omega) (by have := HP.out; omega) (by have := HN.out; omega)
       have E0 := av e_
       have HB0 := av (show 0 ≤ pp0 ∧ pp0 + 1000 * ((n' + 1 : Nat) : Int) ≤ 100010 by have := HP.out; omega)
       clear e_ ha0 ha1 hp2 hp3
       obtain ⟨x1, pp1, qq1, e_, ha0, ha1, hp2, hp3⟩ := dR HBY.out pp0 qq0 4 (by exact HB0.out.1) (by have := HB0.out; omega) (by omega)
       have E1 := av e_
       have HB1 := av (show 0 ≤ pp1 ∧ pp1 + 1000 * ((n' + 1 : Nat) : Int) ≤ 100012 by have := HB0.out; omega)
       clear e_ ha0 ha1 hp2 hp3
       obtain ⟨z1, hz1⟩ : ∃ z, wrap64 (1 + x1) = z := ⟨_, rfl⟩
       obtain ⟨kk, b', P', S', ob, e3, hsz⟩ := oL GD.out x0 z1
       have E9 := av e3
       have HSZ2 := av hsz
       clear e3 hsz
       go_wp2
       refine dY (n := 14) (S := fun w' => w'.cell? ⟨gv, 0, none⟩ = some (.int .i64 b) ∧ w'.cell? ⟨gv, 1, none⟩ = some (.slice A1 P.length c1) ∧ w'.cell? ⟨gv, 2, none⟩ = some (.slice A2 S.length c2)) (ds := [12]) #[false, false, false, false, false, false, false, false, false, false, false, false, false, false] (by kernel_rfl) rfl rfl ⟨(ak B.out.v 0).trans rfl, (ak B.out.v 1).trans rfl, (ak B.out.v 2).trans rfl⟩ (fun hHeld => ?_)
       have BA := av (B.out.below (ai (Below.refl _ _)))
       have XA := av (aj X.out)
       generalize w5.drew = wa at BA XA hHeld ⊢
       clear B X
       refine bG (i := 0) (N := some 46) (v := ?_) (a' := ?_) #[true, false, false, false, false, false, false, false, false, false, false, false, false, false] rfl rfl (by kernel_rfl) (fun _ _ _ h => h) (Or.inl ⟨by rfl, ?_⟩) hHeld ?_ ?_
       rotate_left
       ·rintro w' ⟨s0, s1, s2⟩
        go_simp
        with_reducible rfl
       rotate_left
       ·simp only [apu_]
        rfl
       refine bG (i := 1) (N := some 47) (v := ?_) (a' := ?_) #[true, true, false, false, false, false, false, false, false, false, false, false, false, false] rfl rfl (by kernel_rfl) (fun _ _ _ h => h) (Or.inl ⟨by rfl, ?_⟩) hHeld ?_ ?_
       rotate_left
       ·rintro w' ⟨s0, s1, s2⟩
        go_simp
        with_reducible rfl
       rotate_left
       ·simp only [apu_]
        rfl
       refine bG (i := 2) (N := some 48) (v := ?_) (a' := ?_) #[true, true, true, false, false, false, false, false, false, false, false, false, false, false] rfl rfl (by kernel_rfl) (fun _ _ _ h => h) (Or.inl ⟨by rfl, ?_⟩) hHeld ?_ ?_
       rotate_left
       ·rintro w' ⟨s0, s1, s2⟩
        go_simp
        with_reducible rfl
       rotate_left
       ·simp only [apu_]
        rfl
       refine bG (i := 4) (N := some 50) (v := ?_) (a' := ?_) #[true, true, true, false, true, false, false, false, false, false, false, false, false, false] rfl rfl (by kernel_rfl) (fun _ _ _ h => h) (Or.inl ⟨by rfl, ?_⟩) hHeld ?_ ?_
       rotate_left
       ·rintro w' ⟨s0, s1, s2⟩
        go_simp
        with_reducible rfl
       rotate_left
       ·simp only [apu_]
        rfl
       refine dG (i := 3) (N := some 49) #[true, true, true, true, true, false, false, false, false, false, false, false, false, false] rfl rfl (by kernel_rfl) (by decide) (fun K hK => ?_)
       refine cu Try.func46 (by kernel_rfl) rfl #[.pointer (some ⟨g, 0, none⟩), .int .i64 m] (by rfl) rfl rfl (by (try simp only [amp_]); first | done | rfl | (simp only [ald_]; rfl)) ?_
       refine (spec_l1Cur_pick.calls g l0 p3 q3 m x0 pp0 qq0 w0 wa BA.out.i BA.out.b E0.out).mono ?_
       rintro e wp0 ⟨rfl, hI, hB, hK5⟩
       refine ⟨_, rfl, ?_⟩
       have XP0 := av (hK5.blk XA.out (by have := QX.out.lt; have := XG.out; omega) (by simp))
       have BP0 := av (BA.out.cur QX.out hI hB hK5)
       clear hI hB hK5 BA XA
       refine hK.out _ _ ⟨(ak BP0.out.v 0).trans rfl, (ak BP0.out.v 1).trans rfl, (ak BP0.out.v 2).trans rfl⟩ (fun hHeld => ?_)
       clear hK K
       refine bN (a' := ?_) ?_ ?_
       rotate_left
       ·show Act.put _ (some 49) _ = _
        simp only [apu_]
        rfl
       refine dG (i := 5) (N := some 51) #[true, true, true, true, true, true, false, false, false, false, false, false, false, false] rfl rfl (by kernel_rfl) (by decide) (fun K hK => ?_)
       refine cu Try.func46 (by kernel_rfl) rfl #[.pointer (some ⟨g, 0, none⟩), .int .i64 4] (by rfl) rfl rfl (by (try simp only [amp_]); first | done | rfl | (simp only [ald_]; rfl)) ?_
       refine (spec_l1Cur_pick.calls g l0 pp0 qq0 4 x1 pp1 qq1 w0 wp0 BP0.out.i BP0.out.b E1.out).mono ?_
       rintro e wp1 ⟨rfl, hI, hB, hK5⟩
       refine ⟨_, rfl, ?_⟩
       have XP1 := av (hK5.blk XP0.out (by have := QX.out.lt; have := XG.out; omega) (by simp))
       have BP1 := av (BP0.out.cur QX.out hI hB hK5)
       clear hI hB hK5 BP0 XP0
       refine hK.out _ _ ⟨(ak BP1.out.v 0).trans rfl, (ak BP1.out.v 1).trans rfl, (ak BP1.out.v 2).trans rfl⟩ (fun hHeld => ?_)
       clear hK K
       refine bN (a' := ?_) ?_ ?_
       rotate_left
       ·show Act.put _ (some 51) _ = _
        simp only [apu_]
        rfl
       refine bG (i := 6) (N := some 52) (v := ?_) (a' := ?_) #[true, true, true, true, true, true, true, false, false, false, false, false, false, false] rfl rfl (by kernel_rfl) (fun _ _ _ h => h) (Or.inl ⟨by rfl, ?_⟩) hHeld ?_ ?_
       rotate_left
       ·rintro w' ⟨s0, s1, s2⟩
        go_simp
        with_reducible rfl
       rotate_left
       ·simp only [apu_]
        rfl
       try rw [hz1]
       refine bG (i := 7) (N := some 53) (v := ?_) (a' := ?_) #[true, true, true, true, true, true, true, true, false, false, false, false, false, false] rfl rfl (by kernel_rfl) (fun _ _ _ h => h) (Or.inl ⟨by rfl, ?_⟩) hHeld ?_ ?_
       rotate_left
       ·rintro w' ⟨s0, s1, s2⟩
        go_simp
        with_reducible rfl
       rotate_left
       ·simp only [apu_]
        rfl
       refine dG (i := 8) (N := some 54) #[true, true, true, true, true, true, true, true, true, false, false, false, false, false] rfl rfl (by kernel_rfl) (by decide) (fun K hK => ?_)
       refine cu Try.func31 (by kernel_rfl) rfl #[.agg #[.int .i64 b, .slice A1 P.length c1, .slice A2 S.length c2], .agg #[.int .i64 x0, .int .i64 z1]] (by rfl) rfl rfl (by (try simp only [amp_]); first | done | rfl | (simp only [ald_]; rfl)) ?_
       refine (spec_TakeExact.calls kk b A1 c1 P A2 c2 S x0 z1 b' P' S' ob wp1 (Kd.R_reads' BP1.out.s).2.2 (Kd.R_reads' BP1.out.s).2.1 (Kd.R_reads' BP1.out.r).2.2 (Kd.R_reads' BP1.out.r).2.1 E9.out).mono ?_
       rintro e w7 ⟨v0, v1, rfl, hs, hr, hb⟩
       refine ⟨_, rfl, ?_⟩
       obtain ⟨A1', c1', rfl⟩ := Kd.bu hs
       obtain ⟨A2', c2', rfl⟩ := Kd.bu hr
       have S7 := av (Kd.bE hs (dI BP1.out.k))
       have R7 := av (Kd.bE hr (dI BP1.out.k))
       have B7 := av (BP1.out.below hb)
       have X7 := av (ay XP1.out hb)
       clear hs hr hb BP1 XP1
       refine hK.out _ _ ⟨(ak B7.out.v 0).trans rfl, (ak B7.out.v 1).trans rfl, (ak B7.out.v 2).trans rfl⟩ (fun hHeld => ?_)
       clear hK K
       refine bN (a' := ?_) ?_ ?_
       rotate_left
       ·show Act.put _ (some 54) _ = _
        simp only [apu_]
        rfl
       refine aQ (i := 9) (N := some 45) (v := ?_) (a' := ?_) #[true, true, true, true, true, true, true, true, true, true, false, false, false, false] rfl rfl (by kernel_rfl) (fun _ _ _ h => h) (Or.inl ⟨by rfl, ?_⟩) ?_ ?_
       rotate_left
       ·intro w'
        go_simp
        with_reducible rfl
       rotate_left
       ·simp only [apu_]
        rfl
       refine aQ (i := 10) (N := some 55) (v := ?_) (a' := ?_) #[true, true, true, true, true, true, true, true, true, true, true, false, false, false] rfl rfl (by kernel_rfl) (fun _ _ _ h => h) (Or.inl ⟨by rfl, ?_⟩) ?_ ?_
       rotate_left
       ·intro w'
        go_simp
        with_reducible rfl
       rotate_left
       ·simp only [apu_]
        rfl
       refine aQ (i := 11) (N := some 56) (v := ?_) (a' := ?_) #[true, true, true, true, true, true, true, true, true, true, true, true, false, false] rfl rfl (by kernel_rfl) (fun _ _ _ h => h) (Or.inl ⟨by rfl, ?_⟩) ?_ ?_
       rotate_left
       ·intro w'
        go_simp
        with_reducible rfl
       rotate_left
       ·simp only [apu_]
        rfl
       have x0_ : w7.cell? ⟨gx, 0, none⟩ = some (.int .i64 b) := (ak X7.out 0).trans rfl
       have x1_ : w7.cell? ⟨gx, 1, none⟩ = some (.slice A1 P.length c1) := (ak X7.out 1).trans rfl
       have x2_ : w7.cell? ⟨gx, 2, none⟩ = some (.slice A2 S.length c2) := (ak X7.out 2).trans rfl
       have y0 := au X7.out 0
       have y1 := au X7.out 1
       have y2 := au X7.out 2
       refine ll (i := 12) (N := none) #[true, true, true, true, true, true, true, true, true, true, true, true, true, false] rfl rfl (by kernel_rfl) (by decide) (fun K hK => ?_)
       refine jF (w1 := ((w7.setCell ⟨gx, 0, none⟩ (.int .i64 b')).setCell ⟨gx, 1, none⟩ (.slice A1' P'.length c1')).setCell ⟨gx, 2, none⟩ (.slice A2' S'.length c2')) (by rfl) rfl ?_ ?_
       ·first | (go_simp; done) | (go_simp; rfl)
       refine hK.out _ _ ?_
       clear hK K x0_ x1_ x2_ y0 y1 y2
       refine aQ (i := 13) (N := some 8) (v := ?_) (a' := ?_) #[true, true, true, true, true, true, true, true, true, true, true, true, true, true] rfl rfl (by kernel_rfl) (fun _ _ _ h => h) (Or.inl ⟨by rfl, ?_⟩) ?_ ?_
       rotate_left
       ·intro w'
        go_simp
        with_reducible rfl
       rotate_left
       ·simp only [apu_]
        rfl
       refine eZ (by kernel_rfl) ?_
       clear hHeld
       have X8 := av (fK X7.out (.int .i64 b') (.slice A1' P'.length c1') (.slice A2' S'.length c2'))
       have B8 := av (B7.out.box3 QX.out X7.out XG.out XZ.out XV.out (.int .i64 b') (.slice A1' P'.length c1') (.slice A2' S'.length c2'))
       have S8 := av (fJ (x := .int .i64 b') (y := .slice A1' P'.length c1') (z := .slice A2' S'.length c2') S7.out X7.out)
       have R8 := av (fJ (x := .int .i64 b') (y := .slice A1' P'.length c1') (z := .slice A2' S'.length c2') R7.out X7.out)
       generalize ((w7.setCell ⟨gx, 0, none⟩ (.int .i64 b')).setCell ⟨gx, 1, none⟩ (.slice A1' P'.length c1')).setCell ⟨gx, 2, none⟩ (.slice A2' S'.length c2') = w8 at X8 B8 S8 R8 ⊢
       clear X7 B7 S7 R7
       try go_wp2
       go_meet
       case rel => exact ⟨ob, pp1, qq1, b', A1', c1', P', A2', c2', S', by first | rfl | simp, ⟨by have := HB1.out; omega⟩, HSZ2, B8, X8, S8, R8⟩
      | false =>
       obtain ⟨x0, pp0, qq0, e_, ha0, ha1, hp2, hp3⟩ := dR HBY.out p3 q3 m (by have := HP.out; omega) (by have := HP.out; omega) (by have := HN.out; omega)
       have E0 := av e_
       have HB0 := av (show 0 ≤ pp0 ∧ pp0 + 1000 * ((n' + 1 : Nat) : Int) ≤ 100010 by have := HP.out; omega)
       clear e_ ha0 ha1 hp2 hp3
       obtain ⟨x1, pp1, qq1, e_, ha0, ha1, hp2, hp3⟩ := dR HBY.out pp0 qq0 4 (by exact HB0.out.1) (by have := HB0.out; omega) (by omega)
       have E1 := av e_
       have HB1 := av (show 0 ≤ pp1 ∧ pp1 + 1000 * ((n' + 1 : Nat) : Int) ≤ 100012 by have := HB0.out; omega)
       clear e_ ha0 ha1 hp2 hp3
       obtain ⟨z1, hz1⟩ : ∃ z, wrap64 (1 + x1) = z := ⟨_, rfl⟩
       obtain ⟨kk, b', P', S', ob, e3, hsz⟩ := qw GD.out x0 z1
       have E9 := av e3
       have HSZ2 := av hsz
       clear e3 hsz
       go_wp2
       refine dY (n := 14) (S := fun w' => w'.cell? ⟨gv, 0, none⟩ = some (.int .i64 b) ∧ w'.cell? ⟨gv, 1, none⟩ = some (.slice A1 P.length c1) ∧ w'.cell? ⟨gv, 2, none⟩ = some (.slice A2 S.length c2)) (ds := [12]) #[false, false, false, false, false, false, false, false, false, false, false, false, false, false] (by kernel_rfl) rfl rfl ⟨(ak B.out.v 0).trans rfl, (ak B.out.v 1).trans rfl, (ak B.out.v 2).trans rfl⟩ (fun hHeld => ?_)
       have BA := av (B.out.below (ai (Below.refl _ _)))
       have XA := av (aj X.out)
       generalize w5.drew = wa at BA XA hHeld ⊢
       clear B X
       refine bG (i := 0) (N := some 58) (v := ?_) (a' := ?_) #[true, false, false, false, false, false, false, false, false, false, false, false, false, false] rfl rfl (by kernel_rfl) (fun _ _ _ h => h) (Or.inl ⟨by rfl, ?_⟩) hHeld ?_ ?_
       rotate_left
       ·rintro w' ⟨s0, s1, s2⟩
        go_simp
        with_reducible rfl
       rotate_left
       ·simp only [apu_]
        rfl
       refine bG (i := 1) (N := some 59) (v := ?_) (a' := ?_) #[true, true, false, false, false, false, false, false, false, false, false, false, false, false] rfl rfl (by kernel_rfl) (fun _ _ _ h => h) (Or.inl ⟨by rfl, ?_⟩) hHeld ?_ ?_
       rotate_left
       ·rintro w' ⟨s0, s1, s2⟩
        go_simp
        with_reducible rfl
       rotate_left
       ·simp only [apu_]
        rfl
       refine bG (i := 2) (N := some 60) (v := ?_) (a' := ?_) #[true, true, true, false, false, false, false, false, false, false, false, false, false, false] rfl rfl (by kernel_rfl) (fun _ _ _ h => h) (Or.inl ⟨by rfl, ?_⟩) hHeld ?_ ?_
       rotate_left
       ·rintro w' ⟨s0, s1, s2⟩
        go_simp
        with_reducible rfl
       rotate_left
       ·simp only [apu_]
        rfl
       refine bG (i := 4) (N := some 62) (v := ?_) (a' := ?_) #[true, true, true, false, true, false, false, false, false, false, false, false, false, false] rfl rfl (by kernel_rfl) (fun _ _ _ h => h) (Or.inl ⟨by rfl, ?_⟩) hHeld ?_ ?_
       rotate_left
       ·rintro w' ⟨s0, s1, s2⟩
        go_simp
        with_reducible rfl
       rotate_left
       ·simp only [apu_]
        rfl
       refine dG (i := 3) (N := some 61) #[true, true, true, true, true, false, false, false, false, false, false, false, false, false] rfl rfl (by kernel_rfl) (by decide) (fun K hK => ?_)
       refine cu Try.func46 (by kernel_rfl) rfl #[.pointer (some ⟨g, 0, none⟩), .int .i64 m] (by rfl) rfl rfl (by (try simp only [amp_]); first | done | rfl | (simp only [ald_]; rfl)) ?_
       refine (spec_l1Cur_pick.calls g l0 p3 q3 m x0 pp0 qq0 w0 wa BA.out.i BA.out.b E0.out).mono ?_
       rintro e wp0 ⟨rfl, hI, hB, hK5⟩
       refine ⟨_, rfl, ?_⟩
       have XP0 := av (hK5.blk XA.out (by have := QX.out.lt; have := XG.out; omega) (by simp))
       have BP0 := av (BA.out.cur QX.out hI hB hK5)
       clear hI hB hK5 BA XA
       refine hK.out _ _ ⟨(ak BP0.out.v 0).trans rfl, (ak BP0.out.v 1).trans rfl, (ak BP0.out.v 2).trans rfl⟩ (fun hHeld => ?_)
       clear hK K
       refine bN (a' := ?_) ?_ ?_
       rotate_left
       ·show Act.put _ (some 61) _ = _
        simp only [apu_]
        rfl
       refine dG (i := 5) (N := some 63) #[true, true, true, true, true, true, false, false, false, false, false, false, false, false] rfl rfl (by kernel_rfl) (by decide) (fun K hK => ?_)
       refine cu Try.func46 (by kernel_rfl) rfl #[.pointer (some ⟨g, 0, none⟩), .int .i64 4] (by rfl) rfl rfl (by (try simp only [amp_]); first | done | rfl | (simp only [ald_]; rfl)) ?_
       refine (spec_l1Cur_pick.calls g l0 pp0 qq0 4 x1 pp1 qq1 w0 wp0 BP0.out.i BP0.out.b E1.out).mono ?_
       rintro e wp1 ⟨rfl, hI, hB, hK5⟩
       refine ⟨_, rfl, ?_⟩
       have XP1 := av (hK5.blk XP0.out (by have := QX.out.lt; have := XG.out; omega) (by simp))
       have BP1 := av (BP0.out.cur QX.out hI hB hK5)
       clear hI hB hK5 BP0 XP0
       refine hK.out _ _ ⟨(ak BP1.out.v 0).trans rfl, (ak BP1.out.v 1).trans rfl, (ak BP1.out.v 2).trans rfl⟩ (fun hHeld => ?_)
       clear hK K
       refine bN (a' := ?_) ?_ ?_
       rotate_left
       ·show Act.put _ (some 63) _ = _
        simp only [apu_]
        rfl
       refine bG (i := 6) (N := some 64) (v := ?_) (a' := ?_) #[true, true, true, true, true, true, true, false, false, false, false, false, false, false] rfl rfl (by kernel_rfl) (fun _ _ _ h => h) (Or.inl ⟨by rfl, ?_⟩) hHeld ?_ ?_
       rotate_left
       ·rintro w' ⟨s0, s1, s2⟩
        go_simp
        with_reducible rfl
       rotate_left
       ·simp only [apu_]
        rfl
       try rw [hz1]
       refine bG (i := 7) (N := some 65) (v := ?_) (a' := ?_) #[true, true, true, true, true, true, true, true, false, false, false, false, false, false] rfl rfl (by kernel_rfl) (fun _ _ _ h => h) (Or.inl ⟨by rfl, ?_⟩) hHeld ?_ ?_
       rotate_left
       ·rintro w' ⟨s0, s1, s2⟩
        go_simp
        with_reducible rfl
       rotate_left
       ·simp only [apu_]
        rfl
       refine dG (i := 8) (N := some 66) #[true, true, true, true, true, true, true, true, true, false, false, false, false, false] rfl rfl (by kernel_rfl) (by decide) (fun K hK => ?_)
       refine cu Try.func14 (by kernel_rfl) rfl #[.agg #[.int .i64 b, .slice A1 P.length c1, .slice A2 S.length c2], .agg #[.int .i64 x0, .int .i64 z1]] (by rfl) rfl rfl (by (try simp only [amp_]); first | done | rfl | (simp only [ald_]; rfl)) ?_
       refine (spec_GiveRoom.calls kk b A1 c1 P A2 c2 S x0 z1 b' P' S' ob wp1 (Kd.R_reads' BP1.out.s).2.2 (Kd.R_reads' BP1.out.s).2.1 (Kd.R_reads' BP1.out.r).2.2 (Kd.R_reads' BP1.out.r).2.1 E9.out).mono ?_
       rintro e w7 ⟨v0, v1, rfl, hs, hr, hb⟩
       refine ⟨_, rfl, ?_⟩
       obtain ⟨A1', c1', rfl⟩ := Kd.bu hs
       obtain ⟨A2', c2', rfl⟩ := Kd.bu hr
       have S7 := av (Kd.bE hs (dI BP1.out.k))
       have R7 := av (Kd.bE hr (dI BP1.out.k))
       have B7 := av (BP1.out.below hb)
       have X7 := av (ay XP1.out hb)
       clear hs hr hb BP1 XP1
       refine hK.out _ _ ⟨(ak B7.out.v 0).trans rfl, (ak B7.out.v 1).trans rfl, (ak B7.out.v 2).trans rfl⟩ (fun hHeld => ?_)
       clear hK K
       refine bN (a' := ?_) ?_ ?_
       rotate_left
       ·show Act.put _ (some 66) _ = _
        simp only [apu_]
        rfl
       refine aQ (i := 9) (N := some 57) (v := ?_) (a' := ?_) #[true, true, true, true, true, true, true, true, true, true, false, false, false, false] rfl rfl (by kernel_rfl) (fun _ _ _ h => h) (Or.inl ⟨by rfl, ?_⟩) ?_ ?_
       rotate_left
       ·intro w'
        go_simp
        with_reducible rfl
       rotate_left
       ·simp only [apu_]
        rfl
       refine aQ (i := 10) (N := some 67) (v := ?_) (a' := ?_) #[true, true, true, true, true, true, true, true, true, true, true, false, false, false] rfl rfl (by kernel_rfl) (fun _ _ _ h => h) (Or.inl ⟨by rfl, ?_⟩) ?_ ?_
       rotate_left
       ·intro w'
        go_simp
        with_reducible rfl
       rotate_left
       ·simp only [apu_]
        rfl
       refine aQ (i := 11) (N := some 68) (v := ?_) (a' := ?_) #[true, true, true, true, true, true, true, true, true, true, true, true, false, false] rfl rfl (by kernel_rfl) (fun _ _ _ h => h) (Or.inl ⟨by rfl, ?_⟩) ?_ ?_
       rotate_left
       ·intro w'
        go_simp
        with_reducible rfl
       rotate_left
       ·simp only [apu_]
        rfl
       have x0_ : w7.cell? ⟨gx, 0, none⟩ = some (.int .i64 b) := (ak X7.out 0).trans rfl
       have x1_ : w7.cell? ⟨gx, 1, none⟩ = some (.slice A1 P.length c1) := (ak X7.out 1).trans rfl
       have x2_ : w7.cell? ⟨gx, 2, none⟩ = some (.slice A2 S.length c2) := (ak X7.out 2).trans rfl
       have y0 := au X7.out 0
       have y1 := au X7.out 1
       have y2 := au X7.out 2
       refine ll (i := 12) (N := none) #[true, true, true, true, true, true, true, true, true, true, true, true, true, false] rfl rfl (by kernel_rfl) (by decide) (fun K hK => ?_)
       refine jF (w1 := ((w7.setCell ⟨gx, 0, none⟩ (.int .i64 b')).setCell ⟨gx, 1, none⟩ (.slice A1' P'.length c1')).setCell ⟨gx, 2, none⟩ (.slice A2' S'.length c2')) (by rfl) rfl ?_ ?_
       ·first | (go_simp; done) | (go_simp; rfl)
       refine hK.out _ _ ?_
       clear hK K x0_ x1_ x2_ y0 y1 y2
       refine aQ (i := 13) (N := some 8) (v := ?_) (a' := ?_) #[true, true, true, true, true, true, true, true, true, true, true, true, true, true] rfl rfl (by kernel_rfl) (fun _ _ _ h => h) (Or.inl ⟨by rfl, ?_⟩) ?_ ?_
       rotate_left
       ·intro w'
        go_simp
        with_reducible rfl
       rotate_left
       ·simp only [apu_]
        rfl
       refine eZ (by kernel_rfl) ?_
       clear hHeld
       have X8 := av (fK X7.out (.int .i64 b') (.slice A1' P'.length c1') (.slice A2' S'.length c2'))
       have B8 := av (B7.out.box3 QX.out X7.out XG.out XZ.out XV.out (.int .i64 b') (.slice A1' P'.length c1') (.slice A2' S'.length c2'))
       have S8 := av (fJ (x := .int .i64 b') (y := .slice A1' P'.length c1') (z := .slice A2' S'.length c2') S7.out X7.out)
       have R8 := av (fJ (x := .int .i64 b') (y := .slice A1' P'.length c1') (z := .slice A2' S'.length c2') R7.out X7.out)
       generalize ((w7.setCell ⟨gx, 0, none⟩ (.int .i64 b')).setCell ⟨gx, 1, none⟩ (.slice A1' P'.length c1')).setCell ⟨gx, 2, none⟩ (.slice A2' S'.length c2') = w8 at X8 B8 S8 R8 ⊢
       clear X7 B7 S7 R7
       try go_wp2
       go_meet
       case rel => exact ⟨ob, pp1, qq1, b', A1', c1', P', A2', c2', S', by first | rfl | simp, ⟨by have := HB1.out; omega⟩, HSZ2, B8, X8, S8, R8⟩
    case rest =>
     clear B X HP
     obtain ⟨ob, p, q, b', A1', c1', P', A2', c2', S', rfl, HP, HG, B, X, XS, XR⟩ := hcut
     have h0 : wc.cell? ⟨gv, 0, none⟩ = some (.int .i64 b) := (ak B.out.v 0).trans rfl
     have h1 : wc.cell? ⟨gv, 1, none⟩ = some (.slice A1 P.length c1) := (ak B.out.v 1).trans rfl
     have h2 : wc.cell? ⟨gv, 2, none⟩ = some (.slice A2 S.length c2) := (ak B.out.v 2).trans rfl
     have j0 := au B.out.v 0
     have j1 := au B.out.v 1
     have j2 := au B.out.v 2
     have g0 : wc.cell? ⟨gx, 0, none⟩ = some (.int .i64 b') := (ak X.out 0).trans rfl
     have g1 : wc.cell? ⟨gx, 1, none⟩ = some (.slice A1' P'.length c1') := (ak X.out 1).trans rfl
     have g2 : wc.cell? ⟨gx, 2, none⟩ = some (.slice A2' S'.length c2') := (ak X.out 2).trans rfl
     cases ob with
     | true =>
      have B9 := av (B.out.move (b' := b') QX.out XS.out XR.out)
      try go_wp2
      go_roundw
      case rel => exact ⟨n', p, q, b', A1', c1', P', A2', c2', S', by have := HQ.out; omega, by go_num, ⟨by have := HP.out; have := HQ.out; omega⟩, ⟨HG.out (by first | rfl | trivial)⟩, B9⟩
      case measure => first | (simp [intOf]; done) | (simp [intOf]; omega)
     | false =>
      try go_wp2
      go_roundw
      case rel => exact ⟨n', p, q, b, A1, c1, P, A2, c2, S, by have := HQ.out; omega, by go_num, ⟨by have := HP.out; have := HQ.out; omega⟩, GD, B⟩
      case measure => first | (simp [intOf]; done) | (simp [intOf]; omega)
   ·obtain rfl : n = 0 := by omega
    obtain ⟨a, p2, q2, e2, ha0, ha1, hp2, hp3⟩ := dR HBY.out p q 40 HPN.out.1 (by have := HPN.out; omega) (by omega)
    have TT := av (spec_l1Cur_pick.calls g l0 p q 40 a p2 q2 w0 wr B.out.i B.out.b e2)
    have HP := av (show 0 ≤ p2 ∧ p2 ≤ 100010 by have := HPN.out; omega)
    have HSZ := av (jL GD.out)
    clear hn hn0 e2 ha0 ha1 hp2 hp3 HPN GD
    go_wp2_with (go_at_call 46; refine TT.out.mono ?_)
    rintro e w3 ⟨rfl, hI, hB, hK⟩
    replace B := av (B.out.cur QX.out hI hB hK)
    clear hI hB hK TT
    by_cases ha0 : a = 0
    ·subst ha0
     obtain ⟨y, p3, q3, e3, hy, hp2, hp3⟩ := oV HBY.out p2 q2 [0, 401] HP.out.1 (by have := HP.out; omega) (by simp) (by simp)
     obtain ⟨W4, hW4⟩ : ∃ W, w3.alloc (.cells #[.int .i64 0, .int .i64 401] 3) = W := ⟨_, rfl⟩
     have hb4 : Below w3.heap.size w3 W4 := by rw [← hW4]; exact ah (Below.refl _ _) _
     have hc4 : W4.heap[w3.heap.size]? = some (.cells #[.int .i64 0, .int .i64 401] 3 (0, 0)) := by rw [← hW4]; exact heap_alloc_new w3 _
     have hr4 : Kd.C (Kd.int .i64) W4 (some ⟨w3.heap.size, 0, none⟩) 2 [0, 401] := by
      refine Kd.iP (enc := fun x : Int => Value.int .i64 x) (d := 0) ⟨rfl, by omega, fun _ => ⟨_, rfl, fun j hj => ?_⟩⟩
      obtain rfl | rfl : j = 0 ∨ j = 1 := by omega
      ·exact (ak hc4 0).trans rfl
      ·exact (ak hc4 1).trans rfl
     have TT := av (spec_l1Cur_among.calls g l0 p2 q2 (some ⟨w3.heap.size, 0, none⟩) 2 [0, 401] y p3 q3 w0 W4 (B.out.below hb4).i (B.out.below hb4).b hr4 (by simp) (fun ad h_ _ => by have h2_ := Option.some.inj h_; subst h2_; have := QX.out.lt; have := dI B.out.k; show w3.heap.size ≠ g; omega) e3)
     replace B := av (B.out.below hb4)
     have HP3 := av (show 0 ≤ p3 ∧ p3 ≤ 500000 by have := HP.out; omega)
     have HY := av (show 0 ≤ y ∧ y ≤ 401 by simp at hy; omega)
     clear hb4 hc4 hr4 e3 hy hp2 hp3
     go_wp2_with (go_at_call 73; (try rw [hW4]); refine TT.out.mono ?_; (rintro e w6 ⟨rfl, hI, hB, hK⟩); (replace B := av (B.out.cur QX.out hI hB hK)); (have k2 : w6.cell? ⟨gv, 0, none⟩ = some (.int .i64 b) := (ak B.out.v 0).trans rfl); have k3 := au B.out.v 0; (obtain ⟨w9, hw9⟩ : ∃ W, w6.setCell ⟨gv, 0, none⟩ (.int .i64 y) = W := ⟨_, rfl⟩); (have B9 := av (show QB w0 w w9 g w.heap.size gv l0 p3 q3 y A1 c1 P A2 c2 S by rw [← hw9]; exact B.out.setB QX.out y)); (have r0 : w9.cell? ⟨w.heap.size, 0, none⟩ = some (.int .i64 0) := (ak B9.out.z 0).trans rfl); (have r1 : w9.cell? ⟨w.heap.size, 1, none⟩ = some (.slice none 0 0) := (ak B9.out.z 1).trans rfl); (have r2 : w9.cell? ⟨w.heap.size, 2, none⟩ = some (.slice none 0 0) := (ak B9.out.z 2).trans rfl); (have s0 := au B9.out.z 0); (have s1 := au B9.out.z 1); (have s2 := au B9.out.z 2); (have m0 : w9.cell? ⟨gv, 0, none⟩ = some (.int .i64 y) := (ak B9.out.v 0).trans rfl); (have m1 : w9.cell? ⟨gv, 1, none⟩ = some (.slice A1 P.length c1) := (ak B9.out.v 1).trans rfl); (have m2 : w9.cell? ⟨gv, 2, none⟩ = some (.slice A2 S.length c2) := (ak B9.out.v 2).trans rfl); clear hI hB hK TT)
     refine bodyPost_ret (results_cell_row rfl _ _ w.heap.size 24 _ (0, 0) _ rfl (fK B9.out.z _ _ _) Try.underlying24 rfl (by kernel_rfl)) rfl ?_
     obtain ⟨t1_, t2_, t3_, t4_, t5_⟩ := B9.out.ret QX.out
     refine ⟨_, _, _, _, _, _, _, rfl, t1_, t2_, ?_, ?_, t3_, t4_, t5_⟩
     ·exact HP3.out
     ·have := HSZ.out; have := HY.out; exact ⟨by omega, by omega, by omega, by omega⟩
    ·have q0_ : (a == 0) = false := beq_eq_false_iff_ne.2 ha0
     have q1_ : (a = 0) = False := eq_false ha0
     by_cases ha1 : a = 1
     ·subst ha1
      have k2 : w3.cell? ⟨gv, 2, none⟩ = some (.slice A2 S.length c2) := (ak B.out.v 2).trans rfl
      by_cases hc : 0 < S.length
      ·have c1_ : (0 < (S.length : Int)) = True := eq_true (by omega)
       have c2_ : ((S.length : Int) > 0) = True := eq_true (by omega)
       have c3_ : (0 < S.length) = True := eq_true hc
       have c4_ : S.length ≤ 9223372036854775807 := by have := HSZ.out; omega
       obtain ⟨gs, cap, hv, _, _, _⟩ := Kd.lI B.out.r hc
       injection hv with hA hn_ hc_
       subst hA hc_
       clear hn_
       obtain ⟨_, ex, fr⟩ := nL B.out.r 0 (by omega) (by omega)
       have ex1 : w3.cell? ⟨gs, 1, none⟩ = some (.int .i64 (ax S 0).f1) := ex
       have fr1 : w3.frozen? ⟨gs, 1, none⟩ = false := fr 1
       have HS9 := av (B.out.setS QX.out hc (wrap64 ((ax S 0).f1 + 1)))
       obtain ⟨S9, hS9⟩ : ∃ S9, S.set 0 (⟨(ax S 0).f0, wrap64 ((ax S 0).f1 + 1)⟩ : EL) = S9 := ⟨_, rfl⟩
       have HL9 := av (show S9.length = S.length by rw [← hS9, List.length_set])
       rw [hS9] at HS9
       obtain ⟨u, hu⟩ : ∃ u, (ax S 0).f1 = u := ⟨_, rfl⟩
       rw [hu] at ex1 HS9
       obtain ⟨w9, hw9⟩ : ∃ W, w3.setCell ⟨gs, 1, none⟩ (.int .i64 (wrap64 (u + 1))) = W := ⟨_, rfl⟩
       rw [hw9] at HS9
       have B9 := HS9
       clear HS9 ex fr hS9 hu
       have r0 : w9.cell? ⟨w.heap.size, 0, none⟩ = some (.int .i64 0) := (ak B9.out.z 0).trans rfl
       have r1 : w9.cell? ⟨w.heap.size, 1, none⟩ = some (.slice none 0 0) := (ak B9.out.z 1).trans rfl
       have r2 : w9.cell? ⟨w.heap.size, 2, none⟩ = some (.slice none 0 0) := (ak B9.out.z 2).trans rfl
       have s0 := au B9.out.z 0
       have s1 := au B9.out.z 1
       have s2 := au B9.out.z 2
       have m0 : w9.cell? ⟨gv, 0, none⟩ = some (.int .i64 b) := (ak B9.out.v 0).trans rfl
       have m1 : w9.cell? ⟨gv, 1, none⟩ = some (.slice A1 P.length c1) := (ak B9.out.v 1).trans rfl
       have m2 : w9.cell? ⟨gv, 2, none⟩ = some (.slice (some ⟨gs, 0, none⟩) S9.length c2) := (ak B9.out.v 2).trans rfl
       try go_wp2
       refine bodyPost_ret (results_cell_row rfl _ _ w.heap.size 24 _ (0, 0) _ rfl (fK B9.out.z _ _ _) Try.underlying24 rfl (by kernel_rfl)) rfl ?_
       obtain ⟨t1_, t2_, t3_, t4_, t5_⟩ := B9.out.ret QX.out
       refine ⟨_, _, _, _, _, _, _, rfl, t1_, t2_, ?_, ?_, t3_, t4_, t5_⟩
       ·have := HP.out; omega
       ·have := HSZ.out; have := HL9.out; exact ⟨by omega, by omega, by omega, by omega⟩
      ·have c1_ : (0 < (S.length : Int)) = False := eq_false (by omega)
       have c2_ : ((S.length : Int) > 0) = False := eq_false (by omega)
       have c3_ : (0 < S.length) = False := eq_false hc
       have r0 : w3.cell? ⟨w.heap.size, 0, none⟩ = some (.int .i64 0) := (ak B.out.z 0).trans rfl
       have r1 : w3.cell? ⟨w.heap.size, 1, none⟩ = some (.slice none 0 0) := (ak B.out.z 1).trans rfl
       have r2 : w3.cell? ⟨w.heap.size, 2, none⟩ = some (.slice none 0 0) := (ak B.out.z 2).trans rfl
       have s0 := au B.out.z 0
       have s1 := au B.out.z 1
       have s2 := au B.out.z 2
       have m0 : w3.cell? ⟨gv, 0, none⟩ = some (.int .i64 b) := (ak B.out.v 0).trans rfl
       have m1 : w3.cell? ⟨gv, 1, none⟩ = some (.slice A1 P.length c1) := (ak B.out.v 1).trans rfl
       have m2 : w3.cell? ⟨gv, 2, none⟩ = some (.slice A2 S.length c2) := (ak B.out.v 2).trans rfl
       try go_wp2
       refine bodyPost_ret (results_cell_row rfl _ _ w.heap.size 24 _ (0, 0) _ rfl (fK B.out.z _ _ _) Try.underlying24 rfl (by kernel_rfl)) rfl ?_
       obtain ⟨t1_, t2_, t3_, t4_, t5_⟩ := B.out.ret QX.out
       refine ⟨_, _, _, _, _, _, _, rfl, t1_, t2_, ?_, ?_, t3_, t4_, t5_⟩
       ·have := HP.out; omega
       ·have := HSZ.out; exact ⟨by omega, by omega, by omega, by omega⟩
     ·have q2_ : (a == 1) = false := beq_eq_false_iff_ne.2 ha1
      have q3_ : (a = 1) = False := eq_false ha1
      by_cases ha2 : a = 2
      ·subst ha2
       obtain ⟨i, p3, q3, e3, hi0, hi1, hp4, hp5⟩ := dR HBY.out p2 q2 9 HP.out.1 (by have := HP.out; omega) (by omega)
       have E3 := av e3
       have HP3 := av (show 0 ≤ p3 ∧ p3 ≤ 500000 by have := HP.out; omega)
       clear e3 hi0 hi1 hp4 hp5
       go_wp2
       refine dY (n := 9) (S := fun w' => w'.cell? ⟨gv, 1, none⟩ = some (.slice A1 P.length c1) ∧ w'.cell? ⟨gv, 1, none⟩ = some (.slice A1 P.length c1)) (ds := [8]) #[false, false, false, false, false, false, false, false, false] (by kernel_rfl) rfl rfl ⟨(ak B.out.v 1).trans rfl, (ak B.out.v 1).trans rfl⟩ (fun hHeld => ?_)
       replace B := av B.out.drew
       generalize w3.drew = w5 at B hHeld ⊢
       refine bG (i := 0) (N := some 95) (v := ?_) (a' := ?_) #[true, false, false, false, false, false, false, false, false] rfl rfl (by kernel_rfl) (fun _ _ _ h => h) (Or.inl ⟨by rfl, ?_⟩) hHeld ?_ ?_
       rotate_left
       ·rintro w' ⟨s0, s1⟩
        go_simp
        with_reducible rfl
       rotate_left
       ·simp only [apu_]
        rfl
       refine bG (i := 1) (N := some 96) (v := ?_) (a' := ?_) #[true, true, false, false, false, false, false, false, false] rfl rfl (by kernel_rfl) (fun _ _ _ h => h) (Or.inl ⟨by rfl, ?_⟩) hHeld ?_ ?_
       rotate_left
       ·rintro w' ⟨s0, s1⟩
        go_simp
        with_reducible rfl
       rotate_left
       ·simp only [apu_]
        rfl
       refine bG (i := 2) (N := some 97) (v := ?_) (a' := ?_) #[true, true, true, false, false, false, false, false, false] rfl rfl (by kernel_rfl) (fun _ _ _ h => h) (Or.inl ⟨by rfl, ?_⟩) hHeld ?_ ?_
       rotate_left
       ·rintro w' ⟨s0, s1⟩
        go_simp
        with_reducible rfl
       rotate_left
       ·simp only [apu_]
        rfl
       refine dG (i := 3) (N := some 98) #[true, true, true, true, false, false, false, false, false] rfl rfl (by kernel_rfl) (by decide) (fun K hK => ?_)
       refine cu Try.func46 (by kernel_rfl) rfl #[.pointer (some ⟨g, 0, none⟩), .int .i64 9] (by rfl) rfl rfl (by (try simp only [amp_]); first | done | rfl | (simp only [ald_]; rfl)) ?_
       refine (spec_l1Cur_pick.calls g l0 p2 q2 9 i p3 q3 w0 w5 B.out.i B.out.b E3.out).mono ?_
       rintro e w6 ⟨rfl, hI, hB, hK5⟩
       refine ⟨_, rfl, ?_⟩
       replace B := av (B.out.cur QX.out hI hB hK5)
       clear hI hB hK5
       refine hK.out _ _ ⟨(ak B.out.v 1).trans rfl, (ak B.out.v 1).trans rfl⟩ (fun hHeld => ?_)
       clear hK K
       refine bN (a' := ?_) ?_ ?_
       rotate_left
       ·show Act.put _ (some 98) _ = _
        simp only [apu_]
        rfl
       refine aQ (i := 4) (N := some 99) (v := ?_) (a' := ?_) #[true, true, true, true, true, false, false, false, false] rfl rfl (by kernel_rfl) (fun _ _ _ h => h) (Or.inl ⟨by rfl, ?_⟩) ?_ ?_
       rotate_left
       ·intro w'
        go_simp
        with_reducible rfl
       rotate_left
       ·simp only [apu_]
        rfl
       refine dG (i := 5) (N := some 100) #[true, true, true, true, true, true, false, false, false] rfl rfl (by kernel_rfl) (by decide) (fun K hK => ?_)
       refine fC (by rfl) (v := .slice (some ⟨w6.heap.size, 0, none⟩) 1 1) (w1 := w6.alloc (.cells #[.int .i64 i, .int .i64 1] 35)) (by first | (go_simp; done) | (go_simp; rfl)) ?_
       have BA := av (B.out.below (ah (Below.refl w6.heap.size w6) (.cells #[.int .i64 i, .int .i64 1] 35)))
       refine hK.out _ _ ⟨(ak BA.out.v 1).trans rfl, (ak BA.out.v 1).trans rfl⟩ (fun hHeld => ?_)
       clear hK K
       refine bN (a' := ?_) ?_ ?_
       rotate_left
       ·show Act.put _ (some 100) _ = _
        simp only [apu_]
        rfl
       refine dG (i := 6) (N := some 101) #[true, true, true, true, true, true, true, false, false] rfl rfl (by kernel_rfl) (by decide) (fun K hK => ?_)
       refine Kd.kF k35 (w0 := w6) (W := w6) w.heap.size (by rfl) (.tmp 96) (.tmp 100) 22 35 (.agg #[.int .i64 0, .int .i64 0]) 16 rfl Try.underlying22 bZ rfl (by decide) (by omega) (.slice A1 P.length c1) P (⟨i, 1⟩ : EL) [.int .i64 i, .int .i64 1] (fun k => some k ≠ (Value.slice A2 S.length c2).ownBlock) (fun _ => False) rfl rfl (nP.2 rfl) (fun _ h_ => h_.elim) (Kd.pJ B.out.r) B.out.s (Below.refl _ _) (dI B.out.k) (by have := HSZ.out.2.1; omega) ?_
       intro v9 w9 ho hb9 hg9 hat9
       clear hat9
       obtain ⟨P9, hP9⟩ : ∃ P9, P ++ [(⟨i, 1⟩ : EL)] = P9 := ⟨_, rfl⟩
       have hl9 : P9.length = P.length + 1 := by rw [← hP9, List.length_append]; rfl
       rw [hP9] at ho
       clear hP9
       obtain ⟨A9, c9, rfl⟩ := Kd.bu ho
       have D9 := av ho
       have C9 := av hb9
       have G9 := av hg9
       have V9 := av (bg B.out.v hg9 (Kd.gX B.out.s B.out.v (by decide)))
       have HL9 := av hl9
       clear ho hb9 hg9 hl9 BA
       refine hK.out _ _ ⟨(ak V9.out 1).trans rfl, (ak V9.out 1).trans rfl⟩ (fun hHeld => ?_)
       clear hK K
       refine bN (a' := ?_) ?_ ?_
       rotate_left
       ·show Act.put _ (some 101) _ = _
        simp only [apu_]
        rfl
       refine bG (i := 7) (N := some 102) (v := ?_) (a' := ?_) #[true, true, true, true, true, true, true, true, false] rfl rfl (by kernel_rfl) (fun _ _ _ h => h) (Or.inl ⟨by rfl, ?_⟩) hHeld ?_ ?_
       rotate_left
       ·rintro w' ⟨s0, s1⟩
        go_simp
        with_reducible rfl
       rotate_left
       ·simp only [apu_]
        rfl
       have fr9 := au V9.out 1
       have ce9 : w9.cell? ⟨gv, 1, none⟩ = some (.slice A1 P.length c1) := (ak V9.out 1).trans rfl
       refine ll (i := 8) (N := none) #[true, true, true, true, true, true, true, true, true] rfl rfl (by kernel_rfl) (by decide) (fun K hK => ?_)
       refine jF (w1 := w9.setCell ⟨gv, 1, none⟩ (.slice A9 P9.length c9)) (by rfl) rfl ?_ ?_
       ·first | (go_simp; done) | (go_simp; rfl)
       refine hK.out _ _ ?_
       clear hK K
       refine eZ (by kernel_rfl) ?_
       clear hHeld
       clear fr9 ce9 V9
       have B9 := av (B.out.app QX.out D9.out C9.out G9.out)
       generalize w9.setCell ⟨gv, 1, none⟩ (.slice A9 P9.length c9) = w10 at B9 ⊢
       clear B D9 C9 G9
       have r0 : w10.cell? ⟨w.heap.size, 0, none⟩ = some (.int .i64 0) := (ak B9.out.z 0).trans rfl
       have r1 : w10.cell? ⟨w.heap.size, 1, none⟩ = some (.slice none 0 0) := (ak B9.out.z 1).trans rfl
       have r2 : w10.cell? ⟨w.heap.size, 2, none⟩ = some (.slice none 0 0) := (ak B9.out.z 2).trans rfl
       have s0 := au B9.out.z 0
       have s1 := au B9.out.z 1
       have s2 := au B9.out.z 2
       have m0 : w10.cell? ⟨gv, 0, none⟩ = some (.int .i64 b) := (ak B9.out.v 0).trans rfl
       have m1 : w10.cell? ⟨gv, 1, none⟩ = some (.slice A9 P9.length c9) := (ak B9.out.v 1).trans rfl
       have m2 : w10.cell? ⟨gv, 2, none⟩ = some (.slice A2 S.length c2) := (ak B9.out.v 2).trans rfl
       try go_wp2
       refine bodyPost_ret (results_cell_row rfl _ _ w.heap.size 24 _ (0, 0) _ rfl (fK B9.out.z _ _ _) Try.underlying24 rfl (by kernel_rfl)) rfl ?_
       obtain ⟨t1_, t2_, t3_, t4_, t5_⟩ := B9.out.ret QX.out
       refine ⟨_, _, _, _, _, _, _, rfl, t1_, t2_, ?_, ?_, t3_, t4_, t5_⟩
       ·exact HP3.out
       ·have := HSZ.out; have := HL9.out; exact ⟨by omega, by omega, by omega, by omega⟩
      ·have q4_ : (a == 2) = false := beq_eq_false_iff_ne.2 ha2
       have q5_ : (a = 2) = False := eq_false ha2
       have r0 : w3.cell? ⟨w.heap.size, 0, none⟩ = some (.int .i64 0) := (ak B.out.z 0).trans rfl
       have r1 : w3.cell? ⟨w.heap.size, 1, none⟩ = some (.slice none 0 0) := (ak B.out.z 1).trans rfl
       have r2 : w3.cell? ⟨w.heap.size, 2, none⟩ = some (.slice none 0 0) := (ak B.out.z 2).trans rfl
       have s0 := au B.out.z 0
       have s1 := au B.out.z 1
       have s2 := au B.out.z 2
       have m0 : w3.cell? ⟨gv, 0, none⟩ = some (.int .i64 b) := (ak B.out.v 0).trans rfl
       have m1 : w3.cell? ⟨gv, 1, none⟩ = some (.slice A1 P.length c1) := (ak B.out.v 1).trans rfl
       have m2 : w3.cell? ⟨gv, 2, none⟩ = some (.slice A2 S.length c2) := (ak B.out.v 2).trans rfl
       try go_wp2
       refine bodyPost_ret (results_cell_row rfl _ _ w.heap.size 24 _ (0, 0) _ rfl (fK B.out.z _ _ _) Try.underlying24 rfl (by kernel_rfl)) rfl ?_
       obtain ⟨t1_, t2_, t3_, t4_, t5_⟩ := B.out.ret QX.out
       refine ⟨_, _, _, _, _, _, _, rfl, t1_, t2_, ?_, ?_, t3_, t4_, t5_⟩
       ·have := HP.out; omega
       ·have := HSZ.out; exact ⟨by omega, by omega, by omega, by omega⟩
theorem o6 {l : List Int} (hl : Bytes l) (p q n : Int) (h0 : 0 ≤ p) (h1 : p ≤ 100000000000) (hn : n ≤ 1000000000000) : ∃ r p' q', spec_l1Cur_below.f l p q n = some (r, p', q') ∧ 0 ≤ r ∧ p ≤ p' ∧ p' ≤ p + 2 := by
 unfold spec_l1Cur_below.f
 by_cases h : n < 1
 ·rw [if_pos h]
  exact ⟨_, _, _, rfl, by omega, by omega, by omega⟩
 ·rw [if_neg h]
  obtain ⟨r, p', q', e, h2, _, h4, h5⟩ := dR hl p q n h0 h1 hn
  exact ⟨r, p', q', by rw [e]; rfl, h2, h4, h5⟩
theorem aW.alloc_self {w : World} {A0 : Option Addr} {c0 : Nat} {l0 : List Int} (h : Kd.C (Kd.int .u8) w A0 l0.length l0) : aW w (w.alloc (.cells #[.slice A0 l0.length c0, .int .i64 0, .int .u64 0] 67)) w.heap.size l0 0 0 :=
 ⟨A0, c0, heap_alloc_new w _, Nat.le_refl _, h⟩
theorem lS {P : Program} {fn : Func} {p u v x : Tmp} {ty : TypeId} (h : fn.results = #[.cell p ty, .tmp u, .tmp v, .tmp x]) (tmps : Array Value) (w : World) (g : Nat) (t : TypeId) (cs : Array Value) (fr : Nat × Nat) (d : TypeDesc)
  (hp : tmps.getD p undef = .pointer (some ⟨g, 0, none⟩)) (hg : w.heap[g]? = some (.cells cs t fr))
  (hu : P.underlying ty = some d) (hd : (match d with | .struct _ | .array _ _ => true | _ => false) = true) (hi : (P.info? ty).map (·.size) = some cs.size) :
  (results fn tmps).run P w = .ok (.tuple #[.agg cs, tmps.getD u undef, tmps.getD v undef, tmps.getD x undef]) w := by
 have hp' : tmps[p]?.getD undef = .pointer (some ⟨g, 0, none⟩) := by simpa using hp
 simp [results, h, hp', asAddr, run_loadVar_row w g t ty cs fr d hg hu hd hi]
structure DB (w0 W : World) (B g gv : Nat) (A1 : Option Addr) (c1 : Nat) (P : List EL) (A2 : Option Addr) (c2 : Nat) (S : List EL) (b : Int) (l0 : List Int) (p q : Int) : Prop where
 s : ES W B (fun k => some k ≠ (Value.slice A2 S.length c2).ownBlock) (.slice A1 P.length c1) P
 r : ES W B (fun k => some k ≠ (Value.slice A1 P.length c1).ownBlock) (.slice A2 S.length c2) S
 v : W.heap[gv]? = some (.cells #[.int .i64 b, .slice A1 P.length c1, .slice A2 S.length c2] 24 (0, 0))
 b : Below w0.heap.size w0 W
 i : aW w0 W g l0 p q
section
variable {w0 W W1 : World} {B g gv : Nat} {A1 : Option Addr} {c1 : Nat} {P : List EL} {A2 : Option Addr} {c2 : Nat} {S : List EL} {b : Int} {l0 : List Int} {p q p' q' : Int}
theorem DB.below (h : DB w0 W B g gv A1 c1 P A2 c2 S b l0 p q) (hb : Below W.heap.size W W1) : DB w0 W1 B g gv A1 c1 P A2 c2 S b l0 p q :=
 ⟨Kd.bq h.s hb, Kd.bq h.r hb, ay h.v hb, aA h.b hb, h.i.below hb⟩
theorem DB.drew (h : DB w0 W B g gv A1 c1 P A2 c2 S b l0 p q) : DB w0 W.drew B g gv A1 c1 P A2 c2 S b l0 p q := h.below (ai (Below.refl _ _))
theorem DB.cur (h : DB w0 W B g gv A1 c1 P A2 c2 S b l0 p q) (hg : g < B) (hv : g ≠ gv) (hi : aW w0 W1 g l0 p' q') (hb : Below w0.heap.size w0 W1) (hk : bn W W1 g none) : DB w0 W1 B g gv A1 c1 P A2 c2 S b l0 p' q' :=
 ⟨Kd.aY (Kd.lF (Kd.eu h.s) hk (fun k h_ => by have := h_.2.1; omega)) (fun _ h_ => h_.1), Kd.aY (Kd.lF (Kd.eu h.r) hk (fun k h_ => by have := h_.2.1; omega)) (fun _ h_ => h_.1), hk.blk h.v (fun e_ => hv e_.symm) (by simp), hb, hi⟩
theorem DB.ret {w : World} {gz : Nat} {a b_ c : Value} (h : DB w0 W B g gv A1 c1 P A2 c2 S b l0 p q) (hz : W.heap[gz]? = some (.cells #[a, b_, c] 24 (0, 0))) (hg : w.heap.size ≤ gz) (h1 : Below w.heap.size w w0) (hB : w.heap.size ≤ B) (x y z : Value) :
  ES (((W.setCell ⟨gz, 0, none⟩ x).setCell ⟨gz, 1, none⟩ y).setCell ⟨gz, 2, none⟩ z) w.heap.size (fun k => some k ≠ (Value.slice A2 S.length c2).ownBlock) (.slice A1 P.length c1) P ∧ ES (((W.setCell ⟨gz, 0, none⟩ x).setCell ⟨gz, 1, none⟩ y).setCell ⟨gz, 2, none⟩ z) w.heap.size (fun k => some k ≠ (Value.slice A1 P.length c1).ownBlock) (.slice A2 S.length c2) S ∧ Below w.heap.size w (((W.setCell ⟨gz, 0, none⟩ x).setCell ⟨gz, 1, none⟩ y).setCell ⟨gz, 2, none⟩ z) :=
 ⟨fJ (Kd.bE h.s hB) hz, fJ (Kd.bE h.r hB) hz, ae (ae (ae (fQ h1 h1.size h.b) hg) hg) hg⟩
end
set_option maxHeartbeats 8000000 in
set_option maxRecDepth 100000 in
theorem spec_DrawTakeRoom.calls (A0 : Option Addr) (c0 : Nat) (l0 : List Int) (w : World) (hl : Bytes l0) (hr0 : Kd.C (Kd.int .u8) w A0 l0.length l0) (hc0 : l0.length ≤ c0) :
  Calls Try.prog 22 #[.slice A0 l0.length c0] w fun e w' => ∃ (v1_ v2_ : Value) (b : Int) (P S : List EL) (x_ y_ z_ : Int), e = .returned (.tuple #[.agg #[.int .i64 b, v1_, v2_], .int .i64 x_, .int .i64 y_, .int .i64 z_]) ∧ ES w' w.heap.size (fun k => some k ≠ v2_.ownBlock) v1_ P ∧ ES w' w.heap.size (fun k => some k ≠ v1_.ownBlock) v2_ S ∧ szF b P S ∧ Below w.heap.size w w' := by
 have huF := Try.underlying24
 have HBY := av hl
 obtain ⟨W1, hW1⟩ : ∃ W, w.alloc (.cells #[.int .i64 0, .slice none 0 0, .slice none 0 0] 24) = W := ⟨_, rfl⟩
 obtain ⟨W2, hW2⟩ : ∃ W, W1.alloc (.cells #[.slice A0 l0.length c0, .int .i64 0, .int .u64 0] 67) = W := ⟨_, rfl⟩
 have hb1 : Below w.heap.size w W1 := by rw [← hW1]; exact ah (Below.refl _ _) _
 have hb2 : Below W1.heap.size W1 W2 := by rw [← hW2]; exact ah (Below.refl _ _) _
 have Z1 : W1.heap[w.heap.size]? = some (.cells #[.int .i64 0, .slice none 0 0, .slice none 0 0] 24 (0, 0)) := by rw [← hW1]; exact heap_alloc_new w _
 have I2 : aW W1 W2 W1.heap.size l0 0 0 := by rw [← hW2]; exact aW.alloc_self (Kd.aN hr0 hb1)
 have HH := av (show Below w.heap.size w W1 ∧ W1.heap[w.heap.size]? = some (.cells #[.int .i64 0, .slice none 0 0, .slice none 0 0] 24 (0, 0)) ∧ W1.heap.size ≤ W2.heap.size from ⟨hb1, Z1, hb2.size⟩)
 have HG := av (show W1.heap.size < W2.heap.size by obtain ⟨_, _, h_, _⟩ := I2; exact aG h_)
 have TT := av (kK W1.heap.size l0 0 0 W1 W2 hl (by omega) (by omega) I2 hb2)
 clear hl hr0 hb1 hb2 Z1 I2
 go_enter Try.func22, Try.ntmps22
 go_wp2_with (go_at_call 44; refine TT.out.mono ?_; (rintro e w3 ⟨v1, v2, b, P, S, p, q, rfl, hs, hr, hp, hsz, hI, hB, hK⟩); have HSZ := av hsz; have HP := av hp; (obtain ⟨A1, c1, rfl⟩ := Kd.bu hs); (obtain ⟨A2, c2, rfl⟩ := Kd.bu hr); (obtain ⟨W4, w4, hW4, hw4, y0, y1, y2, z0, z1, z2, V5, BL⟩ := eY w3 (.int .i64 b) (.slice A1 P.length c1) (.slice A2 S.length c2)); (have B := av (show DB W1 w4 W2.heap.size W1.heap.size w3.heap.size A1 c1 P A2 c2 S b l0 p q from ⟨Kd.bq hs BL.out, Kd.bq hr BL.out, V5.out, aA hB BL.out, hI.below BL.out⟩)); (have HV := av (show W1.heap.size ≠ w3.heap.size by have := HG.out; have := dI hK; omega)); (have HN := av (show w.heap.size ≠ w3.heap.size by have := HG.out; have := dI hK; have := aG HH.out.2.1; omega)); clear hsz hp hs hr hI hB hK TT V5 BL)
 clear hW1 hW2 hW4 hw4 y0 y1 y2 z0 z1 z2
 generalize w3.heap.size = gv at B HV HN ⊢
 obtain ⟨a1, p1, q1, e_, ha0, h_⟩ := dR HBY.out p q 9 (by have := HP.out; omega) (by have := HP.out; omega) (by omega)
 have E1 := av e_
 have HP := av (show 0 ≤ p1 ∧ p1 ≤ 500010 by have := HP.out; omega)
 clear e_ ha0 h_
 obtain ⟨a2, p2, q2, e_, ha0, h_⟩ := dR HBY.out p1 q1 6 (by have := HP.out; omega) (by have := HP.out; omega) (by omega)
 have E2 := av e_
 have HP := av (show 0 ≤ p2 ∧ p2 ≤ 500020 by have := HP.out; omega)
 clear e_ ha0 h_
 obtain ⟨a3, p3, q3, e_, ha0, h_⟩ := o6 HBY.out p2 q2 (wrap64 (b + 1)) (by have := HP.out; omega) (by have := HP.out; omega) (by have := HSZ.out.1; have := HSZ.out.2.1; rw [w64 (by omega) (by omega)]; omega)
 have E3 := av e_
 have HP := av (show 0 ≤ p3 ∧ p3 ≤ 500030 by have := HP.out; omega)
 clear e_ ha0 h_
 obtain ⟨a4, p4, q4, e_, ha0, h_⟩ := dR HBY.out p3 q3 2 (by have := HP.out; omega) (by have := HP.out; omega) (by omega)
 have E4 := av e_
 have HP := av (show 0 ≤ p4 ∧ p4 ≤ 500040 by have := HP.out; omega)
 clear e_ ha0 h_
 obtain ⟨a5, p5, q5, e_, ha0, h_⟩ := dR HBY.out p4 q4 2 (by have := HP.out; omega) (by have := HP.out; omega) (by omega)
 have E5 := av e_
 have HP := av (show 0 ≤ p5 ∧ p5 ≤ 500050 by have := HP.out; omega)
 clear e_ ha0 h_
 go_wp2
 refine dY (n := 20) (S := fun w' => w'.cell? ⟨gv, 0, none⟩ = some (.int .i64 b) ∧ w'.cell? ⟨gv, 1, none⟩ = some (.slice A1 P.length c1) ∧ w'.cell? ⟨gv, 2, none⟩ = some (.slice A2 S.length c2)) (ds := [16]) #[false, false, false, false, false, false, false, false, false, false, false, false, false, false, false, false, false, false, false, false] (by kernel_rfl) rfl rfl ⟨(ak B.out.v 0).trans rfl, (ak B.out.v 1).trans rfl, (ak B.out.v 2).trans rfl⟩ (fun hHeld => ?_)
 have BA := av B.out.drew
 generalize w4.drew = wa at BA hHeld ⊢
 clear B
 refine bG (i := 0) (N := some 13) (v := ?_) (a' := ?_) #[true, false, false, false, false, false, false, false, false, false, false, false, false, false, false, false, false, false, false, false] rfl rfl (by kernel_rfl) (fun _ _ _ h => h) (Or.inl ⟨by rfl, ?_⟩) hHeld ?_ ?_
 rotate_left
 ·rintro w' ⟨s0, s1, s2⟩
  go_simp
  with_reducible rfl
 rotate_left
 ·simp only [apu_]
  rfl
 refine bG (i := 1) (N := some 14) (v := ?_) (a' := ?_) #[true, true, false, false, false, false, false, false, false, false, false, false, false, false, false, false, false, false, false, false] rfl rfl (by kernel_rfl) (fun _ _ _ h => h) (Or.inl ⟨by rfl, ?_⟩) hHeld ?_ ?_
 rotate_left
 ·rintro w' ⟨s0, s1, s2⟩
  go_simp
  with_reducible rfl
 rotate_left
 ·simp only [apu_]
  rfl
 refine bG (i := 3) (N := some 16) (v := ?_) (a' := ?_) #[true, true, false, true, false, false, false, false, false, false, false, false, false, false, false, false, false, false, false, false] rfl rfl (by kernel_rfl) (fun _ _ _ h => h) (Or.inl ⟨by rfl, ?_⟩) hHeld ?_ ?_
 rotate_left
 ·rintro w' ⟨s0, s1, s2⟩
  go_simp
  with_reducible rfl
 rotate_left
 ·simp only [apu_]
  rfl
 refine bG (i := 5) (N := some 18) (v := ?_) (a' := ?_) #[true, true, false, true, false, true, false, false, false, false, false, false, false, false, false, false, false, false, false, false] rfl rfl (by kernel_rfl) (fun _ _ _ h => h) (Or.inl ⟨by rfl, ?_⟩) hHeld ?_ ?_
 rotate_left
 ·rintro w' ⟨s0, s1, s2⟩
  go_simp
  with_reducible rfl
 rotate_left
 ·simp only [apu_]
  rfl
 refine bG (i := 6) (N := some 19) (v := ?_) (a' := ?_) #[true, true, false, true, false, true, true, false, false, false, false, false, false, false, false, false, false, false, false, false] rfl rfl (by kernel_rfl) (fun _ _ _ h => h) (Or.inl ⟨by rfl, ?_⟩) hHeld ?_ ?_
 rotate_left
 ·rintro w' ⟨s0, s1, s2⟩
  go_simp
  with_reducible rfl
 rotate_left
 ·simp only [apu_]
  rfl
 refine bG (i := 7) (N := some 20) (v := ?_) (a' := ?_) #[true, true, false, true, false, true, true, true, false, false, false, false, false, false, false, false, false, false, false, false] rfl rfl (by kernel_rfl) (fun _ _ _ h => h) (Or.inl ⟨by rfl, ?_⟩) hHeld ?_ ?_
 rotate_left
 ·rintro w' ⟨s0, s1, s2⟩
  go_simp
  with_reducible rfl
 rotate_left
 ·simp only [apu_]
  rfl
 refine bG (i := 8) (N := some 21) (v := ?_) (a' := ?_) #[true, true, false, true, false, true, true, true, true, false, false, false, false, false, false, false, false, false, false, false] rfl rfl (by kernel_rfl) (fun _ _ _ h => h) (Or.inl ⟨by rfl, ?_⟩) hHeld ?_ ?_
 rotate_left
 ·rintro w' ⟨s0, s1, s2⟩
  go_simp
  with_reducible rfl
 rotate_left
 ·simp only [apu_]
  rfl
 refine bG (i := 10) (N := some 23) (v := ?_) (a' := ?_) #[true, true, false, true, false, true, true, true, true, false, true, false, false, false, false, false, false, false, false, false] rfl rfl (by kernel_rfl) (fun _ _ _ h => h) (Or.inl ⟨by rfl, ?_⟩) hHeld ?_ ?_
 rotate_left
 ·rintro w' ⟨s0, s1, s2⟩
  go_simp
  with_reducible rfl
 rotate_left
 ·simp only [apu_]
  rfl
 refine bG (i := 12) (N := some 25) (v := ?_) (a' := ?_) #[true, true, false, true, false, true, true, true, true, false, true, false, true, false, false, false, false, false, false, false] rfl rfl (by kernel_rfl) (fun _ _ _ h => h) (Or.inl ⟨by rfl, ?_⟩) hHeld ?_ ?_
 rotate_left
 ·rintro w' ⟨s0, s1, s2⟩
  go_simp
  with_reducible rfl
 rotate_left
 ·simp only [apu_]
  rfl
 refine dG (i := 2) (N := some 15) #[true, true, true, true, false, true, true, true, true, false, true, false, true, false, false, false, false, false, false, false] rfl rfl (by kernel_rfl) (by decide) (fun K hK => ?_)
 refine cu Try.func46 (by kernel_rfl) rfl #[.pointer (some ⟨W1.heap.size, 0, none⟩), .int .i64 9] (by rfl) rfl rfl (by (try simp only [amp_]); first | done | rfl | (simp only [ald_]; rfl)) ?_
 refine (spec_l1Cur_pick.calls W1.heap.size l0 p q 9 a1 p1 q1 W1 wa BA.out.i BA.out.b E1.out).mono ?_
 rintro e wb1 ⟨rfl, hI, hB, hK_⟩
 refine ⟨_, rfl, ?_⟩
 have BB1 := av (BA.out.cur HG.out HV.out hI hB hK_)
 clear hI hB hK_ BA
 refine hK.out _ _ ⟨(ak BB1.out.v 0).trans rfl, (ak BB1.out.v 1).trans rfl, (ak BB1.out.v 2).trans rfl⟩ (fun hHeld => ?_)
 clear hK K
 refine bN (a' := ?_) ?_ ?_
 rotate_left
 ·show Act.put _ (some 15) _ = _
  simp only [apu_]
  rfl
 refine dG (i := 4) (N := some 17) #[true, true, true, true, true, true, true, true, true, false, true, false, true, false, false, false, false, false, false, false] rfl rfl (by kernel_rfl) (by decide) (fun K hK => ?_)
 refine cu Try.func46 (by kernel_rfl) rfl #[.pointer (some ⟨W1.heap.size, 0, none⟩), .int .i64 6] (by rfl) rfl rfl (by (try simp only [amp_]); first | done | rfl | (simp only [ald_]; rfl)) ?_
 refine (spec_l1Cur_pick.calls W1.heap.size l0 p1 q1 6 a2 p2 q2 W1 wb1 BB1.out.i BB1.out.b E2.out).mono ?_
 rintro e wb2 ⟨rfl, hI, hB, hK_⟩
 refine ⟨_, rfl, ?_⟩
 have BB2 := av (BB1.out.cur HG.out HV.out hI hB hK_)
 clear hI hB hK_ BB1
 refine hK.out _ _ ⟨(ak BB2.out.v 0).trans rfl, (ak BB2.out.v 1).trans rfl, (ak BB2.out.v 2).trans rfl⟩ (fun hHeld => ?_)
 clear hK K
 refine bN (a' := ?_) ?_ ?_
 rotate_left
 ·show Act.put _ (some 17) _ = _
  simp only [apu_]
  rfl
 refine dG (i := 9) (N := some 22) #[true, true, true, true, true, true, true, true, true, true, true, false, true, false, false, false, false, false, false, false] rfl rfl (by kernel_rfl) (by decide) (fun K hK => ?_)
 refine cu Try.func45 (by kernel_rfl) rfl #[.pointer (some ⟨W1.heap.size, 0, none⟩), .int .i64 (wrap64 (b + 1))] (by rfl) rfl rfl (by (try simp only [amp_]); first | done | rfl | (simp only [ald_]; rfl)) ?_
 refine (spec_l1Cur_below.calls W1.heap.size l0 p2 q2 (wrap64 (b + 1)) a3 p3 q3 W1 wb2 BB2.out.i BB2.out.b E3.out).mono ?_
 rintro e wb3 ⟨rfl, hI, hB, hK_⟩
 refine ⟨_, rfl, ?_⟩
 have BB3 := av (BB2.out.cur HG.out HV.out hI hB hK_)
 clear hI hB hK_ BB2
 refine hK.out _ _ ⟨(ak BB3.out.v 0).trans rfl, (ak BB3.out.v 1).trans rfl, (ak BB3.out.v 2).trans rfl⟩ (fun hHeld => ?_)
 clear hK K
 refine bN (a' := ?_) ?_ ?_
 rotate_left
 ·show Act.put _ (some 22) _ = _
  simp only [apu_]
  rfl
 refine dG (i := 11) (N := some 24) #[true, true, true, true, true, true, true, true, true, true, true, true, true, false, false, false, false, false, false, false] rfl rfl (by kernel_rfl) (by decide) (fun K hK => ?_)
 refine cu Try.func46 (by kernel_rfl) rfl #[.pointer (some ⟨W1.heap.size, 0, none⟩), .int .i64 2] (by rfl) rfl rfl (by (try simp only [amp_]); first | done | rfl | (simp only [ald_]; rfl)) ?_
 refine (spec_l1Cur_pick.calls W1.heap.size l0 p3 q3 2 a4 p4 q4 W1 wb3 BB3.out.i BB3.out.b E4.out).mono ?_
 rintro e wb4 ⟨rfl, hI, hB, hK_⟩
 refine ⟨_, rfl, ?_⟩
 have BB4 := av (BB3.out.cur HG.out HV.out hI hB hK_)
 clear hI hB hK_ BB3
 refine hK.out _ _ ⟨(ak BB4.out.v 0).trans rfl, (ak BB4.out.v 1).trans rfl, (ak BB4.out.v 2).trans rfl⟩ (fun hHeld => ?_)
 clear hK K
 refine bN (a' := ?_) ?_ ?_
 rotate_left
 ·show Act.put _ (some 24) _ = _
  simp only [apu_]
  rfl
 refine dG (i := 13) (N := some 26) #[true, true, true, true, true, true, true, true, true, true, true, true, true, true, false, false, false, false, false, false] rfl rfl (by kernel_rfl) (by decide) (fun K hK => ?_)
 refine cu Try.func46 (by kernel_rfl) rfl #[.pointer (some ⟨W1.heap.size, 0, none⟩), .int .i64 2] (by rfl) rfl rfl (by (try simp only [amp_]); first | done | rfl | (simp only [ald_]; rfl)) ?_
 refine (spec_l1Cur_pick.calls W1.heap.size l0 p4 q4 2 a5 p5 q5 W1 wb4 BB4.out.i BB4.out.b E5.out).mono ?_
 rintro e wb5 ⟨rfl, hI, hB, hK_⟩
 refine ⟨_, rfl, ?_⟩
 have BB5 := av (BB4.out.cur HG.out HV.out hI hB hK_)
 clear hI hB hK_ BB4
 refine hK.out _ _ ⟨(ak BB5.out.v 0).trans rfl, (ak BB5.out.v 1).trans rfl, (ak BB5.out.v 2).trans rfl⟩ (fun hHeld => ?_)
 clear hK K
 refine bN (a' := ?_) ?_ ?_
 rotate_left
 ·show Act.put _ (some 26) _ = _
  simp only [apu_]
  rfl
 refine aQ (i := 14) (N := some 27) (v := ?_) (a' := ?_) #[true, true, true, true, true, true, true, true, true, true, true, true, true, true, true, false, false, false, false, false] rfl rfl (by kernel_rfl) (fun _ _ _ h => h) (Or.inl ⟨by rfl, ?_⟩) ?_ ?_
 rotate_left
 ·intro w'
  go_simp
  with_reducible rfl
 rotate_left
 ·simp only [apu_]
  rfl
 refine aQ (i := 15) (N := some 28) (v := ?_) (a' := ?_) #[true, true, true, true, true, true, true, true, true, true, true, true, true, true, true, true, false, false, false, false] rfl rfl (by kernel_rfl) (fun _ _ _ h => h) (Or.inl ⟨by rfl, ?_⟩) ?_ ?_
 rotate_left
 ·intro w'
  go_simp
  with_reducible rfl
 rotate_left
 ·simp only [apu_]
  rfl
 have Z6 := av (ay HH.out.2.1 BB5.out.b)
 have x0 : wb5.cell? ⟨w.heap.size, 0, none⟩ = some (.int .i64 0) := (ak Z6.out 0).trans rfl
 have x1 : wb5.cell? ⟨w.heap.size, 1, none⟩ = some (.slice none 0 0) := (ak Z6.out 1).trans rfl
 have x2 : wb5.cell? ⟨w.heap.size, 2, none⟩ = some (.slice none 0 0) := (ak Z6.out 2).trans rfl
 have y0 := au Z6.out 0
 have y1 := au Z6.out 1
 have y2 := au Z6.out 2
 refine ll (i := 16) (N := none) #[true, true, true, true, true, true, true, true, true, true, true, true, true, true, true, true, true, false, false, false] rfl rfl (by kernel_rfl) (by decide) (fun K hK => ?_)
 refine jF (w1 := ((wb5.setCell ⟨w.heap.size, 0, none⟩ (.int .i64 b)).setCell ⟨w.heap.size, 1, none⟩ (.slice A1 P.length c1)).setCell ⟨w.heap.size, 2, none⟩ (.slice A2 S.length c2)) (by rfl) rfl ?_ ?_
 ·first | (go_simp; done) | (go_simp; rfl)
 obtain ⟨t1_, t2_, t3_⟩ := BB5.out.ret Z6.out (Nat.le_refl _) HH.out.1 (Nat.le_trans HH.out.1.size HH.out.2.2) (.int .i64 b) (.slice A1 P.length c1) (.slice A2 S.length c2)
 have V6 := av (fK Z6.out (.int .i64 b) (.slice A1 P.length c1) (.slice A2 S.length c2))
 have T6 := av (And.intro t1_ (And.intro t2_ t3_))
 clear t1_ t2_ t3_ x0 x1 x2 y0 y1 y2
 refine hK.out _ _ ?_
 clear hK K
 refine aQ (i := 17) (N := some 3) (v := ?_) (a' := ?_) #[true, true, true, true, true, true, true, true, true, true, true, true, true, true, true, true, true, true, false, false] rfl rfl (by kernel_rfl) (fun _ _ _ h => h) (Or.inl ⟨by rfl, ?_⟩) ?_ ?_
 rotate_left
 ·intro w'
  go_simp
  with_reducible rfl
 rotate_left
 ·simp only [apu_]
  rfl
 refine aQ (i := 18) (N := some 4) (v := ?_) (a' := ?_) #[true, true, true, true, true, true, true, true, true, true, true, true, true, true, true, true, true, true, true, false] rfl rfl (by kernel_rfl) (fun _ _ _ h => h) (Or.inl ⟨by rfl, ?_⟩) ?_ ?_
 rotate_left
 ·intro w'
  go_simp
  with_reducible rfl
 rotate_left
 ·simp only [apu_]
  rfl
 refine aQ (i := 19) (N := some 5) (v := ?_) (a' := ?_) #[true, true, true, true, true, true, true, true, true, true, true, true, true, true, true, true, true, true, true, true] rfl rfl (by kernel_rfl) (fun _ _ _ h => h) (Or.inl ⟨by rfl, ?_⟩) ?_ ?_
 rotate_left
 ·intro w'
  go_simp
  with_reducible rfl
 rotate_left
 ·simp only [apu_]
  rfl
 refine eZ (by kernel_rfl) ?_
 clear hHeld
 go_wp2
 refine bodyPost_ret (lS rfl _ _ w.heap.size 24 #[.int .i64 b, .slice A1 P.length c1, .slice A2 S.length c2] (0, 0) _ rfl V6.out Try.underlying24 rfl (by kernel_rfl)) rfl ?_
 exact ⟨_, _, _, _, _, _, _, _, rfl, T6.out.1, T6.out.2.1, HSZ.out, T6.out.2.2⟩
open Go.RowKit Go.Proofs.YtelblhkbogljnaaW.PrintWords Go.Proofs.YtelblhkbogljnaaW.PrintLast Go.Proofs.YtelblhkbogljnaaW.PrintMore
attribute [local go_sem] bK bJ bT bU bA bB bM bL
set_option linter.unusedVariables false
set_option linter.unusedSimpArgs false
def impl_IsFreeAt.f (k : Nat) (a0_0 : Int) (l0_1 : List (S35)) (l0_2 : List (S35)) (a1 : Int) : Option (Bool × Bool) := (impl_GoodFree.f a0_0 l0_1 l0_2).bind fun t500 => (if t500 = true then ((impl_within.f a1 0 (wrap64 (a0_0 - 1))).bind fun t501 => (if t501 = true then ((impl_Free_isFree.f k a0_0 l0_1 l0_2).bind fun t502 => (if 0 ≤ a1 then (if a1 < (t502.length : Int) then (some (ek false t502 a1, true)) else (none)) else (none))) else (some (false, false)))) else (some (false, false)))
set_option maxHeartbeats 8000000 in
set_option maxRecDepth 100000 in
theorem impl_IsFreeAt.calls (k : Nat) (a0_0 : Int) (A0_1 : Option Addr) (c0_1 : Nat) (l0_1 : List (S35)) (A0_2 : Option Addr) (c0_2 : Nat) (l0_2 : List (S35)) (a1 : Int) (r1 : Bool) (r2 : Bool) (w : World) (hr0_1 : Kd.C k35 w A0_1 l0_1.length l0_1) (hc0_1 : l0_1.length ≤ c0_1) (hr0_2 : Kd.C k35 w A0_2 l0_2.length l0_2) (hc0_2 : l0_2.length ≤ c0_2) (h : impl_IsFreeAt.f k a0_0 l0_1 l0_2 a1 = some (r1, r2)) :
  Calls Try.prog 26 #[.agg #[.int .i64 a0_0, .slice A0_1 l0_1.length c0_1, .slice A0_2 l0_2.length c0_2], .int .i64 a1] w fun e w' => e = .returned (.tuple #[.bool r1, .bool r2]) ∧ Below w.heap.size w w' := by
 have hu24 := Try.underlying24
 have HR0_1 := av hr0_1
 have HC0_1 := av hc0_1
 clear hr0_1 hc0_1
 have HR0_2 := av hr0_2
 have HC0_2 := av hc0_2
 clear hr0_2 hc0_2
 have HB := av (Below.refl w.heap.size w)
 have H : ((impl_GoodFree.f a0_0 l0_1 l0_2).bind fun t500 => (if t500 = true then ((impl_within.f a1 0 (wrap64 (a0_0 - 1))).bind fun t501 => (if t501 = true then ((impl_Free_isFree.f k a0_0 l0_1 l0_2).bind fun t502 => (if 0 ≤ a1 then (if a1 < (t502.length : Int) then (some (ek false t502 a1, true)) else (none)) else (none))) else (some (false, false)))) else (some (false, false)))) = some (r1, r2) := h
 clear h
 replace H := Option.bind_eq_some_iff.mp H
 obtain ⟨t500, A30, H⟩ := H
 replace H : (if t500 = true then ((impl_within.f a1 0 (wrap64 (a0_0 - 1))).bind fun t501 => (if t501 = true then ((impl_Free_isFree.f k a0_0 l0_1 l0_2).bind fun t502 => (if 0 ≤ a1 then (if a1 < (t502.length : Int) then (some (ek false t502 a1, true)) else (none)) else (none))) else (some (false, false)))) else (some (false, false))) = some (r1, r2) := H
 have A3 := av A30
 clear A30
 by_cases c4 : t500 = true
 ·subst c4
  have H1 : ((impl_within.f a1 0 (wrap64 (a0_0 - 1))).bind fun t501 => (if t501 = true then ((impl_Free_isFree.f k a0_0 l0_1 l0_2).bind fun t502 => (if 0 ≤ a1 then (if a1 < (t502.length : Int) then (some (ek false t502 a1, true)) else (none)) else (none))) else (some (false, false)))) = some (r1, r2) := by rw [if_pos rfl] at H; exact H
  clear H
  have H := H1
  clear H1
  replace H := Option.bind_eq_some_iff.mp H
  obtain ⟨t501, A50, H⟩ := H
  replace H : (if t501 = true then ((impl_Free_isFree.f k a0_0 l0_1 l0_2).bind fun t502 => (if 0 ≤ a1 then (if a1 < (t502.length : Int) then (some (ek false t502 a1, true)) else (none)) else (none))) else (some (false, false))) = some (r1, r2) := H
  have A5 := av A50
  clear A50
  by_cases c6 : t501 = true
  ·subst c6
   have H1 : ((impl_Free_isFree.f k a0_0 l0_1 l0_2).bind fun t502 => (if 0 ≤ a1 then (if a1 < (t502.length : Int) then (some (ek false t502 a1, true)) else (none)) else (none))) = some (r1, r2) := by rw [if_pos rfl] at H; exact H
   clear H
   have H := H1
   clear H1
   replace H := Option.bind_eq_some_iff.mp H
   obtain ⟨t502, A70, H⟩ := H
   replace H : (if 0 ≤ a1 then (if a1 < (t502.length : Int) then (some (ek false t502 a1, true)) else (none)) else (none)) = some (r1, r2) := H
   have A7 := av A70
   clear A70
   by_cases c8 : 0 ≤ a1
   ·rw [if_pos c8] at H
    have c8b0 : decide (0 ≤ a1) = true := decide_eq_true c8
    clear c8
    by_cases c9 : a1 < (t502.length : Int)
    ·rw [if_pos c9] at H
     have c9b0 : decide (a1 < (t502.length : Int)) = true := decide_eq_true c9
     clear c9
     simp only [Option.some.injEq, Prod.mk.injEq] at H
     obtain ⟨rfl, rfl⟩ := H
     go_enter Try.func26, Try.ntmps26
     go_wp2_with (first | ((with_reducible refine aK (N := 2) rfl ?_); refine aI ?hg (N := 2) ?hd (cs := #[.int .i64 a0_0, .slice A0_1 l0_1.length c0_1, .slice A0_2 l0_2.length c0_2]) (t := 24) ?hr ?_; (case hd => rfl); (case hg => rfl); (case hr => first | (go_simp; done) | (go_simp; rfl)); intro gb499 hg w10 hbox hb; have BK499 := av (hbox); have GW499 := av ((by rw [hg]; exact (az (by with_reducible repeat (first | exact HB.out | apply ah | apply aa | apply ai))) : w.heap.size ≤ gb499)); have GE499 := av ((by rw [hg]; exact (az (by with_reducible repeat (first | exact HB.out | apply ah | apply aa | apply ai))) : w.heap.size ≤ gb499)); replace HB := av (aA (by with_reducible repeat (first | exact HB.out | apply ah | apply aa | apply ai)) hb); clear hb hbox hg; have hcz11_0 : w10.cell? ⟨gb499, 0, none⟩ = some (.int .i64 a0_0) := (ak BK499.out 0).trans rfl; have hcz11_1 : w10.cell? ⟨gb499, 1, none⟩ = some (.slice A0_1 l0_1.length c0_1) := (ak BK499.out 1).trans rfl; have hcz11_2 : w10.cell? ⟨gb499, 2, none⟩ = some (.slice A0_2 l0_2.length c0_2) := (ak BK499.out 2).trans rfl; have hfz11_0 := au BK499.out 0; have hfz11_1 := au BK499.out 1; have hfz11_2 := au BK499.out 2) | ((with_reducible refine aT (f := 17) rfl ?_); refine bF (some 7) rfl rfl Try.func17 (by kernel_rfl) rfl #[.agg #[.int .i64 a0_0, .slice A0_1 l0_1.length c0_1, .slice A0_2 l0_2.length c0_2]] rfl (by (try simp only [amp_]); first | done | rfl | (simp only [ald_]; rfl)) ?_; (with_reducible refine (impl_GoodFree.calls a0_0 _ _ l0_1 _ _ l0_2 true _ ?side1 ?side2 ?side3 ?side4 A3.out).mono ?_); (case side1 => repeat (first | exact (Kd.aN HR0_1.out HB.out) | (with_reducible first | apply Kd.aU | apply Kd.aV | apply Kd.bf))); (case side2 => exact HC0_1.out); (case side3 => repeat (first | exact (Kd.aN HR0_2.out HB.out) | (with_reducible first | apply Kd.aU | apply Kd.aV | apply Kd.bf))); (case side4 => exact HC0_2.out); rintro e w12 ⟨rfl, hb⟩; refine ⟨_, rfl, ?_⟩; replace BK499 := av (ay (g := gb499) (o := .cells #[.int .i64 a0_0, .slice A0_1 l0_1.length c0_1, .slice A0_2 l0_2.length c0_2] 24 (0, 0)) (by (with_reducible repeat (first | apply af | apply aj | apply ag)); exact BK499.out) hb); replace HB := av (aA (by with_reducible repeat (first | exact HB.out | apply ah | apply aa | apply ai | refine ae ?_ GE499.out)) hb); (try clear hb); (try clear hb2); (try clear hk); (try clear hi); have hcz13_0 : w12.cell? ⟨gb499, 0, none⟩ = some (.int .i64 a0_0) := (ak BK499.out 0).trans rfl; have hcz13_1 : w12.cell? ⟨gb499, 1, none⟩ = some (.slice A0_1 l0_1.length c0_1) := (ak BK499.out 1).trans rfl; have hcz13_2 : w12.cell? ⟨gb499, 2, none⟩ = some (.slice A0_2 l0_2.length c0_2) := (ak BK499.out 2).trans rfl; have hfz13_0 := au BK499.out 0; have hfz13_1 := au BK499.out 1; have hfz13_2 := au BK499.out 2) | (go_at_call 34; (with_reducible refine (impl_within.calls a1 0 (wrap64 (a0_0 - 1)) true _ A5.out).mono ?_); rintro e w' ⟨rfl, ⟨nd, rfl⟩⟩) | ((with_reducible refine aT (f := 53) rfl ?_); refine bF (some 18) rfl rfl Try.func53 (by kernel_rfl) rfl #[.agg #[.int .i64 a0_0, .slice A0_1 l0_1.length c0_1, .slice A0_2 l0_2.length c0_2]] rfl (by (try simp only [amp_]); first | done | rfl | (simp only [ald_]; rfl)) ?_; (with_reducible refine (impl_Free_isFree.calls k a0_0 _ _ l0_1 _ _ l0_2 t502 _ ?side1 ?side2 ?side3 ?side4 A7.out).mono ?_); (case side1 => repeat (first | exact (Kd.aN HR0_1.out (by with_reducible repeat (first | exact HB.out | apply ah | apply aa | apply ai | refine ae ?_ GE499.out))) | (with_reducible first | apply Kd.aU | apply Kd.aV | apply Kd.bf))); (case side2 => exact HC0_1.out); (case side3 => repeat (first | exact (Kd.aN HR0_2.out (by with_reducible repeat (first | exact HB.out | apply ah | apply aa | apply ai | refine ae ?_ GE499.out))) | (with_reducible first | apply Kd.aU | apply Kd.aV | apply Kd.bf))); (case side4 => exact HC0_2.out); rintro e w14 ⟨v503, rfl, ho0, hb⟩; refine ⟨_, rfl, ?_⟩; have HO504 := av (Kd.bE ho0 (az (by with_reducible repeat (first | exact HB.out | apply ah | apply aa | apply ai | refine ae ?_ GE499.out)))); replace BK499 := av (ay (g := gb499) (o := .cells #[.int .i64 a0_0, .slice A0_1 l0_1.length c0_1, .slice A0_2 l0_2.length c0_2] 24 (0, 0)) (by (with_reducible repeat (first | apply af | apply aj | apply ag)); exact BK499.out) hb); replace HB := av (aA (by with_reducible repeat (first | exact HB.out | apply ah | apply aa | apply ai | refine ae ?_ GE499.out)) hb); (try clear hb); (try clear hb2); (try clear hk); (try clear hi); (try clear ho0); obtain ⟨Ao15, co15, eo15⟩ := Kd.bu HO504.out; subst eo15; have p505 : 0 ≤ (a1 : Int) := of_decide_eq_true (by assumption); have q505 : a1 < (t502.length : Int) := of_decide_eq_true (by assumption); obtain ⟨ad505, e505, hx505_0⟩ := Kd.nA (Kd.R_reads' HO504.out).2.2 a1 p505 q505; cases e505; replace p505 := eq_true p505; replace q505 := eq_true q505))
     go_ret2
     exact ⟨by first | rfl | (simp <;> rfl) | (simp [*] <;> rfl), by with_reducible repeat (first | exact HB.out | apply ah | apply aa | apply ai | refine ae ?_ GE499.out)⟩
    ·rw [if_neg c9] at H
     exact absurd H (by simp)
   ·rw [if_neg c8] at H
    exact absurd H (by simp)
  ·replace c6 := Bool.eq_false_iff.mpr c6
   subst c6
   have H1 : (some (false, false)) = some (r1, r2) := by rw [if_neg (show ¬ (false = true) by decide)] at H; exact H
   clear H
   have H := H1
   clear H1
   simp only [Option.some.injEq, Prod.mk.injEq] at H
   obtain ⟨rfl, rfl⟩ := H
   go_enter Try.func26, Try.ntmps26
   go_wp2_with (first | ((with_reducible refine aK (N := 2) rfl ?_); refine aI ?hg (N := 2) ?hd (cs := #[.int .i64 a0_0, .slice A0_1 l0_1.length c0_1, .slice A0_2 l0_2.length c0_2]) (t := 24) ?hr ?_; (case hd => rfl); (case hg => rfl); (case hr => first | (go_simp; done) | (go_simp; rfl)); intro gb499 hg w16 hbox hb; have BK499 := av (hbox); have GW499 := av ((by rw [hg]; exact (az (by with_reducible repeat (first | exact HB.out | apply ah | apply aa | apply ai))) : w.heap.size ≤ gb499)); have GE499 := av ((by rw [hg]; exact (az (by with_reducible repeat (first | exact HB.out | apply ah | apply aa | apply ai))) : w.heap.size ≤ gb499)); replace HB := av (aA (by with_reducible repeat (first | exact HB.out | apply ah | apply aa | apply ai)) hb); clear hb hbox hg; have hcz17_0 : w16.cell? ⟨gb499, 0, none⟩ = some (.int .i64 a0_0) := (ak BK499.out 0).trans rfl; have hcz17_1 : w16.cell? ⟨gb499, 1, none⟩ = some (.slice A0_1 l0_1.length c0_1) := (ak BK499.out 1).trans rfl; have hcz17_2 : w16.cell? ⟨gb499, 2, none⟩ = some (.slice A0_2 l0_2.length c0_2) := (ak BK499.out 2).trans rfl; have hfz17_0 := au BK499.out 0; have hfz17_1 := au BK499.out 1; have hfz17_2 := au BK499.out 2) | ((with_reducible refine aT (f := 17) rfl ?_); refine bF (some 7) rfl rfl Try.func17 (by kernel_rfl) rfl #[.agg #[.int .i64 a0_0, .slice A0_1 l0_1.length c0_1, .slice A0_2 l0_2.length c0_2]] rfl (by (try simp only [amp_]); first | done | rfl | (simp only [ald_]; rfl)) ?_; (with_reducible refine (impl_GoodFree.calls a0_0 _ _ l0_1 _ _ l0_2 true _ ?side1 ?side2 ?side3 ?side4 A3.out).mono ?_); (case side1 => repeat (first | exact (Kd.aN HR0_1.out HB.out) | (with_reducible first | apply Kd.aU | apply Kd.aV | apply Kd.bf))); (case side2 => exact HC0_1.out); (case side3 => repeat (first | exact (Kd.aN HR0_2.out HB.out) | (with_reducible first | apply Kd.aU | apply Kd.aV | apply Kd.bf))); (case side4 => exact HC0_2.out); rintro e w18 ⟨rfl, hb⟩; refine ⟨_, rfl, ?_⟩; replace BK499 := av (ay (g := gb499) (o := .cells #[.int .i64 a0_0, .slice A0_1 l0_1.length c0_1, .slice A0_2 l0_2.length c0_2] 24 (0, 0)) (by (with_reducible repeat (first | apply af | apply aj | apply ag)); exact BK499.out) hb); replace HB := av (aA (by with_reducible repeat (first | exact HB.out | apply ah | apply aa | apply ai | refine ae ?_ GE499.out)) hb); (try clear hb); (try clear hb2); (try clear hk); (try clear hi); have hcz19_0 : w18.cell? ⟨gb499, 0, none⟩ = some (.int .i64 a0_0) := (ak BK499.out 0).trans rfl; have hcz19_1 : w18.cell? ⟨gb499, 1, none⟩ = some (.slice A0_1 l0_1.length c0_1) := (ak BK499.out 1).trans rfl; have hcz19_2 : w18.cell? ⟨gb499, 2, none⟩ = some (.slice A0_2 l0_2.length c0_2) := (ak BK499.out 2).trans rfl; have hfz19_0 := au BK499.out 0; have hfz19_1 := au BK499.out 1; have hfz19_2 := au BK499.out 2) | (go_at_call 34; (with_reducible refine (impl_within.calls a1 0 (wrap64 (a0_0 - 1)) false _ A5.out).mono ?_); rintro e w' ⟨rfl, ⟨nd, rfl⟩⟩))
   go_ret2
   exact ⟨by first | rfl | (simp <;> rfl) | (simp [*] <;> rfl), by with_reducible repeat (first | exact HB.out | apply ah | apply aa | apply ai | refine ae ?_ GE499.out)⟩
 ·replace c4 := Bool.eq_false_iff.mpr c4
  subst c4
  have H1 : (some (false, false)) = some (r1, r2) := by rw [if_neg (show ¬ (false = true) by decide)] at H; exact H
  clear H
  have H := H1
  clear H1
  simp only [Option.some.injEq, Prod.mk.injEq] at H
  obtain ⟨rfl, rfl⟩ := H
  go_enter Try.func26, Try.ntmps26
  go_wp2_with (first | ((with_reducible refine aK (N := 2) rfl ?_); refine aI ?hg (N := 2) ?hd (cs := #[.int .i64 a0_0, .slice A0_1 l0_1.length c0_1, .slice A0_2 l0_2.length c0_2]) (t := 24) ?hr ?_; (case hd => rfl); (case hg => rfl); (case hr => first | (go_simp; done) | (go_simp; rfl)); intro gb499 hg w20 hbox hb; have BK499 := av (hbox); have GW499 := av ((by rw [hg]; exact (az (by with_reducible repeat (first | exact HB.out | apply ah | apply aa | apply ai))) : w.heap.size ≤ gb499)); have GE499 := av ((by rw [hg]; exact (az (by with_reducible repeat (first | exact HB.out | apply ah | apply aa | apply ai))) : w.heap.size ≤ gb499)); replace HB := av (aA (by with_reducible repeat (first | exact HB.out | apply ah | apply aa | apply ai)) hb); clear hb hbox hg; have hcz21_0 : w20.cell? ⟨gb499, 0, none⟩ = some (.int .i64 a0_0) := (ak BK499.out 0).trans rfl; have hcz21_1 : w20.cell? ⟨gb499, 1, none⟩ = some (.slice A0_1 l0_1.length c0_1) := (ak BK499.out 1).trans rfl; have hcz21_2 : w20.cell? ⟨gb499, 2, none⟩ = some (.slice A0_2 l0_2.length c0_2) := (ak BK499.out 2).trans rfl; have hfz21_0 := au BK499.out 0; have hfz21_1 := au BK499.out 1; have hfz21_2 := au BK499.out 2) | ((with_reducible refine aT (f := 17) rfl ?_); refine bF (some 7) rfl rfl Try.func17 (by kernel_rfl) rfl #[.agg #[.int .i64 a0_0, .slice A0_1 l0_1.length c0_1, .slice A0_2 l0_2.length c0_2]] rfl (by (try simp only [amp_]); first | done | rfl | (simp only [ald_]; rfl)) ?_; (with_reducible refine (impl_GoodFree.calls a0_0 _ _ l0_1 _ _ l0_2 false _ ?side1 ?side2 ?side3 ?side4 A3.out).mono ?_); (case side1 => repeat (first | exact (Kd.aN HR0_1.out HB.out) | (with_reducible first | apply Kd.aU | apply Kd.aV | apply Kd.bf))); (case side2 => exact HC0_1.out); (case side3 => repeat (first | exact (Kd.aN HR0_2.out HB.out) | (with_reducible first | apply Kd.aU | apply Kd.aV | apply Kd.bf))); (case side4 => exact HC0_2.out); rintro e w22 ⟨rfl, hb⟩; refine ⟨_, rfl, ?_⟩; replace BK499 := av (ay (g := gb499) (o := .cells #[.int .i64 a0_0, .slice A0_1 l0_1.length c0_1, .slice A0_2 l0_2.length c0_2] 24 (0, 0)) (by (with_reducible repeat (first | apply af | apply aj | apply ag)); exact BK499.out) hb); replace HB := av (aA (by with_reducible repeat (first | exact HB.out | apply ah | apply aa | apply ai | refine ae ?_ GE499.out)) hb); (try clear hb); (try clear hb2); (try clear hk); (try clear hi)))
  go_ret2
  exact ⟨by first | rfl | (simp <;> rfl) | (simp [*] <;> rfl), by with_reducible repeat (first | exact HB.out | apply ah | apply aa | apply ai | refine ae ?_ GE499.out)⟩
attribute [local go_sem] bK bJ bT bU bA bB bM bL
set_option linter.unusedVariables false
set_option linter.unusedSimpArgs false
attribute [local go_sem high] pO
def laws_sameExtents.l0 : Nat → List (S35) → List (S35) → Int → Int → Option (Bool)
 | 0, _, _, _, _ => none
 | k + 1, x0, x1, x12, x13 => if x13 < x12 then (if 0 ≤ x13 then (if x13 < (x0.length : Int) then (if x13 < (x1.length : Int) then (if (!(((ax x0 x13).f0) == ((ax x1 x13).f0)) || (!(((ax x0 x13).f1) == ((ax x1 x13).f1)))) = true then (some false) else (laws_sameExtents.l0 k x0 x1 x12 (wrap64 (x13 + 1)))) else (none)) else (none)) else (none)) else (some true)
def laws_sameExtents.f (k : Nat) (l0 : List (S35)) (l1 : List (S35)) : Option (Bool) := if (l0.length : Int) = (l1.length : Int) then (laws_sameExtents.l0 k l0 l1 (l0.length : Int) 0) else (some false)
set_option maxHeartbeats 8000000 in
set_option maxRecDepth 100000 in
theorem laws_sameExtents.calls (k : Nat) (A0 : Option Addr) (c0 : Nat) (l0 : List (S35)) (A1 : Option Addr) (c1 : Nat) (l1 : List (S35)) (r : Bool) (w : World) (hr0 : Kd.C k35 w A0 l0.length l0) (hc0 : l0.length ≤ c0) (hr1 : Kd.C k35 w A1 l1.length l1) (hc1 : l1.length ≤ c1) (h : laws_sameExtents.f k l0 l1 = some r) :
  Calls Try.prog 21 #[.slice A0 l0.length c0, .slice A1 l1.length c1] w fun e w' => e = .returned (.bool r) ∧ Drawn0 w w' := by
 have hu35 := Try.underlying35
 have HR0 := av hr0
 have HC0 := av hc0
 clear hr0 hc0
 have HR1 := av hr1
 have HC1 := av hc1
 clear hr1 hc1
 have H : (if (l0.length : Int) = (l1.length : Int) then (laws_sameExtents.l0 k l0 l1 (l0.length : Int) 0) else (some false)) = some r := h
 clear h
 by_cases c3 : (l0.length : Int) = (l1.length : Int)
 ·rw [if_pos c3] at H
  have c3b0 : ((l0.length : Int) == (l1.length : Int)) = true := beq_iff_eq.mpr c3
  have c3b1 : ((l0.length : Int) != (l1.length : Int)) = false := bne_eq_false_iff_eq.mpr c3
  have c3b2 : (l0.length == l1.length) = true := by first | simpa using c3 | (simp at c3 ⊢; omega)
  clear c3
  have H' := av H
  clear H
  go_enter Try.func21, Try.ntmps21
  go_wp2
  repeat (go_quiet (fail); try go_wp2)
  go_loopg [13] k (fun kq v13 w' => ∃ (x13_1 : Int), v13 = .int .i64 x13_1 ∧ Aside0 (laws_sameExtents.l0 kq l0 l1 (l0.length : Int) x13_1 = some r) ∧ Aside0 (kq ≤ k) ∧ Drawn0 w w')
  case atStart => exact ⟨(0), (by first | rfl | (simp; done) | (simp [*]; done)), H', ⟨Nat.le_refl _⟩, by repeat (first | exact Drawn0.refl _ | apply Drawn0.step)⟩
  case round =>
   clear H'
   try clear c1
   try clear c2
   try clear p2
   try clear c3
   try clear c3b0
   try clear c3b1
   try clear c3b2
   obtain ⟨x13_1, rfl, HA, HK1, ⟨m1, rfl⟩⟩ := hrel
   cases gk with
   | zero => exact absurd HA.out (by simp [laws_sameExtents.l0])
   | succ k1 =>
    have H := HA.out
    clear HA
    simp only [laws_sameExtents.l0] at H
    by_cases c4 : x13_1 < (l0.length : Int)
    ·rw [if_pos c4] at H
     have c4b0 : decide (x13_1 < (l0.length : Int)) = true := decide_eq_true c4
     clear c4
     by_cases c5 : 0 ≤ x13_1
     ·rw [if_pos c5] at H
      have c5b0 : decide (0 ≤ x13_1) = true := decide_eq_true c5
      clear c5
      by_cases c6 : x13_1 < (l0.length : Int)
      ·rw [if_pos c6] at H
       have c6b0 : decide (x13_1 < (l0.length : Int)) = true := decide_eq_true c6
       clear c6
       by_cases c7 : x13_1 < (l1.length : Int)
       ·rw [if_pos c7] at H
        have c7b0 : decide (x13_1 < (l1.length : Int)) = true := decide_eq_true c7
        clear c7
        by_cases c8 : (!(((ax l0 x13_1).f0) == ((ax l1 x13_1).f0)) || (!(((ax l0 x13_1).f1) == ((ax l1 x13_1).f1)))) = true
        ·rw [if_pos c8] at H
         have c8b0 : (!(((ax l0 x13_1).f0) == ((ax l1 x13_1).f0)) || (!(((ax l0 x13_1).f1) == ((ax l1 x13_1).f1)))) = true := c8
         clear c8
         obtain rfl := Option.some.inj H
         have p467 : 0 ≤ (x13_1 : Int) := of_decide_eq_true (by assumption)
         have q467 : x13_1 < (l0.length : Int) := of_decide_eq_true (by assumption)
         obtain ⟨ad467, e467, hx467_0, hx467_1⟩ := bC HR0.out x13_1 p467 q467
         cases e467
         replace p467 := eq_true p467
         replace q467 := eq_true q467
         have p468 : 0 ≤ (x13_1 : Int) := of_decide_eq_true (by assumption)
         have q468 : x13_1 < (l1.length : Int) := of_decide_eq_true (by assumption)
         obtain ⟨ad468, e468, hx468_0, hx468_1⟩ := bC HR1.out x13_1 p468 q468
         cases e468
         replace p468 := eq_true p468
         replace q468 := eq_true q468
         go_wp2
         repeat (go_quiet (fail); try go_wp2)
         go_ret
         exact ⟨by first | rfl | (simp; done) | (simp [*]; done), by repeat (first | exact Drawn0.refl _ | apply Drawn0.step)⟩
        ·rw [if_neg c8] at H
         have c8b0 : (!(((ax l0 x13_1).f0) == ((ax l1 x13_1).f0)) || (!(((ax l0 x13_1).f1) == ((ax l1 x13_1).f1)))) = false := by simpa using c8
         clear c8
         have H' := av H
         clear H
         have p467 : 0 ≤ (x13_1 : Int) := of_decide_eq_true (by assumption)
         have q467 : x13_1 < (l0.length : Int) := of_decide_eq_true (by assumption)
         obtain ⟨ad467, e467, hx467_0, hx467_1⟩ := bC HR0.out x13_1 p467 q467
         cases e467
         replace p467 := eq_true p467
         replace q467 := eq_true q467
         have p468 : 0 ≤ (x13_1 : Int) := of_decide_eq_true (by assumption)
         have q468 : x13_1 < (l1.length : Int) := of_decide_eq_true (by assumption)
         obtain ⟨ad468, e468, hx468_0, hx468_1⟩ := bC HR1.out x13_1 p468 q468
         cases e468
         replace p468 := eq_true p468
         replace q468 := eq_true q468
         go_wp2
         repeat (go_quiet (fail); try go_wp2)
         go_roundg k1
         case measure => have := HK1.out; omega
         case rel => exact ⟨(wrap64 (x13_1 + 1)), (by first | rfl | (simp; done) | (simp [*]; done)), H', ⟨by have := HK1.out; omega⟩, by repeat (first | exact Drawn0.refl _ | apply Drawn0.step)⟩
       ·rw [if_neg c7] at H
        exact absurd H (by simp)
      ·rw [if_neg c6] at H
       exact absurd H (by simp)
     ·rw [if_neg c5] at H
      exact absurd H (by simp)
    ·rw [if_neg c4] at H
     have c4b0 : decide (x13_1 < (l0.length : Int)) = false := decide_eq_false c4
     clear c4
     obtain rfl := Option.some.inj H
     go_wp2
     repeat (go_quiet (fail); try go_wp2)
     go_ret
     exact ⟨by first | rfl | (simp; done) | (simp [*]; done), by repeat (first | exact Drawn0.refl _ | apply Drawn0.step)⟩
 ·rw [if_neg c3] at H
  have c3b0 : ((l0.length : Int) == (l1.length : Int)) = false := beq_eq_false_iff_ne.mpr c3
  have c3b1 : ((l0.length : Int) != (l1.length : Int)) = true := bne_iff_ne.mpr c3
  have c3b2 : (l0.length == l1.length) = false := by first | simpa using c3 | (simp at c3 ⊢; omega)
  obtain rfl := Option.some.inj H
  go_enter Try.func21, Try.ntmps21
  go_wp2
  repeat (go_quiet (fail); try go_wp2)
  go_ret
  exact ⟨by first | rfl | (simp; done) | (simp [*]; done), by repeat (first | exact Drawn0.refl _ | apply Drawn0.step)⟩
attribute [local go_sem] bK bJ bT bU bA bB bM bL
set_option linter.unusedVariables false
set_option linter.unusedSimpArgs false
def laws_sameRooms.f (k : Nat) (a0_0 : Int) (l0_1 : List (S35)) (l0_2 : List (S35)) (a1_0 : Int) (l1_1 : List (S35)) (l1_2 : List (S35)) : Option (Bool) := if a0_0 = a1_0 then ((laws_sameExtents.f k l0_1 l1_1).bind fun t471 => (if t471 = true then ((laws_sameExtents.f k l0_2 l1_2).bind fun t472 => (some t472)) else (some false))) else (some false)
set_option maxHeartbeats 8000000 in
set_option maxRecDepth 100000 in
theorem laws_sameRooms.calls (k : Nat) (a0_0 : Int) (A0_1 : Option Addr) (c0_1 : Nat) (l0_1 : List (S35)) (A0_2 : Option Addr) (c0_2 : Nat) (l0_2 : List (S35)) (a1_0 : Int) (A1_1 : Option Addr) (c1_1 : Nat) (l1_1 : List (S35)) (A1_2 : Option Addr) (c1_2 : Nat) (l1_2 : List (S35)) (r : Bool) (w : World) (hr0_1 : Kd.C k35 w A0_1 l0_1.length l0_1) (hc0_1 : l0_1.length ≤ c0_1) (hr0_2 : Kd.C k35 w A0_2 l0_2.length l0_2) (hc0_2 : l0_2.length ≤ c0_2) (hr1_1 : Kd.C k35 w A1_1 l1_1.length l1_1) (hc1_1 : l1_1.length ≤ c1_1) (hr1_2 : Kd.C k35 w A1_2 l1_2.length l1_2) (hc1_2 : l1_2.length ≤ c1_2) (h : laws_sameRooms.f k a0_0 l0_1 l0_2 a1_0 l1_1 l1_2 = some r) :
  Calls Try.prog 15 #[.agg #[.int .i64 a0_0, .slice A0_1 l0_1.length c0_1, .slice A0_2 l0_2.length c0_2], .agg #[.int .i64 a1_0, .slice A1_1 l1_1.length c1_1, .slice A1_2 l1_2.length c1_2]] w fun e w' => e = .returned (.bool r) ∧ Below w.heap.size w w' := by
 have hu24 := Try.underlying24
 have HR0_1 := av hr0_1
 have HC0_1 := av hc0_1
 clear hr0_1 hc0_1
 have HR0_2 := av hr0_2
 have HC0_2 := av hc0_2
 clear hr0_2 hc0_2
 have HR1_1 := av hr1_1
 have HC1_1 := av hc1_1
 clear hr1_1 hc1_1
 have HR1_2 := av hr1_2
 have HC1_2 := av hc1_2
 clear hr1_2 hc1_2
 have HB := av (Below.refl w.heap.size w)
 have H : (if a0_0 = a1_0 then ((laws_sameExtents.f k l0_1 l1_1).bind fun t471 => (if t471 = true then ((laws_sameExtents.f k l0_2 l1_2).bind fun t472 => (some t472)) else (some false))) else (some false)) = some r := h
 clear h
 by_cases c3 : a0_0 = a1_0
 ·rw [if_pos c3] at H
  have c3b0 : (a0_0 == a1_0) = true := beq_iff_eq.mpr c3
  have c3b1 : (a0_0 != a1_0) = false := bne_eq_false_iff_eq.mpr c3
  clear c3
  replace H := Option.bind_eq_some_iff.mp H
  obtain ⟨t471, A40, H⟩ := H
  replace H : (if t471 = true then ((laws_sameExtents.f k l0_2 l1_2).bind fun t472 => (some t472)) else (some false)) = some r := H
  have A4 := av A40
  clear A40
  by_cases c5 : t471 = true
  ·subst c5
   have H1 : ((laws_sameExtents.f k l0_2 l1_2).bind fun t472 => (some t472)) = some r := by rw [if_pos rfl] at H; exact H
   clear H
   have H := H1
   clear H1
   replace H := Option.bind_eq_some_iff.mp H
   obtain ⟨t472, A60, H⟩ := H
   replace H : (some t472) = some r := H
   have A6 := av A60
   clear A60
   obtain rfl := Option.some.inj H
   go_enter Try.func15, Try.ntmps15
   go_wp2_with (first | ((with_reducible refine aK (N := 2) rfl ?_); refine aI ?hg (N := 2) ?hd (cs := #[.int .i64 a0_0, .slice A0_1 l0_1.length c0_1, .slice A0_2 l0_2.length c0_2]) (t := 24) ?hr ?_; (case hd => rfl); (case hg => rfl); (case hr => first | (go_simp; done) | (go_simp; rfl)); intro gb469 hg w7 hbox hb; have BK469 := av (hbox); have GW469 := av ((by rw [hg]; exact (az (by with_reducible repeat (first | exact HB.out | apply ah | apply aa | apply ai))) : w.heap.size ≤ gb469)); have GE469 := av ((by rw [hg]; exact (az (by with_reducible repeat (first | exact HB.out | apply ah | apply aa | apply ai))) : w.heap.size ≤ gb469)); replace HB := av (aA (by with_reducible repeat (first | exact HB.out | apply ah | apply aa | apply ai)) hb); clear hb hbox hg) | ((with_reducible refine aK (N := 3) rfl ?_); refine aI ?hg (N := 3) ?hd (cs := #[.int .i64 a1_0, .slice A1_1 l1_1.length c1_1, .slice A1_2 l1_2.length c1_2]) (t := 24) ?hr ?_; (case hd => rfl); (case hg => rfl); (case hr => first | (go_simp; done) | (go_simp; rfl)); intro gb470 hg w8 hbox hb; have BK470 := av (hbox); have GW470 := av ((by rw [hg]; exact (az (by with_reducible repeat (first | exact HB.out | apply ah | apply aa | apply ai | refine ae ?_ GE469.out))) : w.heap.size ≤ gb470)); have GE470 := av ((by rw [hg]; exact (az (by with_reducible repeat (first | exact HB.out | apply ah | apply aa | apply ai | refine ae ?_ GE469.out))) : w.heap.size ≤ gb470)); replace HB := av (aA (by with_reducible repeat (first | exact HB.out | apply ah | apply aa | apply ai | refine ae ?_ GE469.out)) hb); have NB469_470 := av ((by rw [hg]; exact Nat.ne_of_lt (aG (g := gb469) (o := .cells #[.int .i64 a0_0, .slice A0_1 l0_1.length c0_1, .slice A0_2 l0_2.length c0_2] 24 (0, 0)) (by (with_reducible repeat (first | apply af | apply aj | apply ag)); exact BK469.out)) : gb469 ≠ gb470)); have NB470_469 := av ((by rw [hg]; exact Nat.ne_of_gt (aG (g := gb469) (o := .cells #[.int .i64 a0_0, .slice A0_1 l0_1.length c0_1, .slice A0_2 l0_2.length c0_2] 24 (0, 0)) (by (with_reducible repeat (first | apply af | apply aj | apply ag)); exact BK469.out)) : gb470 ≠ gb469)); replace BK469 := av (ay (g := gb469) (o := .cells #[.int .i64 a0_0, .slice A0_1 l0_1.length c0_1, .slice A0_2 l0_2.length c0_2] 24 (0, 0)) (by (with_reducible repeat (first | apply af | apply aj | apply ag)); exact BK469.out) hb); clear hb hbox hg; have hnb9 := NB469_470.out; have hnc9 := NB470_469.out; have hcz10_0 : w8.cell? ⟨gb469, 0, none⟩ = some (.int .i64 a0_0) := (ak BK469.out 0).trans rfl; have hcz10_1 : w8.cell? ⟨gb469, 1, none⟩ = some (.slice A0_1 l0_1.length c0_1) := (ak BK469.out 1).trans rfl; have hcz10_2 : w8.cell? ⟨gb469, 2, none⟩ = some (.slice A0_2 l0_2.length c0_2) := (ak BK469.out 2).trans rfl; have hfz10_0 := au BK469.out 0; have hfz10_1 := au BK469.out 1; have hfz10_2 := au BK469.out 2; have hcz11_0 : w8.cell? ⟨gb470, 0, none⟩ = some (.int .i64 a1_0) := (ak BK470.out 0).trans rfl; have hcz11_1 : w8.cell? ⟨gb470, 1, none⟩ = some (.slice A1_1 l1_1.length c1_1) := (ak BK470.out 1).trans rfl; have hcz11_2 : w8.cell? ⟨gb470, 2, none⟩ = some (.slice A1_2 l1_2.length c1_2) := (ak BK470.out 2).trans rfl; have hfz11_0 := au BK470.out 0; have hfz11_1 := au BK470.out 1; have hfz11_2 := au BK470.out 2) | (go_at_call 21; (with_reducible refine (laws_sameExtents.calls k _ _ l0_1 _ _ l1_1 true _ ?side1 ?side2 ?side3 ?side4 A4.out).mono ?_); (case side1 => repeat (first | exact (Kd.aN HR0_1.out HB.out) | (with_reducible first | apply Kd.aU | apply Kd.aV | apply Kd.bf))); (case side2 => exact HC0_1.out); (case side3 => repeat (first | exact (Kd.aN HR1_1.out HB.out) | (with_reducible first | apply Kd.aU | apply Kd.aV | apply Kd.bf))); (case side4 => exact HC1_1.out); rintro e w' ⟨rfl, ⟨nd, rfl⟩⟩) | (go_at_call 21; (with_reducible refine (laws_sameExtents.calls k _ _ l0_2 _ _ l1_2 t472 _ ?side1 ?side2 ?side3 ?side4 A6.out).mono ?_); (case side1 => repeat (first | exact (Kd.aN HR0_2.out (by with_reducible repeat (first | exact HB.out | apply ah | apply aa | apply ai | refine ae ?_ GE469.out | refine ae ?_ GE470.out))) | (with_reducible first | apply Kd.aU | apply Kd.aV | apply Kd.bf))); (case side2 => exact HC0_2.out); (case side3 => repeat (first | exact (Kd.aN HR1_2.out (by with_reducible repeat (first | exact HB.out | apply ah | apply aa | apply ai | refine ae ?_ GE469.out | refine ae ?_ GE470.out))) | (with_reducible first | apply Kd.aU | apply Kd.aV | apply Kd.bf))); (case side4 => exact HC1_2.out); rintro e w' ⟨rfl, ⟨nd, rfl⟩⟩))
   go_ret
   exact ⟨by first | rfl | (simp <;> rfl) | (simp [*] <;> rfl), by with_reducible repeat (first | exact HB.out | apply ah | apply aa | apply ai | refine ae ?_ GE469.out | refine ae ?_ GE470.out)⟩
  ·replace c5 := Bool.eq_false_iff.mpr c5
   subst c5
   have H1 : (some false) = some r := by rw [if_neg (show ¬ (false = true) by decide)] at H; exact H
   clear H
   have H := H1
   clear H1
   obtain rfl := Option.some.inj H
   go_enter Try.func15, Try.ntmps15
   go_wp2_with (first | ((with_reducible refine aK (N := 2) rfl ?_); refine aI ?hg (N := 2) ?hd (cs := #[.int .i64 a0_0, .slice A0_1 l0_1.length c0_1, .slice A0_2 l0_2.length c0_2]) (t := 24) ?hr ?_; (case hd => rfl); (case hg => rfl); (case hr => first | (go_simp; done) | (go_simp; rfl)); intro gb469 hg w12 hbox hb; have BK469 := av (hbox); have GW469 := av ((by rw [hg]; exact (az (by with_reducible repeat (first | exact HB.out | apply ah | apply aa | apply ai))) : w.heap.size ≤ gb469)); have GE469 := av ((by rw [hg]; exact (az (by with_reducible repeat (first | exact HB.out | apply ah | apply aa | apply ai))) : w.heap.size ≤ gb469)); replace HB := av (aA (by with_reducible repeat (first | exact HB.out | apply ah | apply aa | apply ai)) hb); clear hb hbox hg) | ((with_reducible refine aK (N := 3) rfl ?_); refine aI ?hg (N := 3) ?hd (cs := #[.int .i64 a1_0, .slice A1_1 l1_1.length c1_1, .slice A1_2 l1_2.length c1_2]) (t := 24) ?hr ?_; (case hd => rfl); (case hg => rfl); (case hr => first | (go_simp; done) | (go_simp; rfl)); intro gb470 hg w13 hbox hb; have BK470 := av (hbox); have GW470 := av ((by rw [hg]; exact (az (by with_reducible repeat (first | exact HB.out | apply ah | apply aa | apply ai | refine ae ?_ GE469.out))) : w.heap.size ≤ gb470)); have GE470 := av ((by rw [hg]; exact (az (by with_reducible repeat (first | exact HB.out | apply ah | apply aa | apply ai | refine ae ?_ GE469.out))) : w.heap.size ≤ gb470)); replace HB := av (aA (by with_reducible repeat (first | exact HB.out | apply ah | apply aa | apply ai | refine ae ?_ GE469.out)) hb); have NB469_470 := av ((by rw [hg]; exact Nat.ne_of_lt (aG (g := gb469) (o := .cells #[.int .i64 a0_0, .slice A0_1 l0_1.length c0_1, .slice A0_2 l0_2.length c0_2] 24 (0, 0)) (by (with_reducible repeat (first | apply af | apply aj | apply ag)); exact BK469.out)) : gb469 ≠ gb470)); have NB470_469 := av ((by rw [hg]; exact Nat.ne_of_gt (aG (g := gb469) (o := .cells #[.int .i64 a0_0, .slice A0_1 l0_1.length c0_1, .slice A0_2 l0_2.length c0_2] 24 (0, 0)) (by (with_reducible repeat (first | apply af | apply aj | apply ag)); exact BK469.out)) : gb470 ≠ gb469)); replace BK469 := av (ay (g := gb469) (o := .cells #[.int .i64 a0_0, .slice A0_1 l0_1.length c0_1, .slice A0_2 l0_2.length c0_2] 24 (0, 0)) (by (with_reducible repeat (first | apply af | apply aj | apply ag)); exact BK469.out) hb); clear hb hbox hg; have hnb14 := NB469_470.out; have hnc14 := NB470_469.out; have hcz15_0 : w13.cell? ⟨gb469, 0, none⟩ = some (.int .i64 a0_0) := (ak BK469.out 0).trans rfl; have hcz15_1 : w13.cell? ⟨gb469, 1, none⟩ = some (.slice A0_1 l0_1.length c0_1) := (ak BK469.out 1).trans rfl; have hcz15_2 : w13.cell? ⟨gb469, 2, none⟩ = some (.slice A0_2 l0_2.length c0_2) := (ak BK469.out 2).trans rfl; have hfz15_0 := au BK469.out 0; have hfz15_1 := au BK469.out 1; have hfz15_2 := au BK469.out 2; have hcz16_0 : w13.cell? ⟨gb470, 0, none⟩ = some (.int .i64 a1_0) := (ak BK470.out 0).trans rfl; have hcz16_1 : w13.cell? ⟨gb470, 1, none⟩ = some (.slice A1_1 l1_1.length c1_1) := (ak BK470.out 1).trans rfl; have hcz16_2 : w13.cell? ⟨gb470, 2, none⟩ = some (.slice A1_2 l1_2.length c1_2) := (ak BK470.out 2).trans rfl; have hfz16_0 := au BK470.out 0; have hfz16_1 := au BK470.out 1; have hfz16_2 := au BK470.out 2) | (go_at_call 21; (with_reducible refine (laws_sameExtents.calls k _ _ l0_1 _ _ l1_1 false _ ?side1 ?side2 ?side3 ?side4 A4.out).mono ?_); (case side1 => repeat (first | exact (Kd.aN HR0_1.out HB.out) | (with_reducible first | apply Kd.aU | apply Kd.aV | apply Kd.bf))); (case side2 => exact HC0_1.out); (case side3 => repeat (first | exact (Kd.aN HR1_1.out HB.out) | (with_reducible first | apply Kd.aU | apply Kd.aV | apply Kd.bf))); (case side4 => exact HC1_1.out); rintro e w' ⟨rfl, ⟨nd, rfl⟩⟩))
   go_ret
   exact ⟨by first | rfl | (simp <;> rfl) | (simp [*] <;> rfl), by with_reducible repeat (first | exact HB.out | apply ah | apply aa | apply ai | refine ae ?_ GE469.out | refine ae ?_ GE470.out)⟩
 ·rw [if_neg c3] at H
  have c3b0 : (a0_0 == a1_0) = false := beq_eq_false_iff_ne.mpr c3
  have c3b1 : (a0_0 != a1_0) = true := bne_iff_ne.mpr c3
  obtain rfl := Option.some.inj H
  go_enter Try.func15, Try.ntmps15
  go_wp2_with (first | ((with_reducible refine aK (N := 2) rfl ?_); refine aI ?hg (N := 2) ?hd (cs := #[.int .i64 a0_0, .slice A0_1 l0_1.length c0_1, .slice A0_2 l0_2.length c0_2]) (t := 24) ?hr ?_; (case hd => rfl); (case hg => rfl); (case hr => first | (go_simp; done) | (go_simp; rfl)); intro gb469 hg w17 hbox hb; have BK469 := av (hbox); have GW469 := av ((by rw [hg]; exact (az (by with_reducible repeat (first | exact HB.out | apply ah | apply aa | apply ai))) : w.heap.size ≤ gb469)); have GE469 := av ((by rw [hg]; exact (az (by with_reducible repeat (first | exact HB.out | apply ah | apply aa | apply ai))) : w.heap.size ≤ gb469)); replace HB := av (aA (by with_reducible repeat (first | exact HB.out | apply ah | apply aa | apply ai)) hb); clear hb hbox hg) | ((with_reducible refine aK (N := 3) rfl ?_); refine aI ?hg (N := 3) ?hd (cs := #[.int .i64 a1_0, .slice A1_1 l1_1.length c1_1, .slice A1_2 l1_2.length c1_2]) (t := 24) ?hr ?_; (case hd => rfl); (case hg => rfl); (case hr => first | (go_simp; done) | (go_simp; rfl)); intro gb470 hg w18 hbox hb; have BK470 := av (hbox); have GW470 := av ((by rw [hg]; exact (az (by with_reducible repeat (first | exact HB.out | apply ah | apply aa | apply ai | refine ae ?_ GE469.out))) : w.heap.size ≤ gb470)); have GE470 := av ((by rw [hg]; exact (az (by with_reducible repeat (first | exact HB.out | apply ah | apply aa | apply ai | refine ae ?_ GE469.out))) : w.heap.size ≤ gb470)); replace HB := av (aA (by with_reducible repeat (first | exact HB.out | apply ah | apply aa | apply ai | refine ae ?_ GE469.out)) hb); have NB469_470 := av ((by rw [hg]; exact Nat.ne_of_lt (aG (g := gb469) (o := .cells #[.int .i64 a0_0, .slice A0_1 l0_1.length c0_1, .slice A0_2 l0_2.length c0_2] 24 (0, 0)) (by (with_reducible repeat (first | apply af | apply aj | apply ag)); exact BK469.out)) : gb469 ≠ gb470)); have NB470_469 := av ((by rw [hg]; exact Nat.ne_of_gt (aG (g := gb469) (o := .cells #[.int .i64 a0_0, .slice A0_1 l0_1.length c0_1, .slice A0_2 l0_2.length c0_2] 24 (0, 0)) (by (with_reducible repeat (first | apply af | apply aj | apply ag)); exact BK469.out)) : gb470 ≠ gb469)); replace BK469 := av (ay (g := gb469) (o := .cells #[.int .i64 a0_0, .slice A0_1 l0_1.length c0_1, .slice A0_2 l0_2.length c0_2] 24 (0, 0)) (by (with_reducible repeat (first | apply af | apply aj | apply ag)); exact BK469.out) hb); clear hb hbox hg; have hnb19 := NB469_470.out; have hnc19 := NB470_469.out; have hcz20_0 : w18.cell? ⟨gb469, 0, none⟩ = some (.int .i64 a0_0) := (ak BK469.out 0).trans rfl; have hcz20_1 : w18.cell? ⟨gb469, 1, none⟩ = some (.slice A0_1 l0_1.length c0_1) := (ak BK469.out 1).trans rfl; have hcz20_2 : w18.cell? ⟨gb469, 2, none⟩ = some (.slice A0_2 l0_2.length c0_2) := (ak BK469.out 2).trans rfl; have hfz20_0 := au BK469.out 0; have hfz20_1 := au BK469.out 1; have hfz20_2 := au BK469.out 2; have hcz21_0 : w18.cell? ⟨gb470, 0, none⟩ = some (.int .i64 a1_0) := (ak BK470.out 0).trans rfl; have hcz21_1 : w18.cell? ⟨gb470, 1, none⟩ = some (.slice A1_1 l1_1.length c1_1) := (ak BK470.out 1).trans rfl; have hcz21_2 : w18.cell? ⟨gb470, 2, none⟩ = some (.slice A1_2 l1_2.length c1_2) := (ak BK470.out 2).trans rfl; have hfz21_0 := au BK470.out 0; have hfz21_1 := au BK470.out 1; have hfz21_2 := au BK470.out 2))
  go_ret
  exact ⟨by first | rfl | (simp <;> rfl) | (simp [*] <;> rfl), by with_reducible repeat (first | exact HB.out | apply ah | apply aa | apply ai | refine ae ?_ GE469.out | refine ae ?_ GE470.out)⟩
open Go.RowKit Go.Proofs.YtelblhkbogljnaaW.PrintWords Go.Proofs.YtelblhkbogljnaaW.PrintLast Go.Proofs.YtelblhkbogljnaaW.PrintMore Go.Proofs.Ytelblhkbogljnaa.E
theorem pV (l : List EX) (hl : l.length ≤ 1000) : ∀ (f i : Nat), i + f = l.length → Ev (fun k => laws_sameExtents.l0 k l l (l.length : Int) (i : Int)) true := by
  intro f
  induction f with
  | zero => intro i hi; exact Ev.step (fun _ => laws_sameExtents.l0.eq_2 ..) (bI (by omega) (bS rfl))
  | succ f ih =>
    intro i hi
    refine Ev.step (fun _ => laws_sameExtents.l0.eq_2 ..) (aZ (by omega) (aZ (by omega) (aZ (by omega) (aZ (by omega) (bI (by simp) ?_)))))
    rw [w64 (x := (i : Int) + 1) (by omega) (by omega), show (i : Int) + 1 = ((i + 1 : Nat) : Int) by omega]
    exact ih (i + 1) (by omega)
theorem l8 (l : List EX) (hl : l.length ≤ 1000) : Ev (fun k => laws_sameExtents.f k l l) true := by
  unfold laws_sameExtents.f
  exact aZ rfl (pV l hl l.length 0 (by omega))
theorem mD (b : Int) (P S : List EX) (hP : P.length ≤ 1000) (hS : S.length ≤ 1000) : Ev (fun k => laws_sameRooms.f k b P S b P S) true := by
  unfold laws_sameRooms.f
  exact aZ rfl (Ev.bind (l8 P hP) (aZ rfl (Ev.bind (l8 S hS) (bS rfl))))
section
variable {B : Int} {P S Q : List EX} {x : EX}
theorem nk (hg : cZ B P S = true) {k : Int} (h0 : 0 ≤ k) (h1 : k < B) : Ev (fun n => impl_IsFreeAt.f n B P S k) (cov P k, true) := by
  obtain ⟨hB, hP, hS, _⟩ := dF.1 hg
  unfold impl_IsFreeAt.f impl_GoodFree.f
  rw [hg, w64 (x := B - 1) (by omega) (by omega), dH]
  refine eP (aZ rfl (eP (aZ (decide_eq_true (by omega)) (Ev.bind (kR hB hP hS S) (aZ h0 (aZ (by rw [jM]; omega) (bS ?_)))))))
  rw [iV _ _ h0 (by omega)]
theorem gP (h : Took B P S x Q) : cZ B Q (bv Q) = true := by
  obtain ⟨hB, hP, hS, _⟩ := dF.1 h.g
  rw [fV hB h.s, decide_eq_true h.n]
theorem iX (h : Took B P S x Q) {k : Int} (hk : inX x k = true) : cov P k = true ∧ cov Q k = false := ⟨h.d k hk, by rw [h.c]; unfold kJ; rw [if_pos hk]⟩
theorem jW (h : Took B P S x Q) {k : Int} (hk : ¬ inX x k = true) : cov Q k = cov P k := by rw [h.c]; unfold kJ; rw [if_neg hk]
theorem ou (h : Took B P S x Q) : impl_GiveRoom.f B Q (bv Q) x.f0 x.f1 = some (B, P, S, true) := by
  obtain ⟨hB, hP, hS, hSS⟩ := dF.1 h.g
  unfold impl_GiveRoom.f impl_GoodFree.f
  rw [gP h, Option.bind_some, if_pos rfl, gU B x hB, Option.bind_some, eF.2 h.ok, if_pos rfl,
    il hB h.n h.s (bv Q) h.ok true (fun k hk => (iX h hk).2) hS (fun k _ _ => by
      unfold kJ
      by_cases hk : inX x k = true
      · rw [if_pos hk]; exact (iX h hk).1
      · rw [if_neg hk, jW h hk]), Option.bind_some]
  unfold kI
  rw [if_pos hP, hSS]
theorem o8 (h : Took B P S x Q) : iH P = iH Q + x.f1 := by
  obtain ⟨hB, hP, hS, _⟩ := dF.1 h.g
  have hb : ((B.toNat : Nat) : Int) = B := by omega
  have h1 := lJ (l := Q) (n := B.toNat) (by rw [hb]; exact h.s)
  have h2 := lJ (l := P) (n := B.toNat) (by rw [hb]; exact hS)
  have h3 : cnt B.toNat (cov P) = cnt B.toNat (inX x) + cnt B.toNat (cov Q) := by
    rw [← mI B.toNat (fun k _ _ hh => by have h_ := (iX h hh.1).2; rw [hh.2] at h_; cases h_)]
    refine kZ _ (fun k _ _ => ?_)
    cases e : inX x k with
    | true => rw [(iX h e).1, Bool.true_or]
    | false => rw [jW h (by rw [e]; simp), Bool.false_or]
  have h4 := mV x.f0 x.f1 h.ok.1 (by have := h.ok.2.1; omega) B.toNat
  rw [hb, if_neg (by have := h.ok; omega)] at h4
  have h5 : (cnt B.toNat (inX x) : Int) = x.f1 := by
    show (cnt B.toNat (fun i => decide (x.f0 ≤ i ∧ i < x.f0 + x.f1)) : Int) = x.f1
    rw [h4]
    split
    · have := h.ok; omega
    · rfl
  omega
theorem lh (hg : cZ B P S = true) : 0 ≤ iH P ∧ iH P ≤ 24000 := by
  obtain ⟨hB, hP, hS, _⟩ := dF.1 hg
  have := o5 hB.2 P hS
  omega
end
structure VF (W : World) (g : Nat) (b : Int) (A1 : Option Addr) (c1 : Nat) (P : List EL) (A2 : Option Addr) (c2 : Nat) (S : List EL) : Prop where
 z : W.heap[g]? = some (.cells #[.int .i64 b, .slice A1 P.length c1, .slice A2 S.length c2] 24 (0, 0))
 r0 : Kd.C k35 W A1 P.length P
 h0 : P.length ≤ c1
 r1 : Kd.C k35 W A2 S.length S
 h1 : S.length ≤ c2
section
variable {W W1 : World} {g : Nat} {b : Int} {A1 : Option Addr} {c1 : Nat} {P : List EL} {A2 : Option Addr} {c2 : Nat} {S : List EL}
theorem VF.below (h : VF W g b A1 c1 P A2 c2 S) (hb : Below W.heap.size W W1) : VF W1 g b A1 c1 P A2 c2 S :=
 ⟨ay h.z hb, Kd.aN h.r0 hb, h.h0, Kd.aN h.r1 hb, h.h1⟩
theorem VF.new {B : Nat} {ok ok2 : Nat → Prop} (hs : ES W B ok (.slice A1 P.length c1) P) (hr : ES W B ok2 (.slice A2 S.length c2) S) (hz : W1.heap[g]? = some (.cells #[.int .i64 b, .slice A1 P.length c1, .slice A2 S.length c2] 24 (0, 0))) (hb : Below W.heap.size W W1) : VF W1 g b A1 c1 P A2 c2 S :=
 ⟨hz, Kd.aN (Kd.R_reads' hs).2.2 hb, (Kd.R_reads' hs).2.1, Kd.aN (Kd.R_reads' hr).2.2 hb, (Kd.R_reads' hr).2.1⟩
end
theorem ky {b : Int} {P S : List EX} (h : szF b P S) : (-4611686018427387904 ≤ b ∧ b ≤ 4611686018427387904) ∧ P.length ≤ 100000 := ⟨⟨by have := h.1; omega, by have := h.2.1; omega⟩, by have := h.2.2.1; omega⟩
theorem oI (B : Int) (P S : List EX) (long how near : Int) (hz : szF B P S) : ∃ (b1 : Int) (Q S1 : List EX) (a : Int) (ob : Bool), Ev (fun k => spec_TakeRoom.f k B P S long how near) (b1, Q, S1, a, ob) ∧ Ev (fun k => impl_TakeRoom.f k B P S long how near) (b1, Q, S1, a, ob) ∧ Q.length ≤ 60 ∧ S1.length ≤ 60 ∧ (ob = false → a = 0) ∧ (ob = true → b1 = B ∧ S1 = bv Q ∧ Took B P S ⟨a, long⟩ Q) := by
 obtain ⟨h1, h2⟩ := ky hz
 obtain ⟨r, e1, e2, e3⟩ := kT B P S long how near h1 h2
 rcases e3 with rfl | ⟨Q, a, rfl, hT, _⟩
 ·exact ⟨_, _, _, _, _, e1, e2, by simp, by simp, fun _ => rfl, fun h => by cases h⟩
 ·exact ⟨_, _, _, _, _, e1, e2, hT.n, by rw [fe]; exact hT.n, fun h => (by cases h), fun _ => ⟨rfl, rfl, hT⟩⟩
set_option maxHeartbeats 16000000 in
set_option maxRecDepth 100000 in
theorem lv (A0 : Option Addr) (c0 : Nat) (l0 : List Int) (w : World) (hl0 : Bytes l0) (hr0 : Kd.C (Kd.int .u8) w A0 l0.length l0) (hc0 : l0.length ≤ c0) (hz0 : l0.length ≤ 140737488351232) :
  Calls Try.prog 5 #[.slice A0 l0.length c0] w fun e w' => e = .returned (.bool true) ∧ Below w.heap.size w w' := by
 have huF := Try.underlying24
 have HB0 := av hl0
 have R0 := av hr0
 have HC0 := av hc0
 have B := av (Below.refl w.heap.size w)
 clear hl0 hr0 hc0 hz0
 by_cases hbig : (l0.length : Int) > 1048576
 ·have c1_ : (1048576 < (l0.length : Int)) = True := eq_true (by omega)
  have c2_ : (1048576 < l0.length) = True := eq_true (by omega)
  clear hbig
  go_enter Try.func5, Try.ntmps5
  go_wp2
  go_ret
  exact ⟨rfl, B.out⟩
 ·have c1_ : (1048576 < (l0.length : Int)) = False := eq_false (by omega)
  have c2_ : (1048576 < l0.length) = False := eq_false (by omega)
  clear hbig
  have TT := av (spec_DrawTakeRoom.calls A0 c0 l0 w HB0.out R0.out HC0.out)
  go_enter Try.func5, Try.ntmps5
  go_wp2_with (go_at_call 22; refine TT.out.mono ?_)
  rintro e w1 ⟨u0, u1, b, P, S, long, how, near, rfl, hs, hr, hsz, hb⟩
  have HSZ := av hsz
  clear hsz TT c1_ c2_ R0 HB0 HC0
  replace B := av (aA B.out hb)
  clear hb
  have GX := av (show w.heap.size ≤ w1.heap.size from B.out.size)
  obtain ⟨Pa1, ca1, rfl⟩ := Kd.bu hs
  obtain ⟨Pf1, cf1, rfl⟩ := Kd.bu hr
  obtain ⟨ZV1, V1, hxV1, hyV1, z0V1, z1V1, z2V1, y0V1, y1V1, y2V1, Zv, BL⟩ := eY w1 (.int .i64 b) (.slice Pa1 P.length ca1) (.slice Pf1 S.length cf1)
  have hb := BL.out
  have X := av (VF.new hs hr Zv.out hb)
  clear hs hr Zv BL
  replace B := av (aA B.out hb)
  clear hb
  obtain ⟨b1, Q, S1, a, ob, ⟨K1, hS⟩, ⟨K2, hI⟩, hq, hs1, HF, HT⟩ := oI b P S long how near HSZ.out
  obtain ⟨K3, hG⟩ := eD b P S (ky HSZ.out).1 (ky HSZ.out).2
  obtain ⟨K4, hR⟩ := mD b1 Q S1 (by omega) (by omega)
  have E1 := av (hI K2 (Nat.le_refl _))
  have E2 := av (hS K1 (Nat.le_refl _))
  have E3 := av (hG K3 (Nat.le_refl _))
  have E4 := av (show impl_GoodFree.f b P S = some (cZ b P S) from rfl)
  have E5 := av (hR K4 (Nat.le_refl _))
  replace HF := av HF
  replace HT := av HT
  clear hS hI hG hR hq hs1
  generalize cZ b P S = g at E3 E4
  have dX_0 : V1.cell? ⟨w1.heap.size, 0, none⟩ = some (.int .i64 b) := (ak X.out.z 0).trans rfl
  have dX_1 : V1.cell? ⟨w1.heap.size, 1, none⟩ = some (.slice Pa1 P.length ca1) := (ak X.out.z 1).trans rfl
  have dX_2 : V1.cell? ⟨w1.heap.size, 2, none⟩ = some (.slice Pf1 S.length cf1) := (ak X.out.z 2).trans rfl
  have TT := av (impl_TakeRoom.calls K2 b Pa1 ca1 P Pf1 cf1 S long how near b1 Q S1 a ob V1 X.out.r0 X.out.h0 X.out.r1 X.out.h1 E1.out)
  go_wp2_with (go_at_call 23; refine TT.out.mono ?_)
  rintro e w2 ⟨u0, u1, rfl, hs, hr, hb⟩
  clear TT hxV1 hyV1 z0V1 z1V1 z2V1 y0V1 y1V1 y2V1
  clear dX_0 dX_1 dX_2
  replace X := av (X.out.below hb)
  replace B := av (aA B.out hb)
  clear hb
  have GY := av (show w.heap.size ≤ w2.heap.size from B.out.size)
  obtain ⟨Pa2, ca2, rfl⟩ := Kd.bu hs
  obtain ⟨Pf2, cf2, rfl⟩ := Kd.bu hr
  obtain ⟨ZV2, V2, hxV2, hyV2, z0V2, z1V2, z2V2, y0V2, y1V2, y2V2, Zv, BL⟩ := eY w2 (.int .i64 b1) (.slice Pa2 Q.length ca2) (.slice Pf2 S1.length cf2)
  have hb := BL.out
  have Y := av (VF.new hs hr Zv.out hb)
  clear hs hr Zv BL
  replace X := av (X.out.below hb)
  replace B := av (aA B.out hb)
  clear hb
  have dX_0 : V2.cell? ⟨w1.heap.size, 0, none⟩ = some (.int .i64 b) := (ak X.out.z 0).trans rfl
  have dX_1 : V2.cell? ⟨w1.heap.size, 1, none⟩ = some (.slice Pa1 P.length ca1) := (ak X.out.z 1).trans rfl
  have dX_2 : V2.cell? ⟨w1.heap.size, 2, none⟩ = some (.slice Pf1 S.length cf1) := (ak X.out.z 2).trans rfl
  have TT := av (spec_TakeRoom.calls K1 b Pa1 ca1 P Pf1 cf1 S long how near b1 Q S1 a ob V2 X.out.r0 X.out.h0 X.out.r1 X.out.h1 E2.out)
  go_wp2_with (go_at_call 24; refine TT.out.mono ?_)
  rintro e w3 ⟨u0, u1, rfl, hs, hr, hb⟩
  clear TT hxV2 hyV2 z0V2 z1V2 z2V2 y0V2 y1V2 y2V2
  clear dX_0 dX_1 dX_2
  replace X := av (X.out.below hb)
  replace Y := av (Y.out.below hb)
  replace B := av (aA B.out hb)
  clear hb
  have GN := av (show w.heap.size ≤ w3.heap.size from B.out.size)
  obtain ⟨Pa3, ca3, rfl⟩ := Kd.bu hs
  obtain ⟨Pf3, cf3, rfl⟩ := Kd.bu hr
  obtain ⟨ZV3, V3, hxV3, hyV3, z0V3, z1V3, z2V3, y0V3, y1V3, y2V3, Zv, BL⟩ := eY w3 (.int .i64 b1) (.slice Pa3 Q.length ca3) (.slice Pf3 S1.length cf3)
  have hb := BL.out
  have N := av (VF.new hs hr Zv.out hb)
  clear hs hr Zv BL
  replace X := av (X.out.below hb)
  replace Y := av (Y.out.below hb)
  replace B := av (aA B.out hb)
  clear hb
  clear E1 E2
  have q1 : (ob == ob) = true := beq_self_eq_true ob
  have q2 : (ob != ob) = false := by simp
  have q3 : (g == g) = true := beq_self_eq_true g
  have q4 : (g != g) = false := by simp
  go_wp2
  clear hxV3 hyV3 z0V3 z1V3 z2V3 y0V3 y1V3 y2V3
  generalize hgX : w1.heap.size = gx at X ⊢
  generalize hgY : w2.heap.size = gy at Y ⊢
  generalize hgN : w3.heap.size = gn at N ⊢
  refine dY (n := 21) (S := fun w' => w'.cell? ⟨gx, 0, none⟩ = some (.int .i64 b) ∧ w'.cell? ⟨gx, 1, none⟩ = some (.slice Pa1 P.length ca1) ∧ w'.cell? ⟨gx, 2, none⟩ = some (.slice Pf1 S.length cf1) ∧ w'.cell? ⟨gy, 0, none⟩ = some (.int .i64 b1) ∧ w'.cell? ⟨gy, 1, none⟩ = some (.slice Pa2 Q.length ca2) ∧ w'.cell? ⟨gy, 2, none⟩ = some (.slice Pf2 S1.length cf2) ∧ w'.cell? ⟨gn, 0, none⟩ = some (.int .i64 b1) ∧ w'.cell? ⟨gn, 1, none⟩ = some (.slice Pa3 Q.length ca3) ∧ w'.cell? ⟨gn, 2, none⟩ = some (.slice Pf3 S1.length cf3)) (ds := []) (fl 21 0) (by kernel_rfl) rfl (by kernel_rfl) ⟨(ak X.out.z 0).trans rfl, (ak X.out.z 1).trans rfl, (ak X.out.z 2).trans rfl, (ak Y.out.z 0).trans rfl, (ak Y.out.z 1).trans rfl, (ak Y.out.z 2).trans rfl, (ak N.out.z 0).trans rfl, (ak N.out.z 1).trans rfl, (ak N.out.z 2).trans rfl⟩ (fun hHeld => ?_)
  have hb := ai (Below.refl V3.heap.size V3)
  replace X := av (X.out.below hb)
  replace Y := av (Y.out.below hb)
  replace N := av (N.out.below hb)
  replace B := av (aA B.out hb)
  clear hb
  generalize V3.drew = w5 at X Y N B hHeld ⊢
  refine aQ (i := 0) (N := some 55) (v := ?_) (a' := ?_) (fl 21 1) rfl rfl (by kernel_rfl) (fun _ _ _ h => h) (Or.inl ⟨by rfl, ?_⟩) ?_ ?_
  rotate_left
  ·intro w'
   go_simp
   with_reducible rfl
  rotate_left
  ·simp only [apu_]
   rfl
  refine aQ (i := 1) (N := some 56) (v := ?_) (a' := ?_) (fl 21 3) rfl rfl (by kernel_rfl) (fun _ _ _ h => h) (Or.inl ⟨by rfl, ?_⟩) ?_ ?_
  rotate_left
  ·intro w'
   go_simp
   with_reducible rfl
  rotate_left
  ·simp only [apu_]
   rfl
  refine aQ (i := 2) (N := some 57) (v := .bool false) (a' := ?_) (fl 21 7) rfl rfl (by kernel_rfl) (fun _ _ _ h => h) (Or.inl ⟨by rfl, ?run2⟩) ?eq2 ?next2
  case run2 =>
   intro w'
   go_simp
   all_goals (first | (cases ob <;> rfl) | (simp; done))
  case eq2 =>
   simp only [apu_]
   rfl
  refine aQ (i := 3) (N := some 58) (v := ?_) (a' := ?_) (fl 21 15) rfl rfl (by kernel_rfl) (fun _ _ _ h => h) (Or.inl ⟨by rfl, ?_⟩) ?_ ?_
  rotate_left
  ·intro w'
   go_simp
   with_reducible rfl
  rotate_left
  ·simp only [apu_]
   rfl
  refine aQ (i := 4) (N := some 59) (v := ?_) (a' := ?_) (fl 21 31) rfl rfl (by kernel_rfl) (fun _ _ _ h => h) (Or.inl ⟨by rfl, ?_⟩) ?_ ?_
  rotate_left
  ·intro w'
   go_simp
   with_reducible rfl
  rotate_left
  ·simp only [apu_]
   rfl
  refine aQ (i := 5) (N := some 60) (v := ?_) (a' := ?_) (fl 21 63) rfl rfl (by kernel_rfl) (fun _ _ _ h => h) (Or.inl ⟨by rfl, ?_⟩) ?_ ?_
  rotate_left
  ·intro w'
   go_simp
   with_reducible rfl
  rotate_left
  ·simp only [apu_]
   rfl
  refine aQ (i := 6) (N := some 61) (v := .bool false) (a' := ?_) (fl 21 127) rfl rfl (by kernel_rfl) (fun _ _ _ h => h) (Or.inl ⟨by rfl, ?run6⟩) ?eq6 ?next6
  case run6 =>
   intro w'
   go_simp
   all_goals (first | (simp; done) | rfl)
  case eq6 =>
   simp only [apu_]
   rfl
  refine aQ (i := 7) (N := some 62) (v := ?_) (a' := ?_) (fl 21 255) rfl rfl (by kernel_rfl) (fun _ _ _ h => h) (Or.inl ⟨by rfl, ?_⟩) ?_ ?_
  rotate_left
  ·intro w'
   go_simp
   with_reducible rfl
  rotate_left
  ·simp only [apu_]
   rfl
  refine aQ (i := 8) (N := some 63) (v := ?_) (a' := ?_) (fl 21 511) rfl rfl (by kernel_rfl) (fun _ _ _ h => h) (Or.inl ⟨by rfl, ?_⟩) ?_ ?_
  rotate_left
  ·intro w'
   go_simp
   with_reducible rfl
  rotate_left
  ·simp only [apu_]
   rfl
  refine bG (i := 9) (N := some 64) (v := ?_) (a' := ?_) (fl 21 1023) rfl rfl (by kernel_rfl) (fun _ _ _ h => h) (Or.inl ⟨by rfl, ?_⟩) hHeld ?_ ?_
  rotate_left
  ·rintro w' ⟨s0, s1, s2, s3, s4, s5, s6, s7, s8⟩
   go_simp
   with_reducible rfl
  rotate_left
  ·simp only [apu_]
   rfl
  refine bG (i := 10) (N := some 65) (v := ?_) (a' := ?_) (fl 21 2047) rfl rfl (by kernel_rfl) (fun _ _ _ h => h) (Or.inl ⟨by rfl, ?_⟩) hHeld ?_ ?_
  rotate_left
  ·rintro w' ⟨s0, s1, s2, s3, s4, s5, s6, s7, s8⟩
   go_simp
   with_reducible rfl
  rotate_left
  ·simp only [apu_]
   rfl
  refine dG (i := 11) (N := some 66) (fl 21 4095) rfl rfl (by kernel_rfl) (by decide) (fun K hK => ?_)
  refine cu Try.func15 (by kernel_rfl) rfl #[.agg #[.int .i64 b1, .slice Pa2 Q.length ca2, .slice Pf2 S1.length cf2], .agg #[.int .i64 b1, .slice Pa3 Q.length ca3, .slice Pf3 S1.length cf3]] (by rfl) rfl rfl (by (try simp only [amp_]); first | done | rfl | (simp only [ald_]; rfl)) ?_
  refine (laws_sameRooms.calls K4 b1 Pa2 ca2 Q Pf2 cf2 S1 b1 Pa3 ca3 Q Pf3 cf3 S1 true w5 Y.out.r0 Y.out.h0 Y.out.r1 Y.out.h1 N.out.r0 N.out.h0 N.out.r1 N.out.h1 E5.out).mono ?_
  (first | rintro e w6 rfl hb | rintro e w6 ⟨rfl, hb⟩)
  refine ⟨_, rfl, ?_⟩
  replace X := av (X.out.below hb)
  replace Y := av (Y.out.below hb)
  replace N := av (N.out.below hb)
  replace B := av (aA B.out hb)
  clear hb
  refine hK.out _ _ ⟨(ak X.out.z 0).trans rfl, (ak X.out.z 1).trans rfl, (ak X.out.z 2).trans rfl, (ak Y.out.z 0).trans rfl, (ak Y.out.z 1).trans rfl, (ak Y.out.z 2).trans rfl, (ak N.out.z 0).trans rfl, (ak N.out.z 1).trans rfl, (ak N.out.z 2).trans rfl⟩ (fun hHeld => ?_)
  clear hK K
  refine bN (a' := ?_) ?_ ?_
  rotate_left
  ·show Act.put _ (some 66) _ = _
   simp only [apu_]
   rfl
  refine aQ (i := 12) (N := some 67) (v := ?_) (a' := ?_) (fl 21 8191) rfl rfl (by kernel_rfl) (fun _ _ _ h => h) (Or.inl ⟨by rfl, ?_⟩) ?_ ?_
  rotate_left
  ·intro w'
   go_simp
   with_reducible rfl
  rotate_left
  ·simp only [apu_]
   rfl
  refine aQ (i := 13) (N := some 68) (v := ?_) (a' := ?_) (fl 21 16383) rfl rfl (by kernel_rfl) (fun _ _ _ h => h) (Or.inl ⟨by rfl, ?_⟩) ?_ ?_
  rotate_left
  ·intro w'
   go_simp
   with_reducible rfl
  rotate_left
  ·simp only [apu_]
   rfl
  refine aQ (i := 14) (N := some 69) (v := ?_) (a' := ?_) (fl 21 32767) rfl rfl (by kernel_rfl) (fun _ _ _ h => h) (Or.inl ⟨by rfl, ?_⟩) ?_ ?_
  rotate_left
  ·intro w'
   go_simp
   with_reducible rfl
  rotate_left
  ·simp only [apu_]
   rfl
  refine bG (i := 15) (N := some 70) (v := ?_) (a' := ?_) (fl 21 65535) rfl rfl (by kernel_rfl) (fun _ _ _ h => h) (Or.inl ⟨by rfl, ?_⟩) hHeld ?_ ?_
  rotate_left
  ·rintro w' ⟨s0, s1, s2, s3, s4, s5, s6, s7, s8⟩
   go_simp
   with_reducible rfl
  rotate_left
  ·simp only [apu_]
   rfl
  refine bG (i := 17) (N := some 72) (v := ?_) (a' := ?_) (fl 21 196607) rfl rfl (by kernel_rfl) (fun _ _ _ h => h) (Or.inl ⟨by rfl, ?_⟩) hHeld ?_ ?_
  rotate_left
  ·rintro w' ⟨s0, s1, s2, s3, s4, s5, s6, s7, s8⟩
   go_simp
   with_reducible rfl
  rotate_left
  ·simp only [apu_]
   rfl
  refine dG (i := 16) (N := some 71) (fl 21 262143) rfl rfl (by kernel_rfl) (by decide) (fun K hK => ?_)
  refine cu Try.func17 (by kernel_rfl) rfl #[.agg #[.int .i64 b, .slice Pa1 P.length ca1, .slice Pf1 S.length cf1]] (by rfl) rfl rfl (by (try simp only [amp_]); first | done | rfl | (simp only [ald_]; rfl)) ?_
  refine (impl_GoodFree.calls b Pa1 ca1 P Pf1 cf1 S g w6 X.out.r0 X.out.h0 X.out.r1 X.out.h1 E4.out).mono ?_
  (first | rintro e w8 rfl hb | rintro e w8 ⟨rfl, hb⟩)
  refine ⟨_, rfl, ?_⟩
  replace X := av (X.out.below hb)
  replace Y := av (Y.out.below hb)
  replace N := av (N.out.below hb)
  replace B := av (aA B.out hb)
  clear hb
  refine hK.out _ _ ⟨(ak X.out.z 0).trans rfl, (ak X.out.z 1).trans rfl, (ak X.out.z 2).trans rfl, (ak Y.out.z 0).trans rfl, (ak Y.out.z 1).trans rfl, (ak Y.out.z 2).trans rfl, (ak N.out.z 0).trans rfl, (ak N.out.z 1).trans rfl, (ak N.out.z 2).trans rfl⟩ (fun hHeld => ?_)
  clear hK K
  refine bN (a' := ?_) ?_ ?_
  rotate_left
  ·show Act.put _ (some 71) _ = _
   simp only [apu_]
   rfl
  refine dG (i := 18) (N := some 73) (fl 21 524287) rfl rfl (by kernel_rfl) (by decide) (fun K hK => ?_)
  refine cu Try.func25 (by kernel_rfl) rfl #[.agg #[.int .i64 b, .slice Pa1 P.length ca1, .slice Pf1 S.length cf1]] (by rfl) rfl rfl (by (try simp only [amp_]); first | done | rfl | (simp only [ald_]; rfl)) ?_
  refine (spec_GoodFree.calls K3 b Pa1 ca1 P Pf1 cf1 S g w8 X.out.r0 X.out.h0 X.out.r1 X.out.h1 E3.out).mono ?_
  (first | rintro e w9 rfl hb | rintro e w9 ⟨rfl, hb⟩)
  refine ⟨_, rfl, ?_⟩
  replace X := av (X.out.below hb)
  replace Y := av (Y.out.below hb)
  replace N := av (N.out.below hb)
  replace B := av (aA B.out hb)
  clear hb
  refine hK.out _ _ ⟨(ak X.out.z 0).trans rfl, (ak X.out.z 1).trans rfl, (ak X.out.z 2).trans rfl, (ak Y.out.z 0).trans rfl, (ak Y.out.z 1).trans rfl, (ak Y.out.z 2).trans rfl, (ak N.out.z 0).trans rfl, (ak N.out.z 1).trans rfl, (ak N.out.z 2).trans rfl⟩ (fun hHeld => ?_)
  clear hK K
  refine bN (a' := ?_) ?_ ?_
  rotate_left
  ·show Act.put _ (some 73) _ = _
   simp only [apu_]
   rfl
  refine aQ (i := 19) (N := some 74) (v := .bool false) (a' := ?_) (fl 21 1048575) rfl rfl (by kernel_rfl) (fun _ _ _ h => h) (Or.inl ⟨by rfl, ?run19⟩) ?eq19 ?next19
  case run19 =>
   intro w'
   go_simp
   all_goals (first | (cases g <;> rfl) | (simp; done))
  case eq19 =>
   simp only [apu_]
   rfl
  refine aQ (i := 20) (N := some 75) (v := ?_) (a' := ?_) (fl 21 2097151) rfl rfl (by kernel_rfl) (fun _ _ _ h => h) (Or.inl ⟨by rfl, ?_⟩) ?_ ?_
  rotate_left
  ·intro w'
   go_simp
   with_reducible rfl
  rotate_left
  ·simp only [apu_]
   rfl
  refine eZ (by kernel_rfl) ?_
  clear hHeld
  clear E3 E4 E5 N
  cases ob with
  | false =>
   obtain rfl := HF.out rfl
   go_wp2
   go_ret
   exact ⟨rfl, B.out⟩
  | true =>
   obtain ⟨rfl, rfl, HTK⟩ := HT.out rfl
   have TK := av HTK
   have HBD := av (dF.1 HTK.g).1
   have hok := HTK.ok
   have wa : wrap64 (a + long) = a + long := w64 (by have := HBD.out; have := hok.2.2; have h_ := hok.1; have h2_ := hok.2.1; simp only at *; omega) (by have := HBD.out; have := hok.2.2; simp only at *; omega)
   clear HF HT HTK hok q1 q2 q3 q4
   have dX_0 : w9.cell? ⟨gx, 0, none⟩ = some (.int .i64 b1) := (ak X.out.z 0).trans rfl
   have dX_1 : w9.cell? ⟨gx, 1, none⟩ = some (.slice Pa1 P.length ca1) := (ak X.out.z 1).trans rfl
   have dX_2 : w9.cell? ⟨gx, 2, none⟩ = some (.slice Pf1 S.length cf1) := (ak X.out.z 2).trans rfl
   go_wp2
   clear dX_0 dX_1 dX_2
   go_loopw [13] (fun v wr => ∃ n : Nat, (n : Int) ≤ b1 ∧ v = .int .i64 n ∧ Aside0 (Below w9.heap.size w9 wr)) (fun v _ => b1.toNat - (intOf v).toNat)
   case atStart => exact ⟨0, by have := HBD.out; omega, rfl, ⟨Below.refl _ _⟩⟩
   case round =>
    obtain ⟨n, hn, rfl, HB⟩ := hrel
    replace X := av (X.out.below HB.out)
    replace Y := av (Y.out.below HB.out)
    replace B := av (aA B.out HB.out)
    by_cases hn0 : (n : Int) < b1
    ·have hnn : ((n : Int) < b1) = True := eq_true hn0
     obtain ⟨k5, h5⟩ := nk TK.out.g (k := (n : Int)) (by omega) hn0
     obtain ⟨k6, h6⟩ := nk (gP TK.out) (k := (n : Int)) (by omega) hn0
     have G5 := av (h5 k5 (Nat.le_refl _))
     have G6 := av (h6 k6 (Nat.le_refl _))
     have HIN := av (show (a ≤ (n : Int) ∧ (n : Int) < a + long) → cov P (n : Int) = true ∧ cov Q (n : Int) = false from fun h => iX TK.out (k := (n : Int)) (dn.2 h))
     have HOUT := av (show ¬ (a ≤ (n : Int) ∧ (n : Int) < a + long) → cov Q (n : Int) = cov P (n : Int) from fun h => jW TK.out (k := (n : Int)) (fun h_ => h (dn.1 h_)))
     generalize cov P (n : Int) = cp at G5 HIN HOUT
     generalize cov Q (n : Int) = cq at G6 HIN HOUT
     have hb4 := HBD.out.2
     clear h5 h6
     have dX_0 : wr.cell? ⟨gx, 0, none⟩ = some (.int .i64 b1) := (ak X.out.z 0).trans rfl
     have dX_1 : wr.cell? ⟨gx, 1, none⟩ = some (.slice Pa1 P.length ca1) := (ak X.out.z 1).trans rfl
     have dX_2 : wr.cell? ⟨gx, 2, none⟩ = some (.slice Pf1 S.length cf1) := (ak X.out.z 2).trans rfl
     have dY_0 : wr.cell? ⟨gy, 0, none⟩ = some (.int .i64 b1) := (ak Y.out.z 0).trans rfl
     have dY_1 : wr.cell? ⟨gy, 1, none⟩ = some (.slice Pa2 Q.length ca2) := (ak Y.out.z 1).trans rfl
     have dY_2 : wr.cell? ⟨gy, 2, none⟩ = some (.slice Pf2 (bv Q).length cf2) := (ak Y.out.z 2).trans rfl
     have TT := av (impl_IsFreeAt.calls k5 b1 Pa1 ca1 P Pf1 cf1 S (n : Int) cp true wr X.out.r0 X.out.h0 X.out.r1 X.out.h1 G5.out)
     go_wp2_with (go_at_call 26; refine TT.out.mono ?_)
     (first | rintro e w301 rfl hb | rintro e w301 ⟨rfl, hb⟩)
     clear TT
     clear dX_0 dX_1 dX_2 dY_0 dY_1 dY_2
     replace X := av (X.out.below hb)
     replace Y := av (Y.out.below hb)
     replace B := av (aA B.out hb)
     replace HB := av (aA HB.out hb)
     clear hb
     have dY_0 : w301.cell? ⟨gy, 0, none⟩ = some (.int .i64 b1) := (ak Y.out.z 0).trans rfl
     have dY_1 : w301.cell? ⟨gy, 1, none⟩ = some (.slice Pa2 Q.length ca2) := (ak Y.out.z 1).trans rfl
     have dY_2 : w301.cell? ⟨gy, 2, none⟩ = some (.slice Pf2 (bv Q).length cf2) := (ak Y.out.z 2).trans rfl
     have TT := av (impl_IsFreeAt.calls k6 b1 Pa2 ca2 Q Pf2 cf2 (bv Q) (n : Int) cq true w301 Y.out.r0 Y.out.h0 Y.out.r1 Y.out.h1 G6.out)
     go_wp2_with (go_at_call 26; refine TT.out.mono ?_)
     (first | rintro e w302 rfl hb | rintro e w302 ⟨rfl, hb⟩)
     clear TT
     clear dY_0 dY_1 dY_2
     replace X := av (X.out.below hb)
     replace Y := av (Y.out.below hb)
     replace B := av (aA B.out hb)
     replace HB := av (aA HB.out hb)
     clear hb
     have dX_0 : w302.cell? ⟨gx, 0, none⟩ = some (.int .i64 b1) := (ak X.out.z 0).trans rfl
     have dX_1 : w302.cell? ⟨gx, 1, none⟩ = some (.slice Pa1 P.length ca1) := (ak X.out.z 1).trans rfl
     have dX_2 : w302.cell? ⟨gx, 2, none⟩ = some (.slice Pf1 S.length cf1) := (ak X.out.z 2).trans rfl
     clear G5 G6
     by_cases j1 : a ≤ (n : Int)
     ·have r1 : (a ≤ (n : Int)) = True := eq_true j1
      have r1' : ((n : Int) ≥ a) = True := eq_true j1
      by_cases j2 : (n : Int) < a + long
      ·have r2 : ((n : Int) < a + long) = True := eq_true j2
       obtain ⟨rfl, rfl⟩ := HIN.out ⟨j1, j2⟩
       clear j1 j2
       go_wp2
       go_roundw
       case rel => exact ⟨n + 1, by omega, by go_num, HB⟩
       case measure => simp [intOf]; omega
      ·have r2 : ((n : Int) < a + long) = False := eq_false j2
       obtain rfl := HOUT.out (fun h => j2 h.2)
       clear j1 j2
       have e1 : (cq == cq) = true := beq_self_eq_true cq
       have e2 : (cq != cq) = false := by simp
       cases cq
       ·go_wp2
        go_roundw
        case rel => exact ⟨n + 1, by omega, by go_num, HB⟩
        case measure => simp [intOf]; omega
       ·go_wp2
        go_roundw
        case rel => exact ⟨n + 1, by omega, by go_num, HB⟩
        case measure => simp [intOf]; omega
     ·have r1 : (a ≤ (n : Int)) = False := eq_false j1
      have r1' : ((n : Int) ≥ a) = False := eq_false j1
      obtain rfl := HOUT.out (fun h => j1 h.1)
      clear j1
      have e1 : (cq == cq) = true := beq_self_eq_true cq
      have e2 : (cq != cq) = false := by simp
      cases cq
      ·go_wp2
       go_roundw
       case rel => exact ⟨n + 1, by omega, by go_num, HB⟩
       case measure => simp [intOf]; omega
      ·go_wp2
       go_roundw
       case rel => exact ⟨n + 1, by omega, by go_num, HB⟩
       case measure => simp [intOf]; omega
    ·have hnn : ((n : Int) < b1) = False := eq_false hn0
     obtain ⟨k5, h5⟩ := lq TK.out.g
     obtain ⟨k6, h6⟩ := lq (gP TK.out)
     have hsum := o8 TK.out
     have hs1 := lh TK.out.g
     have hs2 := lh (gP TK.out)
     have hsz := HSZ.out
     have G5 := av (h5 k5 (Nat.le_refl _))
     have G6 := av (h6 k6 (Nat.le_refl _))
     have G7 := av (show impl_GiveRoom.f b1 Q (bv Q) a long = some (b1, P, S, true) from ou TK.out)
     obtain ⟨k8, h8⟩ := mD b1 P S (by have := hsz.2.2.1; omega) (by have := hsz.2.2.2; omega)
     have G8 := av (h8 k8 (Nat.le_refl _))
     have G9 := av (show impl_GoodFree.f b1 Q (bv Q) = some true from congrArg some (gP TK.out))
     generalize nS P 0 = m1 at G5
     generalize nS Q 0 = m2 at G6
     generalize iH P = n1 at G5 hsum hs1
     generalize iH Q = n2 at G6 hsum hs2
     have wn : wrap64 (n2 + long) = n1 := by rw [w64 (by simp only at hsum; omega) (by simp only at hsum; omega)]; exact hsum.symm
     clear h5 h6 h8 hsum hs1 hs2 hsz
     have dX_0 : wr.cell? ⟨gx, 0, none⟩ = some (.int .i64 b1) := (ak X.out.z 0).trans rfl
     have dX_1 : wr.cell? ⟨gx, 1, none⟩ = some (.slice Pa1 P.length ca1) := (ak X.out.z 1).trans rfl
     have dX_2 : wr.cell? ⟨gx, 2, none⟩ = some (.slice Pf1 S.length cf1) := (ak X.out.z 2).trans rfl
     have dY_0 : wr.cell? ⟨gy, 0, none⟩ = some (.int .i64 b1) := (ak Y.out.z 0).trans rfl
     have dY_1 : wr.cell? ⟨gy, 1, none⟩ = some (.slice Pa2 Q.length ca2) := (ak Y.out.z 1).trans rfl
     have dY_2 : wr.cell? ⟨gy, 2, none⟩ = some (.slice Pf2 (bv Q).length cf2) := (ak Y.out.z 2).trans rfl
     have TT := av (impl_RoomIn.calls k5 b1 Pa1 ca1 P Pf1 cf1 S n1 m1 true wr X.out.r0 X.out.h0 X.out.r1 X.out.h1 G5.out)
     go_wp2_with (go_at_call 16; refine TT.out.mono ?_)
     (first | rintro e w401 rfl hb | rintro e w401 ⟨rfl, hb⟩)
     clear TT hnn
     clear dX_0 dX_1 dX_2 dY_0 dY_1 dY_2
     replace X := av (X.out.below hb)
     replace Y := av (Y.out.below hb)
     replace B := av (aA B.out hb)
     clear hb
     have dY_0 : w401.cell? ⟨gy, 0, none⟩ = some (.int .i64 b1) := (ak Y.out.z 0).trans rfl
     have dY_1 : w401.cell? ⟨gy, 1, none⟩ = some (.slice Pa2 Q.length ca2) := (ak Y.out.z 1).trans rfl
     have dY_2 : w401.cell? ⟨gy, 2, none⟩ = some (.slice Pf2 (bv Q).length cf2) := (ak Y.out.z 2).trans rfl
     have TT := av (impl_RoomIn.calls k6 b1 Pa2 ca2 Q Pf2 cf2 (bv Q) n2 m2 true w401 Y.out.r0 Y.out.h0 Y.out.r1 Y.out.h1 G6.out)
     go_wp2_with (go_at_call 16; refine TT.out.mono ?_)
     (first | rintro e w402 rfl hb | rintro e w402 ⟨rfl, hb⟩)
     clear TT
     clear dY_0 dY_1 dY_2
     replace X := av (X.out.below hb)
     replace Y := av (Y.out.below hb)
     replace B := av (aA B.out hb)
     clear hb
     have dY_0 : w402.cell? ⟨gy, 0, none⟩ = some (.int .i64 b1) := (ak Y.out.z 0).trans rfl
     have dY_1 : w402.cell? ⟨gy, 1, none⟩ = some (.slice Pa2 Q.length ca2) := (ak Y.out.z 1).trans rfl
     have dY_2 : w402.cell? ⟨gy, 2, none⟩ = some (.slice Pf2 (bv Q).length cf2) := (ak Y.out.z 2).trans rfl
     have TT := av (impl_GiveRoom.calls b1 Pa2 ca2 Q Pf2 cf2 (bv Q) a long b1 P S true w402 Y.out.r0 Y.out.h0 Y.out.r1 Y.out.h1 G7.out)
     go_wp2_with (go_at_call 13; refine TT.out.mono ?_)
     rintro e w403 ⟨u0, u1, rfl, hs, hr, hb⟩
     clear TT
     clear dY_0 dY_1 dY_2
     replace X := av (X.out.below hb)
     replace Y := av (Y.out.below hb)
     replace B := av (aA B.out hb)
     clear hb
     have GZ := av (show w.heap.size ≤ w403.heap.size from B.out.size)
     obtain ⟨Pa403, ca403, rfl⟩ := Kd.bu hs
     obtain ⟨Pf403, cf403, rfl⟩ := Kd.bu hr
     obtain ⟨ZV403, V403, hxV403, hyV403, z0V403, z1V403, z2V403, y0V403, y1V403, y2V403, Zv, BL⟩ := eY w403 (.int .i64 b1) (.slice Pa403 P.length ca403) (.slice Pf403 S.length cf403)
     have hb := BL.out
     have Z := av (VF.new hs hr Zv.out hb)
     clear hs hr Zv BL
     replace X := av (X.out.below hb)
     replace Y := av (Y.out.below hb)
     replace B := av (aA B.out hb)
     clear hb
     clear G5 G6 G7
     have dZ_0 : V403.cell? ⟨w403.heap.size, 0, none⟩ = some (.int .i64 b1) := (ak Z.out.z 0).trans rfl
     have dZ_1 : V403.cell? ⟨w403.heap.size, 1, none⟩ = some (.slice Pa403 P.length ca403) := (ak Z.out.z 1).trans rfl
     have dZ_2 : V403.cell? ⟨w403.heap.size, 2, none⟩ = some (.slice Pf403 S.length cf403) := (ak Z.out.z 2).trans rfl
     have dX_0 : V403.cell? ⟨gx, 0, none⟩ = some (.int .i64 b1) := (ak X.out.z 0).trans rfl
     have dX_1 : V403.cell? ⟨gx, 1, none⟩ = some (.slice Pa1 P.length ca1) := (ak X.out.z 1).trans rfl
     have dX_2 : V403.cell? ⟨gx, 2, none⟩ = some (.slice Pf1 S.length cf1) := (ak X.out.z 2).trans rfl
     have TT := av (laws_sameRooms.calls k8 b1 Pa403 ca403 P Pf403 cf403 S b1 Pa1 ca1 P Pf1 cf1 S true V403 Z.out.r0 Z.out.h0 Z.out.r1 Z.out.h1 X.out.r0 X.out.h0 X.out.r1 X.out.h1 G8.out)
     go_wp2_with (go_at_call 15; refine TT.out.mono ?_)
     (first | rintro e w404 rfl hb | rintro e w404 ⟨rfl, hb⟩)
     clear TT hxV403 hyV403 z0V403 z1V403 z2V403 y0V403 y1V403 y2V403
     clear dZ_0 dZ_1 dZ_2 dX_0 dX_1 dX_2
     replace X := av (X.out.below hb)
     replace Y := av (Y.out.below hb)
     replace Z := av (Z.out.below hb)
     replace B := av (aA B.out hb)
     clear hb
     have dY_0 : w404.cell? ⟨gy, 0, none⟩ = some (.int .i64 b1) := (ak Y.out.z 0).trans rfl
     have dY_1 : w404.cell? ⟨gy, 1, none⟩ = some (.slice Pa2 Q.length ca2) := (ak Y.out.z 1).trans rfl
     have dY_2 : w404.cell? ⟨gy, 2, none⟩ = some (.slice Pf2 (bv Q).length cf2) := (ak Y.out.z 2).trans rfl
     have TT := av (impl_GoodFree.calls b1 Pa2 ca2 Q Pf2 cf2 (bv Q) true w404 Y.out.r0 Y.out.h0 Y.out.r1 Y.out.h1 G9.out)
     go_wp2_with (go_at_call 17; refine TT.out.mono ?_)
     (first | rintro e w405 rfl hb | rintro e w405 ⟨rfl, hb⟩)
     clear TT
     clear dY_0 dY_1 dY_2
     replace X := av (X.out.below hb)
     replace Y := av (Y.out.below hb)
     replace Z := av (Z.out.below hb)
     replace B := av (aA B.out hb)
     clear hb
     go_wp2
     go_ret
     exact ⟨rfl, B.out⟩
end Go.Proofs.Ytelblhkbogljnaa.PFre
namespace Go.Proofs.Ytelblhkbogljnaa.fnRoom
open Go.ChangeShapes Go.WideShapes Go.ChangeAt Go.RowKit
open Go.ChangeMaps (open_string shut_string)
open Go.Proofs.Ytelblhkbogljnaa.PFre Go.Proofs.Ytelblhkbogljnaa.ZFre Go.Proofs.YtelblhkbogljnaaW.PrintWords Go.Proofs.YtelblhkbogljnaaW.PrintLast Go.Proofs.YtelblhkbogljnaaW.PrintMore
set_option linter.unusedVariables false
theorem oH {l : List Int} (h : ∀ x ∈ l, (Lit.int .u8 x).wf = true) : Bytes l := fun x hx => by
  have := h x hx
  simp [Lit.wf, IntKind.min, IntKind.max, IntKind.signed, IntKind.bits] at this
  omega
theorem own : ownKnob Try.prog.godebug = none := by kernel_rfl
theorem laidOut : laidOutB Try.prog = true := by kernel_rfl
def IsRow (k : IntKind) (w : World) (a : Option Addr) (len cap : Nat) (zs : List Int) : Prop :=
  (a = none ∧ len = 0 ∧ cap = 0 ∧ zs = []) ∨
  ∃ x, a = some x ∧ len ≤ cap ∧ cap ≤ maxLen ∧ zs.length = cap ∧ (∀ i, i < zs.length → w.cell? (x.add i) = some (.int k (zs.getD i 0))) ∧ ∀ n ∈ zs, (Lit.int k n).wf = true
set_option maxRecDepth 100000 in
theorem lifted (os : Os) (started : os.Started) (H : Type) (enc : TypeId × Value → H) :
    ReturnsInHanded {} Try.checked os 5 .any (Rows.fnRoomSpec.pre6 enc Try.prog Try.f5 Rows.fnRoomRow.domain false) (Rows.fnRoomSpec.post enc Try.prog Try.f5 false true false false) := by
  refine returnsInHanded_of_change_sized (C := Try.checked) own started (by kernel_rfl) Try.func5
    (ChangeSpec.witness6 (enc := enc) (C := Try.checked) false ⟨#[], #[.slice none 0 0], []⟩ 8 (by kernel_rfl) (by kernel_rfl) (by kernel_rfl) (by kernel_rfl)) ?_
  intro W base args ds gs before hval0 hW hcnd hsz0 _
  have hsz : (DataW.weightsEach Try.prog (Try.f5.params.toList ++ Rows.fnRoomSpec.plain.varTypes Try.prog) (ds ++ gs)).all (· ≤ reachBytes) = true := hsz0
  have hval : ∀ (j : Nat) t v, Try.f5.params[j]? = some t → args[j]? = some v → Value.okWide Try.prog W .any base t v := hval0
  have hW' := hW
  obtain ⟨p, q, hA0, hV, rfl, hfz, hnd⟩ := hW
  have hA : DataW.TrodAll enc Try.prog W 0 (fun _ => true) true Try.f5.params.toList args.toList ds p := hA0
  rw [Try.params5] at hA hval hsz
  obtain ⟨v0, vs0, d0, ds0, p0, q0, hargs, rfl, rfl, h0, r0⟩ := trodAll_cons hA
  obtain ⟨rfl, rfl, rfl⟩ := trodAll_nil r0
  obtain rfl : args = #[v0] := by cases args; simp_all
  obtain ⟨rfl, rfl⟩ := trodVars_none hV
  obtain ⟨a0, len0, cap0, rfl⟩ := okWide_slice Try.underlying33 (hval 0 33 v0 rfl rfl)
  have k0 := h0
  have lt0 : ∀ x ∈ p0, x.block < W.heap.size := by obtain ⟨m, hm⟩ := k0; exact DataW.trod_lt m _ _ _ hm
  obtain ⟨z0, w0⟩ : ∃ zs, IsRow .u8 W a0 len0 cap0 zs := by
    obtain ⟨fuel, hf⟩ := h0
    rcases open_ints Try.underlying33 Try.underlying5 (by kernel_rfl) hf with ⟨hcs, _⟩ | ⟨x, l, c, zs, hcs, _, hl, hm, hz, _, hcell, hwz⟩
    · simp [Value.cells] at hcs
      obtain ⟨rfl, rfl, rfl⟩ := hcs
      exact ⟨[], .inl ⟨rfl, rfl, rfl, rfl⟩⟩
    · simp [Value.cells] at hcs
      obtain ⟨rfl, rfl, rfl⟩ := hcs
      exact ⟨zs, .inr ⟨_, rfl, hl, hm, by simpa using hz, hcell, hwz⟩⟩
  have y0 : len0 * 1 ≤ 140737488351232 := Go.Proofs.YtelblhkbogljnaaW.PrintWords.mY hsz (j := 0) (t := 33) rfl rfl Try.underlying33 Try.underlying5 (by kernel_rfl) (by kernel_rfl) h0
  clear hA0 hval0 hsz0 hsz
  obtain ⟨l0, rfl, hr0, hm0, hw0, hc0⟩ := bW.ofRowC w0
  refine (lv _ _ l0 W (oH hw0) (Kd.iP (d := (0 : Int)) (h1 := fun _ => rfl) hr0) hc0 (by omega)).mono fun e W' ⟨he, bel⟩ => ?_
  subst he
  exact ⟨_, rfl, _, _, _, [], _, [], hW', trodAll_mk1 (shut_bool Try.underlying4 _), (trodAll_cons_mk (Below.trod laidOut (by kernel_rfl) (of_decide_eq_true (by kernel_rfl)) k0 bel lt0) trodAll_mk0), rfl, bel.frame _, fun h => by cases h⟩
theorem over : Rows.fnRoomRow.holds Try.pinned (OpenSpec.ofChange Rows.fnRoomSpec) :=
  OpenClaim.holds_of_wide 5 Try.f5 rfl rfl rfl rfl rfl rfl rfl ⟨rfl, rfl, rfl, rfl, rfl⟩ rfl rfl rfl rfl rfl (by kernel_rfl) Try.func5 (by kernel_rfl)
    (of_decide_eq_true (by kernel_rfl)) (by unfold Func.isWrapper; first | (rw [if_pos (by decide +kernel)]; kernel_rfl) | (rw [if_neg (by decide +kernel)]; exact ⟨rfl, rfl⟩))
    (fun os started H enc _ => lifted os started H enc)
theorem proved : Rows.FnRoomSaid := over
#print axioms proved
end Go.Proofs.Ytelblhkbogljnaa.fnRoom
namespace Go.Proofs.Ytelblhkbogljnaa
theorem fnRoom_holds : Rows.FnRoomSaid := fnRoom.proved
end Go.Proofs.Ytelblhkbogljnaa
