/- The law FnGiven answers true at all its arguments, and leaves them as they were; no condition. -/
import Derived.Test.YtelblhkbogljnaaFGiv6
import Derived.Test.YtelblhkbogljnaaRows
import Derived.WalkKit
import Derived.ProofKit
import Derived.OpenShut
import Derived.ShutString
import Derived.ChangeOld
import Derived.Below
import Derived.SizedLaws
namespace Go.Proofs.Ytelblhkbogljnaa.PFre
open Go.RowKit Go.Proofs.YtelblhkbogljnaaW.PrintWords Go.Proofs.YtelblhkbogljnaaW.PrintLast Go.Proofs.YtelblhkbogljnaaW.PrintMore Go.Proofs.Ytelblhkbogljnaa.E Go.Proofs.Ytelblhkbogljnaa.ZFre
set_option linter.unusedSimpArgs false
set_option linter.unusedVariables false
def szF (b:Int) (P S:List EL):Prop:=0≤b∧b≤401∧P.length≤61∧S.length≤61
theorem jg {l:List Int} (hl:Bytes l) (p q n:Int) (h0:0≤p) (h1:p≤100000000000) (hn:n≤1000000000000):∃ r p' q',spec_l1Cur_one.f l p q n=some (r,p',q')∧p≤p'∧p'≤p+2:=by
 obtain⟨r,p',q',e,_,_,h4,h5⟩:=dW hl p q n h0 h1 hn
 exact⟨r == 0,p',q',by unfold spec_l1Cur_one.f;rw[e];rfl,h4,h5⟩
theorem jT {b:Int} {P S:List EX} (h:cK b P S=true):(1≤b∧b≤400)∧P.length≤60∧S.length≤60:=by
 obtain⟨h1,h2,h3,h4⟩:=dx.1 h
 exact⟨h1,h2,by rw[h4,fu];exact h2⟩
theorem jS {b:Int} {Q:List EX} (hb:1≤b∧b≤400) (hn:Q.length≤60) (hs:Sep b Q):cK b Q (bD Q)=true:=dx.2 ⟨hb,hn,hs,rfl⟩
theorem qA {b:Int} {P S:List EX} (h:cK b P S=true) (x y:Int):∃ (k:Nat) (b1:Int) (P1 S1:List EX) (o:Bool),spec_GiveRoom.f k b P S x y=some (b1,P1,S1,o)∧(o=true→cK b1 P1 S1=true):=by
 have hz:=jT h
 obtain⟨r,⟨k,e⟩,_,e3⟩:=lT b P S ⟨x,y⟩ (by omega) (by omega)
 rcases e3 with rfl|⟨Q,rfl,hG⟩
 ·exact⟨k,_,_,_,_,e k (Nat.le_refl _),fun h_=>by cases h_⟩
 ·exact⟨k,_,_,_,_,e k (Nat.le_refl _),fun _=>jS hz.1 hG.n hG.s⟩
theorem pU {b:Int} {P S:List EX} (h:cK b P S=true) (x y:Int):∃ (k:Nat) (b1:Int) (P1 S1:List EX) (o:Bool),spec_TakeExact.f k b P S x y=some (b1,P1,S1,o)∧(o=true→cK b1 P1 S1=true):=by
 have hz:=jT h
 obtain⟨r,⟨k,e⟩,_,e3⟩:=nG b P S ⟨x,y⟩ (by omega) (by omega)
 rcases e3 with rfl|⟨Q,rfl,hG⟩
 ·exact⟨k,_,_,_,_,e k (Nat.le_refl _),fun h_=>by cases h_⟩
 ·exact⟨k,_,_,_,_,e k (Nat.le_refl _),fun _=>jS hz.1 hG.n hG.s⟩
theorem qI {b:Int} {P S:List EX} (h:cK b P S=true) (x y z:Int):∃ (k:Nat) (b1:Int) (P1 S1:List EX) (a:Int) (o:Bool),spec_TakeRoom.f k b P S x y z=some (b1,P1,S1,a,o)∧(o=true→cK b1 P1 S1=true):=by
 have hz:=jT h
 obtain⟨r,⟨k,e⟩,_,e3⟩:=oG b P S x y z (by omega) (by omega)
 rcases e3 with rfl|⟨Q,a,rfl,hG,_⟩
 ·exact⟨k,_,_,_,_,_,e k (Nat.le_refl _),fun h_=>by cases h_⟩
 ·exact⟨k,_,_,_,_,_,e k (Nat.le_refl _),fun _=>jS hz.1 hG.n hG.s⟩
theorem q8 {n:Int} (h:1≤n∧n≤400):∃ (k:Nat) (P S:List EX),spec_NewFree.f k n=some (n,P,S,true)∧cK n P S=true:=by
 have hs:Sep n [(⟨0,n⟩:EX)]:=Sep.cons ⟨Int.le_refl 0,h.1,by show(0:Int)+n≤n;omega⟩ (Sep.nil n) (fun y hy=>by cases hy)
 have E:Ev (fun k=>spec_NewFree.f k n) (n,[(⟨0,n⟩:EX)],bD [(⟨0,n⟩:EX)],true):=by
  unfold spec_NewFree.f
  rw[eP,decide_eq_true h]
  exact fF (aX rfl (Ev.bind (nO [(⟨0,n⟩:EX)] h (by simp)) (bP rfl)))
 obtain⟨k,e⟩:=E
 exact⟨k,_,_,e k (Nat.le_refl _),jS h (by simp) hs⟩
theorem fA (w:World) (a b c:Value):∃ W1 W2,w.alloc (.cells #[.int .i64 0,.slice none 0 0,.slice none 0 0] 24)=W1∧((W1.setCell ⟨w.heap.size,0,none⟩ a).setCell ⟨w.heap.size,1,none⟩ b).setCell ⟨w.heap.size,2,none⟩ c=W2∧
  W1.cell? ⟨w.heap.size,0,none⟩=some (.int .i64 0)∧W1.cell? ⟨w.heap.size,1,none⟩=some (.slice none 0 0)∧W1.cell? ⟨w.heap.size,2,none⟩=some (.slice none 0 0)∧W1.frozen? ⟨w.heap.size,0,none⟩=false∧W1.frozen? ⟨w.heap.size,1,none⟩=false∧W1.frozen? ⟨w.heap.size,2,none⟩=false∧
  Aside0 (W2.heap[w.heap.size]? = some (.cells #[a,b,c] 24 (0,0)))∧Aside0 (Below w.heap.size w W2):=by
 have h1:=heap_alloc_new w (.cells #[.int .i64 0,.slice none 0 0,.slice none 0 0] 24)
 have hb:=ah (Below.refl w.heap.size w) (.cells #[.int .i64 0,.slice none 0 0,.slice none 0 0] 24)
 exact⟨_,_,rfl,rfl,(ak h1 0).trans rfl,(ak h1 1).trans rfl,(ak h1 2).trans rfl,av h1 0,av h1 1,av h1 2,⟨eY h1 a b c⟩,⟨ae (ae (ae hb (Nat.le_refl _)) (Nat.le_refl _)) (Nat.le_refl _)⟩⟩
structure QB (w0 w W:World) (g gz gv:Nat) (l0:List Int) (p q b:Int) (A1:Option Addr) (c1:Nat) (P:List EL) (A2:Option Addr) (c2:Nat) (S:List EL):Prop where
 i:aU w0 W g l0 p q
 z:W.heap[gz]? = some (.cells #[.int .i64 0,.slice none 0 0,.slice none 0 0] 24 (0,0))
 v:W.heap[gv]? = some (.cells #[.int .i64 b,.slice A1 P.length c1,.slice A2 S.length c2] 24 (0,0))
 s:ES W w.heap.size (fun k=>some k≠(Value.slice A2 S.length c2).ownBlock) (.slice A1 P.length c1) P
 r:ES W w.heap.size (fun k=>some k≠(Value.slice A1 P.length c1).ownBlock) (.slice A2 S.length c2) S
 b:Below w0.heap.size w0 W
 k:bg w W g none
structure QC (w0 w:World) (g gz gv:Nat):Prop where
 lt:g<w.heap.size
 ge:w0.heap.size≤g
 z:w.heap.size≤gz
 v:w.heap.size≤gv
 ne:gz≠gv
theorem ny (W:World) (g j:Nat) (u:Value):W.grownBy (W.setCell ⟨g,j,none⟩ u) (some g):=
 ⟨rfl,rfl,rfl,by simp[World.setCell],fun k _ hk=>Below.heap_setCell W ⟨g,j,none⟩ u k (fun e_=>hk (by rw[e_]))⟩
theorem mV {w W W1:World} {g:Nat} (h:bg w W g none) (hb:Below w.heap.size W W1):bg w W1 g none:=
 ⟨Nat.le_trans h.1 hb.size,fun i hi hg hr=>(hb.block i hi).trans (h.2 i hi hg hr)⟩
theorem mK {w W W1:World} {n:Nat} (h:Below w.heap.size w W) (hb:Below n W W1) (hn:w.heap.size≤n):Below w.heap.size w W1:=
 h.trans ⟨hb.os,hb.tape,hb.output,hb.size,fun i hi=>hb.block i (Nat.lt_of_lt_of_le hi hn)⟩
theorem ek {W:World} {base gx:Nat} {ok:Nat→Prop} {a b c x y z v:Value} {D:List EL} (h:ES W base ok v D) (hX:W.heap[gx]? = some (.cells #[a,b,c] 24 (0,0))):ES (((W.setCell ⟨gx,0,none⟩ x).setCell ⟨gx,1,none⟩ y).setCell ⟨gx,2,none⟩ z) base ok v D:=
 Kd.ig (Kd.ig (Kd.ig h hX (by decide) 0 x) (aK (cs:=#[a,b,c]) hX 0 x rfl) (by decide) 1 y) (aK (cs:=#[x,b,c]) (aK (cs:=#[a,b,c]) hX 0 x rfl) 1 y rfl) (by decide) 2 z
section
variable {w0 w W W1:World} {g gz gv:Nat} {l0:List Int} {p q p' q' b:Int} {A1:Option Addr} {c1:Nat} {P:List EL} {A2:Option Addr} {c2:Nat} {S:List EL}
theorem QB.below (h:QB w0 w W g gz gv l0 p q b A1 c1 P A2 c2 S) (hb:Below W.heap.size W W1):QB w0 w W1 g gz gv l0 p q b A1 c1 P A2 c2 S:=
 ⟨h.i.below hb,ay h.z hb,ay h.v hb,Kd.bi h.s hb,Kd.bi h.r hb,aA h.b hb,h.k.trans (bg.of_below hb g none) (.inl rfl)⟩
theorem QB.drew (h:QB w0 w W g gz gv l0 p q b A1 c1 P A2 c2 S):QB w0 w W.drew g gz gv l0 p q b A1 c1 P A2 c2 S:=h.below (ai (Below.refl _ _))
theorem QB.cur (h:QB w0 w W g gz gv l0 p q b A1 c1 P A2 c2 S) (Q:QC w0 w g gz gv) (hi:aU w0 W1 g l0 p' q') (hb:Below w0.heap.size w0 W1) (hk:bg W W1 g none):QB w0 w W1 g gz gv l0 p' q' b A1 c1 P A2 c2 S:=
 ⟨hi,hk.blk h.z (by have:=Q.lt;have:=Q.z;omega) (by simp),hk.blk h.v (by have:=Q.lt;have:=Q.v;omega) (by simp),Kd.aT (Kd.iq (Kd.dE h.s) hk (fun k h_=>by have:=h_.2.1;have:=Q.lt;omega)) (fun _ h_=>h_.1),Kd.aT (Kd.iq (Kd.dE h.r) hk (fun k h_=>by have:=h_.2.1;have:=Q.lt;omega)) (fun _ h_=>h_.1),hb,h.k.trans hk (.inl rfl)⟩
theorem QB.box (h:QB w0 w W g gz gv l0 p q b A1 c1 P A2 c2 S) (Q:QC w0 w g gz gv) {gx:Nat} {cells:Array Value} (hX:W.heap[gx]? = some (.cells cells 24 (0,0))) (hge:w.heap.size≤gx) (hz:gz≠gx) (hv:gv≠gx) (j:Nat) (u:Value):QB w0 w (W.setCell ⟨gx,j,none⟩ u) g gz gv l0 p q b A1 c1 P A2 c2 S:=by
 have hg:W.grownBy (W.setCell ⟨gx,j,none⟩ u) (some gx):=ny W gx j u
 exact⟨h.i.grown hg (by have:=Q.lt;intro e_;have:=Option.some.inj e_;omega),aG h.z hz _,aG h.v hv _,Kd.ig h.s hX (by decide) j u,Kd.ig h.r hX (by decide) j u,ae h.b (by have:=Q.lt;have:=Q.ge;show w0.heap.size≤gx;omega),eF h.k hge u⟩
theorem QB.box3 (h:QB w0 w W g gz gv l0 p q b A1 c1 P A2 c2 S) (Q:QC w0 w g gz gv) {gx:Nat} {a b_ c:Value} (hX:W.heap[gx]? = some (.cells #[a,b_,c] 24 (0,0))) (hge:w.heap.size≤gx) (hz:gz≠gx) (hv:gv≠gx) (x y z:Value):QB w0 w (((W.setCell ⟨gx,0,none⟩ x).setCell ⟨gx,1,none⟩ y).setCell ⟨gx,2,none⟩ z) g gz gv l0 p q b A1 c1 P A2 c2 S:=
 ((h.box Q hX hge hz hv 0 x).box Q (aK (cs:=#[a,b_,c]) hX 0 x rfl) hge hz hv 1 y).box Q (aK (cs:=#[x,b_,c]) (aK (cs:=#[a,b_,c]) hX 0 x rfl) 1 y rfl) hge hz hv 2 z
theorem QB.move {b':Int} {A1':Option Addr} {c1':Nat} {P':List EL} {A2':Option Addr} {c2':Nat} {S':List EL} (h:QB w0 w W g gz gv l0 p q b A1 c1 P A2 c2 S) (Q:QC w0 w g gz gv) (hs:ES W w.heap.size (fun k=>some k≠(Value.slice A2' S'.length c2').ownBlock) (.slice A1' P'.length c1') P') (hr:ES W w.heap.size (fun k=>some k≠(Value.slice A1' P'.length c1').ownBlock) (.slice A2' S'.length c2') S') :
  QB w0 w (((W.setCell ⟨gv,0,none⟩ (.int .i64 b')).setCell ⟨gv,1,none⟩ (.slice A1' P'.length c1')).setCell ⟨gv,2,none⟩ (.slice A2' S'.length c2')) g gz gv l0 p q b' A1' c1' P' A2' c2' S':=by
 have hn:g≠gv:=by have:=Q.lt;have:=Q.v;omega
 have hw0:w0.heap.size≤gv:=by have:=Q.lt;have:=Q.ge;have:=Q.v;omega
 exact⟨((h.i.far (p:=⟨gv,0,none⟩) hn _).far (p:=⟨gv,1,none⟩) hn _).far (p:=⟨gv,2,none⟩) hn _,aG (aG (aG h.z (show gz≠(⟨gv,_,none⟩:Addr).block from Q.ne) _) (show gz≠(⟨gv,_,none⟩:Addr).block from Q.ne) _) (show gz≠(⟨gv,_,none⟩:Addr).block from Q.ne) _,eY h.v _ _ _,ek hs h.v,ek hr h.v,ae (ae (ae h.b hw0) hw0) hw0,eF (eF (eF h.k (p:=⟨gv,0,none⟩) Q.v _) (p:=⟨gv,1,none⟩) Q.v _) (p:=⟨gv,2,none⟩) Q.v _⟩
theorem QB.setB (h:QB w0 w W g gz gv l0 p q b A1 c1 P A2 c2 S) (Q:QC w0 w g gz gv) (x:Int):QB w0 w (W.setCell ⟨gv,0,none⟩ (.int .i64 x)) g gz gv l0 p q x A1 c1 P A2 c2 S:=
 ⟨h.i.far (p:=⟨gv,0,none⟩) (by have:=Q.lt;have:=Q.v;show g≠gv;omega) _,aG h.z (show gz≠(⟨gv,_,none⟩:Addr).block from Q.ne) _,aK (cs:=#[.int .i64 b,.slice A1 P.length c1,.slice A2 S.length c2]) h.v 0 _ rfl,Kd.ig h.s h.v (by decide) 0 _,Kd.ig h.r h.v (by decide) 0 _,ae h.b (by have:=Q.lt;have:=Q.ge;have:=Q.v;omega),eF h.k (p:=⟨gv,0,none⟩) Q.v _⟩
theorem QB.setS {gs:Nat} (h:QB w0 w W g gz gv l0 p q b A1 c1 P (some ⟨gs,0,none⟩) c2 S) (Q:QC w0 w g gz gv) (hn:0<S.length) (x:Int) :
  QB w0 w (W.setCell ⟨gs,1,none⟩ (.int .i64 x)) g gz gv l0 p q b A1 c1 P (some ⟨gs,0,none⟩) c2 (S.set 0 ⟨(ax S 0).f0,x⟩):=by
 have hb:=Kd.dI h.r gs rfl
 have hz:=Kd.gN h.r h.z (by decide)
 have hv:=Kd.gN h.r h.v (by decide)
 have hg:g≠gs:=by have:=Q.lt;omega
 have hl:(S.set 0 (⟨(ax S 0).f0,x⟩:EL)).length=S.length:=List.length_set
 refine⟨h.i.far (p:=⟨gs,1,none⟩) hg _,aG h.z (p:=⟨gs,1,none⟩) (fun e_=>hz (by rw[e_];rfl)) _,?_,?_,?_,ae h.b (by have:=Q.lt;have:=Q.ge;omega),eF h.k (p:=⟨gs,1,none⟩) hb _⟩
 ·rw[hl]
  exact aG h.v (p:=⟨gs,1,none⟩) (fun e_=>hv (by rw[e_];rfl)) _
 ·rw[hl]
  exact Kd.aV (p:=⟨gs,1,none⟩) h.s (fun k hk e_=>hk (by rw[e_];rfl)) _
 ·rw[hl]
  exact mo h.r 0 (by omega) (by omega) x
theorem QB.app {A1':Option Addr} {c1':Nat} {P':List EL} (h:QB w0 w W g gz gv l0 p q b A1 c1 P A2 c2 S) (Q:QC w0 w g gz gv) (hs:ES W1 w.heap.size (fun k=>some k≠(Value.slice A2 S.length c2).ownBlock) (.slice A1' P'.length c1') P') (hb:Below w.heap.size W W1) (hg:W.grownBy W1 (Value.slice A1 P.length c1).ownBlock) :
  QB w0 w (W1.setCell ⟨gv,1,none⟩ (.slice A1' P'.length c1')) g gz gv l0 p q b A1' c1' P' A2 c2 S:=by
 have hn:g≠gv:=by have:=Q.lt;have:=Q.v;omega
 have hw0:w0.heap.size≤gv:=by have:=Q.lt;have:=Q.ge;have:=Q.v;omega
 have hv:=bf h.v hg (Kd.gN h.s h.v (by decide))
 have hr:=Kd.qB h.r hg (fun k hk=>hk)
 have hi:=h.i.grown hg (fun e_=>by have:=Kd.dI h.s _ e_.symm;have:=Q.lt;omega)
 refine⟨hi.far (p:=⟨gv,1,none⟩) hn _,aG (bf h.z hg (Kd.gN h.s h.z (by decide))) (show gz≠(⟨gv,_,none⟩:Addr).block from Q.ne) _,aK (cs:=#[.int .i64 b,.slice A1 P.length c1,.slice A2 S.length c2]) hv 1 _ rfl,Kd.ig hs hv (by decide) 1 _,?_,ae (mK h.b hb (by have:=Q.lt;have:=Q.ge;omega)) hw0,eF (mV h.k hb) (p:=⟨gv,1,none⟩) Q.v _⟩
 exact Kd.aT (Kd.qC rfl (Kd.ig hr hv (by decide) 1 _)) (fun k hk e_=>hs.1 k e_.symm hk)
theorem QB.ret {x y z:Value} (h:QB w0 w W g gz gv l0 p q b A1 c1 P A2 c2 S) (Q:QC w0 w g gz gv):ES (((W.setCell ⟨gz,0,none⟩ x).setCell ⟨gz,1,none⟩ y).setCell ⟨gz,2,none⟩ z) w.heap.size (fun k=>some k≠(Value.slice A2 S.length c2).ownBlock) (.slice A1 P.length c1) P∧ES (((W.setCell ⟨gz,0,none⟩ x).setCell ⟨gz,1,none⟩ y).setCell ⟨gz,2,none⟩ z) w.heap.size (fun k=>some k≠(Value.slice A1 P.length c1).ownBlock) (.slice A2 S.length c2) S∧
  aU w0 (((W.setCell ⟨gz,0,none⟩ x).setCell ⟨gz,1,none⟩ y).setCell ⟨gz,2,none⟩ z) g l0 p q∧Below w0.heap.size w0 (((W.setCell ⟨gz,0,none⟩ x).setCell ⟨gz,1,none⟩ y).setCell ⟨gz,2,none⟩ z)∧bg w (((W.setCell ⟨gz,0,none⟩ x).setCell ⟨gz,1,none⟩ y).setCell ⟨gz,2,none⟩ z) g none:=by
 have hn:g≠gz:=by have:=Q.lt;have:=Q.z;omega
 have hw0:w0.heap.size≤gz:=by have:=Q.lt;have:=Q.ge;have:=Q.z;omega
 exact⟨ek h.s h.z,ek h.r h.z,((h.i.far (p:=⟨gz,0,none⟩) hn _).far (p:=⟨gz,1,none⟩) hn _).far (p:=⟨gz,2,none⟩) hn _,ae (ae (ae h.b hw0) hw0) hw0,eF (eF (eF h.k (p:=⟨gz,0,none⟩) Q.z _) (p:=⟨gz,1,none⟩) Q.z _) (p:=⟨gz,2,none⟩) Q.z _⟩
end
set_option maxHeartbeats 16000000 in
set_option maxRecDepth 100000 in
theorem iM (g : Nat) (l0 : List Int) (p0 q0 : Int) (w0 w : World) (hl : Bytes l0) (hp0 : 0 ≤ p0) (hp1 : p0 ≤ 1000) (hI : aU w0 w g l0 p0 q0) (hB : Below w0.heap.size w0 w) :
  Calls Try.prog 44 #[.pointer (some ⟨g,0,none⟩)] w fun e w'=>∃ (v1_ v2_:Value) (b:Int) (P S:List EL) (p q:Int),e = .returned (.agg #[.int .i64 b,v1_,v2_])∧ES w' w.heap.size (fun k=>some k≠v2_.ownBlock) v1_ P∧ES w' w.heap.size (fun k=>some k≠v1_.ownBlock) v2_ S∧(0≤p∧p≤500000)∧szF b P S∧aU w0 w' g l0 p q∧Below w0.heap.size w0 w'∧bg w w' g none:=by
 have huF:=Try.underlying24
 have huE:=Try.underlying35
 have huES:=Try.underlying22
 have huI:=Try.underlying94
 have HBY:=au hl
 obtain⟨W1,hW1⟩:∃ W,w.alloc (.cells #[.int .i64 0,.slice none 0 0,.slice none 0 0] 24)=W:=⟨_,rfl⟩
 have hb1:Below w.heap.size w W1:=by rw[← hW1];exact ah (Below.refl _ _) _
 have Z1:=au (show W1.heap[w.heap.size]? = some (.cells #[.int .i64 0,.slice none 0 0,.slice none 0 0] 24 (0,0)) by rw[← hW1];exact heap_alloc_new w _)
 obtain⟨a0,p1,q1,e1,ha0,ha1,hp2,hp3⟩:=dW hl p0 q0 60 hp0 (by omega) (by omega)
 have TT:=au (spec_l1Cur_pick.calls g l0 p0 q0 60 a0 p1 q1 w0 W1 (hI.below hb1) (aA hB hb1) e1)
 have GL:=au (show g<w.heap.size∧w0.heap.size≤g from⟨hI.lt,hI.ge⟩)
 have KB:=au (bg.of_below hb1 g none)
 obtain⟨L0,hL0⟩:∃ z,wrap64 (1+a0)=z:=⟨_,rfl⟩
 have HL0:=au (show 1≤L0∧L0≤400 by rw[← hL0,w64 (x:=1+a0) (by omega) (by omega)];omega)
 have HPP:=au (show 0≤p1∧p1≤1002 by omega)
 have WZ:=au (show w.heap.size<W1.heap.size from aH Z1.out)
 clear hl hp0 hp1 hI hB hb1 e1 ha0 ha1 hp2 hp3
 go_enter Try.func44,Try.ntmps44
 go_wp2_with (go_at_call 46;refine TT.out.mono ?_)
 rintro e w2 ⟨rfl,hI,hB,hK⟩
 have Z2:=au (hK.blk Z1.out (by have:=GL.out;omega) (by simp))
 have I2:=au hI
 have B2:=au hB
 replace KB:=au (KB.out.trans hK (.inl rfl))
 clear hI hB hK TT Z1 hW1
 obtain⟨ob,p2,q2,e2,hp2,hp3⟩:=jg HBY.out p1 q1 12 HPP.out.1 (by have:=HPP.out;omega) (by omega)
 have TT:=au (spec_l1Cur_one.calls g l0 p1 q1 12 ob p2 q2 w0 w2 I2.out B2.out e2)
 have HP2:=au (show 0≤p2∧p2≤1004 by have:=HPP.out;omega)
 clear e2 hp2 hp3
 go_wp2_with (go_at_call 47;refine TT.out.mono ?_)
 rintro e wc ⟨rfl,hI,hB,hK⟩
 replace Z2:=au (hK.blk Z2.out (by have:=GL.out;omega) (by simp))
 replace I2:=au hI
 replace B2:=au hB
 replace KB:=au (KB.out.trans hK (.inl rfl))
 clear hI hB hK TT HPP
 go_upto_if 13 with(fail)
 (try simp only[apu_])
 go_cut [3] (fun v3 wx=>∃ n:Int,v3 = .int .i64 n∧Aside0 (1≤n∧n≤400)∧wx=wc)
 case first=>
  cases ob with
  | true=>
   go_wp2
   go_meet
   case rel=>exact⟨400,by first|rfl|simp,⟨by omega⟩,rfl⟩
  | false=>
   go_wp2
   go_meet
   case rel=>exact⟨L0,by first|rfl|simp|(rw[← hL0];done)|(rw[← hL0];rfl),HL0,rfl⟩
 case rest =>
  clear HL0 hL0 WZ
  obtain⟨n,rfl,HN,rfl⟩:=hcut
  obtain⟨HPP⟩:Aside0 (Aside0 (0≤p2∧p2≤1004)):=⟨HP2⟩
  obtain⟨kn,P0,S0,en,hgn⟩:=q8 HN.out
  have GD:=au hgn
  have TT:=au (spec_NewFree.calls kn n n P0 S0 true wc en)
  clear en hgn
  go_wp2_with (go_at_call 72;refine TT.out.mono ?_;(rintro e w3 ⟨v0,v1,rfl,hs,hr,hb⟩);(obtain⟨A1,c1,rfl⟩:=Kd.bq hs);(obtain⟨A2,c2,rfl⟩:=Kd.bq hr);(obtain⟨W4,W5,hW4,hW5,y0,y1,y2,z0,z1,z2,V5,BL⟩:=fA w3 (.int .i64 n) (.slice A1 P0.length c1) (.slice A2 S0.length c2));(have QI:=au (show QB w0 w W5 g w.heap.size w3.heap.size l0 p2 q2 n A1 c1 P0 A2 c2 S0 from⟨(I2.out.below hb).below BL.out,ay (ay Z2.out hb) BL.out,V5.out,Kd.bz (Kd.bi hs BL.out) (dJ KB.out),Kd.bz (Kd.bi hr BL.out) (dJ KB.out),aA (aA B2.out hb) BL.out,(KB.out.trans (bg.of_below hb g none) (.inl rfl)).trans (bg.of_below BL.out g none) (.inl rfl)⟩));(have QX:=au (show QC w0 w g w.heap.size w3.heap.size from⟨GL.out.1,GL.out.2,Nat.le_refl _,Nat.le_trans (dJ KB.out) hb.size,Nat.ne_of_lt (aH (ay Z2.out hb))⟩));clear hs hr hb V5 BL TT)
  generalize w3.heap.size=gv at QI QX ⊢
  clear I2 B2 Z2 KB hW4 hW5 y0 y1 y2 z0 z1 z2
  clear HP2
  obtain⟨a0,p3,q3,e1,ha0,ha1,hp2,hp3⟩:=dW HBY.out p2 q2 14 HPP.out.1 (by have:=HPP.out;omega) (by omega)
  have TT:=au (spec_l1Cur_pick.calls g l0 p2 q2 14 a0 p3 q3 w0 W5 QI.out.i QI.out.b e1)
  have HA:=au (show 0≤a0∧a0<14 by omega)
  have HP1:=au (show 0≤p3∧p3≤1006 by have:=HPP.out;omega)
  clear e1 ha0 ha1 hp2 hp3
  obtain⟨m,hm⟩:∃ m:Int,n=m:=⟨_,rfl⟩
  rw[hm]
  replace HN:=au (show 1≤m∧m≤400 by have:=HN.out;omega)
  go_wp2_with (go_at_call 46;refine TT.out.mono ?_)
  rintro e w6 ⟨rfl,hI,hB,hK⟩
  replace QI:=au (QI.out.cur QX.out hI hB hK)
  clear hI hB hK TT HPP
  obtain⟨n0,rfl⟩:∃ n0:Nat,a0 = (n0:Int):=⟨a0.toNat,by have:=HA.out;omega⟩
  go_wp2
  go_loopw [6] (fun vi wr=>∃ (n:Nat) (p q b:Int) (A1:Option Addr) (c1:Nat) (P:List EL) (A2:Option Addr) (c2:Nat) (S:List EL),n≤13∧vi = .int .i64 n∧Aside0 (0≤p∧p+1000 * (n:Int)≤100000)∧Aside0 (cK b P S=true)∧Aside0 (QB w0 w wr g w.heap.size gv l0 p q b A1 c1 P A2 c2 S)) (fun vi _=>(intOf vi).toNat)
  case atStart=>exact⟨n0,p3,q3,n,A1,c1,P0,A2,c2,S0,by have:=HA.out;omega,rfl,⟨by have:=HA.out;have:=HP1.out;omega⟩,GD,QI⟩
  case round =>
   clear QI HP1 HA GD
   obtain⟨n,p,q,b,A1,c1,P,A2,c2,S,hn,rfl,HPN,GD,B⟩:=hrel
   by_cases hn0:0<n
   ·obtain⟨n',rfl⟩:∃ n',n=n'+1:=⟨n - 1,by omega⟩
    have hnn:(0 < (((n'+1:Nat)):Int))=True:=eq_true (by omega)
    have hnn2:((((n'+1:Nat)):Int) > 0)=True:=eq_true (by omega)
    obtain⟨V1,V2,hV1,hV2,y0,y1,y2,z0,z1,z2,X,BL⟩:=fA wr (.int .i64 b) (.slice A1 P.length c1) (.slice A2 S.length c2)
    have XG:=au (show w.heap.size≤wr.heap.size from dJ B.out.k)
    have XZ:=au (show w.heap.size≠wr.heap.size from Nat.ne_of_lt (aH B.out.z))
    have XV:=au (show gv≠wr.heap.size from Nat.ne_of_lt (aH B.out.v))
    have k0:wr.cell? ⟨gv,0,none⟩=some (.int .i64 b):=(ak B.out.v 0).trans rfl
    have k1:wr.cell? ⟨gv,1,none⟩=some (.slice A1 P.length c1):=(ak B.out.v 1).trans rfl
    have k2:wr.cell? ⟨gv,2,none⟩=some (.slice A2 S.length c2):=(ak B.out.v 2).trans rfl
    have XS:=au (Kd.bi B.out.s BL.out)
    have XR:=au (Kd.bi B.out.r BL.out)
    replace B:=au (B.out.below BL.out)
    have HP:=au (show 0≤p∧p+1000 * ((n'+1:Nat):Int)≤100000 from HPN.out)
    have HQ:=au (show n'≤12 by omega)
    have hn5:n'≤12:=HQ.out
    clear BL hn0 hn HPN XS XR
    obtain⟨ob,p2,q2,e2,hp2,hp3⟩:=jg HBY.out p q 2 HP.out.1 (by have:=HP.out;omega) (by omega)
    have TT:=au (spec_l1Cur_one.calls g l0 p q 2 ob p2 q2 w0 V2 B.out.i B.out.b e2)
    replace HP:=au (show 0≤p2∧p2+1000 * ((n'+1:Nat):Int)≤100002 by have:=HP.out;omega)
    clear e2 hp2 hp3
    go_wp2_with (go_at_call 47;refine TT.out.mono ?_)
    rintro e w4 ⟨rfl,hI,hB,hK⟩
    replace X:=au (hK.blk X.out (by have:=QX.out.lt;have:=XG.out;omega) (by simp))
    replace B:=au (B.out.cur QX.out hI hB hK)
    clear hI hB hK TT
    clear k0 k1 k2 hV1 hV2 y0 y1 y2 z0 z1 z2
    go_upto_if 27 with(fail)
    (try simp only[apu_])
    generalize wr.heap.size=gx at X XG XZ XV ⊢
    go_cut [8] (fun v8 wx=>∃ (ob:Bool) (p q b':Int) (A1':Option Addr) (c1':Nat) (P':List EL) (A2':Option Addr) (c2':Nat) (S':List EL),v8 = .bool ob∧Aside0 (0≤p∧p+1000 * ((n'+1:Nat):Int)≤100020)∧Aside0 (ob=true→cK b' P' S'=true)∧Aside0 (QB w0 w wx g w.heap.size gv l0 p q b A1 c1 P A2 c2 S)∧Aside0 (wx.heap[gx]? = some (.cells #[.int .i64 b',.slice A1' P'.length c1',.slice A2' S'.length c2'] 24 (0,0)))∧Aside0 (ES wx w.heap.size (fun k=>some k≠(Value.slice A2' S'.length c2').ownBlock) (.slice A1' P'.length c1') P')∧Aside0 (ES wx w.heap.size (fun k=>some k≠(Value.slice A1' P'.length c1').ownBlock) (.slice A2' S'.length c2') S'))
    case first=>
     cases ob with
     | true=>
      obtain⟨x0,pp0,qq0,e_,ha0,ha1,hp2,hp3⟩:=dW HBY.out p2 q2 6 (by have:=HP.out;omega) (by have:=HP.out;omega) (by omega)
      have E0:=au e_
      have HB0:=au (show 0≤pp0∧pp0+1000 * ((n'+1:Nat):Int)≤100010 by have:=HP.out;omega)
      clear e_ ha0 ha1 hp2 hp3
      obtain⟨x1,pp1,qq1,e_,ha0,ha1,hp2,hp3⟩:=dW HBY.out pp0 qq0 4 (by exact HB0.out.1) (by have:=HB0.out;omega) (by omega)
      have E1:=au e_
      have HB1:=au (show 0≤pp1∧pp1+1000 * ((n'+1:Nat):Int)≤100012 by have:=HB0.out;omega)
      clear e_ ha0 ha1 hp2 hp3
      obtain⟨x2,pp2,qq2,e_,ha0,ha1,hp2,hp3⟩:=dW HBY.out pp1 qq1 m (by exact HB1.out.1) (by have:=HB1.out;omega) (by have:=HN.out;omega)
      have E2:=au e_
      have HB2:=au (show 0≤pp2∧pp2+1000 * ((n'+1:Nat):Int)≤100014 by have:=HB1.out;omega)
      clear e_ ha0 ha1 hp2 hp3
      obtain⟨z0,hz0⟩:∃ z,wrap64 (1+x0)=z:=⟨_,rfl⟩
      obtain⟨z1,hz1⟩:∃ z,wrap64 (1+x1)=z:=⟨_,rfl⟩
      obtain⟨kk,b',P',S',ra,ob,e3,hsz⟩:=qI GD.out z0 z1 x2
      have E9:=au e3
      have HSZ2:=au hsz
      clear e3 hsz
      go_wp2
      refine dZ (n:=17) (S:=fun w'=>w'.cell? ⟨gv,0,none⟩=some (.int .i64 b)∧w'.cell? ⟨gv,1,none⟩=some (.slice A1 P.length c1)∧w'.cell? ⟨gv,2,none⟩=some (.slice A2 S.length c2)) (ds:=[15]) #[false,false,false,false,false,false,false,false,false,false,false,false,false,false,false,false,false] (by kernel_rfl) rfl rfl ⟨(ak B.out.v 0).trans rfl,(ak B.out.v 1).trans rfl,(ak B.out.v 2).trans rfl⟩ (fun hHeld=>?_)
      have BA:=au (B.out.below (ai (Below.refl _ _)))
      have XA:=au (aj X.out)
      generalize w4.drew=wa at BA XA hHeld ⊢
      clear B X
      refine bN (i:=0) (N:=some 29) (v:=?_) (a':=?_) #[true,false,false,false,false,false,false,false,false,false,false,false,false,false,false,false,false] rfl rfl (by kernel_rfl) (fun _ _ _ h=>h) (Or.inl ⟨by rfl,?_⟩) hHeld ?_ ?_
      rotate_left
      ·rintro w' ⟨s0,s1,s2⟩
       go_simp
       with_reducible rfl
      rotate_left
      ·simp only[apu_]
       rfl
      refine bN (i:=1) (N:=some 30) (v:=?_) (a':=?_) #[true,true,false,false,false,false,false,false,false,false,false,false,false,false,false,false,false] rfl rfl (by kernel_rfl) (fun _ _ _ h=>h) (Or.inl ⟨by rfl,?_⟩) hHeld ?_ ?_
      rotate_left
      ·rintro w' ⟨s0,s1,s2⟩
       go_simp
       with_reducible rfl
      rotate_left
      ·simp only[apu_]
       rfl
      refine bN (i:=4) (N:=some 33) (v:=?_) (a':=?_) #[true,true,false,false,true,false,false,false,false,false,false,false,false,false,false,false,false] rfl rfl (by kernel_rfl) (fun _ _ _ h=>h) (Or.inl ⟨by rfl,?_⟩) hHeld ?_ ?_
      rotate_left
      ·rintro w' ⟨s0,s1,s2⟩
       go_simp
       with_reducible rfl
      rotate_left
      ·simp only[apu_]
       rfl
      refine bN (i:=7) (N:=some 36) (v:=?_) (a':=?_) #[true,true,false,false,true,false,false,true,false,false,false,false,false,false,false,false,false] rfl rfl (by kernel_rfl) (fun _ _ _ h=>h) (Or.inl ⟨by rfl,?_⟩) hHeld ?_ ?_
      rotate_left
      ·rintro w' ⟨s0,s1,s2⟩
       go_simp
       with_reducible rfl
      rotate_left
      ·simp only[apu_]
       rfl
      refine bN (i:=8) (N:=some 37) (v:=?_) (a':=?_) #[true,true,false,false,true,false,false,true,true,false,false,false,false,false,false,false,false] rfl rfl (by kernel_rfl) (fun _ _ _ h=>h) (Or.inl ⟨by rfl,?_⟩) hHeld ?_ ?_
      rotate_left
      ·rintro w' ⟨s0,s1,s2⟩
       go_simp
       with_reducible rfl
      rotate_left
      ·simp only[apu_]
       rfl
      refine dN (i:=2) (N:=some 31) #[true,true,true,false,true,false,false,true,true,false,false,false,false,false,false,false,false] rfl rfl (by kernel_rfl) (by decide) (fun K hK=>?_)
      refine dh Try.func46 (by kernel_rfl) rfl #[.pointer (some ⟨g,0,none⟩),.int .i64 6] (by rfl) rfl rfl (by(try simp only[amp_]);first|done|rfl|(simp only[ald_];rfl)) ?_
      refine(spec_l1Cur_pick.calls g l0 p2 q2 6 x0 pp0 qq0 w0 wa BA.out.i BA.out.b E0.out).mono ?_
      rintro e wp0 ⟨rfl,hI,hB,hK5⟩
      refine⟨_,rfl,?_⟩
      have XP0:=au (hK5.blk XA.out (by have:=QX.out.lt;have:=XG.out;omega) (by simp))
      have BP0:=au (BA.out.cur QX.out hI hB hK5)
      clear hI hB hK5 BA XA
      refine hK.out _ _ ⟨(ak BP0.out.v 0).trans rfl,(ak BP0.out.v 1).trans rfl,(ak BP0.out.v 2).trans rfl⟩ (fun hHeld=>?_)
      clear hK K
      refine bQ (a':=?_) ?_ ?_
      rotate_left
      ·show Act.put _ (some 31) _=_
       simp only[apu_]
       rfl
      refine bN (i:=3) (N:=some 32) (v:=?_) (a':=?_) #[true,true,true,true,true,false,false,true,true,false,false,false,false,false,false,false,false] rfl rfl (by kernel_rfl) (fun _ _ _ h=>h) (Or.inl ⟨by rfl,?_⟩) hHeld ?_ ?_
      rotate_left
      ·rintro w' ⟨s0,s1,s2⟩
       go_simp
       with_reducible rfl
      rotate_left
      ·simp only[apu_]
       rfl
      try rw[hz0]
      refine dN (i:=5) (N:=some 34) #[true,true,true,true,true,true,false,true,true,false,false,false,false,false,false,false,false] rfl rfl (by kernel_rfl) (by decide) (fun K hK=>?_)
      refine dh Try.func46 (by kernel_rfl) rfl #[.pointer (some ⟨g,0,none⟩),.int .i64 4] (by rfl) rfl rfl (by(try simp only[amp_]);first|done|rfl|(simp only[ald_];rfl)) ?_
      refine(spec_l1Cur_pick.calls g l0 pp0 qq0 4 x1 pp1 qq1 w0 wp0 BP0.out.i BP0.out.b E1.out).mono ?_
      rintro e wp1 ⟨rfl,hI,hB,hK5⟩
      refine⟨_,rfl,?_⟩
      have XP1:=au (hK5.blk XP0.out (by have:=QX.out.lt;have:=XG.out;omega) (by simp))
      have BP1:=au (BP0.out.cur QX.out hI hB hK5)
      clear hI hB hK5 BP0 XP0
      refine hK.out _ _ ⟨(ak BP1.out.v 0).trans rfl,(ak BP1.out.v 1).trans rfl,(ak BP1.out.v 2).trans rfl⟩ (fun hHeld=>?_)
      clear hK K
      refine bQ (a':=?_) ?_ ?_
      rotate_left
      ·show Act.put _ (some 34) _=_
       simp only[apu_]
       rfl
      refine bN (i:=6) (N:=some 35) (v:=?_) (a':=?_) #[true,true,true,true,true,true,true,true,true,false,false,false,false,false,false,false,false] rfl rfl (by kernel_rfl) (fun _ _ _ h=>h) (Or.inl ⟨by rfl,?_⟩) hHeld ?_ ?_
      rotate_left
      ·rintro w' ⟨s0,s1,s2⟩
       go_simp
       with_reducible rfl
      rotate_left
      ·simp only[apu_]
       rfl
      try rw[hz1]
      refine dN (i:=9) (N:=some 38) #[true,true,true,true,true,true,true,true,true,true,false,false,false,false,false,false,false] rfl rfl (by kernel_rfl) (by decide) (fun K hK=>?_)
      refine dh Try.func46 (by kernel_rfl) rfl #[.pointer (some ⟨g,0,none⟩),.int .i64 m] (by rfl) rfl rfl (by(try simp only[amp_]);first|done|rfl|(simp only[ald_];rfl)) ?_
      refine(spec_l1Cur_pick.calls g l0 pp1 qq1 m x2 pp2 qq2 w0 wp1 BP1.out.i BP1.out.b E2.out).mono ?_
      rintro e wp2 ⟨rfl,hI,hB,hK5⟩
      refine⟨_,rfl,?_⟩
      have XP2:=au (hK5.blk XP1.out (by have:=QX.out.lt;have:=XG.out;omega) (by simp))
      have BP2:=au (BP1.out.cur QX.out hI hB hK5)
      clear hI hB hK5 BP1 XP1
      refine hK.out _ _ ⟨(ak BP2.out.v 0).trans rfl,(ak BP2.out.v 1).trans rfl,(ak BP2.out.v 2).trans rfl⟩ (fun hHeld=>?_)
      clear hK K
      refine bQ (a':=?_) ?_ ?_
      rotate_left
      ·show Act.put _ (some 38) _=_
       simp only[apu_]
       rfl
      refine dN (i:=10) (N:=some 39) #[true,true,true,true,true,true,true,true,true,true,true,false,false,false,false,false,false] rfl rfl (by kernel_rfl) (by decide) (fun K hK=>?_)
      refine dh Try.func24 (by kernel_rfl) rfl #[.agg #[.int .i64 b,.slice A1 P.length c1,.slice A2 S.length c2],.int .i64 z0,.int .i64 z1,.int .i64 x2] (by rfl) rfl rfl (by(try simp only[amp_]);first|done|rfl|(simp only[ald_];rfl)) ?_
      refine(spec_TakeRoom.calls kk b A1 c1 P A2 c2 S z0 z1 x2 b' P' S' ra ob wp2 (Kd.R_reads' BP2.out.s).2.2 (Kd.R_reads' BP2.out.s).2.1 (Kd.R_reads' BP2.out.r).2.2 (Kd.R_reads' BP2.out.r).2.1 E9.out).mono ?_
      rintro e w7 ⟨v0,v1,rfl,hs,hr,hb⟩
      refine⟨_,rfl,?_⟩
      obtain⟨A1',c1',rfl⟩:=Kd.bq hs
      obtain⟨A2',c2',rfl⟩:=Kd.bq hr
      have S7:=au (Kd.bz hs (dJ BP2.out.k))
      have R7:=au (Kd.bz hr (dJ BP2.out.k))
      have B7:=au (BP2.out.below hb)
      have X7:=au (ay XP2.out hb)
      clear hs hr hb BP2 XP2
      refine hK.out _ _ ⟨(ak B7.out.v 0).trans rfl,(ak B7.out.v 1).trans rfl,(ak B7.out.v 2).trans rfl⟩ (fun hHeld=>?_)
      clear hK K
      refine bQ (a':=?_) ?_ ?_
      rotate_left
      ·show Act.put _ (some 39) _=_
       simp only[apu_]
       rfl
      refine aQ (i:=11) (N:=some 28) (v:=?_) (a':=?_) #[true,true,true,true,true,true,true,true,true,true,true,true,false,false,false,false,false] rfl rfl (by kernel_rfl) (fun _ _ _ h=>h) (Or.inl ⟨by rfl,?_⟩) ?_ ?_
      rotate_left
      ·intro w'
       go_simp
       with_reducible rfl
      rotate_left
      ·simp only[apu_]
       rfl
      refine aQ (i:=12) (N:=some 40) (v:=?_) (a':=?_) #[true,true,true,true,true,true,true,true,true,true,true,true,true,false,false,false,false] rfl rfl (by kernel_rfl) (fun _ _ _ h=>h) (Or.inl ⟨by rfl,?_⟩) ?_ ?_
      rotate_left
      ·intro w'
       go_simp
       with_reducible rfl
      rotate_left
      ·simp only[apu_]
       rfl
      refine aQ (i:=13) (N:=some 41) (v:=?_) (a':=?_) #[true,true,true,true,true,true,true,true,true,true,true,true,true,true,false,false,false] rfl rfl (by kernel_rfl) (fun _ _ _ h=>h) (Or.inl ⟨by rfl,?_⟩) ?_ ?_
      rotate_left
      ·intro w'
       go_simp
       with_reducible rfl
      rotate_left
      ·simp only[apu_]
       rfl
      refine aQ (i:=14) (N:=some 42) (v:=?_) (a':=?_) #[true,true,true,true,true,true,true,true,true,true,true,true,true,true,true,false,false] rfl rfl (by kernel_rfl) (fun _ _ _ h=>h) (Or.inl ⟨by rfl,?_⟩) ?_ ?_
      rotate_left
      ·intro w'
       go_simp
       with_reducible rfl
      rotate_left
      ·simp only[apu_]
       rfl
      have x0_:w7.cell? ⟨gx,0,none⟩=some (.int .i64 b):=(ak X7.out 0).trans rfl
      have x1_:w7.cell? ⟨gx,1,none⟩=some (.slice A1 P.length c1):=(ak X7.out 1).trans rfl
      have x2_:w7.cell? ⟨gx,2,none⟩=some (.slice A2 S.length c2):=(ak X7.out 2).trans rfl
      have y0:=av X7.out 0
      have y1:=av X7.out 1
      have y2:=av X7.out 2
      refine mX (i:=15) (N:=none) #[true,true,true,true,true,true,true,true,true,true,true,true,true,true,true,true,false] rfl rfl (by kernel_rfl) (by decide) (fun K hK=>?_)
      refine jb (w1:=((w7.setCell ⟨gx,0,none⟩ (.int .i64 b')).setCell ⟨gx,1,none⟩ (.slice A1' P'.length c1')).setCell ⟨gx,2,none⟩ (.slice A2' S'.length c2')) (by rfl) rfl ?_ ?_
      ·first|(go_simp;done)|(go_simp;rfl)
      refine hK.out _ _ ?_
      clear hK K x0_ x1_ x2_ y0 y1 y2
      refine aQ (i:=16) (N:=some 8) (v:=?_) (a':=?_) #[true,true,true,true,true,true,true,true,true,true,true,true,true,true,true,true,true] rfl rfl (by kernel_rfl) (fun _ _ _ h=>h) (Or.inl ⟨by rfl,?_⟩) ?_ ?_
      rotate_left
      ·intro w'
       go_simp
       with_reducible rfl
      rotate_left
      ·simp only[apu_]
       rfl
      refine fo (by kernel_rfl) ?_
      clear hHeld
      have X8:=au (eY X7.out (.int .i64 b') (.slice A1' P'.length c1') (.slice A2' S'.length c2'))
      have B8:=au (B7.out.box3 QX.out X7.out XG.out XZ.out XV.out (.int .i64 b') (.slice A1' P'.length c1') (.slice A2' S'.length c2'))
      have S8:=au (ek (x:=.int .i64 b') (y:=.slice A1' P'.length c1') (z:=.slice A2' S'.length c2') S7.out X7.out)
      have R8:=au (ek (x:=.int .i64 b') (y:=.slice A1' P'.length c1') (z:=.slice A2' S'.length c2') R7.out X7.out)
      generalize ((w7.setCell ⟨gx,0,none⟩ (.int .i64 b')).setCell ⟨gx,1,none⟩ (.slice A1' P'.length c1')).setCell ⟨gx,2,none⟩ (.slice A2' S'.length c2')=w8 at X8 B8 S8 R8 ⊢
      clear X7 B7 S7 R7
      try go_wp2
      go_meet
      case rel=>exact⟨ob,pp2,qq2,b',A1',c1',P',A2',c2',S',by first|rfl|simp,⟨by have:=HB2.out;omega⟩,HSZ2,B8,X8,S8,R8⟩
     | false=>
      obtain⟨ob,p3,q3,e2,hp2,hp3⟩:=jg HBY.out p2 q2 2 HP.out.1 (by have:=HP.out;omega) (by omega)
      have TT:=au (spec_l1Cur_one.calls g l0 p2 q2 2 ob p3 q3 w0 w4 B.out.i B.out.b e2)
      replace HP:=au (show 0≤p3∧p3+1000 * ((n'+1:Nat):Int)≤100004 by have:=HP.out;omega)
      clear e2 hp2 hp3
      go_wp2_with (go_at_call 47;refine TT.out.mono ?_)
      rintro e w5 ⟨rfl,hI,hB,hK⟩
      replace X:=au (hK.blk X.out (by have:=QX.out.lt;have:=XG.out;omega) (by simp))
      replace B:=au (B.out.cur QX.out hI hB hK)
      clear hI hB hK TT
      cases ob with
      | true=>
       obtain⟨x0,pp0,qq0,e_,ha0,ha1,hp2,hp3⟩:=dW HBY.out p3 q3 m (by have:=HP.out;omega) (by have:=HP.out;omega) (by have:=HN.out;omega)
       have E0:=au e_
       have HB0:=au (show 0≤pp0∧pp0+1000 * ((n'+1:Nat):Int)≤100010 by have:=HP.out;omega)
       clear e_ ha0 ha1 hp2 hp3
       obtain⟨x1,pp1,qq1,e_,ha0,ha1,hp2,hp3⟩:=dW HBY.out pp0 qq0 4 (by exact HB0.out.1) (by have:=HB0.out;omega) (by omega)
       have E1:=au e_
       have HB1:=au (show 0≤pp1∧pp1+1000 * ((n'+1:Nat):Int)≤100012 by have:=HB0.out;omega)
       clear e_ ha0 ha1 hp2 hp3
       obtain⟨z1,hz1⟩:∃ z,wrap64 (1+x1)=z:=⟨_,rfl⟩
       obtain⟨kk,b',P',S',ob,e3,hsz⟩:=pU GD.out x0 z1
       have E9:=au e3
       have HSZ2:=au hsz
       clear e3 hsz
       go_wp2
       refine dZ (n:=14) (S:=fun w'=>w'.cell? ⟨gv,0,none⟩=some (.int .i64 b)∧w'.cell? ⟨gv,1,none⟩=some (.slice A1 P.length c1)∧w'.cell? ⟨gv,2,none⟩=some (.slice A2 S.length c2)) (ds:=[12]) #[false,false,false,false,false,false,false,false,false,false,false,false,false,false] (by kernel_rfl) rfl rfl ⟨(ak B.out.v 0).trans rfl,(ak B.out.v 1).trans rfl,(ak B.out.v 2).trans rfl⟩ (fun hHeld=>?_)
       have BA:=au (B.out.below (ai (Below.refl _ _)))
       have XA:=au (aj X.out)
       generalize w5.drew=wa at BA XA hHeld ⊢
       clear B X
       refine bN (i:=0) (N:=some 46) (v:=?_) (a':=?_) #[true,false,false,false,false,false,false,false,false,false,false,false,false,false] rfl rfl (by kernel_rfl) (fun _ _ _ h=>h) (Or.inl ⟨by rfl,?_⟩) hHeld ?_ ?_
       rotate_left
       ·rintro w' ⟨s0,s1,s2⟩
        go_simp
        with_reducible rfl
       rotate_left
       ·simp only[apu_]
        rfl
       refine bN (i:=1) (N:=some 47) (v:=?_) (a':=?_) #[true,true,false,false,false,false,false,false,false,false,false,false,false,false] rfl rfl (by kernel_rfl) (fun _ _ _ h=>h) (Or.inl ⟨by rfl,?_⟩) hHeld ?_ ?_
       rotate_left
       ·rintro w' ⟨s0,s1,s2⟩
        go_simp
        with_reducible rfl
       rotate_left
       ·simp only[apu_]
        rfl
       refine bN (i:=2) (N:=some 48) (v:=?_) (a':=?_) #[true,true,true,false,false,false,false,false,false,false,false,false,false,false] rfl rfl (by kernel_rfl) (fun _ _ _ h=>h) (Or.inl ⟨by rfl,?_⟩) hHeld ?_ ?_
       rotate_left
       ·rintro w' ⟨s0,s1,s2⟩
        go_simp
        with_reducible rfl
       rotate_left
       ·simp only[apu_]
        rfl
       refine bN (i:=4) (N:=some 50) (v:=?_) (a':=?_) #[true,true,true,false,true,false,false,false,false,false,false,false,false,false] rfl rfl (by kernel_rfl) (fun _ _ _ h=>h) (Or.inl ⟨by rfl,?_⟩) hHeld ?_ ?_
       rotate_left
       ·rintro w' ⟨s0,s1,s2⟩
        go_simp
        with_reducible rfl
       rotate_left
       ·simp only[apu_]
        rfl
       refine dN (i:=3) (N:=some 49) #[true,true,true,true,true,false,false,false,false,false,false,false,false,false] rfl rfl (by kernel_rfl) (by decide) (fun K hK=>?_)
       refine dh Try.func46 (by kernel_rfl) rfl #[.pointer (some ⟨g,0,none⟩),.int .i64 m] (by rfl) rfl rfl (by(try simp only[amp_]);first|done|rfl|(simp only[ald_];rfl)) ?_
       refine(spec_l1Cur_pick.calls g l0 p3 q3 m x0 pp0 qq0 w0 wa BA.out.i BA.out.b E0.out).mono ?_
       rintro e wp0 ⟨rfl,hI,hB,hK5⟩
       refine⟨_,rfl,?_⟩
       have XP0:=au (hK5.blk XA.out (by have:=QX.out.lt;have:=XG.out;omega) (by simp))
       have BP0:=au (BA.out.cur QX.out hI hB hK5)
       clear hI hB hK5 BA XA
       refine hK.out _ _ ⟨(ak BP0.out.v 0).trans rfl,(ak BP0.out.v 1).trans rfl,(ak BP0.out.v 2).trans rfl⟩ (fun hHeld=>?_)
       clear hK K
       refine bQ (a':=?_) ?_ ?_
       rotate_left
       ·show Act.put _ (some 49) _=_
        simp only[apu_]
        rfl
       refine dN (i:=5) (N:=some 51) #[true,true,true,true,true,true,false,false,false,false,false,false,false,false] rfl rfl (by kernel_rfl) (by decide) (fun K hK=>?_)
       refine dh Try.func46 (by kernel_rfl) rfl #[.pointer (some ⟨g,0,none⟩),.int .i64 4] (by rfl) rfl rfl (by(try simp only[amp_]);first|done|rfl|(simp only[ald_];rfl)) ?_
       refine(spec_l1Cur_pick.calls g l0 pp0 qq0 4 x1 pp1 qq1 w0 wp0 BP0.out.i BP0.out.b E1.out).mono ?_
       rintro e wp1 ⟨rfl,hI,hB,hK5⟩
       refine⟨_,rfl,?_⟩
       have XP1:=au (hK5.blk XP0.out (by have:=QX.out.lt;have:=XG.out;omega) (by simp))
       have BP1:=au (BP0.out.cur QX.out hI hB hK5)
       clear hI hB hK5 BP0 XP0
       refine hK.out _ _ ⟨(ak BP1.out.v 0).trans rfl,(ak BP1.out.v 1).trans rfl,(ak BP1.out.v 2).trans rfl⟩ (fun hHeld=>?_)
       clear hK K
       refine bQ (a':=?_) ?_ ?_
       rotate_left
       ·show Act.put _ (some 51) _=_
        simp only[apu_]
        rfl
       refine bN (i:=6) (N:=some 52) (v:=?_) (a':=?_) #[true,true,true,true,true,true,true,false,false,false,false,false,false,false] rfl rfl (by kernel_rfl) (fun _ _ _ h=>h) (Or.inl ⟨by rfl,?_⟩) hHeld ?_ ?_
       rotate_left
       ·rintro w' ⟨s0,s1,s2⟩
        go_simp
        with_reducible rfl
       rotate_left
       ·simp only[apu_]
        rfl
       try rw[hz1]
       refine bN (i:=7) (N:=some 53) (v:=?_) (a':=?_) #[true,true,true,true,true,true,true,true,false,false,false,false,false,false] rfl rfl (by kernel_rfl) (fun _ _ _ h=>h) (Or.inl ⟨by rfl,?_⟩) hHeld ?_ ?_
       rotate_left
       ·rintro w' ⟨s0,s1,s2⟩
        go_simp
        with_reducible rfl
       rotate_left
       ·simp only[apu_]
        rfl
       refine dN (i:=8) (N:=some 54) #[true,true,true,true,true,true,true,true,true,false,false,false,false,false] rfl rfl (by kernel_rfl) (by decide) (fun K hK=>?_)
       refine dh Try.func31 (by kernel_rfl) rfl #[.agg #[.int .i64 b,.slice A1 P.length c1,.slice A2 S.length c2],.agg #[.int .i64 x0,.int .i64 z1]] (by rfl) rfl rfl (by(try simp only[amp_]);first|done|rfl|(simp only[ald_];rfl)) ?_
       refine(spec_TakeExact.calls kk b A1 c1 P A2 c2 S x0 z1 b' P' S' ob wp1 (Kd.R_reads' BP1.out.s).2.2 (Kd.R_reads' BP1.out.s).2.1 (Kd.R_reads' BP1.out.r).2.2 (Kd.R_reads' BP1.out.r).2.1 E9.out).mono ?_
       rintro e w7 ⟨v0,v1,rfl,hs,hr,hb⟩
       refine⟨_,rfl,?_⟩
       obtain⟨A1',c1',rfl⟩:=Kd.bq hs
       obtain⟨A2',c2',rfl⟩:=Kd.bq hr
       have S7:=au (Kd.bz hs (dJ BP1.out.k))
       have R7:=au (Kd.bz hr (dJ BP1.out.k))
       have B7:=au (BP1.out.below hb)
       have X7:=au (ay XP1.out hb)
       clear hs hr hb BP1 XP1
       refine hK.out _ _ ⟨(ak B7.out.v 0).trans rfl,(ak B7.out.v 1).trans rfl,(ak B7.out.v 2).trans rfl⟩ (fun hHeld=>?_)
       clear hK K
       refine bQ (a':=?_) ?_ ?_
       rotate_left
       ·show Act.put _ (some 54) _=_
        simp only[apu_]
        rfl
       refine aQ (i:=9) (N:=some 45) (v:=?_) (a':=?_) #[true,true,true,true,true,true,true,true,true,true,false,false,false,false] rfl rfl (by kernel_rfl) (fun _ _ _ h=>h) (Or.inl ⟨by rfl,?_⟩) ?_ ?_
       rotate_left
       ·intro w'
        go_simp
        with_reducible rfl
       rotate_left
       ·simp only[apu_]
        rfl
       refine aQ (i:=10) (N:=some 55) (v:=?_) (a':=?_) #[true,true,true,true,true,true,true,true,true,true,true,false,false,false] rfl rfl (by kernel_rfl) (fun _ _ _ h=>h) (Or.inl ⟨by rfl,?_⟩) ?_ ?_
       rotate_left
       ·intro w'
        go_simp
        with_reducible rfl
       rotate_left
       ·simp only[apu_]
        rfl
       refine aQ (i:=11) (N:=some 56) (v:=?_) (a':=?_) #[true,true,true,true,true,true,true,true,true,true,true,true,false,false] rfl rfl (by kernel_rfl) (fun _ _ _ h=>h) (Or.inl ⟨by rfl,?_⟩) ?_ ?_
       rotate_left
       ·intro w'
        go_simp
        with_reducible rfl
       rotate_left
       ·simp only[apu_]
        rfl
       have x0_:w7.cell? ⟨gx,0,none⟩=some (.int .i64 b):=(ak X7.out 0).trans rfl
       have x1_:w7.cell? ⟨gx,1,none⟩=some (.slice A1 P.length c1):=(ak X7.out 1).trans rfl
       have x2_:w7.cell? ⟨gx,2,none⟩=some (.slice A2 S.length c2):=(ak X7.out 2).trans rfl
       have y0:=av X7.out 0
       have y1:=av X7.out 1
       have y2:=av X7.out 2
       refine mX (i:=12) (N:=none) #[true,true,true,true,true,true,true,true,true,true,true,true,true,false] rfl rfl (by kernel_rfl) (by decide) (fun K hK=>?_)
       refine jb (w1:=((w7.setCell ⟨gx,0,none⟩ (.int .i64 b')).setCell ⟨gx,1,none⟩ (.slice A1' P'.length c1')).setCell ⟨gx,2,none⟩ (.slice A2' S'.length c2')) (by rfl) rfl ?_ ?_
       ·first|(go_simp;done)|(go_simp;rfl)
       refine hK.out _ _ ?_
       clear hK K x0_ x1_ x2_ y0 y1 y2
       refine aQ (i:=13) (N:=some 8) (v:=?_) (a':=?_) #[true,true,true,true,true,true,true,true,true,true,true,true,true,true] rfl rfl (by kernel_rfl) (fun _ _ _ h=>h) (Or.inl ⟨by rfl,?_⟩) ?_ ?_
       rotate_left
       ·intro w'
        go_simp
        with_reducible rfl
       rotate_left
       ·simp only[apu_]
        rfl
       refine fo (by kernel_rfl) ?_
       clear hHeld
       have X8:=au (eY X7.out (.int .i64 b') (.slice A1' P'.length c1') (.slice A2' S'.length c2'))
       have B8:=au (B7.out.box3 QX.out X7.out XG.out XZ.out XV.out (.int .i64 b') (.slice A1' P'.length c1') (.slice A2' S'.length c2'))
       have S8:=au (ek (x:=.int .i64 b') (y:=.slice A1' P'.length c1') (z:=.slice A2' S'.length c2') S7.out X7.out)
       have R8:=au (ek (x:=.int .i64 b') (y:=.slice A1' P'.length c1') (z:=.slice A2' S'.length c2') R7.out X7.out)
       generalize ((w7.setCell ⟨gx,0,none⟩ (.int .i64 b')).setCell ⟨gx,1,none⟩ (.slice A1' P'.length c1')).setCell ⟨gx,2,none⟩ (.slice A2' S'.length c2')=w8 at X8 B8 S8 R8 ⊢
       clear X7 B7 S7 R7
       try go_wp2
       go_meet
       case rel=>exact⟨ob,pp1,qq1,b',A1',c1',P',A2',c2',S',by first|rfl|simp,⟨by have:=HB1.out;omega⟩,HSZ2,B8,X8,S8,R8⟩
      | false=>
       obtain⟨x0,pp0,qq0,e_,ha0,ha1,hp2,hp3⟩:=dW HBY.out p3 q3 m (by have:=HP.out;omega) (by have:=HP.out;omega) (by have:=HN.out;omega)
       have E0:=au e_
       have HB0:=au (show 0≤pp0∧pp0+1000 * ((n'+1:Nat):Int)≤100010 by have:=HP.out;omega)
       clear e_ ha0 ha1 hp2 hp3
       obtain⟨x1,pp1,qq1,e_,ha0,ha1,hp2,hp3⟩:=dW HBY.out pp0 qq0 4 (by exact HB0.out.1) (by have:=HB0.out;omega) (by omega)
       have E1:=au e_
       have HB1:=au (show 0≤pp1∧pp1+1000 * ((n'+1:Nat):Int)≤100012 by have:=HB0.out;omega)
       clear e_ ha0 ha1 hp2 hp3
       obtain⟨z1,hz1⟩:∃ z,wrap64 (1+x1)=z:=⟨_,rfl⟩
       obtain⟨kk,b',P',S',ob,e3,hsz⟩:=qA GD.out x0 z1
       have E9:=au e3
       have HSZ2:=au hsz
       clear e3 hsz
       go_wp2
       refine dZ (n:=14) (S:=fun w'=>w'.cell? ⟨gv,0,none⟩=some (.int .i64 b)∧w'.cell? ⟨gv,1,none⟩=some (.slice A1 P.length c1)∧w'.cell? ⟨gv,2,none⟩=some (.slice A2 S.length c2)) (ds:=[12]) #[false,false,false,false,false,false,false,false,false,false,false,false,false,false] (by kernel_rfl) rfl rfl ⟨(ak B.out.v 0).trans rfl,(ak B.out.v 1).trans rfl,(ak B.out.v 2).trans rfl⟩ (fun hHeld=>?_)
       have BA:=au (B.out.below (ai (Below.refl _ _)))
       have XA:=au (aj X.out)
       generalize w5.drew=wa at BA XA hHeld ⊢
       clear B X
       refine bN (i:=0) (N:=some 58) (v:=?_) (a':=?_) #[true,false,false,false,false,false,false,false,false,false,false,false,false,false] rfl rfl (by kernel_rfl) (fun _ _ _ h=>h) (Or.inl ⟨by rfl,?_⟩) hHeld ?_ ?_
       rotate_left
       ·rintro w' ⟨s0,s1,s2⟩
        go_simp
        with_reducible rfl
       rotate_left
       ·simp only[apu_]
        rfl
       refine bN (i:=1) (N:=some 59) (v:=?_) (a':=?_) #[true,true,false,false,false,false,false,false,false,false,false,false,false,false] rfl rfl (by kernel_rfl) (fun _ _ _ h=>h) (Or.inl ⟨by rfl,?_⟩) hHeld ?_ ?_
       rotate_left
       ·rintro w' ⟨s0,s1,s2⟩
        go_simp
        with_reducible rfl
       rotate_left
       ·simp only[apu_]
        rfl
       refine bN (i:=2) (N:=some 60) (v:=?_) (a':=?_) #[true,true,true,false,false,false,false,false,false,false,false,false,false,false] rfl rfl (by kernel_rfl) (fun _ _ _ h=>h) (Or.inl ⟨by rfl,?_⟩) hHeld ?_ ?_
       rotate_left
       ·rintro w' ⟨s0,s1,s2⟩
        go_simp
        with_reducible rfl
       rotate_left
       ·simp only[apu_]
        rfl
       refine bN (i:=4) (N:=some 62) (v:=?_) (a':=?_) #[true,true,true,false,true,false,false,false,false,false,false,false,false,false] rfl rfl (by kernel_rfl) (fun _ _ _ h=>h) (Or.inl ⟨by rfl,?_⟩) hHeld ?_ ?_
       rotate_left
       ·rintro w' ⟨s0,s1,s2⟩
        go_simp
        with_reducible rfl
       rotate_left
       ·simp only[apu_]
        rfl
       refine dN (i:=3) (N:=some 61) #[true,true,true,true,true,false,false,false,false,false,false,false,false,false] rfl rfl (by kernel_rfl) (by decide) (fun K hK=>?_)
       refine dh Try.func46 (by kernel_rfl) rfl #[.pointer (some ⟨g,0,none⟩),.int .i64 m] (by rfl) rfl rfl (by(try simp only[amp_]);first|done|rfl|(simp only[ald_];rfl)) ?_
       refine(spec_l1Cur_pick.calls g l0 p3 q3 m x0 pp0 qq0 w0 wa BA.out.i BA.out.b E0.out).mono ?_
       rintro e wp0 ⟨rfl,hI,hB,hK5⟩
       refine⟨_,rfl,?_⟩
       have XP0:=au (hK5.blk XA.out (by have:=QX.out.lt;have:=XG.out;omega) (by simp))
       have BP0:=au (BA.out.cur QX.out hI hB hK5)
       clear hI hB hK5 BA XA
       refine hK.out _ _ ⟨(ak BP0.out.v 0).trans rfl,(ak BP0.out.v 1).trans rfl,(ak BP0.out.v 2).trans rfl⟩ (fun hHeld=>?_)
       clear hK K
       refine bQ (a':=?_) ?_ ?_
       rotate_left
       ·show Act.put _ (some 61) _=_
        simp only[apu_]
        rfl
       refine dN (i:=5) (N:=some 63) #[true,true,true,true,true,true,false,false,false,false,false,false,false,false] rfl rfl (by kernel_rfl) (by decide) (fun K hK=>?_)
       refine dh Try.func46 (by kernel_rfl) rfl #[.pointer (some ⟨g,0,none⟩),.int .i64 4] (by rfl) rfl rfl (by(try simp only[amp_]);first|done|rfl|(simp only[ald_];rfl)) ?_
       refine(spec_l1Cur_pick.calls g l0 pp0 qq0 4 x1 pp1 qq1 w0 wp0 BP0.out.i BP0.out.b E1.out).mono ?_
       rintro e wp1 ⟨rfl,hI,hB,hK5⟩
       refine⟨_,rfl,?_⟩
       have XP1:=au (hK5.blk XP0.out (by have:=QX.out.lt;have:=XG.out;omega) (by simp))
       have BP1:=au (BP0.out.cur QX.out hI hB hK5)
       clear hI hB hK5 BP0 XP0
       refine hK.out _ _ ⟨(ak BP1.out.v 0).trans rfl,(ak BP1.out.v 1).trans rfl,(ak BP1.out.v 2).trans rfl⟩ (fun hHeld=>?_)
       clear hK K
       refine bQ (a':=?_) ?_ ?_
       rotate_left
       ·show Act.put _ (some 63) _=_
        simp only[apu_]
        rfl
       refine bN (i:=6) (N:=some 64) (v:=?_) (a':=?_) #[true,true,true,true,true,true,true,false,false,false,false,false,false,false] rfl rfl (by kernel_rfl) (fun _ _ _ h=>h) (Or.inl ⟨by rfl,?_⟩) hHeld ?_ ?_
       rotate_left
       ·rintro w' ⟨s0,s1,s2⟩
        go_simp
        with_reducible rfl
       rotate_left
       ·simp only[apu_]
        rfl
       try rw[hz1]
       refine bN (i:=7) (N:=some 65) (v:=?_) (a':=?_) #[true,true,true,true,true,true,true,true,false,false,false,false,false,false] rfl rfl (by kernel_rfl) (fun _ _ _ h=>h) (Or.inl ⟨by rfl,?_⟩) hHeld ?_ ?_
       rotate_left
       ·rintro w' ⟨s0,s1,s2⟩
        go_simp
        with_reducible rfl
       rotate_left
       ·simp only[apu_]
        rfl
       refine dN (i:=8) (N:=some 66) #[true,true,true,true,true,true,true,true,true,false,false,false,false,false] rfl rfl (by kernel_rfl) (by decide) (fun K hK=>?_)
       refine dh Try.func14 (by kernel_rfl) rfl #[.agg #[.int .i64 b,.slice A1 P.length c1,.slice A2 S.length c2],.agg #[.int .i64 x0,.int .i64 z1]] (by rfl) rfl rfl (by(try simp only[amp_]);first|done|rfl|(simp only[ald_];rfl)) ?_
       refine(spec_GiveRoom.calls kk b A1 c1 P A2 c2 S x0 z1 b' P' S' ob wp1 (Kd.R_reads' BP1.out.s).2.2 (Kd.R_reads' BP1.out.s).2.1 (Kd.R_reads' BP1.out.r).2.2 (Kd.R_reads' BP1.out.r).2.1 E9.out).mono ?_
       rintro e w7 ⟨v0,v1,rfl,hs,hr,hb⟩
       refine⟨_,rfl,?_⟩
       obtain⟨A1',c1',rfl⟩:=Kd.bq hs
       obtain⟨A2',c2',rfl⟩:=Kd.bq hr
       have S7:=au (Kd.bz hs (dJ BP1.out.k))
       have R7:=au (Kd.bz hr (dJ BP1.out.k))
       have B7:=au (BP1.out.below hb)
       have X7:=au (ay XP1.out hb)
       clear hs hr hb BP1 XP1
       refine hK.out _ _ ⟨(ak B7.out.v 0).trans rfl,(ak B7.out.v 1).trans rfl,(ak B7.out.v 2).trans rfl⟩ (fun hHeld=>?_)
       clear hK K
       refine bQ (a':=?_) ?_ ?_
       rotate_left
       ·show Act.put _ (some 66) _=_
        simp only[apu_]
        rfl
       refine aQ (i:=9) (N:=some 57) (v:=?_) (a':=?_) #[true,true,true,true,true,true,true,true,true,true,false,false,false,false] rfl rfl (by kernel_rfl) (fun _ _ _ h=>h) (Or.inl ⟨by rfl,?_⟩) ?_ ?_
       rotate_left
       ·intro w'
        go_simp
        with_reducible rfl
       rotate_left
       ·simp only[apu_]
        rfl
       refine aQ (i:=10) (N:=some 67) (v:=?_) (a':=?_) #[true,true,true,true,true,true,true,true,true,true,true,false,false,false] rfl rfl (by kernel_rfl) (fun _ _ _ h=>h) (Or.inl ⟨by rfl,?_⟩) ?_ ?_
       rotate_left
       ·intro w'
        go_simp
        with_reducible rfl
       rotate_left
       ·simp only[apu_]
        rfl
       refine aQ (i:=11) (N:=some 68) (v:=?_) (a':=?_) #[true,true,true,true,true,true,true,true,true,true,true,true,false,false] rfl rfl (by kernel_rfl) (fun _ _ _ h=>h) (Or.inl ⟨by rfl,?_⟩) ?_ ?_
       rotate_left
       ·intro w'
        go_simp
        with_reducible rfl
       rotate_left
       ·simp only[apu_]
        rfl
       have x0_:w7.cell? ⟨gx,0,none⟩=some (.int .i64 b):=(ak X7.out 0).trans rfl
       have x1_:w7.cell? ⟨gx,1,none⟩=some (.slice A1 P.length c1):=(ak X7.out 1).trans rfl
       have x2_:w7.cell? ⟨gx,2,none⟩=some (.slice A2 S.length c2):=(ak X7.out 2).trans rfl
       have y0:=av X7.out 0
       have y1:=av X7.out 1
       have y2:=av X7.out 2
       refine mX (i:=12) (N:=none) #[true,true,true,true,true,true,true,true,true,true,true,true,true,false] rfl rfl (by kernel_rfl) (by decide) (fun K hK=>?_)
       refine jb (w1:=((w7.setCell ⟨gx,0,none⟩ (.int .i64 b')).setCell ⟨gx,1,none⟩ (.slice A1' P'.length c1')).setCell ⟨gx,2,none⟩ (.slice A2' S'.length c2')) (by rfl) rfl ?_ ?_
       ·first|(go_simp;done)|(go_simp;rfl)
       refine hK.out _ _ ?_
       clear hK K x0_ x1_ x2_ y0 y1 y2
       refine aQ (i:=13) (N:=some 8) (v:=?_) (a':=?_) #[true,true,true,true,true,true,true,true,true,true,true,true,true,true] rfl rfl (by kernel_rfl) (fun _ _ _ h=>h) (Or.inl ⟨by rfl,?_⟩) ?_ ?_
       rotate_left
       ·intro w'
        go_simp
        with_reducible rfl
       rotate_left
       ·simp only[apu_]
        rfl
       refine fo (by kernel_rfl) ?_
       clear hHeld
       have X8:=au (eY X7.out (.int .i64 b') (.slice A1' P'.length c1') (.slice A2' S'.length c2'))
       have B8:=au (B7.out.box3 QX.out X7.out XG.out XZ.out XV.out (.int .i64 b') (.slice A1' P'.length c1') (.slice A2' S'.length c2'))
       have S8:=au (ek (x:=.int .i64 b') (y:=.slice A1' P'.length c1') (z:=.slice A2' S'.length c2') S7.out X7.out)
       have R8:=au (ek (x:=.int .i64 b') (y:=.slice A1' P'.length c1') (z:=.slice A2' S'.length c2') R7.out X7.out)
       generalize ((w7.setCell ⟨gx,0,none⟩ (.int .i64 b')).setCell ⟨gx,1,none⟩ (.slice A1' P'.length c1')).setCell ⟨gx,2,none⟩ (.slice A2' S'.length c2')=w8 at X8 B8 S8 R8 ⊢
       clear X7 B7 S7 R7
       try go_wp2
       go_meet
       case rel=>exact⟨ob,pp1,qq1,b',A1',c1',P',A2',c2',S',by first|rfl|simp,⟨by have:=HB1.out;omega⟩,HSZ2,B8,X8,S8,R8⟩
    case rest=>
     clear B X HP
     obtain⟨ob,p,q,b',A1',c1',P',A2',c2',S',rfl,HP,HG,B,X,XS,XR⟩:=hcut
     have h0:wc.cell? ⟨gv,0,none⟩=some (.int .i64 b):=(ak B.out.v 0).trans rfl
     have h1:wc.cell? ⟨gv,1,none⟩=some (.slice A1 P.length c1):=(ak B.out.v 1).trans rfl
     have h2:wc.cell? ⟨gv,2,none⟩=some (.slice A2 S.length c2):=(ak B.out.v 2).trans rfl
     have j0:=av B.out.v 0
     have j1:=av B.out.v 1
     have j2:=av B.out.v 2
     have g0:wc.cell? ⟨gx,0,none⟩=some (.int .i64 b'):=(ak X.out 0).trans rfl
     have g1:wc.cell? ⟨gx,1,none⟩=some (.slice A1' P'.length c1'):=(ak X.out 1).trans rfl
     have g2:wc.cell? ⟨gx,2,none⟩=some (.slice A2' S'.length c2'):=(ak X.out 2).trans rfl
     cases ob with
     | true=>
      have B9:=au (B.out.move (b':=b') QX.out XS.out XR.out)
      try go_wp2
      go_roundw
      case rel=>exact⟨n',p,q,b',A1',c1',P',A2',c2',S',by have:=HQ.out;omega,by go_num,⟨by have:=HP.out;have:=HQ.out;omega⟩,⟨HG.out (by first|rfl|trivial)⟩,B9⟩
      case measure=>first|(simp[intOf];done)|(simp[intOf];omega)
     | false=>
      try go_wp2
      go_roundw
      case rel=>exact⟨n',p,q,b,A1,c1,P,A2,c2,S,by have:=HQ.out;omega,by go_num,⟨by have:=HP.out;have:=HQ.out;omega⟩,GD,B⟩
      case measure=>first|(simp[intOf];done)|(simp[intOf];omega)
   ·obtain rfl:n=0:=by omega
    obtain⟨a,p2,q2,e2,ha0,ha1,hp2,hp3⟩:=dW HBY.out p q 40 HPN.out.1 (by have:=HPN.out;omega) (by omega)
    have TT:=au (spec_l1Cur_pick.calls g l0 p q 40 a p2 q2 w0 wr B.out.i B.out.b e2)
    have HP:=au (show 0≤p2∧p2≤100010 by have:=HPN.out;omega)
    have HSZ:=au (jT GD.out)
    clear hn hn0 e2 ha0 ha1 hp2 hp3 HPN GD
    go_wp2_with (go_at_call 46;refine TT.out.mono ?_)
    rintro e w3 ⟨rfl,hI,hB,hK⟩
    replace B:=au (B.out.cur QX.out hI hB hK)
    clear hI hB hK TT
    by_cases ha0:a=0
    ·subst ha0
     obtain⟨y,p3,q3,e3,hy,hp2,hp3⟩:=qc HBY.out p2 q2 [0,401] HP.out.1 (by have:=HP.out;omega) (by simp) (by simp)
     obtain⟨W4,hW4⟩:∃ W,w3.alloc (.cells #[.int .i64 0,.int .i64 401] 3)=W:=⟨_,rfl⟩
     have hb4:Below w3.heap.size w3 W4:=by rw[← hW4];exact ah (Below.refl _ _) _
     have hc4:W4.heap[w3.heap.size]? = some (.cells #[.int .i64 0,.int .i64 401] 3 (0,0)):=by rw[← hW4];exact heap_alloc_new w3 _
     have hr4:Kd.C (Kd.int .i64) W4 (some ⟨w3.heap.size,0,none⟩) 2 [0,401]:=by
      refine Kd.gY (enc:=fun x:Int=>Value.int .i64 x) (d:=0) ⟨rfl,by omega,fun _=>⟨_,rfl,fun j hj=>?_⟩⟩
      obtain rfl|rfl:j=0∨j=1:=by omega
      ·exact(ak hc4 0).trans rfl
      ·exact(ak hc4 1).trans rfl
     have TT:=au (spec_l1Cur_among.calls g l0 p2 q2 (some ⟨w3.heap.size,0,none⟩) 2 [0,401] y p3 q3 w0 W4 (B.out.below hb4).i (B.out.below hb4).b hr4 (by simp) (fun ad h_ _=>by have h2_:=Option.some.inj h_;subst h2_;have:=QX.out.lt;have:=dJ B.out.k;show w3.heap.size≠g;omega) e3)
     replace B:=au (B.out.below hb4)
     have HP3:=au (show 0≤p3∧p3≤500000 by have:=HP.out;omega)
     have HY:=au (show 0≤y∧y≤401 by simp at hy;omega)
     clear hb4 hc4 hr4 e3 hy hp2 hp3
     go_wp2_with (go_at_call 73;(try rw[hW4]);refine TT.out.mono ?_;(rintro e w6 ⟨rfl,hI,hB,hK⟩);(replace B:=au (B.out.cur QX.out hI hB hK));(have k2:w6.cell? ⟨gv,0,none⟩=some (.int .i64 b):=(ak B.out.v 0).trans rfl);have k3:=av B.out.v 0;(obtain⟨w9,hw9⟩:∃ W,w6.setCell ⟨gv,0,none⟩ (.int .i64 y)=W:=⟨_,rfl⟩);(have B9:=au (show QB w0 w w9 g w.heap.size gv l0 p3 q3 y A1 c1 P A2 c2 S by rw[← hw9];exact B.out.setB QX.out y));(have r0:w9.cell? ⟨w.heap.size,0,none⟩=some (.int .i64 0):=(ak B9.out.z 0).trans rfl);(have r1:w9.cell? ⟨w.heap.size,1,none⟩=some (.slice none 0 0):=(ak B9.out.z 1).trans rfl);(have r2:w9.cell? ⟨w.heap.size,2,none⟩=some (.slice none 0 0):=(ak B9.out.z 2).trans rfl);(have s0:=av B9.out.z 0);(have s1:=av B9.out.z 1);(have s2:=av B9.out.z 2);(have m0:w9.cell? ⟨gv,0,none⟩=some (.int .i64 y):=(ak B9.out.v 0).trans rfl);(have m1:w9.cell? ⟨gv,1,none⟩=some (.slice A1 P.length c1):=(ak B9.out.v 1).trans rfl);(have m2:w9.cell? ⟨gv,2,none⟩=some (.slice A2 S.length c2):=(ak B9.out.v 2).trans rfl);clear hI hB hK TT)
     refine bodyPost_ret (results_cell_row rfl _ _ w.heap.size 24 _ (0,0) _ rfl (eY B9.out.z _ _ _) Try.underlying24 rfl (by kernel_rfl)) rfl ?_
     obtain⟨t1_,t2_,t3_,t4_,t5_⟩:=B9.out.ret QX.out
     refine⟨_,_,_,_,_,_,_,rfl,t1_,t2_,?_,?_,t3_,t4_,t5_⟩
     ·exact HP3.out
     ·have:=HSZ.out;have:=HY.out;exact⟨by omega,by omega,by omega,by omega⟩
    ·have q0_:(a == 0)=false:=beq_eq_false_iff_ne.2 ha0
     have q1_:(a=0)=False:=eq_false ha0
     by_cases ha1:a=1
     ·subst ha1
      have k2:w3.cell? ⟨gv,2,none⟩=some (.slice A2 S.length c2):=(ak B.out.v 2).trans rfl
      by_cases hc:0<S.length
      ·have c1_:(0 < (S.length:Int))=True:=eq_true (by omega)
       have c2_:((S.length:Int) > 0)=True:=eq_true (by omega)
       have c3_:(0<S.length)=True:=eq_true hc
       have c4_:S.length≤9223372036854775807:=by have:=HSZ.out;omega
       obtain⟨gs,cap,hv,_,_,_⟩:=Kd.iQ B.out.r hc
       injection hv with hA hn_ hc_
       subst hA hc_
       clear hn_
       obtain⟨_,ex,fr⟩:=jU B.out.r 0 (by omega) (by omega)
       have ex1:w3.cell? ⟨gs,1,none⟩=some (.int .i64 (ax S 0).f1):=ex
       have fr1:w3.frozen? ⟨gs,1,none⟩=false:=fr 1
       have HS9:=au (B.out.setS QX.out hc (wrap64 ((ax S 0).f1+1)))
       obtain⟨S9,hS9⟩:∃ S9,S.set 0 (⟨(ax S 0).f0,wrap64 ((ax S 0).f1+1)⟩:EL)=S9:=⟨_,rfl⟩
       have HL9:=au (show S9.length=S.length by rw[← hS9,List.length_set])
       rw[hS9] at HS9
       obtain⟨u,hu⟩:∃ u,(ax S 0).f1=u:=⟨_,rfl⟩
       rw[hu] at ex1 HS9
       obtain⟨w9,hw9⟩:∃ W,w3.setCell ⟨gs,1,none⟩ (.int .i64 (wrap64 (u+1)))=W:=⟨_,rfl⟩
       rw[hw9] at HS9
       have B9:=HS9
       clear HS9 ex fr hS9 hu
       have r0:w9.cell? ⟨w.heap.size,0,none⟩=some (.int .i64 0):=(ak B9.out.z 0).trans rfl
       have r1:w9.cell? ⟨w.heap.size,1,none⟩=some (.slice none 0 0):=(ak B9.out.z 1).trans rfl
       have r2:w9.cell? ⟨w.heap.size,2,none⟩=some (.slice none 0 0):=(ak B9.out.z 2).trans rfl
       have s0:=av B9.out.z 0
       have s1:=av B9.out.z 1
       have s2:=av B9.out.z 2
       have m0:w9.cell? ⟨gv,0,none⟩=some (.int .i64 b):=(ak B9.out.v 0).trans rfl
       have m1:w9.cell? ⟨gv,1,none⟩=some (.slice A1 P.length c1):=(ak B9.out.v 1).trans rfl
       have m2:w9.cell? ⟨gv,2,none⟩=some (.slice (some ⟨gs,0,none⟩) S9.length c2):=(ak B9.out.v 2).trans rfl
       try go_wp2
       refine bodyPost_ret (results_cell_row rfl _ _ w.heap.size 24 _ (0,0) _ rfl (eY B9.out.z _ _ _) Try.underlying24 rfl (by kernel_rfl)) rfl ?_
       obtain⟨t1_,t2_,t3_,t4_,t5_⟩:=B9.out.ret QX.out
       refine⟨_,_,_,_,_,_,_,rfl,t1_,t2_,?_,?_,t3_,t4_,t5_⟩
       ·have:=HP.out;omega
       ·have:=HSZ.out;have:=HL9.out;exact⟨by omega,by omega,by omega,by omega⟩
      ·have c1_:(0 < (S.length:Int))=False:=eq_false (by omega)
       have c2_:((S.length:Int) > 0)=False:=eq_false (by omega)
       have c3_:(0<S.length)=False:=eq_false hc
       have r0:w3.cell? ⟨w.heap.size,0,none⟩=some (.int .i64 0):=(ak B.out.z 0).trans rfl
       have r1:w3.cell? ⟨w.heap.size,1,none⟩=some (.slice none 0 0):=(ak B.out.z 1).trans rfl
       have r2:w3.cell? ⟨w.heap.size,2,none⟩=some (.slice none 0 0):=(ak B.out.z 2).trans rfl
       have s0:=av B.out.z 0
       have s1:=av B.out.z 1
       have s2:=av B.out.z 2
       have m0:w3.cell? ⟨gv,0,none⟩=some (.int .i64 b):=(ak B.out.v 0).trans rfl
       have m1:w3.cell? ⟨gv,1,none⟩=some (.slice A1 P.length c1):=(ak B.out.v 1).trans rfl
       have m2:w3.cell? ⟨gv,2,none⟩=some (.slice A2 S.length c2):=(ak B.out.v 2).trans rfl
       try go_wp2
       refine bodyPost_ret (results_cell_row rfl _ _ w.heap.size 24 _ (0,0) _ rfl (eY B.out.z _ _ _) Try.underlying24 rfl (by kernel_rfl)) rfl ?_
       obtain⟨t1_,t2_,t3_,t4_,t5_⟩:=B.out.ret QX.out
       refine⟨_,_,_,_,_,_,_,rfl,t1_,t2_,?_,?_,t3_,t4_,t5_⟩
       ·have:=HP.out;omega
       ·have:=HSZ.out;exact⟨by omega,by omega,by omega,by omega⟩
     ·have q2_:(a == 1)=false:=beq_eq_false_iff_ne.2 ha1
      have q3_:(a=1)=False:=eq_false ha1
      by_cases ha2:a=2
      ·subst ha2
       obtain⟨i,p3,q3,e3,hi0,hi1,hp4,hp5⟩:=dW HBY.out p2 q2 9 HP.out.1 (by have:=HP.out;omega) (by omega)
       have E3:=au e3
       have HP3:=au (show 0≤p3∧p3≤500000 by have:=HP.out;omega)
       clear e3 hi0 hi1 hp4 hp5
       go_wp2
       refine dZ (n:=9) (S:=fun w'=>w'.cell? ⟨gv,1,none⟩=some (.slice A1 P.length c1)∧w'.cell? ⟨gv,1,none⟩=some (.slice A1 P.length c1)) (ds:=[8]) #[false,false,false,false,false,false,false,false,false] (by kernel_rfl) rfl rfl ⟨(ak B.out.v 1).trans rfl,(ak B.out.v 1).trans rfl⟩ (fun hHeld=>?_)
       replace B:=au B.out.drew
       generalize w3.drew=w5 at B hHeld ⊢
       refine bN (i:=0) (N:=some 95) (v:=?_) (a':=?_) #[true,false,false,false,false,false,false,false,false] rfl rfl (by kernel_rfl) (fun _ _ _ h=>h) (Or.inl ⟨by rfl,?_⟩) hHeld ?_ ?_
       rotate_left
       ·rintro w' ⟨s0,s1⟩
        go_simp
        with_reducible rfl
       rotate_left
       ·simp only[apu_]
        rfl
       refine bN (i:=1) (N:=some 96) (v:=?_) (a':=?_) #[true,true,false,false,false,false,false,false,false] rfl rfl (by kernel_rfl) (fun _ _ _ h=>h) (Or.inl ⟨by rfl,?_⟩) hHeld ?_ ?_
       rotate_left
       ·rintro w' ⟨s0,s1⟩
        go_simp
        with_reducible rfl
       rotate_left
       ·simp only[apu_]
        rfl
       refine bN (i:=2) (N:=some 97) (v:=?_) (a':=?_) #[true,true,true,false,false,false,false,false,false] rfl rfl (by kernel_rfl) (fun _ _ _ h=>h) (Or.inl ⟨by rfl,?_⟩) hHeld ?_ ?_
       rotate_left
       ·rintro w' ⟨s0,s1⟩
        go_simp
        with_reducible rfl
       rotate_left
       ·simp only[apu_]
        rfl
       refine dN (i:=3) (N:=some 98) #[true,true,true,true,false,false,false,false,false] rfl rfl (by kernel_rfl) (by decide) (fun K hK=>?_)
       refine dh Try.func46 (by kernel_rfl) rfl #[.pointer (some ⟨g,0,none⟩),.int .i64 9] (by rfl) rfl rfl (by(try simp only[amp_]);first|done|rfl|(simp only[ald_];rfl)) ?_
       refine(spec_l1Cur_pick.calls g l0 p2 q2 9 i p3 q3 w0 w5 B.out.i B.out.b E3.out).mono ?_
       rintro e w6 ⟨rfl,hI,hB,hK5⟩
       refine⟨_,rfl,?_⟩
       replace B:=au (B.out.cur QX.out hI hB hK5)
       clear hI hB hK5
       refine hK.out _ _ ⟨(ak B.out.v 1).trans rfl,(ak B.out.v 1).trans rfl⟩ (fun hHeld=>?_)
       clear hK K
       refine bQ (a':=?_) ?_ ?_
       rotate_left
       ·show Act.put _ (some 98) _=_
        simp only[apu_]
        rfl
       refine aQ (i:=4) (N:=some 99) (v:=?_) (a':=?_) #[true,true,true,true,true,false,false,false,false] rfl rfl (by kernel_rfl) (fun _ _ _ h=>h) (Or.inl ⟨by rfl,?_⟩) ?_ ?_
       rotate_left
       ·intro w'
        go_simp
        with_reducible rfl
       rotate_left
       ·simp only[apu_]
        rfl
       refine dN (i:=5) (N:=some 100) #[true,true,true,true,true,true,false,false,false] rfl rfl (by kernel_rfl) (by decide) (fun K hK=>?_)
       refine fD (by rfl) (v:=.slice (some ⟨w6.heap.size,0,none⟩) 1 1) (w1:=w6.alloc (.cells #[.int .i64 i,.int .i64 1] 35)) (by first|(go_simp;done)|(go_simp;rfl)) ?_
       have BA:=au (B.out.below (ah (Below.refl w6.heap.size w6) (.cells #[.int .i64 i,.int .i64 1] 35)))
       refine hK.out _ _ ⟨(ak BA.out.v 1).trans rfl,(ak BA.out.v 1).trans rfl⟩ (fun hHeld=>?_)
       clear hK K
       refine bQ (a':=?_) ?_ ?_
       rotate_left
       ·show Act.put _ (some 100) _=_
        simp only[apu_]
        rfl
       refine dN (i:=6) (N:=some 101) #[true,true,true,true,true,true,true,false,false] rfl rfl (by kernel_rfl) (by decide) (fun K hK=>?_)
       refine Kd.ll k35 (w0:=w6) (W:=w6) w.heap.size (by rfl) (.tmp 96) (.tmp 100) 22 35 (.agg #[.int .i64 0,.int .i64 0]) 16 rfl Try.underlying22 bV rfl (by decide) (by omega) (.slice A1 P.length c1) P (⟨i,1⟩:EL) [.int .i64 i,.int .i64 1] (fun k=>some k≠(Value.slice A2 S.length c2).ownBlock) (fun _=>False) rfl rfl (mO.2 rfl) (fun _ h_=>h_.elim) (Kd.p8 B.out.r) B.out.s (Below.refl _ _) (dJ B.out.k) (by have:=HSZ.out.2.1;omega) ?_
       intro v9 w9 ho hb9 hg9 hat9
       clear hat9
       obtain⟨P9,hP9⟩:∃ P9,P++[(⟨i,1⟩:EL)]=P9:=⟨_,rfl⟩
       have hl9:P9.length=P.length+1:=by rw[← hP9,List.length_append];rfl
       rw[hP9] at ho
       clear hP9
       obtain⟨A9,c9,rfl⟩:=Kd.bq ho
       have D9:=au ho
       have C9:=au hb9
       have G9:=au hg9
       have V9:=au (bf B.out.v hg9 (Kd.gN B.out.s B.out.v (by decide)))
       have HL9:=au hl9
       clear ho hb9 hg9 hl9 BA
       refine hK.out _ _ ⟨(ak V9.out 1).trans rfl,(ak V9.out 1).trans rfl⟩ (fun hHeld=>?_)
       clear hK K
       refine bQ (a':=?_) ?_ ?_
       rotate_left
       ·show Act.put _ (some 101) _=_
        simp only[apu_]
        rfl
       refine bN (i:=7) (N:=some 102) (v:=?_) (a':=?_) #[true,true,true,true,true,true,true,true,false] rfl rfl (by kernel_rfl) (fun _ _ _ h=>h) (Or.inl ⟨by rfl,?_⟩) hHeld ?_ ?_
       rotate_left
       ·rintro w' ⟨s0,s1⟩
        go_simp
        with_reducible rfl
       rotate_left
       ·simp only[apu_]
        rfl
       have fr9:=av V9.out 1
       have ce9:w9.cell? ⟨gv,1,none⟩=some (.slice A1 P.length c1):=(ak V9.out 1).trans rfl
       refine mX (i:=8) (N:=none) #[true,true,true,true,true,true,true,true,true] rfl rfl (by kernel_rfl) (by decide) (fun K hK=>?_)
       refine jb (w1:=w9.setCell ⟨gv,1,none⟩ (.slice A9 P9.length c9)) (by rfl) rfl ?_ ?_
       ·first|(go_simp;done)|(go_simp;rfl)
       refine hK.out _ _ ?_
       clear hK K
       refine fo (by kernel_rfl) ?_
       clear hHeld
       clear fr9 ce9 V9
       have B9:=au (B.out.app QX.out D9.out C9.out G9.out)
       generalize w9.setCell ⟨gv,1,none⟩ (.slice A9 P9.length c9)=w10 at B9 ⊢
       clear B D9 C9 G9
       have r0:w10.cell? ⟨w.heap.size,0,none⟩=some (.int .i64 0):=(ak B9.out.z 0).trans rfl
       have r1:w10.cell? ⟨w.heap.size,1,none⟩=some (.slice none 0 0):=(ak B9.out.z 1).trans rfl
       have r2:w10.cell? ⟨w.heap.size,2,none⟩=some (.slice none 0 0):=(ak B9.out.z 2).trans rfl
       have s0:=av B9.out.z 0
       have s1:=av B9.out.z 1
       have s2:=av B9.out.z 2
       have m0:w10.cell? ⟨gv,0,none⟩=some (.int .i64 b):=(ak B9.out.v 0).trans rfl
       have m1:w10.cell? ⟨gv,1,none⟩=some (.slice A9 P9.length c9):=(ak B9.out.v 1).trans rfl
       have m2:w10.cell? ⟨gv,2,none⟩=some (.slice A2 S.length c2):=(ak B9.out.v 2).trans rfl
       try go_wp2
       refine bodyPost_ret (results_cell_row rfl _ _ w.heap.size 24 _ (0,0) _ rfl (eY B9.out.z _ _ _) Try.underlying24 rfl (by kernel_rfl)) rfl ?_
       obtain⟨t1_,t2_,t3_,t4_,t5_⟩:=B9.out.ret QX.out
       refine⟨_,_,_,_,_,_,_,rfl,t1_,t2_,?_,?_,t3_,t4_,t5_⟩
       ·exact HP3.out
       ·have:=HSZ.out;have:=HL9.out;exact⟨by omega,by omega,by omega,by omega⟩
      ·have q4_:(a == 2)=false:=beq_eq_false_iff_ne.2 ha2
       have q5_:(a=2)=False:=eq_false ha2
       have r0:w3.cell? ⟨w.heap.size,0,none⟩=some (.int .i64 0):=(ak B.out.z 0).trans rfl
       have r1:w3.cell? ⟨w.heap.size,1,none⟩=some (.slice none 0 0):=(ak B.out.z 1).trans rfl
       have r2:w3.cell? ⟨w.heap.size,2,none⟩=some (.slice none 0 0):=(ak B.out.z 2).trans rfl
       have s0:=av B.out.z 0
       have s1:=av B.out.z 1
       have s2:=av B.out.z 2
       have m0:w3.cell? ⟨gv,0,none⟩=some (.int .i64 b):=(ak B.out.v 0).trans rfl
       have m1:w3.cell? ⟨gv,1,none⟩=some (.slice A1 P.length c1):=(ak B.out.v 1).trans rfl
       have m2:w3.cell? ⟨gv,2,none⟩=some (.slice A2 S.length c2):=(ak B.out.v 2).trans rfl
       try go_wp2
       refine bodyPost_ret (results_cell_row rfl _ _ w.heap.size 24 _ (0,0) _ rfl (eY B.out.z _ _ _) Try.underlying24 rfl (by kernel_rfl)) rfl ?_
       obtain⟨t1_,t2_,t3_,t4_,t5_⟩:=B.out.ret QX.out
       refine⟨_,_,_,_,_,_,_,rfl,t1_,t2_,?_,?_,t3_,t4_,t5_⟩
       ·have:=HP.out;omega
       ·have:=HSZ.out;exact⟨by omega,by omega,by omega,by omega⟩
theorem pz {l:List Int} (hl:Bytes l) (p q n:Int) (h0:0≤p) (h1:p≤100000000000) (hn:n≤1000000000000):∃ r p' q',spec_l1Cur_below.f l p q n=some (r,p',q')∧0≤r∧p≤p'∧p'≤p+2:=by
 unfold spec_l1Cur_below.f
 by_cases h:n<1
 ·rw[if_pos h]
  exact⟨_,_,_,rfl,by omega,by omega,by omega⟩
 ·rw[if_neg h]
  obtain⟨r,p',q',e,h2,_,h4,h5⟩:=dW hl p q n h0 h1 hn
  exact⟨r,p',q',by rw[e];rfl,h2,h4,h5⟩
theorem aU.alloc_self {w:World} {A0:Option Addr} {c0:Nat} {l0:List Int} (h:Kd.C (Kd.int .u8) w A0 l0.length l0):aU w (w.alloc (.cells #[.slice A0 l0.length c0,.int .i64 0,.int .u64 0] 67)) w.heap.size l0 0 0:=
 ⟨A0,c0,heap_alloc_new w _,Nat.le_refl _,h⟩
structure DB (w0 W:World) (B g gv:Nat) (A1:Option Addr) (c1:Nat) (P:List EL) (A2:Option Addr) (c2:Nat) (S:List EL) (b:Int) (l0:List Int) (p q:Int):Prop where
 s:ES W B (fun k=>some k≠(Value.slice A2 S.length c2).ownBlock) (.slice A1 P.length c1) P
 r:ES W B (fun k=>some k≠(Value.slice A1 P.length c1).ownBlock) (.slice A2 S.length c2) S
 v:W.heap[gv]? = some (.cells #[.int .i64 b,.slice A1 P.length c1,.slice A2 S.length c2] 24 (0,0))
 b:Below w0.heap.size w0 W
 i:aU w0 W g l0 p q
section
variable {w0 W W1:World} {B g gv:Nat} {A1:Option Addr} {c1:Nat} {P:List EL} {A2:Option Addr} {c2:Nat} {S:List EL} {b:Int} {l0:List Int} {p q p' q':Int}
theorem DB.below (h:DB w0 W B g gv A1 c1 P A2 c2 S b l0 p q) (hb:Below W.heap.size W W1):DB w0 W1 B g gv A1 c1 P A2 c2 S b l0 p q:=
 ⟨Kd.bi h.s hb,Kd.bi h.r hb,ay h.v hb,aA h.b hb,h.i.below hb⟩
theorem DB.drew (h:DB w0 W B g gv A1 c1 P A2 c2 S b l0 p q):DB w0 W.drew B g gv A1 c1 P A2 c2 S b l0 p q:=h.below (ai (Below.refl _ _))
theorem DB.cur (h:DB w0 W B g gv A1 c1 P A2 c2 S b l0 p q) (hg:g<B) (hv:g≠gv) (hi:aU w0 W1 g l0 p' q') (hb:Below w0.heap.size w0 W1) (hk:bg W W1 g none):DB w0 W1 B g gv A1 c1 P A2 c2 S b l0 p' q':=
 ⟨Kd.aT (Kd.iq (Kd.dE h.s) hk (fun k h_=>by have:=h_.2.1;omega)) (fun _ h_=>h_.1),Kd.aT (Kd.iq (Kd.dE h.r) hk (fun k h_=>by have:=h_.2.1;omega)) (fun _ h_=>h_.1),hk.blk h.v (fun e_=>hv e_.symm) (by simp),hb,hi⟩
theorem DB.ret {w:World} {gz:Nat} {a b_ c:Value} (h:DB w0 W B g gv A1 c1 P A2 c2 S b l0 p q) (hz:W.heap[gz]? = some (.cells #[a,b_,c] 24 (0,0))) (hg:w.heap.size≤gz) (h1:Below w.heap.size w w0) (hB:w.heap.size≤B) (x y z:Value) :
  ES (((W.setCell ⟨gz,0,none⟩ x).setCell ⟨gz,1,none⟩ y).setCell ⟨gz,2,none⟩ z) w.heap.size (fun k=>some k≠(Value.slice A2 S.length c2).ownBlock) (.slice A1 P.length c1) P∧ES (((W.setCell ⟨gz,0,none⟩ x).setCell ⟨gz,1,none⟩ y).setCell ⟨gz,2,none⟩ z) w.heap.size (fun k=>some k≠(Value.slice A1 P.length c1).ownBlock) (.slice A2 S.length c2) S∧Below w.heap.size w (((W.setCell ⟨gz,0,none⟩ x).setCell ⟨gz,1,none⟩ y).setCell ⟨gz,2,none⟩ z):=
 ⟨ek (Kd.bz h.s hB) hz,ek (Kd.bz h.r hB) hz,ae (ae (ae (d9 h1 h1.size h.b) hg) hg) hg⟩
end
set_option maxHeartbeats 8000000 in
set_option maxRecDepth 100000 in
theorem spec_DrawGoodFree.calls (A0:Option Addr) (c0:Nat) (l0:List Int) (w:World) (hl:Bytes l0) (hr0:Kd.C (Kd.int .u8) w A0 l0.length l0) (hc0:l0.length≤c0) :
  Calls Try.prog 52 #[.slice A0 l0.length c0] w fun e w'=>∃ (v1_ v2_:Value) (b:Int) (P S:List EL),e = .returned (.agg #[.int .i64 b,v1_,v2_])∧ES w' w.heap.size (fun k=>some k≠v2_.ownBlock) v1_ P∧ES w' w.heap.size (fun k=>some k≠v1_.ownBlock) v2_ S∧szF b P S∧Below w.heap.size w w':=by
 have huF:=Try.underlying24
 have HBY:=au hl
 obtain⟨W1,hW1⟩:∃ W,w.alloc (.cells #[.int .i64 0,.slice none 0 0,.slice none 0 0] 24)=W:=⟨_,rfl⟩
 obtain⟨W2,hW2⟩:∃ W,W1.alloc (.cells #[.slice A0 l0.length c0,.int .i64 0,.int .u64 0] 67)=W:=⟨_,rfl⟩
 have hb1:Below w.heap.size w W1:=by rw[← hW1];exact ah (Below.refl _ _) _
 have hb2:Below W1.heap.size W1 W2:=by rw[← hW2];exact ah (Below.refl _ _) _
 have Z1:W1.heap[w.heap.size]? = some (.cells #[.int .i64 0,.slice none 0 0,.slice none 0 0] 24 (0,0)):=by rw[← hW1];exact heap_alloc_new w _
 have I2:aU W1 W2 W1.heap.size l0 0 0:=by rw[← hW2];exact aU.alloc_self (Kd.aN hr0 hb1)
 have HH:=au (show Below w.heap.size w W1∧W1.heap[w.heap.size]? = some (.cells #[.int .i64 0,.slice none 0 0,.slice none 0 0] 24 (0,0))∧W1.heap.size≤W2.heap.size from⟨hb1,Z1,hb2.size⟩)
 have HG:=au (show W1.heap.size<W2.heap.size by obtain⟨_,_,h_,_⟩:=I2;exact aH h_)
 have TT:=au (iM W1.heap.size l0 0 0 W1 W2 hl (by omega) (by omega) I2 hb2)
 clear hl hr0 hb1 hb2 Z1 I2
 go_enter Try.func52,Try.ntmps52
 go_wp2_with (go_at_call 44;refine TT.out.mono ?_;(rintro e w3 ⟨v1,v2,b,P,S,p,q,rfl,hs,hr,hp,hsz,hI,hB,hK⟩);(have T:=au (And.intro hs (And.intro hr (And.intro hsz hB))));(have Z6:=au (ay HH.out.2.1 hB));(obtain⟨A1,c1,rfl⟩:=Kd.bq hs);(obtain⟨A2,c2,rfl⟩:=Kd.bq hr);clear hs hr hp hsz hI hB hK TT;(have x0:w3.cell? ⟨w.heap.size,0,none⟩=some (.int .i64 0):=(ak Z6.out 0).trans rfl);(have x1:w3.cell? ⟨w.heap.size,1,none⟩=some (.slice none 0 0):=(ak Z6.out 1).trans rfl);(have x2:w3.cell? ⟨w.heap.size,2,none⟩=some (.slice none 0 0):=(ak Z6.out 2).trans rfl);(have y0:=av Z6.out 0);(have y1:=av Z6.out 1);(have y2:=av Z6.out 2))
 refine bodyPost_ret (results_cell_row rfl _ _ w.heap.size 24 _ (0,0) _ rfl (eY Z6.out _ _ _) Try.underlying24 rfl (by kernel_rfl)) rfl ?_
 have hle:=Nat.le_trans HH.out.1.size HH.out.2.2
 have hg:=Nat.le_refl w.heap.size
 exact⟨_,_,_,_,_,rfl,ek (Kd.bz T.out.1 hle) Z6.out,ek (Kd.bz T.out.2.1 hle) Z6.out,T.out.2.2.1,ae (ae (ae (d9 HH.out.1 HH.out.1.size T.out.2.2.2) hg) hg) hg⟩
set_option maxHeartbeats 8000000 in
set_option maxRecDepth 100000 in
theorem spec_DrawUsedExtents.calls (A0:Option Addr) (c0:Nat) (l0:List Int) (w:World) (hl:Bytes l0) (hr0:Kd.C (Kd.int .u8) w A0 l0.length l0) (hc0:l0.length≤c0) :
  Calls Try.prog 18 #[.slice A0 l0.length c0] w fun e w'=>∃ (v1_ v2_:Value) (b:Int) (P S:List EL),e = .returned (.agg #[.int .i64 b,v1_,v2_])∧ES w' w.heap.size (fun k=>some k≠v2_.ownBlock) v1_ P∧ES w' w.heap.size (fun k=>some k≠v1_.ownBlock) v2_ S∧szF b P S∧Below w.heap.size w w':=by
 have huF:=Try.underlying24
 obtain⟨W1,hW1⟩:∃ W,w.alloc (.cells #[.int .i64 0,.slice none 0 0,.slice none 0 0] 24)=W:=⟨_,rfl⟩
 have hb1:Below w.heap.size w W1:=by rw[← hW1];exact ah (Below.refl _ _) _
 have Z1:W1.heap[w.heap.size]? = some (.cells #[.int .i64 0,.slice none 0 0,.slice none 0 0] 24 (0,0)):=by rw[← hW1];exact heap_alloc_new w _
 have HH:=au (And.intro hb1 Z1)
 have TT:=au (spec_DrawGoodFree.calls A0 c0 l0 W1 hl (Kd.aN hr0 hb1) hc0)
 clear hl hr0 hb1 Z1
 go_enter Try.func18,Try.ntmps18
 go_wp2_with (go_at_call 52;refine TT.out.mono ?_;(rintro e w3 ⟨v1,v2,b,P,S,rfl,hs,hr,hsz,hB⟩);(have T:=au (And.intro hs (And.intro hr (And.intro hsz hB))));(have Z6:=au (ay HH.out.2 hB));(obtain⟨A1,c1,rfl⟩:=Kd.bq hs);(obtain⟨A2,c2,rfl⟩:=Kd.bq hr);clear hs hr hsz hB TT;(have x0:w3.cell? ⟨w.heap.size,0,none⟩=some (.int .i64 0):=(ak Z6.out 0).trans rfl);(have x1:w3.cell? ⟨w.heap.size,1,none⟩=some (.slice none 0 0):=(ak Z6.out 1).trans rfl);(have x2:w3.cell? ⟨w.heap.size,2,none⟩=some (.slice none 0 0):=(ak Z6.out 2).trans rfl);(have y0:=av Z6.out 0);(have y1:=av Z6.out 1);(have y2:=av Z6.out 2))
 refine bodyPost_ret (results_cell_row rfl _ _ w.heap.size 24 _ (0,0) _ rfl (eY Z6.out _ _ _) Try.underlying24 rfl (by kernel_rfl)) rfl ?_
 have hle:=HH.out.1.size
 have hg:=Nat.le_refl w.heap.size
 exact⟨_,_,_,_,_,rfl,ek (Kd.bz T.out.1 hle) Z6.out,ek (Kd.bz T.out.2.1 hle) Z6.out,T.out.2.2.1,ae (ae (ae (d9 HH.out.1 hle T.out.2.2.2) hg) hg) hg⟩
theorem jZ {P:Program} {fn:Func} {p u:Tmp} {ty ty2:TypeId} (h:fn.results=#[.cell p ty,.cell u ty2]) (tmps:Array Value) (w:World) (g g2:Nat) (t t2:TypeId) (cs cs2:Array Value) (fr fr2:Nat×Nat) (d d2:TypeDesc)
  (hp:tmps.getD p undef = .pointer (some ⟨g,0,none⟩)) (hg:w.heap[g]? = some (.cells cs t fr)) (hp2:tmps.getD u undef = .pointer (some ⟨g2,0,none⟩)) (hg2:w.heap[g2]? = some (.cells cs2 t2 fr2))
  (hu:P.underlying ty=some d) (hd:(match d with | .struct _ | .array _ _=>true|_=>false)=true) (hi:(P.info? ty).map (·.size)=some cs.size)
  (hu2:P.underlying ty2=some d2) (hd2:(match d2 with | .struct _ | .array _ _=>true|_=>false)=true) (hi2:(P.info? ty2).map (·.size)=some cs2.size) :
  (results fn tmps).run P w = .ok (.tuple #[.agg cs,.agg cs2]) w:=by
 have hp':tmps[p]?.getD undef = .pointer (some ⟨g,0,none⟩):=by simpa using hp
 have hp2':tmps[u]?.getD undef = .pointer (some ⟨g2,0,none⟩):=by simpa using hp2
 simp[results,h,hp',hp2',asAddr,run_loadVar_row w g t ty cs fr d hg hu hd hi,run_loadVar_row w g2 t2 ty2 cs2 fr2 d2 hg2 hu2 hd2 hi2]
theorem qR {W:World} {g:Nat} {a b:Value} (h:W.heap[g]? = some (.cells #[a,b] 35 (0,0))) (x y:Value):((W.setCell ⟨g,0,none⟩ x).setCell ⟨g,1,none⟩ y).heap[g]? = some (.cells #[x,y] 35 (0,0)):=
 aK (cs:=#[x,b]) (aK (cs:=#[a,b]) h 0 x rfl) 1 y rfl
structure EB (w0 W:World) (B g gv gx:Nat) (A1:Option Addr) (c1:Nat) (P:List EL) (A2:Option Addr) (c2:Nat) (S:List EL) (b:Int) (l0:List Int) (p q xa xl:Int):Prop where
 s:ES W B (fun k=>some k≠(Value.slice A2 S.length c2).ownBlock∧k<gx) (.slice A1 P.length c1) P
 r:ES W B (fun k=>some k≠(Value.slice A1 P.length c1).ownBlock∧k<gx) (.slice A2 S.length c2) S
 v:W.heap[gv]? = some (.cells #[.int .i64 b,.slice A1 P.length c1,.slice A2 S.length c2] 24 (0,0))
 x:W.heap[gx]? = some (.cells #[.int .i64 xa,.int .i64 xl] 35 (0,0))
 b:Below w0.heap.size w0 W
 i:aU w0 W g l0 p q
structure EC (w0:World) (B g gv gx:Nat):Prop where
 lt:g<B
 ngv:g≠gv
 ngx:g≠gx
 nvx:gv≠gx
 nw:w0.heap.size≤gx
section
variable {w0 W W1:World} {B g gv gx:Nat} {A1:Option Addr} {c1:Nat} {P:List EL} {A2:Option Addr} {c2:Nat} {S:List EL} {b:Int} {l0:List Int} {p q p' q' xa xl:Int}
theorem EB.below (h:EB w0 W B g gv gx A1 c1 P A2 c2 S b l0 p q xa xl) (hb:Below W.heap.size W W1):EB w0 W1 B g gv gx A1 c1 P A2 c2 S b l0 p q xa xl:=
 ⟨Kd.bi h.s hb,Kd.bi h.r hb,ay h.v hb,ay h.x hb,aA h.b hb,h.i.below hb⟩
theorem EB.drew (h:EB w0 W B g gv gx A1 c1 P A2 c2 S b l0 p q xa xl):EB w0 W.drew B g gv gx A1 c1 P A2 c2 S b l0 p q xa xl:=h.below (ai (Below.refl _ _))
theorem EB.cur (h:EB w0 W B g gv gx A1 c1 P A2 c2 S b l0 p q xa xl) (Q:EC w0 B g gv gx) (hi:aU w0 W1 g l0 p' q') (hb:Below w0.heap.size w0 W1) (hk:bg W W1 g none):EB w0 W1 B g gv gx A1 c1 P A2 c2 S b l0 p' q' xa xl:=
 ⟨Kd.aT (Kd.iq (Kd.dE h.s) hk (fun k h_=>by have:=h_.2.1;have:=Q.lt;omega)) (fun _ h_=>h_.1),Kd.aT (Kd.iq (Kd.dE h.r) hk (fun k h_=>by have:=h_.2.1;have:=Q.lt;omega)) (fun _ h_=>h_.1),hk.blk h.v (fun e_=>Q.ngv e_.symm) (by simp),hk.blk h.x (fun e_=>Q.ngx e_.symm) (by simp),hb,hi⟩
theorem EB.set2 (h:EB w0 W B g gv gx A1 c1 P A2 c2 S b l0 p q xa xl) (Q:EC w0 B g gv gx) (ya yl:Int):EB w0 ((W.setCell ⟨gx,0,none⟩ (.int .i64 ya)).setCell ⟨gx,1,none⟩ (.int .i64 yl)) B g gv gx A1 c1 P A2 c2 S b l0 p q ya yl:=
 ⟨Kd.aV (p:=⟨gx,1,none⟩) (Kd.aV (p:=⟨gx,0,none⟩) h.s (fun k hk=>Nat.ne_of_lt hk.2) _) (fun k hk=>Nat.ne_of_lt hk.2) _,Kd.aV (p:=⟨gx,1,none⟩) (Kd.aV (p:=⟨gx,0,none⟩) h.r (fun k hk=>Nat.ne_of_lt hk.2) _) (fun k hk=>Nat.ne_of_lt hk.2) _,
  aG (p:=⟨gx,1,none⟩) (aG (p:=⟨gx,0,none⟩) h.v Q.nvx _) Q.nvx _,qR h.x _ _,ae (ae h.b Q.nw) Q.nw,(h.i.far (p:=⟨gx,0,none⟩) Q.ngx _).far (p:=⟨gx,1,none⟩) Q.ngx _⟩
theorem EB.set1 (h:EB w0 W B g gv gx A1 c1 P A2 c2 S b l0 p q xa xl) (Q:EC w0 B g gv gx) (yl:Int):EB w0 (W.setCell ⟨gx,1,none⟩ (.int .i64 yl)) B g gv gx A1 c1 P A2 c2 S b l0 p q xa yl:=
 ⟨Kd.aV (p:=⟨gx,1,none⟩) h.s (fun k hk=>Nat.ne_of_lt hk.2) _,Kd.aV (p:=⟨gx,1,none⟩) h.r (fun k hk=>Nat.ne_of_lt hk.2) _,aG (p:=⟨gx,1,none⟩) h.v Q.nvx _,aK (cs:=#[.int .i64 xa,.int .i64 xl]) h.x 1 _ rfl,ae h.b Q.nw,h.i.far (p:=⟨gx,1,none⟩) Q.ngx _⟩
theorem EB.ret {w:World} {gz gy:Nat} {a b_ c d e:Value} (h:EB w0 W B g gv gx A1 c1 P A2 c2 S b l0 p q xa xl) (hz:W.heap[gz]? = some (.cells #[a,b_,c] 24 (0,0))) (hy:W.heap[gy]? = some (.cells #[d,e] 35 (0,0))) (hg:w.heap.size≤gz) (hgy:w.heap.size≤gy) (hyB:gy<B) (h1:Below w.heap.size w w0) (hB:w.heap.size≤B) (x y z u v:Value) :
  ES (((((W.setCell ⟨gz,0,none⟩ x).setCell ⟨gz,1,none⟩ y).setCell ⟨gz,2,none⟩ z).setCell ⟨gy,0,none⟩ u).setCell ⟨gy,1,none⟩ v) w.heap.size (fun k=>some k≠(Value.slice A2 S.length c2).ownBlock) (.slice A1 P.length c1) P∧ES (((((W.setCell ⟨gz,0,none⟩ x).setCell ⟨gz,1,none⟩ y).setCell ⟨gz,2,none⟩ z).setCell ⟨gy,0,none⟩ u).setCell ⟨gy,1,none⟩ v) w.heap.size (fun k=>some k≠(Value.slice A1 P.length c1).ownBlock) (.slice A2 S.length c2) S∧Below w.heap.size w (((((W.setCell ⟨gz,0,none⟩ x).setCell ⟨gz,1,none⟩ y).setCell ⟨gz,2,none⟩ z).setCell ⟨gy,0,none⟩ u).setCell ⟨gy,1,none⟩ v):=by
 have hs:=Kd.dE (ek (x:=x) (y:=y) (z:=z) h.s hz)
 have hr:=Kd.dE (ek (x:=x) (y:=y) (z:=z) h.r hz)
 exact⟨Kd.aT (Kd.bz (Kd.aV (p:=⟨gy,1,none⟩) (Kd.aV (p:=⟨gy,0,none⟩) hs (fun k hk e_=>by have:=hk.2.1;have e2:k=gy:=e_;omega) u) (fun k hk e_=>by have:=hk.2.1;have e2:k=gy:=e_;omega) v) hB) (fun _ h_=>h_.1.1),
  Kd.aT (Kd.bz (Kd.aV (p:=⟨gy,1,none⟩) (Kd.aV (p:=⟨gy,0,none⟩) hr (fun k hk e_=>by have:=hk.2.1;have e2:k=gy:=e_;omega) u) (fun k hk e_=>by have:=hk.2.1;have e2:k=gy:=e_;omega) v) hB) (fun _ h_=>h_.1.1),
  ae (ae (ae (ae (ae (d9 h1 h1.size h.b) hg) hg) hg) hgy) hgy⟩
end
theorem iy {B:Int}:∀ {l:List EX},Sep B l→(l.length:Int)≤eG l
 | [],_=>by simp[eG]
 | x::l,h=>by
  have h1:=iy h.tail
  have h2:=h.head
  rw[fT,List.length_cons]
  omega
theorem o5 (b:Int) (P S:List EX) (h:szF b P S):∃ (U:List EX) (o:Bool),Ev (fun k=>spec_UsedExtents.f k b P S) (U,o)∧(o=true→U.length≤500):=by
 have hp:=h.2.2.1
 obtain⟨h1,h2,h3⟩:=lU b P S (by have:=h.1;have:=h.2.1;omega) (by omega)
 refine⟨(eZ b P S).1,(eZ b P S).2,h1,fun h4=>?_⟩
 obtain⟨hg,hs,hu⟩:=h2 h4
 have h5:=iy hs
 obtain⟨hB,_,hP,_⟩:=dx.1 hg
 have h6:=(lZ hB.2 P hP).1
 omega
set_option maxHeartbeats 8000000 in
set_option maxRecDepth 100000 in
theorem spec_DrawGiveRoom.calls (A0:Option Addr) (c0:Nat) (l0:List Int) (w:World) (hl:Bytes l0) (hr0:Kd.C (Kd.int .u8) w A0 l0.length l0) (hc0:l0.length≤c0) :
  Calls Try.prog 12 #[.slice A0 l0.length c0] w fun e w'=>∃ (v1_ v2_:Value) (b:Int) (P S:List EL) (x_ y_:Int),e = .returned (.tuple #[.agg #[.int .i64 b,v1_,v2_],.agg #[.int .i64 x_,.int .i64 y_]])∧ES w' w.heap.size (fun k=>some k≠v2_.ownBlock) v1_ P∧ES w' w.heap.size (fun k=>some k≠v1_.ownBlock) v2_ S∧szF b P S∧Below w.heap.size w w':=by
 have huF:=Try.underlying24
 have huE:=Try.underlying35
 have huES:=Try.underlying22
 have HBY:=au hl
 obtain⟨W1,hW1⟩:∃ W,w.alloc (.cells #[.int .i64 0,.slice none 0 0,.slice none 0 0] 24)=W:=⟨_,rfl⟩
 obtain⟨W9,hW9⟩:∃ W,W1.alloc (.cells #[.int .i64 0,.int .i64 0] 35)=W:=⟨_,rfl⟩
 obtain⟨W2,hW2⟩:∃ W,W9.alloc (.cells #[.slice A0 l0.length c0,.int .i64 0,.int .u64 0] 67)=W:=⟨_,rfl⟩
 have hb1:Below w.heap.size w W1:=by rw[← hW1];exact ah (Below.refl _ _) _
 have hb9:Below W1.heap.size W1 W9:=by rw[← hW9];exact ah (Below.refl _ _) _
 have hb2:Below W9.heap.size W9 W2:=by rw[← hW2];exact ah (Below.refl _ _) _
 have Z1:W9.heap[w.heap.size]? = some (.cells #[.int .i64 0,.slice none 0 0,.slice none 0 0] 24 (0,0)):=ay (by rw[← hW1];exact heap_alloc_new w _) hb9
 have Z2:W9.heap[W1.heap.size]? = some (.cells #[.int .i64 0,.int .i64 0] 35 (0,0)):=by rw[← hW9];exact heap_alloc_new W1 _
 have I2:aU W9 W2 W9.heap.size l0 0 0:=by rw[← hW2];exact aU.alloc_self (Kd.aN hr0 (aA hb1 hb9))
 have HH:=au (show Below w.heap.size w W9∧W9.heap[w.heap.size]? = some (.cells #[.int .i64 0,.slice none 0 0,.slice none 0 0] 24 (0,0))∧W9.heap[W1.heap.size]? = some (.cells #[.int .i64 0,.int .i64 0] 35 (0,0))∧W9.heap.size≤W2.heap.size∧w.heap.size≤W1.heap.size∧W1.heap.size<W9.heap.size from⟨aA hb1 hb9,Z1,Z2,hb2.size,hb1.size,aH Z2⟩)
 have HW1:=au (show w.heap.size<W1.heap.size by rw[← hW1];exact aH (heap_alloc_new w _))
 have HG:=au (show W9.heap.size<W2.heap.size by obtain⟨_,_,h_,_⟩:=I2;exact aH h_)
 have TT:=au (iM W9.heap.size l0 0 0 W9 W2 hl (by omega) (by omega) I2 hb2)
 clear hl hr0 hb1 hb2 hb9 Z1 Z2 I2
 go_enter Try.func12,Try.ntmps12
 go_wp2_with (go_at_call 44;refine TT.out.mono ?_;(rintro e w3 ⟨v1,v2,b,P,S,p,q,rfl,hs,hr,hp,hsz,hI,hB,hK⟩);have HSZ:=au hsz;have HP:=au hp;(obtain⟨A1,c1,rfl⟩:=Kd.bq hs);(obtain⟨A2,c2,rfl⟩:=Kd.bq hr);(obtain⟨W4,w4,hW4,hw4,y0,y1,y2,z0,z1,z2,V5,BL⟩:=fA w3 (.int .i64 b) (.slice A1 P.length c1) (.slice A2 S.length c2));(have B:=au (show DB W9 w4 W2.heap.size W9.heap.size w3.heap.size A1 c1 P A2 c2 S b l0 p q from⟨Kd.bi hs BL.out,Kd.bi hr BL.out,V5.out,aA hB BL.out,hI.below BL.out⟩));(have HV:=au (show W9.heap.size≠w3.heap.size by have:=HG.out;have:=dJ hK;omega));(have HVB:=au (show W9.heap.size<w3.heap.size by have:=HG.out;have:=dJ hK;omega));(have HZ:=au (show w.heap.size<W1.heap.size from HW1.out));(have m0:w4.cell? ⟨w3.heap.size,0,none⟩=some (.int .i64 b):=(ak B.out.v 0).trans rfl);clear hsz hp hs hr hI hB hK TT V5 BL)
 clear hW1 hW2 hW9 hW4 hw4 y0 y1 y2 z0 z1 z2
 generalize w3.heap.size=gv at B HV HVB m0 ⊢
 obtain⟨x1,p1,q1,e_,ha0,h_⟩:=pz HBY.out p q b HP.out.1 (by have:=HP.out;omega) (by have:=HSZ.out.1;have:=HSZ.out.2.1;omega)
 have TT:=au (spec_l1Cur_below.calls W9.heap.size l0 p q b x1 p1 q1 W9 w4 B.out.i B.out.b e_)
 have HP1:=au (show 0≤p1∧p1≤500010 by have:=HP.out;omega)
 clear e_ ha0 h_
 go_wp2_with (go_at_call 45;refine TT.out.mono ?_)
 rintro e w5 ⟨rfl,hI,hB,hK⟩
 replace B:=au (B.out.cur HG.out HV.out hI hB hK)
 clear hI hB hK TT m0
 obtain⟨x2,p2,q2,e_,ha0,h_⟩:=dW HBY.out p1 q1 3 HP1.out.1 (by have:=HP1.out;omega) (by omega)
 have TT:=au (spec_l1Cur_pick.calls W9.heap.size l0 p1 q1 3 x2 p2 q2 W9 w5 B.out.i B.out.b e_)
 have HP2:=au (show 0≤p2∧p2≤500020 by have:=HP1.out;omega)
 clear e_ ha0 h_
 obtain⟨y2,hy2⟩:∃ z,wrap64 (1+x2)=z:=⟨_,rfl⟩
 go_upto_region 4 with(go_at_call 46;refine TT.out.mono ?_;(rintro e w6 ⟨rfl,hI,hB,hK⟩);(replace B:=au (B.out.cur HG.out HV.out hI hB hK));(obtain⟨V1,w7,hV1,hw7,u0,u1,u2,u3,X,BL⟩:=jq w6 (.int .i64 x1) (.int .i64 y2));(have E:=au (show EB W9 w7 W2.heap.size W9.heap.size gv w6.heap.size A1 c1 P A2 c2 S b l0 p2 q2 x1 y2 from⟨Kd.aT (Kd.bi (Kd.dE B.out.s) BL.out) (fun k h_=>⟨h_.1,h_.2.2.1⟩),Kd.aT (Kd.bi (Kd.dE B.out.r) BL.out) (fun k h_=>⟨h_.1,h_.2.2.1⟩),ay B.out.v BL.out,X.out,aA B.out.b BL.out,B.out.i.below BL.out⟩));(have Q:=au (show EC W9 W2.heap.size W9.heap.size gv w6.heap.size from⟨HG.out,HV.out,Nat.ne_of_lt B.out.i.lt,Nat.ne_of_lt (aH B.out.v),B.out.b.size⟩));clear hI hB hK TT X BL)
 have HL:=au (show w.heap.size≠gv∧w.heap.size≠w6.heap.size∧gv≠W1.heap.size∧w6.heap.size≠W1.heap.size∧w.heap.size≠W1.heap.size by
  have h1:=HH.out.2.2.2.2.2
  have h2:=B.out.b.size
  have h3:=HVB.out
  have h4:=HZ.out
  exact⟨by omega,by omega,by omega,by omega,by omega⟩)
 clear HP HP1
 (try simp only[apu_])
 clear hV1 hw7 u0 u1 u2 u3 B
 generalize w6.heap.size=gx at E Q HL ⊢
 obtain⟨U,oU,⟨kU,hU⟩,hUL⟩:=o5 b P S HSZ.out
 have HU:=au (hU kU (Nat.le_refl _))
 have HUL:=au hUL
 have d0:w7.cell? ⟨gv,0,none⟩=some (.int .i64 b):=(ak E.out.v 0).trans rfl
 have d1:w7.cell? ⟨gv,1,none⟩=some (.slice A1 P.length c1):=(ak E.out.v 1).trans rfl
 have d2:w7.cell? ⟨gv,2,none⟩=some (.slice A2 S.length c2):=(ak E.out.v 2).trans rfl
 have TT:=au (spec_UsedExtents.calls kU b A1 c1 P A2 c2 S U oU w7 (Kd.R_reads' E.out.s).2.2 (Kd.R_reads' E.out.s).2.1 (Kd.R_reads' E.out.r).2.2 (Kd.R_reads' E.out.r).2.1 HU.out)
 clear hU hUL
 go_upto_region 5 with(go_at_call 20;refine TT.out.mono ?_;(rintro e w8 ⟨vU,rfl,hs,hb⟩);(have HD:=au (show gx<w7.heap.size∧W9.heap.size<w7.heap.size from⟨aH E.out.x,by have:=E.out.i.lt;have:=aH E.out.x;have:=Q.out.nw;have:=E.out.b.size;have:=Q.out.ngx;omega⟩));(replace E:=au (E.out.below hb));(obtain⟨AU,cU,rfl⟩:=Kd.bq hs);(have GU:=au hs);clear hs hb)
 (try simp only[apu_])
 clear d0 d1 d2 TT HU
 generalize w7.heap.size=gd at GU HD
 go_cut [37] (fun v37 wc=>∃ (ob:Bool) (p q:Int),v37 = .bool ob∧Aside0 (0≤p∧p≤500030)∧Aside0 (ob=true→0<U.length∧U.length≤500)∧Aside0 (EB W9 wc W2.heap.size W9.heap.size gv gx A1 c1 P A2 c2 S b l0 p q x1 y2)∧Aside0 (ES wc gd (fun _=>True) (.slice AU U.length cU) U))
 case first=>
  cases oU with
  | false=>
   go_wp2
   go_meet
   case rel=>exact⟨false,p2,q2,by first|rfl|simp,⟨by have:=HP2.out;omega⟩,⟨fun h_=>by cases h_⟩,E,GU⟩
  | true=>
   have hul:=HUL.out rfl
   by_cases hf:0<U.length
   ·have c1_:decide (0 < (U.length:Int))=true:=decide_eq_true (by omega)
    have c2_:decide (0<U.length)=true:=decide_eq_true hf
    obtain⟨ob,p3,q3,e2,hp2,hp3⟩:=jg HBY.out p2 q2 4 HP2.out.1 (by have:=HP2.out;omega) (by omega)
    have TT:=au (spec_l1Cur_one.calls W9.heap.size l0 p2 q2 4 ob p3 q3 W9 w8 E.out.i E.out.b e2)
    have HP3:=au (show 0≤p3∧p3≤500030 by have:=HP2.out;omega)
    have HF:=au (And.intro hf hul)
    clear e2 hp2 hp3 hf hul HUL
    go_wp2_with (go_at_call 47;refine TT.out.mono ?_)
    rintro e w9 ⟨rfl,hI,hB,hK⟩
    replace E:=au (E.out.cur Q.out hI hB hK)
    replace GU:=au (Kd.aT (Kd.iq (Kd.dE GU.out) hK (fun k h_=>by have:=h_.2.1;have:=HD.out;omega)) (fun _ h_=>h_.1))
    clear hI hB hK TT
    go_wp2
    go_meet
    case rel=>exact⟨!ob,p3,q3,by first|rfl|simp,HP3,⟨fun _=>HF.out⟩,E,GU⟩
   ·have c1_:decide (0 < (U.length:Int))=false:=decide_eq_false (by omega)
    have c2_:decide (0<U.length)=false:=decide_eq_false hf
    clear hf hul
    go_wp2
    go_meet
    case rel=>exact⟨false,p2,q2,by first|rfl|simp,⟨by have:=HP2.out;omega⟩,⟨fun h_=>by cases h_⟩,E,GU⟩
 case rest =>
  clear E HP2 GU HUL
  obtain⟨ob,p,q,rfl,HP,HF,E,GU⟩:=hcut
  go_upto_if 37 with(fail)
  (try simp only[apu_])
  go_cut [] (fun wx=>∃ xa xl p q:Int,Aside0 (EB W9 wx W2.heap.size W9.heap.size gv gx A1 c1 P A2 c2 S b l0 p q xa xl))
  case first=>
   cases ob with
   | false=>
    go_wp2
    go_meet
    case rel=>exact⟨_,_,_,_,E⟩
   | true=>
    obtain⟨hpos,hul⟩:=HF.out rfl
    obtain⟨gp,cap,hv,_,_,_⟩:=Kd.iQ GU.out hpos
    injection hv with hA hn_ hc_
    subst hA hc_
    clear hn_
    obtain⟨i,p3,q3,e3,hi0,hi1,hp4,hp5⟩:=dW HBY.out p q (U.length:Int) HP.out.1 (by have:=HP.out;omega) (by omega)
    have hlt:i < (U.length:Int):=by omega
    have HP3:=au (show 0≤p3∧p3≤500040 by have:=HP.out;omega)
    have HI:=au (show 0≤i∧i < (U.length:Int) from⟨hi0,hlt⟩)
    have TT:=au (spec_l1Cur_pick.calls W9.heap.size l0 p q (U.length:Int) i p3 q3 W9 wc E.out.i E.out.b e3)
    have u1:(0≤i)=True:=eq_true hi0
    have u2:(i < (U.length:Int))=True:=eq_true hlt
    have u3:U.length≤9223372036854775807:=by omega
    clear e3 hi0 hi1 hp4 hp5 hlt hpos hul
    obtain⟨xa,hxa⟩:∃ x,(ax U i).f0=x:=⟨_,rfl⟩
    obtain⟨xl,hxl⟩:∃ x,(ax U i).f1=x:=⟨_,rfl⟩
    have HX:=au (And.intro hxa hxl)
    clear hxa hxl
    go_upto_region 7 with(go_at_call 46;refine TT.out.mono ?_;(rintro e w6 ⟨rfl,hI,hB,hK⟩);(replace E:=au (E.out.cur Q.out hI hB hK));(replace GU:=au (Kd.aT (Kd.iq (Kd.dE GU.out) hK (fun k h_=>by have:=h_.2.1;have:=HD.out;omega)) (fun _ h_=>h_.1)));(obtain⟨m0,m1,_⟩:=jU GU.out i HI.out.1 HI.out.2);(rw[HX.out.1] at m0);(rw[HX.out.2] at m1);(have k0:w6.cell? ⟨gx,0,none⟩=some (.int .i64 x1):=(ak E.out.x 0).trans rfl);(have k1:w6.cell? ⟨gx,1,none⟩=some (.int .i64 y2):=(ak E.out.x 1).trans rfl);(have f0:=av E.out.x 0);(have f1:=av E.out.x 1);clear hI hB hK)
    (try simp only[apu_])
    have E9:=au (E.out.set2 Q.out xa xl)
    clear m0 m1 k0 k1 f0 f1 E GU HX TT
    generalize (w6.setCell ⟨gx,0,none⟩ (.int .i64 xa)).setCell ⟨gx,1,none⟩ (.int .i64 xl)=w7 at E9 ⊢
    clear u1 u2 u3
    have k0:w7.cell? ⟨gx,0,none⟩=some (.int .i64 xa):=(ak E9.out.x 0).trans rfl
    have k1:w7.cell? ⟨gx,1,none⟩=some (.int .i64 xl):=(ak E9.out.x 1).trans rfl
    by_cases hx1:1<xl
    ·have v1:(1<xl)=True:=eq_true hx1
     have v2:decide (1<xl)=true:=decide_eq_true hx1
     obtain⟨ob,p4,q4,e2,hp2,hp3⟩:=jg HBY.out p3 q3 2 HP3.out.1 (by have:=HP3.out;omega) (by omega)
     have TT:=au (spec_l1Cur_one.calls W9.heap.size l0 p3 q3 2 ob p4 q4 W9 w7 E9.out.i E9.out.b e2)
     clear e2 hp2 hp3 hx1
     go_wp2_with (go_at_call 47;refine TT.out.mono ?_)
     rintro e w8 ⟨rfl,hI,hB,hK⟩
     replace E9:=au (E9.out.cur Q.out hI hB hK)
     clear hI hB hK TT k0 k1
     cases ob with
     | false=>
      go_wp2
      go_meet
      case rel=>exact⟨_,_,_,_,E9⟩
     | true=>
      have k1:w8.cell? ⟨gx,1,none⟩=some (.int .i64 xl):=(ak E9.out.x 1).trans rfl
      have f1:=av E9.out.x 1
      obtain⟨yl,hyl⟩:∃ z,wrap64 (xl - 1)=z:=⟨_,rfl⟩
      have E11:=au (E9.out.set1 Q.out yl)
      go_wp2
      go_meet
      case rel=>exact⟨_,_,_,_,E11⟩
    ·have v1:(1<xl)=False:=eq_false hx1
     have v2:decide (1<xl)=false:=decide_eq_false hx1
     clear hx1
     go_wp2
     go_meet
     case rel=>exact⟨_,_,_,_,E9⟩
  case rest=>
   clear E HP HF GU HD
   obtain⟨xa,xl,p,q,E⟩:=hcut
   have HN:=au (show w.heap.size≠gv∧w.heap.size≠gx from⟨HL.out.1,HL.out.2.1⟩)
   have HM:=au (show gv≠W1.heap.size∧gx≠W1.heap.size from⟨HL.out.2.2.1,HL.out.2.2.2.1⟩)
   have HN3:=au (show w.heap.size≠W1.heap.size from HL.out.2.2.2.2)
   go_wp2
   refine dZ (n:=4) (S:=fun w'=>w'.cell? ⟨gv,0,none⟩=some (.int .i64 b)∧w'.cell? ⟨gv,1,none⟩=some (.slice A1 P.length c1)∧w'.cell? ⟨gv,2,none⟩=some (.slice A2 S.length c2)∧w'.cell? ⟨gx,0,none⟩=some (.int .i64 xa)∧w'.cell? ⟨gx,1,none⟩=some (.int .i64 xl)) (ds:=[]) #[false,false,false,false] (by kernel_rfl) rfl rfl ⟨(ak E.out.v 0).trans rfl,(ak E.out.v 1).trans rfl,(ak E.out.v 2).trans rfl,(ak E.out.x 0).trans rfl,(ak E.out.x 1).trans rfl⟩ (fun hHeld=>?_)
   replace E:=au E.out.drew
   generalize wc.drew=w5 at E hHeld ⊢
   refine bN (i:=0) (N:=some 56) (v:=?_) (a':=?_) #[true,false,false,false] rfl rfl (by kernel_rfl) (fun _ _ _ h=>h) (Or.inl ⟨by rfl,?_⟩) hHeld ?_ ?_
   rotate_left
   ·rintro w' ⟨s0,s1,s2,s3,s4⟩
    go_simp
    with_reducible rfl
   rotate_left
   ·simp only[apu_]
    rfl
   refine bN (i:=1) (N:=some 57) (v:=?_) (a':=?_) #[true,true,false,false] rfl rfl (by kernel_rfl) (fun _ _ _ h=>h) (Or.inl ⟨by rfl,?_⟩) hHeld ?_ ?_
   rotate_left
   ·rintro w' ⟨s0,s1,s2,s3,s4⟩
    go_simp
    with_reducible rfl
   rotate_left
   ·simp only[apu_]
    rfl
   have Z6:=au (ay HH.out.2.1 E.out.b)
   have Y6:=au (ay HH.out.2.2.1 E.out.b)
   have x0:w5.cell? ⟨w.heap.size,0,none⟩=some (.int .i64 0):=(ak Z6.out 0).trans rfl
   have x1_:w5.cell? ⟨w.heap.size,1,none⟩=some (.slice none 0 0):=(ak Z6.out 1).trans rfl
   have x2_:w5.cell? ⟨w.heap.size,2,none⟩=some (.slice none 0 0):=(ak Z6.out 2).trans rfl
   have y0:=av Z6.out 0
   have y1:=av Z6.out 1
   have y2_:=av Z6.out 2
   refine dN (i:=2) (N:=none) #[true,true,true,false] rfl rfl (by kernel_rfl) (by decide) (fun K hK=>?_)
   refine jb (w1:=(((w5.setCell ⟨w.heap.size,0,none⟩ (.int .i64 b)).setCell ⟨w.heap.size,1,none⟩ (.slice A1 P.length c1)).setCell ⟨w.heap.size,2,none⟩ (.slice A2 S.length c2))) (by rfl) rfl ?_ ?_
   ·first|(go_simp;done)|(go_simp;rfl)
   obtain⟨t1_,t2_,t3_⟩:=E.out.ret Z6.out Y6.out (Nat.le_refl _) HH.out.2.2.2.2.1 (by have:=HH.out;omega) HH.out.1 (by have:=HH.out.1.size;have:=HH.out;omega) (.int .i64 b) (.slice A1 P.length c1) (.slice A2 S.length c2) (.int .i64 xa) (.int .i64 xl)
   have T6:=au (And.intro t1_ (And.intro t2_ t3_))
   have hn:w.heap.size≠gv:=HN.out.1
   have hn2:w.heap.size≠gx:=HN.out.2
   have hn3:w.heap.size≠W1.heap.size:=HN3.out
   have V6:=au (eY Z6.out (.int .i64 b) (.slice A1 P.length c1) (.slice A2 S.length c2))
   have G6:=au (aG (p:=⟨w.heap.size,2,none⟩) (aG (p:=⟨w.heap.size,1,none⟩) (aG (p:=⟨w.heap.size,0,none⟩) E.out.v (Ne.symm hn) (.int .i64 b)) (Ne.symm hn) (.slice A1 P.length c1)) (Ne.symm hn) (.slice A2 S.length c2))
   have X6:=au (aG (p:=⟨w.heap.size,2,none⟩) (aG (p:=⟨w.heap.size,1,none⟩) (aG (p:=⟨w.heap.size,0,none⟩) E.out.x (Ne.symm hn2) (.int .i64 b)) (Ne.symm hn2) (.slice A1 P.length c1)) (Ne.symm hn2) (.slice A2 S.length c2))
   have Y7:=au (aG (p:=⟨w.heap.size,2,none⟩) (aG (p:=⟨w.heap.size,1,none⟩) (aG (p:=⟨w.heap.size,0,none⟩) Y6.out (Ne.symm hn3) (.int .i64 b)) (Ne.symm hn3) (.slice A1 P.length c1)) (Ne.symm hn3) (.slice A2 S.length c2))
   clear t1_ t2_ t3_ x0 x1_ x2_ y0 y1 y2_ hn hn2
   refine hK.out _ _ ⟨(ak G6.out 0).trans rfl,(ak G6.out 1).trans rfl,(ak G6.out 2).trans rfl,(ak X6.out 0).trans rfl,(ak X6.out 1).trans rfl⟩ (fun hHeld=>?_)
   clear hK K
   obtain⟨w6,hw6⟩:∃ W,(((w5.setCell ⟨w.heap.size,0,none⟩ (.int .i64 b)).setCell ⟨w.heap.size,1,none⟩ (.slice A1 P.length c1)).setCell ⟨w.heap.size,2,none⟩ (.slice A2 S.length c2))=W:=⟨_,rfl⟩
   rw[hw6] at T6 V6 G6 X6 Y7 hHeld ⊢
   clear hw6
   have x0:w6.cell? ⟨W1.heap.size,0,none⟩=some (.int .i64 0):=(ak Y7.out 0).trans rfl
   have x1_:w6.cell? ⟨W1.heap.size,1,none⟩=some (.int .i64 0):=(ak Y7.out 1).trans rfl
   have y0:=av Y7.out 0
   have y1:=av Y7.out 1
   refine dN (i:=3) (N:=none) #[true,true,true,true] rfl rfl (by kernel_rfl) (by decide) (fun K hK=>?_)
   refine jb (w1:=(w6.setCell ⟨W1.heap.size,0,none⟩ (.int .i64 xa)).setCell ⟨W1.heap.size,1,none⟩ (.int .i64 xl)) (by rfl) rfl ?_ ?_
   ·first|(go_simp;done)|(go_simp;rfl)
   have V8:=au (aG (p:=⟨W1.heap.size,1,none⟩) (aG (p:=⟨W1.heap.size,0,none⟩) V6.out hn3 (.int .i64 xa)) hn3 (.int .i64 xl))
   have Y8:=au (qR Y7.out (.int .i64 xa) (.int .i64 xl))
   have hm:gv≠W1.heap.size:=HM.out.1
   have hm2:gx≠W1.heap.size:=HM.out.2
   have G8:=au (aG (p:=⟨W1.heap.size,1,none⟩) (aG (p:=⟨W1.heap.size,0,none⟩) G6.out hm (.int .i64 xa)) hm (.int .i64 xl))
   have X8:=au (aG (p:=⟨W1.heap.size,1,none⟩) (aG (p:=⟨W1.heap.size,0,none⟩) X6.out hm2 (.int .i64 xa)) hm2 (.int .i64 xl))
   clear x0 x1_ y0 y1 hn3 hm hm2
   refine hK.out _ _ ⟨(ak G8.out 0).trans rfl,(ak G8.out 1).trans rfl,(ak G8.out 2).trans rfl,(ak X8.out 0).trans rfl,(ak X8.out 1).trans rfl⟩ (fun hHeld=>?_)
   clear hK K
   refine fo (by kernel_rfl) ?_
   clear hHeld
   go_wp2
   refine bodyPost_ret (jZ rfl _ _ w.heap.size W1.heap.size 24 35 #[.int .i64 b,.slice A1 P.length c1,.slice A2 S.length c2] #[.int .i64 xa,.int .i64 xl] (0,0) (0,0) _ _ rfl V8.out rfl Y8.out Try.underlying24 rfl (by kernel_rfl) Try.underlying35 rfl (by kernel_rfl)) rfl ?_
   exact⟨_,_,_,_,_,_,_,rfl,T6.out.1,T6.out.2.1,HSZ.out,T6.out.2.2⟩
open Go.RowKit Go.Proofs.YtelblhkbogljnaaW.PrintWords Go.Proofs.YtelblhkbogljnaaW.PrintLast Go.Proofs.YtelblhkbogljnaaW.PrintMore
attribute [local go_sem] bG bH bS bT bB bA bJ bI
set_option linter.unusedVariables false
set_option linter.unusedSimpArgs false
def impl_IsFreeAt.f (k:Nat) (a0_0:Int) (l0_1:List (S35)) (l0_2:List (S35)) (a1:Int):Option (Bool×Bool):=(impl_GoodFree.f a0_0 l0_1 l0_2).bind fun t500=>(if t500=true then ((impl_within.f a1 0 (wrap64 (a0_0 - 1))).bind fun t501=>(if t501=true then ((impl_Free_isFree.f k a0_0 l0_1 l0_2).bind fun t502=>(if 0≤a1 then (if a1 < (t502.length:Int) then (some (dO false t502 a1,true)) else (none)) else (none))) else (some (false,false)))) else (some (false,false)))
attribute [local go_sem] bG bH bS bT bB bA bJ bI
set_option linter.unusedVariables false
set_option linter.unusedSimpArgs false
attribute [local go_sem high] pF
def laws_sameExtents.l0:Nat→List (S35)→List (S35)→Int→Int→Option (Bool)
 | 0,_,_,_,_=>none
 | k+1,x0,x1,x12,x13=>if x13<x12 then (if 0≤x13 then (if x13 < (x0.length:Int) then (if x13 < (x1.length:Int) then (if (!(((ax x0 x13).f0) == ((ax x1 x13).f0)) || (!(((ax x0 x13).f1) == ((ax x1 x13).f1))))=true then (some false) else (laws_sameExtents.l0 k x0 x1 x12 (wrap64 (x13+1)))) else (none)) else (none)) else (none)) else (some true)
def laws_sameExtents.f (k:Nat) (l0:List (S35)) (l1:List (S35)):Option (Bool):=if (l0.length:Int) = (l1.length:Int) then (laws_sameExtents.l0 k l0 l1 (l0.length:Int) 0) else (some false)
set_option maxHeartbeats 8000000 in
set_option maxRecDepth 100000 in
theorem laws_sameExtents.calls (k : Nat) (A0 : Option Addr) (c0 : Nat) (l0 : List (S35)) (A1 : Option Addr) (c1 : Nat) (l1 : List (S35)) (r : Bool) (w : World) (hr0 : Kd.C k35 w A0 l0.length l0) (hc0 : l0.length ≤ c0) (hr1 : Kd.C k35 w A1 l1.length l1) (hc1 : l1.length ≤ c1) (h : laws_sameExtents.f k l0 l1 = some r) :
  Calls Try.prog 21 #[.slice A0 l0.length c0,.slice A1 l1.length c1] w fun e w'=>e = .returned (.bool r)∧Drawn0 w w':=by
 have hu35:=Try.underlying35
 have HR0:=au hr0
 have HC0:=au hc0
 clear hr0 hc0
 have HR1:=au hr1
 have HC1:=au hc1
 clear hr1 hc1
 have H:(if (l0.length:Int) = (l1.length:Int) then (laws_sameExtents.l0 k l0 l1 (l0.length:Int) 0) else (some false))=some r:=h
 clear h
 by_cases c3:(l0.length:Int) = (l1.length:Int)
 ·rw [if_pos c3] at H
  have c3b0:((l0.length:Int) == (l1.length:Int))=true:=beq_iff_eq.mpr c3
  have c3b1:((l0.length:Int) != (l1.length:Int))=false:=bne_eq_false_iff_eq.mpr c3
  have c3b2:(l0.length == l1.length)=true:=by first|simpa using c3|(simp at c3 ⊢;omega)
  clear c3
  have H':=au H
  clear H
  go_enter Try.func21,Try.ntmps21
  go_wp2
  repeat(go_quiet (fail);try go_wp2)
  go_loopg [13] k (fun kq v13 w'=>∃ (x13_1:Int),v13 = .int .i64 x13_1∧Aside0 (laws_sameExtents.l0 kq l0 l1 (l0.length:Int) x13_1=some r)∧Aside0 (kq≤k)∧Drawn0 w w')
  case atStart=>exact⟨(0),(by first|rfl|(simp;done)|(simp[*];done)),H',⟨Nat.le_refl _⟩,by repeat(first|exact Drawn0.refl _|apply Drawn0.step)⟩
  case round =>
   clear H'
   try clear c1
   try clear c2
   try clear p2
   try clear c3
   try clear c3b0
   try clear c3b1
   try clear c3b2
   obtain⟨x13_1,rfl,HA,HK1,⟨m1,rfl⟩⟩:=hrel
   cases gk with
   | zero=>exact absurd HA.out (by simp[laws_sameExtents.l0])
   | succ k1=>
    have H:=HA.out
    clear HA
    simp only[laws_sameExtents.l0] at H
    by_cases c4:x13_1 < (l0.length:Int)
    ·rw [if_pos c4] at H
     have c4b0:decide (x13_1 < (l0.length:Int))=true:=decide_eq_true c4
     clear c4
     by_cases c5:0≤x13_1
     ·rw [if_pos c5] at H
      have c5b0:decide (0≤x13_1)=true:=decide_eq_true c5
      clear c5
      by_cases c6:x13_1 < (l0.length:Int)
      ·rw[if_pos c6] at H
       have c6b0:decide (x13_1 < (l0.length:Int))=true:=decide_eq_true c6
       clear c6
       by_cases c7:x13_1 < (l1.length:Int)
       ·rw[if_pos c7] at H
        have c7b0:decide (x13_1 < (l1.length:Int))=true:=decide_eq_true c7
        clear c7
        by_cases c8:(!(((ax l0 x13_1).f0) == ((ax l1 x13_1).f0)) || (!(((ax l0 x13_1).f1) == ((ax l1 x13_1).f1))))=true
        ·rw[if_pos c8] at H
         have c8b0:(!(((ax l0 x13_1).f0) == ((ax l1 x13_1).f0)) || (!(((ax l0 x13_1).f1) == ((ax l1 x13_1).f1))))=true:=c8
         clear c8
         obtain rfl:=Option.some.inj H
         have p467:0≤(x13_1:Int):=of_decide_eq_true (by assumption)
         have q467:x13_1 < (l0.length:Int):=of_decide_eq_true (by assumption)
         obtain⟨ad467,e467,hx467_0,hx467_1⟩:=bF HR0.out x13_1 p467 q467
         cases e467
         replace p467:=eq_true p467
         replace q467:=eq_true q467
         have p468:0≤(x13_1:Int):=of_decide_eq_true (by assumption)
         have q468:x13_1 < (l1.length:Int):=of_decide_eq_true (by assumption)
         obtain⟨ad468,e468,hx468_0,hx468_1⟩:=bF HR1.out x13_1 p468 q468
         cases e468
         replace p468:=eq_true p468
         replace q468:=eq_true q468
         go_wp2
         repeat(go_quiet (fail);try go_wp2)
         go_ret
         exact⟨by first|rfl|(simp;done)|(simp[*];done),by repeat(first|exact Drawn0.refl _|apply Drawn0.step)⟩
        ·rw[if_neg c8] at H
         have c8b0:(!(((ax l0 x13_1).f0) == ((ax l1 x13_1).f0)) || (!(((ax l0 x13_1).f1) == ((ax l1 x13_1).f1))))=false:=by simpa using c8
         clear c8
         have H':=au H
         clear H
         have p467:0≤(x13_1:Int):=of_decide_eq_true (by assumption)
         have q467:x13_1 < (l0.length:Int):=of_decide_eq_true (by assumption)
         obtain⟨ad467,e467,hx467_0,hx467_1⟩:=bF HR0.out x13_1 p467 q467
         cases e467
         replace p467:=eq_true p467
         replace q467:=eq_true q467
         have p468:0≤(x13_1:Int):=of_decide_eq_true (by assumption)
         have q468:x13_1 < (l1.length:Int):=of_decide_eq_true (by assumption)
         obtain⟨ad468,e468,hx468_0,hx468_1⟩:=bF HR1.out x13_1 p468 q468
         cases e468
         replace p468:=eq_true p468
         replace q468:=eq_true q468
         go_wp2
         repeat(go_quiet (fail);try go_wp2)
         go_roundg k1
         case measure=>have:=HK1.out;omega
         case rel=>exact⟨(wrap64 (x13_1+1)),(by first|rfl|(simp;done)|(simp[*];done)),H',⟨by have:=HK1.out;omega⟩,by repeat(first|exact Drawn0.refl _|apply Drawn0.step)⟩
       ·rw[if_neg c7] at H
        exact absurd H (by simp)
      ·rw[if_neg c6] at H
       exact absurd H (by simp)
     ·rw[if_neg c5] at H
      exact absurd H (by simp)
    ·rw[if_neg c4] at H
     have c4b0:decide (x13_1 < (l0.length:Int))=false:=decide_eq_false c4
     clear c4
     obtain rfl:=Option.some.inj H
     go_wp2
     repeat(go_quiet (fail);try go_wp2)
     go_ret
     exact⟨by first|rfl|(simp;done)|(simp[*];done),by repeat(first|exact Drawn0.refl _|apply Drawn0.step)⟩
 ·rw[if_neg c3] at H
  have c3b0:((l0.length:Int) == (l1.length:Int))=false:=beq_eq_false_iff_ne.mpr c3
  have c3b1:((l0.length:Int) != (l1.length:Int))=true:=bne_iff_ne.mpr c3
  have c3b2:(l0.length == l1.length)=false:=by first|simpa using c3|(simp at c3 ⊢;omega)
  obtain rfl:=Option.some.inj H
  go_enter Try.func21,Try.ntmps21
  go_wp2
  repeat(go_quiet (fail);try go_wp2)
  go_ret
  exact⟨by first|rfl|(simp;done)|(simp[*];done),by repeat(first|exact Drawn0.refl _|apply Drawn0.step)⟩
attribute [local go_sem] bG bH bS bT bB bA bJ bI
set_option linter.unusedVariables false
set_option linter.unusedSimpArgs false
def laws_sameRooms.f (k:Nat) (a0_0:Int) (l0_1:List (S35)) (l0_2:List (S35)) (a1_0:Int) (l1_1:List (S35)) (l1_2:List (S35)):Option (Bool):=if a0_0=a1_0 then ((laws_sameExtents.f k l0_1 l1_1).bind fun t471=>(if t471=true then ((laws_sameExtents.f k l0_2 l1_2).bind fun t472=>(some t472)) else (some false))) else (some false)
set_option maxHeartbeats 8000000 in
set_option maxRecDepth 100000 in
theorem laws_sameRooms.calls (k:Nat) (a0_0:Int) (A0_1:Option Addr) (c0_1:Nat) (l0_1:List (S35)) (A0_2:Option Addr) (c0_2:Nat) (l0_2:List (S35)) (a1_0:Int) (A1_1:Option Addr) (c1_1:Nat) (l1_1:List (S35)) (A1_2:Option Addr) (c1_2:Nat) (l1_2:List (S35)) (r:Bool) (w:World) (hr0_1:Kd.C k35 w A0_1 l0_1.length l0_1) (hc0_1:l0_1.length≤c0_1) (hr0_2:Kd.C k35 w A0_2 l0_2.length l0_2) (hc0_2:l0_2.length≤c0_2) (hr1_1:Kd.C k35 w A1_1 l1_1.length l1_1) (hc1_1:l1_1.length≤c1_1) (hr1_2:Kd.C k35 w A1_2 l1_2.length l1_2) (hc1_2:l1_2.length≤c1_2) (h:laws_sameRooms.f k a0_0 l0_1 l0_2 a1_0 l1_1 l1_2=some r) :
  Calls Try.prog 15 #[.agg #[.int .i64 a0_0,.slice A0_1 l0_1.length c0_1,.slice A0_2 l0_2.length c0_2],.agg #[.int .i64 a1_0,.slice A1_1 l1_1.length c1_1,.slice A1_2 l1_2.length c1_2]] w fun e w'=>e = .returned (.bool r)∧Below w.heap.size w w':=by
 have hu24:=Try.underlying24
 have HR0_1:=au hr0_1
 have HC0_1:=au hc0_1
 clear hr0_1 hc0_1
 have HR0_2:=au hr0_2
 have HC0_2:=au hc0_2
 clear hr0_2 hc0_2
 have HR1_1:=au hr1_1
 have HC1_1:=au hc1_1
 clear hr1_1 hc1_1
 have HR1_2:=au hr1_2
 have HC1_2:=au hc1_2
 clear hr1_2 hc1_2
 have HB:=au (Below.refl w.heap.size w)
 have H:(if a0_0=a1_0 then ((laws_sameExtents.f k l0_1 l1_1).bind fun t471=>(if t471=true then ((laws_sameExtents.f k l0_2 l1_2).bind fun t472=>(some t472)) else (some false))) else (some false))=some r:=h
 clear h
 by_cases c3:a0_0=a1_0
 ·rw[if_pos c3] at H
  have c3b0:(a0_0 == a1_0)=true:=beq_iff_eq.mpr c3
  have c3b1:(a0_0 != a1_0)=false:=bne_eq_false_iff_eq.mpr c3
  clear c3
  replace H:=Option.bind_eq_some_iff.mp H
  obtain⟨t471,A40,H⟩:=H
  replace H:(if t471=true then ((laws_sameExtents.f k l0_2 l1_2).bind fun t472=>(some t472)) else (some false))=some r:=H
  have A4:=au A40
  clear A40
  by_cases c5:t471=true
  ·subst c5
   have H1:((laws_sameExtents.f k l0_2 l1_2).bind fun t472=>(some t472))=some r:=by rw[if_pos rfl] at H;exact H
   clear H
   have H:=H1
   clear H1
   replace H:=Option.bind_eq_some_iff.mp H
   obtain⟨t472,A60,H⟩:=H
   replace H:(some t472)=some r:=H
   have A6:=au A60
   clear A60
   obtain rfl:=Option.some.inj H
   go_enter Try.func15,Try.ntmps15
   go_wp2_with (first|((with_reducible refine aM (N:=2) rfl ?_);refine aJ ?hg (N:=2) ?hd (cs:=#[.int .i64 a0_0,.slice A0_1 l0_1.length c0_1,.slice A0_2 l0_2.length c0_2]) (t:=24) ?hr ?_;(case hd=>rfl);(case hg=>rfl);(case hr=>first|(go_simp;done)|(go_simp;rfl));intro gb469 hg w7 hbox hb;have BK469:=au (hbox);have GW469:=au ((by rw[hg];exact(az (by with_reducible repeat(first|exact HB.out|apply ah|apply aa|apply ai))):w.heap.size≤gb469));have GE469:=au ((by rw[hg];exact(az (by with_reducible repeat(first|exact HB.out|apply ah|apply aa|apply ai))):w.heap.size≤gb469));replace HB:=au (aA (by with_reducible repeat(first|exact HB.out|apply ah|apply aa|apply ai)) hb);clear hb hbox hg)|((with_reducible refine aM (N:=3) rfl ?_);refine aJ ?hg (N:=3) ?hd (cs:=#[.int .i64 a1_0,.slice A1_1 l1_1.length c1_1,.slice A1_2 l1_2.length c1_2]) (t:=24) ?hr ?_;(case hd=>rfl);(case hg=>rfl);(case hr=>first|(go_simp;done)|(go_simp;rfl));intro gb470 hg w8 hbox hb;have BK470:=au (hbox);have GW470:=au ((by rw[hg];exact(az (by with_reducible repeat(first|exact HB.out|apply ah|apply aa|apply ai|refine ae ?_ GE469.out))):w.heap.size≤gb470));have GE470:=au ((by rw[hg];exact(az (by with_reducible repeat(first|exact HB.out|apply ah|apply aa|apply ai|refine ae ?_ GE469.out))):w.heap.size≤gb470));replace HB:=au (aA (by with_reducible repeat(first|exact HB.out|apply ah|apply aa|apply ai|refine ae ?_ GE469.out)) hb);have NB469_470:=au ((by rw[hg];exact Nat.ne_of_lt (aH (g:=gb469) (o:=.cells #[.int .i64 a0_0,.slice A0_1 l0_1.length c0_1,.slice A0_2 l0_2.length c0_2] 24 (0,0)) (by(with_reducible repeat(first|apply ag|apply aj|apply af));exact BK469.out)):gb469≠gb470));have NB470_469:=au ((by rw[hg];exact Nat.ne_of_gt (aH (g:=gb469) (o:=.cells #[.int .i64 a0_0,.slice A0_1 l0_1.length c0_1,.slice A0_2 l0_2.length c0_2] 24 (0,0)) (by(with_reducible repeat(first|apply ag|apply aj|apply af));exact BK469.out)):gb470≠gb469));replace BK469:=au (ay (g:=gb469) (o:=.cells #[.int .i64 a0_0,.slice A0_1 l0_1.length c0_1,.slice A0_2 l0_2.length c0_2] 24 (0,0)) (by(with_reducible repeat(first|apply ag|apply aj|apply af));exact BK469.out) hb);clear hb hbox hg;have hnb9:=NB469_470.out;have hnc9:=NB470_469.out;have hcz10_0:w8.cell? ⟨gb469,0,none⟩=some (.int .i64 a0_0):=(ak BK469.out 0).trans rfl;have hcz10_1:w8.cell? ⟨gb469,1,none⟩=some (.slice A0_1 l0_1.length c0_1):=(ak BK469.out 1).trans rfl;have hcz10_2:w8.cell? ⟨gb469,2,none⟩=some (.slice A0_2 l0_2.length c0_2):=(ak BK469.out 2).trans rfl;have hfz10_0:=av BK469.out 0;have hfz10_1:=av BK469.out 1;have hfz10_2:=av BK469.out 2;have hcz11_0:w8.cell? ⟨gb470,0,none⟩=some (.int .i64 a1_0):=(ak BK470.out 0).trans rfl;have hcz11_1:w8.cell? ⟨gb470,1,none⟩=some (.slice A1_1 l1_1.length c1_1):=(ak BK470.out 1).trans rfl;have hcz11_2:w8.cell? ⟨gb470,2,none⟩=some (.slice A1_2 l1_2.length c1_2):=(ak BK470.out 2).trans rfl;have hfz11_0:=av BK470.out 0;have hfz11_1:=av BK470.out 1;have hfz11_2:=av BK470.out 2)|(go_at_call 21;(with_reducible refine(laws_sameExtents.calls k _ _ l0_1 _ _ l1_1 true _ ?side1 ?side2 ?side3 ?side4 A4.out).mono ?_);(case side1=>repeat(first|exact(Kd.aN HR0_1.out HB.out)|(with_reducible first|apply Kd.aY|apply Kd.aZ|apply Kd.bn)));(case side2=>exact HC0_1.out);(case side3=>repeat(first|exact(Kd.aN HR1_1.out HB.out)|(with_reducible first|apply Kd.aY|apply Kd.aZ|apply Kd.bn)));(case side4=>exact HC1_1.out);rintro e w' ⟨rfl,⟨nd,rfl⟩⟩)|(go_at_call 21;(with_reducible refine(laws_sameExtents.calls k _ _ l0_2 _ _ l1_2 t472 _ ?side1 ?side2 ?side3 ?side4 A6.out).mono ?_);(case side1=>repeat(first|exact(Kd.aN HR0_2.out (by with_reducible repeat(first|exact HB.out|apply ah|apply aa|apply ai|refine ae ?_ GE469.out|refine ae ?_ GE470.out)))|(with_reducible first|apply Kd.aY|apply Kd.aZ|apply Kd.bn)));(case side2=>exact HC0_2.out);(case side3=>repeat(first|exact(Kd.aN HR1_2.out (by with_reducible repeat(first|exact HB.out|apply ah|apply aa|apply ai|refine ae ?_ GE469.out|refine ae ?_ GE470.out)))|(with_reducible first|apply Kd.aY|apply Kd.aZ|apply Kd.bn)));(case side4=>exact HC1_2.out);rintro e w' ⟨rfl,⟨nd,rfl⟩⟩))
   go_ret
   exact⟨by first|rfl|(simp <;> rfl)|(simp[*] <;> rfl),by with_reducible repeat(first|exact HB.out|apply ah|apply aa|apply ai|refine ae ?_ GE469.out|refine ae ?_ GE470.out)⟩
  ·replace c5:=Bool.eq_false_iff.mpr c5
   subst c5
   have H1:(some false)=some r:=by rw[if_neg (show ¬ (false=true) by decide)] at H;exact H
   clear H
   have H:=H1
   clear H1
   obtain rfl:=Option.some.inj H
   go_enter Try.func15,Try.ntmps15
   go_wp2_with (first|((with_reducible refine aM (N:=2) rfl ?_);refine aJ ?hg (N:=2) ?hd (cs:=#[.int .i64 a0_0,.slice A0_1 l0_1.length c0_1,.slice A0_2 l0_2.length c0_2]) (t:=24) ?hr ?_;(case hd=>rfl);(case hg=>rfl);(case hr=>first|(go_simp;done)|(go_simp;rfl));intro gb469 hg w12 hbox hb;have BK469:=au (hbox);have GW469:=au ((by rw[hg];exact(az (by with_reducible repeat(first|exact HB.out|apply ah|apply aa|apply ai))):w.heap.size≤gb469));have GE469:=au ((by rw[hg];exact(az (by with_reducible repeat(first|exact HB.out|apply ah|apply aa|apply ai))):w.heap.size≤gb469));replace HB:=au (aA (by with_reducible repeat(first|exact HB.out|apply ah|apply aa|apply ai)) hb);clear hb hbox hg)|((with_reducible refine aM (N:=3) rfl ?_);refine aJ ?hg (N:=3) ?hd (cs:=#[.int .i64 a1_0,.slice A1_1 l1_1.length c1_1,.slice A1_2 l1_2.length c1_2]) (t:=24) ?hr ?_;(case hd=>rfl);(case hg=>rfl);(case hr=>first|(go_simp;done)|(go_simp;rfl));intro gb470 hg w13 hbox hb;have BK470:=au (hbox);have GW470:=au ((by rw[hg];exact(az (by with_reducible repeat(first|exact HB.out|apply ah|apply aa|apply ai|refine ae ?_ GE469.out))):w.heap.size≤gb470));have GE470:=au ((by rw[hg];exact(az (by with_reducible repeat(first|exact HB.out|apply ah|apply aa|apply ai|refine ae ?_ GE469.out))):w.heap.size≤gb470));replace HB:=au (aA (by with_reducible repeat(first|exact HB.out|apply ah|apply aa|apply ai|refine ae ?_ GE469.out)) hb);have NB469_470:=au ((by rw[hg];exact Nat.ne_of_lt (aH (g:=gb469) (o:=.cells #[.int .i64 a0_0,.slice A0_1 l0_1.length c0_1,.slice A0_2 l0_2.length c0_2] 24 (0,0)) (by(with_reducible repeat(first|apply ag|apply aj|apply af));exact BK469.out)):gb469≠gb470));have NB470_469:=au ((by rw[hg];exact Nat.ne_of_gt (aH (g:=gb469) (o:=.cells #[.int .i64 a0_0,.slice A0_1 l0_1.length c0_1,.slice A0_2 l0_2.length c0_2] 24 (0,0)) (by(with_reducible repeat(first|apply ag|apply aj|apply af));exact BK469.out)):gb470≠gb469));replace BK469:=au (ay (g:=gb469) (o:=.cells #[.int .i64 a0_0,.slice A0_1 l0_1.length c0_1,.slice A0_2 l0_2.length c0_2] 24 (0,0)) (by(with_reducible repeat(first|apply ag|apply aj|apply af));exact BK469.out) hb);clear hb hbox hg;have hnb14:=NB469_470.out;have hnc14:=NB470_469.out;have hcz15_0:w13.cell? ⟨gb469,0,none⟩=some (.int .i64 a0_0):=(ak BK469.out 0).trans rfl;have hcz15_1:w13.cell? ⟨gb469,1,none⟩=some (.slice A0_1 l0_1.length c0_1):=(ak BK469.out 1).trans rfl;have hcz15_2:w13.cell? ⟨gb469,2,none⟩=some (.slice A0_2 l0_2.length c0_2):=(ak BK469.out 2).trans rfl;have hfz15_0:=av BK469.out 0;have hfz15_1:=av BK469.out 1;have hfz15_2:=av BK469.out 2;have hcz16_0:w13.cell? ⟨gb470,0,none⟩=some (.int .i64 a1_0):=(ak BK470.out 0).trans rfl;have hcz16_1:w13.cell? ⟨gb470,1,none⟩=some (.slice A1_1 l1_1.length c1_1):=(ak BK470.out 1).trans rfl;have hcz16_2:w13.cell? ⟨gb470,2,none⟩=some (.slice A1_2 l1_2.length c1_2):=(ak BK470.out 2).trans rfl;have hfz16_0:=av BK470.out 0;have hfz16_1:=av BK470.out 1;have hfz16_2:=av BK470.out 2)|(go_at_call 21;(with_reducible refine(laws_sameExtents.calls k _ _ l0_1 _ _ l1_1 false _ ?side1 ?side2 ?side3 ?side4 A4.out).mono ?_);(case side1=>repeat(first|exact(Kd.aN HR0_1.out HB.out)|(with_reducible first|apply Kd.aY|apply Kd.aZ|apply Kd.bn)));(case side2=>exact HC0_1.out);(case side3=>repeat(first|exact(Kd.aN HR1_1.out HB.out)|(with_reducible first|apply Kd.aY|apply Kd.aZ|apply Kd.bn)));(case side4=>exact HC1_1.out);rintro e w' ⟨rfl,⟨nd,rfl⟩⟩))
   go_ret
   exact⟨by first|rfl|(simp <;> rfl)|(simp[*] <;> rfl),by with_reducible repeat(first|exact HB.out|apply ah|apply aa|apply ai|refine ae ?_ GE469.out|refine ae ?_ GE470.out)⟩
 ·rw[if_neg c3] at H
  have c3b0:(a0_0 == a1_0)=false:=beq_eq_false_iff_ne.mpr c3
  have c3b1:(a0_0 != a1_0)=true:=bne_iff_ne.mpr c3
  obtain rfl:=Option.some.inj H
  go_enter Try.func15,Try.ntmps15
  go_wp2_with (first|((with_reducible refine aM (N:=2) rfl ?_);refine aJ ?hg (N:=2) ?hd (cs:=#[.int .i64 a0_0,.slice A0_1 l0_1.length c0_1,.slice A0_2 l0_2.length c0_2]) (t:=24) ?hr ?_;(case hd=>rfl);(case hg=>rfl);(case hr=>first|(go_simp;done)|(go_simp;rfl));intro gb469 hg w17 hbox hb;have BK469:=au (hbox);have GW469:=au ((by rw[hg];exact(az (by with_reducible repeat(first|exact HB.out|apply ah|apply aa|apply ai))):w.heap.size≤gb469));have GE469:=au ((by rw[hg];exact(az (by with_reducible repeat(first|exact HB.out|apply ah|apply aa|apply ai))):w.heap.size≤gb469));replace HB:=au (aA (by with_reducible repeat(first|exact HB.out|apply ah|apply aa|apply ai)) hb);clear hb hbox hg)|((with_reducible refine aM (N:=3) rfl ?_);refine aJ ?hg (N:=3) ?hd (cs:=#[.int .i64 a1_0,.slice A1_1 l1_1.length c1_1,.slice A1_2 l1_2.length c1_2]) (t:=24) ?hr ?_;(case hd=>rfl);(case hg=>rfl);(case hr=>first|(go_simp;done)|(go_simp;rfl));intro gb470 hg w18 hbox hb;have BK470:=au (hbox);have GW470:=au ((by rw[hg];exact(az (by with_reducible repeat(first|exact HB.out|apply ah|apply aa|apply ai|refine ae ?_ GE469.out))):w.heap.size≤gb470));have GE470:=au ((by rw[hg];exact(az (by with_reducible repeat(first|exact HB.out|apply ah|apply aa|apply ai|refine ae ?_ GE469.out))):w.heap.size≤gb470));replace HB:=au (aA (by with_reducible repeat(first|exact HB.out|apply ah|apply aa|apply ai|refine ae ?_ GE469.out)) hb);have NB469_470:=au ((by rw[hg];exact Nat.ne_of_lt (aH (g:=gb469) (o:=.cells #[.int .i64 a0_0,.slice A0_1 l0_1.length c0_1,.slice A0_2 l0_2.length c0_2] 24 (0,0)) (by(with_reducible repeat(first|apply ag|apply aj|apply af));exact BK469.out)):gb469≠gb470));have NB470_469:=au ((by rw[hg];exact Nat.ne_of_gt (aH (g:=gb469) (o:=.cells #[.int .i64 a0_0,.slice A0_1 l0_1.length c0_1,.slice A0_2 l0_2.length c0_2] 24 (0,0)) (by(with_reducible repeat(first|apply ag|apply aj|apply af));exact BK469.out)):gb470≠gb469));replace BK469:=au (ay (g:=gb469) (o:=.cells #[.int .i64 a0_0,.slice A0_1 l0_1.length c0_1,.slice A0_2 l0_2.length c0_2] 24 (0,0)) (by(with_reducible repeat(first|apply ag|apply aj|apply af));exact BK469.out) hb);clear hb hbox hg;have hnb19:=NB469_470.out;have hnc19:=NB470_469.out;have hcz20_0:w18.cell? ⟨gb469,0,none⟩=some (.int .i64 a0_0):=(ak BK469.out 0).trans rfl;have hcz20_1:w18.cell? ⟨gb469,1,none⟩=some (.slice A0_1 l0_1.length c0_1):=(ak BK469.out 1).trans rfl;have hcz20_2:w18.cell? ⟨gb469,2,none⟩=some (.slice A0_2 l0_2.length c0_2):=(ak BK469.out 2).trans rfl;have hfz20_0:=av BK469.out 0;have hfz20_1:=av BK469.out 1;have hfz20_2:=av BK469.out 2;have hcz21_0:w18.cell? ⟨gb470,0,none⟩=some (.int .i64 a1_0):=(ak BK470.out 0).trans rfl;have hcz21_1:w18.cell? ⟨gb470,1,none⟩=some (.slice A1_1 l1_1.length c1_1):=(ak BK470.out 1).trans rfl;have hcz21_2:w18.cell? ⟨gb470,2,none⟩=some (.slice A1_2 l1_2.length c1_2):=(ak BK470.out 2).trans rfl;have hfz21_0:=av BK470.out 0;have hfz21_1:=av BK470.out 1;have hfz21_2:=av BK470.out 2))
  go_ret
  exact⟨by first|rfl|(simp <;> rfl)|(simp[*] <;> rfl),by with_reducible repeat(first|exact HB.out|apply ah|apply aa|apply ai|refine ae ?_ GE469.out|refine ae ?_ GE470.out)⟩
open Go.RowKit Go.Proofs.YtelblhkbogljnaaW.PrintWords Go.Proofs.YtelblhkbogljnaaW.PrintLast Go.Proofs.YtelblhkbogljnaaW.PrintMore Go.Proofs.Ytelblhkbogljnaa.E
theorem qL (l:List EX) (hl:l.length≤1000):∀ (f i:Nat),i+f=l.length→Ev (fun k=>laws_sameExtents.l0 k l l (l.length:Int) (i:Int)) true:=by
  intro f
  induction f with
  | zero=>intro i hi;exact Ev.step (fun _=>laws_sameExtents.l0.eq_2 ..) (bE (by omega) (bP rfl))
  | succ f ih=>
    intro i hi
    refine Ev.step (fun _=>laws_sameExtents.l0.eq_2 ..) (aX (by omega) (aX (by omega) (aX (by omega) (aX (by omega) (bE (by simp) ?_)))))
    rw[w64 (x:=(i:Int)+1) (by omega) (by omega),show(i:Int)+1 = ((i+1:Nat):Int) by omega]
    exact ih (i+1) (by omega)
theorem kM (l:List EX) (hl:l.length≤1000):Ev (fun k=>laws_sameExtents.f k l l) true:=by
  unfold laws_sameExtents.f
  exact aX rfl (qL l hl l.length 0 (by omega))
theorem pO (b:Int) (P S:List EX) (hP:P.length≤1000) (hS:S.length≤1000):Ev (fun k=>laws_sameRooms.f k b P S b P S) true:=by
  unfold laws_sameRooms.f
  exact aX rfl (Ev.bind (kM P hP) (aX rfl (Ev.bind (kM S hS) (bP rfl))))
section
variable {B:Int} {P S Q:List EX} {x:EX}
theorem jA (hg:cK B P S=true):0≤eG P∧eG P≤24000:=by
  obtain⟨hB,hP,hS,_⟩:=dx.1 hg
  have:=lZ hB.2 P hS
  omega
end
theorem nL (w:World) (a b c x y:Value):∃ W1 W2 W3 W4,w.alloc (.cells #[.int .i64 0,.slice none 0 0,.slice none 0 0] 24)=W1∧W1.alloc (.cells #[.int .i64 0,.int .i64 0] 35)=W2∧
  ((W2.setCell ⟨w.heap.size,0,none⟩ a).setCell ⟨w.heap.size,1,none⟩ b).setCell ⟨w.heap.size,2,none⟩ c=W3∧(W3.setCell ⟨W1.heap.size,0,none⟩ x).setCell ⟨W1.heap.size,1,none⟩ y=W4∧
  W2.cell? ⟨w.heap.size,0,none⟩=some (.int .i64 0)∧W2.cell? ⟨w.heap.size,1,none⟩=some (.slice none 0 0)∧W2.cell? ⟨w.heap.size,2,none⟩=some (.slice none 0 0)∧W2.frozen? ⟨w.heap.size,0,none⟩=false∧W2.frozen? ⟨w.heap.size,1,none⟩=false∧W2.frozen? ⟨w.heap.size,2,none⟩=false∧
  W3.cell? ⟨W1.heap.size,0,none⟩=some (.int .i64 0)∧W3.cell? ⟨W1.heap.size,1,none⟩=some (.int .i64 0)∧W3.frozen? ⟨W1.heap.size,0,none⟩=false∧W3.frozen? ⟨W1.heap.size,1,none⟩=false∧
  Aside0 (W4.heap[w.heap.size]? = some (.cells #[a,b,c] 24 (0,0)))∧Aside0 (W4.heap[W1.heap.size]? = some (.cells #[x,y] 35 (0,0)))∧Aside0 (Below w.heap.size w W4):=by
 obtain⟨W1,hW1⟩:∃ W,w.alloc (.cells #[.int .i64 0,.slice none 0 0,.slice none 0 0] 24)=W:=⟨_,rfl⟩
 have z1:W1.heap[w.heap.size]? = some (.cells #[.int .i64 0,.slice none 0 0,.slice none 0 0] 24 (0,0)):=by rw[← hW1];exact heap_alloc_new w _
 have b1:Below w.heap.size w W1:=by rw[← hW1];exact ah (Below.refl _ _) _
 obtain⟨W2,hW2⟩:∃ W,W1.alloc (.cells #[.int .i64 0,.int .i64 0] 35)=W:=⟨_,rfl⟩
 have x2:W2.heap[W1.heap.size]? = some (.cells #[.int .i64 0,.int .i64 0] 35 (0,0)):=by rw[← hW2];exact heap_alloc_new W1 _
 have b2:Below W1.heap.size W1 W2:=by rw[← hW2];exact ah (Below.refl _ _) _
 have z2:=ay z1 b2
 have hlt:=aH z1
 have hn:W1.heap.size≠w.heap.size:=by omega
 have x3:(((W2.setCell ⟨w.heap.size,0,none⟩ a).setCell ⟨w.heap.size,1,none⟩ b).setCell ⟨w.heap.size,2,none⟩ c).heap[W1.heap.size]? = some (.cells #[.int .i64 0,.int .i64 0] 35 (0,0)):=
  aG (p:=⟨w.heap.size,2,none⟩) (aG (p:=⟨w.heap.size,1,none⟩) (aG (p:=⟨w.heap.size,0,none⟩) x2 hn a) hn b) hn c
 have z3:=eY z2 a b c
 have b3:Below w.heap.size w (((W2.setCell ⟨w.heap.size,0,none⟩ a).setCell ⟨w.heap.size,1,none⟩ b).setCell ⟨w.heap.size,2,none⟩ c):=ae (ae (ae (aA b1 b2) (Nat.le_refl _)) (Nat.le_refl _)) (Nat.le_refl _)
 exact⟨W1,W2,_,_,hW1,hW2,rfl,rfl,(ak z2 0).trans rfl,(ak z2 1).trans rfl,(ak z2 2).trans rfl,av z2 0,av z2 1,av z2 2,
  (ak x3 0).trans rfl,(ak x3 1).trans rfl,av x3 0,av x3 1,
  ⟨aG (p:=⟨W1.heap.size,1,none⟩) (aG (p:=⟨W1.heap.size,0,none⟩) z3 (Ne.symm hn) x) (Ne.symm hn) y⟩,⟨aK (cs:=#[x,.int .i64 0]) (aK (cs:=#[.int .i64 0,.int .i64 0]) x3 0 x rfl) 1 y rfl⟩,⟨ae (ae b3 b1.size) b1.size⟩⟩
structure VF (W:World) (g:Nat) (b:Int) (A1:Option Addr) (c1:Nat) (P:List EL) (A2:Option Addr) (c2:Nat) (S:List EL):Prop where
 z:W.heap[g]? = some (.cells #[.int .i64 b,.slice A1 P.length c1,.slice A2 S.length c2] 24 (0,0))
 r0:Kd.C k35 W A1 P.length P
 h0:P.length≤c1
 r1:Kd.C k35 W A2 S.length S
 h1:S.length≤c2
section
variable {W W1:World} {g:Nat} {b:Int} {A1:Option Addr} {c1:Nat} {P:List EL} {A2:Option Addr} {c2:Nat} {S:List EL}
theorem VF.below (h:VF W g b A1 c1 P A2 c2 S) (hb:Below W.heap.size W W1):VF W1 g b A1 c1 P A2 c2 S:=
 ⟨ay h.z hb,Kd.aN h.r0 hb,h.h0,Kd.aN h.r1 hb,h.h1⟩
theorem VF.new {B:Nat} {ok ok2:Nat→Prop} (hs:ES W B ok (.slice A1 P.length c1) P) (hr:ES W B ok2 (.slice A2 S.length c2) S) (hz:W1.heap[g]? = some (.cells #[.int .i64 b,.slice A1 P.length c1,.slice A2 S.length c2] 24 (0,0))) (hb:Below W.heap.size W W1):VF W1 g b A1 c1 P A2 c2 S:=
 ⟨hz,Kd.aN (Kd.R_reads' hs).2.2 hb,(Kd.R_reads' hs).2.1,Kd.aN (Kd.R_reads' hr).2.2 hb,(Kd.R_reads' hr).2.1⟩
end
theorem mD {b:Int} {P S:List EX} (h:szF b P S):(-4611686018427387904≤b∧b≤4611686018427387904)∧P.length≤100000:=⟨⟨by have:=h.1;omega,by have:=h.2.1;omega⟩,by have:=h.2.2.1;omega⟩
theorem qf (B:Int) (P S:List EX) (x:EX) (hz:szF B P S):∃ (b1:Int) (Q S1:List EX) (ob:Bool),Ev (fun k=>spec_GiveRoom.f k B P S x.f0 x.f1) (b1,Q,S1,ob)∧impl_GiveRoom.f B P S x.f0 x.f1=some (b1,Q,S1,ob)∧Q.length≤60∧S1.length≤60∧(ob=true→b1=B∧S1=bD Q∧Gave B P S x Q):=by
 obtain⟨h1,h2⟩:=mD hz
 obtain⟨r,e1,e2,e3⟩:=lT B P S x h1 h2
 rcases e3 with rfl|⟨Q,rfl,hT⟩
 ·exact⟨_,_,_,_,e1,e2,by simp,by simp,fun h=>by cases h⟩
 ·exact⟨_,_,_,_,e1,e2,hT.n,by rw[fu];exact hT.n,fun _=>⟨rfl,rfl,hT⟩⟩
theorem pY (B:Int) (P S:List EX) (hz:szF B P S):∃ (L:List EX) (o:Bool),Ev (fun k=>spec_UsedExtents.f k B P S) (L,o)∧impl_UsedExtents.f B P S=some (L,o)∧L.length≤500∧(o=true→cK B P S=true∧eG P+eG L=B∧∀ x∈L,1≤x.f1∧x.f1≤400)∧(o=false→L=[]):=by
 obtain⟨h1,h2⟩:=mD hz
 obtain⟨e1,e2,e3⟩:=lU B P S h1 h2
 refine⟨(eZ B P S).1,(eZ B P S).2,e1,rfl,?_,fun h=>?_,e3⟩
 ·cases ho:(eZ B P S).2 with
  | false=>rw[e3 ho];simp
  | true=>
   obtain⟨hg,hs,hu⟩:=e2 ho
   have h5:=iy hs
   obtain⟨hB,_,hP,_⟩:=dx.1 hg
   have h6:=(lZ hB.2 P hP).1
   omega
 ·obtain⟨hg,hs,hu⟩:=e2 h
  obtain⟨hB,_⟩:=dx.1 hg
  exact⟨hg,hu,fun x hx=>by have:=hs.a x hx;omega⟩
set_option maxHeartbeats 16000000 in
set_option maxRecDepth 100000 in
theorem kZ (A0 : Option Addr) (c0 : Nat) (l0 : List Int) (A1 : Option Addr) (c1 : Nat) (l1 : List Int) (w : World) (hl0 : Bytes l0) (hr0 : Kd.C (Kd.int .u8) w A0 l0.length l0) (hc0 : l0.length ≤ c0) (hl1 : Bytes l1) (hr1 : Kd.C (Kd.int .u8) w A1 l1.length l1) (hc1 : l1.length ≤ c1) (hz0 : l0.length ≤ 140737488351232) (hz1 : l1.length ≤ 140737488351232) :
  Calls Try.prog 4 #[.slice A0 l0.length c0,.slice A1 l1.length c1] w fun e w'=>e = .returned (.bool true)∧Below w.heap.size w w':=by
 have huF:=Try.underlying24
 have huE:=Try.underlying35
 have huES:=Try.underlying22
 have HB1:=au hl1
 have HB0:=au hl0
 have R0:=au hr0
 have R1:=au hr1
 have HC0:=au hc0
 have HC1:=au hc1
 have wq:wrap64 ((l0.length:Int) + (l1.length:Int)) = (l0.length:Int) + (l1.length:Int):=w64 (by omega) (by omega)
 have B:=au (Below.refl w.heap.size w)
 clear hl0 hl1 hr0 hr1 hc0 hc1 hz0 hz1
 by_cases hbig:(l0.length:Int) + (l1.length:Int) > 1048576
 ·have c1_:(1048576 < (l0.length:Int) + (l1.length:Int))=True:=eq_true (by omega)
  clear hbig
  go_enter Try.func4,Try.ntmps4
  go_wp2
  go_ret
  exact⟨rfl,B.out⟩
 ·have c1_ : (1048576 < (l0.length : Int) + (l1.length : Int)) = False := eq_false (by omega)
  clear hbig
  have TT:=au (spec_DrawGiveRoom.calls A0 c0 l0 w HB0.out R0.out HC0.out)
  go_enter Try.func4,Try.ntmps4
  go_wp2_with (go_at_call 12;refine TT.out.mono ?_)
  rintro e t1 ⟨u0,u1,b,P,S,xa,xl,rfl,hs,hr,hsz,hb⟩
  clear wq c1_
  have HSZ:=au hsz
  replace B:=au (aA B.out hb)
  obtain⟨Pa1,ca1,rfl⟩:=Kd.bq hs
  obtain⟨Pf1,cf1,rfl⟩:=Kd.bq hr
  obtain⟨V1,V2,V3,V4,v1_,v2_,v3_,v4_,y0,y1,y2,y3,y4,y5,z0,z1,z2,z3,ZU,E,BL⟩:=nL t1 (.int .i64 b) (.slice Pa1 P.length ca1) (.slice Pf1 S.length cf1) (.int .i64 xa) (.int .i64 xl)
  have X:=au (VF.new hs hr ZU.out BL.out)
  replace B:=au (aA B.out BL.out)
  clear hsz hb hs hr ZU BL TT
  obtain⟨b1,Q,S1,ob,⟨K1,hS⟩,hI,hq,hs1,HT⟩:=qf b P S ⟨xa,xl⟩ HSZ.out
  obtain⟨K4,hR⟩:=pO b1 Q S1 (by omega) (by omega)
  have E1:=au (show impl_GiveRoom.f b P S xa xl=some (b1,Q,S1,ob) from hI)
  have E2:=au (show spec_GiveRoom.f K1 b P S xa xl=some (b1,Q,S1,ob) from hS K1 (Nat.le_refl _))
  have E5:=au (hR K4 (Nat.le_refl _))
  replace HT:=au HT
  clear hS hI hR hq hs1
  have eE0:V4.cell? ⟨V1.heap.size,0,none⟩=some (.int .i64 xa):=(ak E.out 0).trans rfl
  have eE1:V4.cell? ⟨V1.heap.size,1,none⟩=some (.int .i64 xl):=(ak E.out 1).trans rfl
  have dX_0:V4.cell? ⟨t1.heap.size,0,none⟩=some (.int .i64 b):=(ak X.out.z 0).trans rfl
  have dX_1:V4.cell? ⟨t1.heap.size,1,none⟩=some (.slice Pa1 P.length ca1):=(ak X.out.z 1).trans rfl
  have dX_2:V4.cell? ⟨t1.heap.size,2,none⟩=some (.slice Pf1 S.length cf1):=(ak X.out.z 2).trans rfl
  have TT:=au (impl_GiveRoom.calls b Pa1 ca1 P Pf1 cf1 S xa xl b1 Q S1 ob V4 X.out.r0 X.out.h0 X.out.r1 X.out.h1 E1.out)
  go_wp2_with (go_at_call 13;refine TT.out.mono ?_)
  rintro e w601 ⟨u0,u1,rfl,hs,hr,hb⟩
  clear TT v1_ v2_ v3_ v4_ y0 y1 y2 y3 y4 y5 z0 z1 z2 z3
  clear dX_0 dX_1 dX_2 eE0 eE1
  replace X:=au (X.out.below hb)
  replace B:=au (aA B.out hb)
  replace E:=au (ay E.out hb)
  clear hb
  have GY:=au (show w.heap.size≤w601.heap.size from B.out.size)
  obtain⟨Pa601,ca601,rfl⟩:=Kd.bq hs
  obtain⟨Pf601,cf601,rfl⟩:=Kd.bq hr
  obtain⟨ZV601,V601,hxV601,hyV601,z0V601,z1V601,z2V601,y0V601,y1V601,y2V601,Zv,BL⟩:=fA w601 (.int .i64 b1) (.slice Pa601 Q.length ca601) (.slice Pf601 S1.length cf601)
  have hb:=BL.out
  have Y:=au (VF.new hs hr Zv.out hb)
  clear hs hr Zv BL
  replace X:=au (X.out.below hb)
  replace B:=au (aA B.out hb)
  replace E:=au (ay E.out hb)
  clear hb
  generalize V1.heap.size=gx at E ⊢
  have dX_0:V601.cell? ⟨t1.heap.size,0,none⟩=some (.int .i64 b):=(ak X.out.z 0).trans rfl
  have dX_1:V601.cell? ⟨t1.heap.size,1,none⟩=some (.slice Pa1 P.length ca1):=(ak X.out.z 1).trans rfl
  have dX_2:V601.cell? ⟨t1.heap.size,2,none⟩=some (.slice Pf1 S.length cf1):=(ak X.out.z 2).trans rfl
  have eE0:V601.cell? ⟨gx,0,none⟩=some (.int .i64 xa):=(ak E.out 0).trans rfl
  have eE1:V601.cell? ⟨gx,1,none⟩=some (.int .i64 xl):=(ak E.out 1).trans rfl
  have TT:=au (spec_GiveRoom.calls K1 b Pa1 ca1 P Pf1 cf1 S xa xl b1 Q S1 ob V601 X.out.r0 X.out.h0 X.out.r1 X.out.h1 E2.out)
  go_wp2_with (go_at_call 14;refine TT.out.mono ?_)
  rintro e w602 ⟨u0,u1,rfl,hs,hr,hb⟩
  clear TT hxV601 hyV601 z0V601 z1V601 z2V601 y0V601 y1V601 y2V601
  clear dX_0 dX_1 dX_2 eE0 eE1
  replace X:=au (X.out.below hb)
  replace Y:=au (Y.out.below hb)
  replace B:=au (aA B.out hb)
  replace E:=au (ay E.out hb)
  clear hb
  have GN:=au (show w.heap.size≤w602.heap.size from B.out.size)
  obtain⟨Pa602,ca602,rfl⟩:=Kd.bq hs
  obtain⟨Pf602,cf602,rfl⟩:=Kd.bq hr
  obtain⟨ZV602,V602,hxV602,hyV602,z0V602,z1V602,z2V602,y0V602,y1V602,y2V602,Zv,BL⟩:=fA w602 (.int .i64 b1) (.slice Pa602 Q.length ca602) (.slice Pf602 S1.length cf602)
  have hb:=BL.out
  have N:=au (VF.new hs hr Zv.out hb)
  clear hs hr Zv BL
  replace X:=au (X.out.below hb)
  replace Y:=au (Y.out.below hb)
  replace B:=au (aA B.out hb)
  replace E:=au (ay E.out hb)
  clear hb
  clear E1 E2
  have q1:(ob == ob)=true:=beq_self_eq_true ob
  have q2:(ob != ob)=false:=by simp
  have dY_0:V602.cell? ⟨w601.heap.size,0,none⟩=some (.int .i64 b1):=(ak Y.out.z 0).trans rfl
  have dY_1:V602.cell? ⟨w601.heap.size,1,none⟩=some (.slice Pa601 Q.length ca601):=(ak Y.out.z 1).trans rfl
  have dY_2:V602.cell? ⟨w601.heap.size,2,none⟩=some (.slice Pf601 S1.length cf601):=(ak Y.out.z 2).trans rfl
  have dN_0:V602.cell? ⟨w602.heap.size,0,none⟩=some (.int .i64 b1):=(ak N.out.z 0).trans rfl
  have dN_1:V602.cell? ⟨w602.heap.size,1,none⟩=some (.slice Pa602 Q.length ca602):=(ak N.out.z 1).trans rfl
  have dN_2:V602.cell? ⟨w602.heap.size,2,none⟩=some (.slice Pf602 S1.length cf602):=(ak N.out.z 2).trans rfl
  have eE0:V602.cell? ⟨gx,0,none⟩=some (.int .i64 xa):=(ak E.out 0).trans rfl
  have eE1:V602.cell? ⟨gx,1,none⟩=some (.int .i64 xl):=(ak E.out 1).trans rfl
  have TT:=au (laws_sameRooms.calls K4 b1 Pa601 ca601 Q Pf601 cf601 S1 b1 Pa602 ca602 Q Pf602 cf602 S1 true V602 Y.out.r0 Y.out.h0 Y.out.r1 Y.out.h1 N.out.r0 N.out.h0 N.out.r1 N.out.h1 E5.out)
  go_wp2_with (go_at_call 15;refine TT.out.mono ?_)
  (first|rintro e w603 rfl hb|rintro e w603 ⟨rfl,hb⟩)
  clear TT hxV602 hyV602 z0V602 z1V602 z2V602 y0V602 y1V602 y2V602
  clear dY_0 dY_1 dY_2 dN_0 dN_1 dN_2 eE0 eE1
  replace X:=au (X.out.below hb)
  replace Y:=au (Y.out.below hb)
  replace N:=au (N.out.below hb)
  replace B:=au (aA B.out hb)
  replace E:=au (ay E.out hb)
  clear hb
  clear N E5
  go_upto_if 59 with(fail)
  (try simp only[apu_])
  clear q1 q2
  go_cut [] (fun wx=>Aside0 (Below w603.heap.size w603 wx))
  case first=>
   cases ob with
   | false=>
    go_wp2
    go_meet
    case rel=>exact⟨Below.refl _ _⟩
   | true=>
    obtain⟨rfl,rfl,HG⟩:=HT.out rfl
    obtain⟨hsum,hmx,hgd⟩:=pX HG
    obtain⟨k5,h5⟩:=jB HG.g
    obtain⟨k6,h6⟩:=jB hgd
    have hs1:=jA HG.g
    have hs2:=jA hgd
    have hpl:=(dx.1 HG.g).2.1
    have hln:=HG.l
    have G5:=au (h5 k5 (Nat.le_refl _))
    have G6:=au (h6 k6 (Nat.le_refl _))
    have G9:=au (show impl_GoodFree.f b1 Q (bD Q)=some true from congrArg some hgd)
    have HB:=au (Below.refl w603.heap.size w603)
    simp only at hsum hmx
    generalize jP P 0=m1 at G5
    generalize jP Q 0=m2 at G6 hmx
    generalize eG P=n1 at G5 hsum hs1
    generalize eG Q=n2 at G6 hsum hs2
    have wn:wrap64 (n1+xl)=n2:=by rw[w64 (by omega) (by omega)];exact hsum.symm
    have wp:wrap64 ((P.length:Int)+1) = (P.length:Int)+1:=w64 (by omega) (by omega)
    have j1:(n2 == n2)=true:=beq_self_eq_true n2
    have j2:(n2 != n2)=false:=by simp
    have j3:(m2<xl)=False:=eq_false (by omega)
    have j4:decide (m2<xl)=false:=decide_eq_false (by omega)
    have j5:((P.length:Int)+1 < (Q.length:Int))=False:=eq_false (by omega)
    have j6:decide ((P.length:Int)+1 < (Q.length:Int))=false:=decide_eq_false (by omega)
    clear h5 h6 hs1 hs2 hsum hmx hgd HG HT HSZ hpl hln
    have dX_0:w603.cell? ⟨t1.heap.size,0,none⟩=some (.int .i64 b1):=(ak X.out.z 0).trans rfl
    have dX_1:w603.cell? ⟨t1.heap.size,1,none⟩=some (.slice Pa1 P.length ca1):=(ak X.out.z 1).trans rfl
    have dX_2:w603.cell? ⟨t1.heap.size,2,none⟩=some (.slice Pf1 S.length cf1):=(ak X.out.z 2).trans rfl
    have dY_0:w603.cell? ⟨w601.heap.size,0,none⟩=some (.int .i64 b1):=(ak Y.out.z 0).trans rfl
    have dY_1:w603.cell? ⟨w601.heap.size,1,none⟩=some (.slice Pa601 Q.length ca601):=(ak Y.out.z 1).trans rfl
    have dY_2:w603.cell? ⟨w601.heap.size,2,none⟩=some (.slice Pf601 (bD Q).length cf601):=(ak Y.out.z 2).trans rfl
    have eE0:w603.cell? ⟨gx,0,none⟩=some (.int .i64 xa):=(ak E.out 0).trans rfl
    have eE1:w603.cell? ⟨gx,1,none⟩=some (.int .i64 xl):=(ak E.out 1).trans rfl
    have TT:=au (impl_RoomIn.calls k5 b1 Pa1 ca1 P Pf1 cf1 S n1 m1 true w603 X.out.r0 X.out.h0 X.out.r1 X.out.h1 G5.out)
    go_wp2_with (go_at_call 16;refine TT.out.mono ?_)
    (first|rintro e w701 rfl hb|rintro e w701 ⟨rfl,hb⟩)
    clear TT
    clear dX_0 dX_1 dX_2 dY_0 dY_1 dY_2 eE0 eE1
    replace X:=au (X.out.below hb)
    replace Y:=au (Y.out.below hb)
    replace B:=au (aA B.out hb)
    replace HB:=au (aA HB.out hb)
    replace E:=au (ay E.out hb)
    clear hb
    have dX_0:w701.cell? ⟨t1.heap.size,0,none⟩=some (.int .i64 b1):=(ak X.out.z 0).trans rfl
    have dX_1:w701.cell? ⟨t1.heap.size,1,none⟩=some (.slice Pa1 P.length ca1):=(ak X.out.z 1).trans rfl
    have dX_2:w701.cell? ⟨t1.heap.size,2,none⟩=some (.slice Pf1 S.length cf1):=(ak X.out.z 2).trans rfl
    have dY_0:w701.cell? ⟨w601.heap.size,0,none⟩=some (.int .i64 b1):=(ak Y.out.z 0).trans rfl
    have dY_1:w701.cell? ⟨w601.heap.size,1,none⟩=some (.slice Pa601 Q.length ca601):=(ak Y.out.z 1).trans rfl
    have dY_2:w701.cell? ⟨w601.heap.size,2,none⟩=some (.slice Pf601 (bD Q).length cf601):=(ak Y.out.z 2).trans rfl
    have eE0:w701.cell? ⟨gx,0,none⟩=some (.int .i64 xa):=(ak E.out 0).trans rfl
    have eE1:w701.cell? ⟨gx,1,none⟩=some (.int .i64 xl):=(ak E.out 1).trans rfl
    have TT:=au (impl_RoomIn.calls k6 b1 Pa601 ca601 Q Pf601 cf601 (bD Q) n2 m2 true w701 Y.out.r0 Y.out.h0 Y.out.r1 Y.out.h1 G6.out)
    go_wp2_with (go_at_call 16;refine TT.out.mono ?_)
    (first|rintro e w702 rfl hb|rintro e w702 ⟨rfl,hb⟩)
    clear TT
    clear dX_0 dX_1 dX_2 dY_0 dY_1 dY_2 eE0 eE1
    replace X:=au (X.out.below hb)
    replace Y:=au (Y.out.below hb)
    replace B:=au (aA B.out hb)
    replace HB:=au (aA HB.out hb)
    replace E:=au (ay E.out hb)
    clear hb
    clear G5 G6
    have dX_0:w702.cell? ⟨t1.heap.size,0,none⟩=some (.int .i64 b1):=(ak X.out.z 0).trans rfl
    have dX_1:w702.cell? ⟨t1.heap.size,1,none⟩=some (.slice Pa1 P.length ca1):=(ak X.out.z 1).trans rfl
    have dX_2:w702.cell? ⟨t1.heap.size,2,none⟩=some (.slice Pf1 S.length cf1):=(ak X.out.z 2).trans rfl
    have dY_0:w702.cell? ⟨w601.heap.size,0,none⟩=some (.int .i64 b1):=(ak Y.out.z 0).trans rfl
    have dY_1:w702.cell? ⟨w601.heap.size,1,none⟩=some (.slice Pa601 Q.length ca601):=(ak Y.out.z 1).trans rfl
    have dY_2:w702.cell? ⟨w601.heap.size,2,none⟩=some (.slice Pf601 (bD Q).length cf601):=(ak Y.out.z 2).trans rfl
    have eE0:w702.cell? ⟨gx,0,none⟩=some (.int .i64 xa):=(ak E.out 0).trans rfl
    have eE1:w702.cell? ⟨gx,1,none⟩=some (.int .i64 xl):=(ak E.out 1).trans rfl
    have TT:=au (impl_GoodFree.calls b1 Pa601 ca601 Q Pf601 cf601 (bD Q) true w702 Y.out.r0 Y.out.h0 Y.out.r1 Y.out.h1 G9.out)
    go_wp2_with (go_at_call 17;refine TT.out.mono ?_)
    (first|rintro e w703 rfl hb|rintro e w703 ⟨rfl,hb⟩)
    clear TT
    clear dX_0 dX_1 dX_2 dY_0 dY_1 dY_2 eE0 eE1
    replace X:=au (X.out.below hb)
    replace Y:=au (Y.out.below hb)
    replace B:=au (aA B.out hb)
    replace HB:=au (aA HB.out hb)
    replace E:=au (ay E.out hb)
    clear hb
    have dX_0:w703.cell? ⟨t1.heap.size,0,none⟩=some (.int .i64 b1):=(ak X.out.z 0).trans rfl
    have dX_1:w703.cell? ⟨t1.heap.size,1,none⟩=some (.slice Pa1 P.length ca1):=(ak X.out.z 1).trans rfl
    have dX_2:w703.cell? ⟨t1.heap.size,2,none⟩=some (.slice Pf1 S.length cf1):=(ak X.out.z 2).trans rfl
    have dY_0:w703.cell? ⟨w601.heap.size,0,none⟩=some (.int .i64 b1):=(ak Y.out.z 0).trans rfl
    have dY_1:w703.cell? ⟨w601.heap.size,1,none⟩=some (.slice Pa601 Q.length ca601):=(ak Y.out.z 1).trans rfl
    have dY_2:w703.cell? ⟨w601.heap.size,2,none⟩=some (.slice Pf601 (bD Q).length cf601):=(ak Y.out.z 2).trans rfl
    have eE0:w703.cell? ⟨gx,0,none⟩=some (.int .i64 xa):=(ak E.out 0).trans rfl
    have eE1:w703.cell? ⟨gx,1,none⟩=some (.int .i64 xl):=(ak E.out 1).trans rfl
    go_wp2
    go_meet
    case rel=>exact HB
  case rest =>
   replace B:=au (aA B.out hcut.out)
   clear hcut HT X Y E HSZ
   have RR1:=au (Kd.aN R1.out B.out)
   have TT:=au (spec_DrawUsedExtents.calls A1 c1 l1 wc HB1.out RR1.out HC1.out)
   clear RR1
   go_wp2_with (go_at_call 18;refine TT.out.mono ?_)
   rintro e t2 ⟨u0,u1,d,D,F,rfl,hs,hr,hsz,hb⟩
   have HSZ:=au hsz
   clear hsz TT
   replace B:=au (aA B.out hb)
   clear hb
   have GU:=au (show w.heap.size≤t2.heap.size from B.out.size)
   obtain⟨Pa2,ca2,rfl⟩:=Kd.bq hs
   obtain⟨Pf2,cf2,rfl⟩:=Kd.bq hr
   obtain⟨ZT2,T2,hxT2,hyT2,z0T2,z1T2,z2T2,y0T2,y1T2,y2T2,Zv,BL⟩:=fA t2 (.int .i64 d) (.slice Pa2 D.length ca2) (.slice Pf2 F.length cf2)
   have hb:=BL.out
   have U:=au (VF.new hs hr Zv.out hb)
   clear hs hr Zv BL
   replace B:=au (aA B.out hb)
   clear hb
   obtain⟨L,o,⟨K2,hS⟩,hI,hln,HT,HF⟩:=pY d D F HSZ.out
   obtain⟨K3,hR⟩:=kM L (by omega)
   have E1:=au (show impl_UsedExtents.f d D F=some (L,o) from hI)
   have E2:=au (show spec_UsedExtents.f K2 d D F=some (L,o) from hS K2 (Nat.le_refl _))
   have E5:=au (hR K3 (Nat.le_refl _))
   replace HT:=au HT
   replace HF:=au HF
   have HLN:=au hln
   clear hS hI hR hln HSZ
   have dU_0:T2.cell? ⟨t2.heap.size,0,none⟩=some (.int .i64 d):=(ak U.out.z 0).trans rfl
   have dU_1:T2.cell? ⟨t2.heap.size,1,none⟩=some (.slice Pa2 D.length ca2):=(ak U.out.z 1).trans rfl
   have dU_2:T2.cell? ⟨t2.heap.size,2,none⟩=some (.slice Pf2 F.length cf2):=(ak U.out.z 2).trans rfl
   have TT:=au (impl_UsedExtents.calls d Pa2 ca2 D Pf2 cf2 F L o T2 U.out.r0 U.out.h0 U.out.r1 U.out.h1 E1.out)
   go_wp2_with (go_at_call 19;refine TT.out.mono ?_;(rintro e w801 ⟨u0,rfl,hk,hb⟩);(obtain⟨La,lc,rfl⟩:=Kd.bq hk);(clear TT);(clear dU_0 dU_1 dU_2 hxT2 hyT2 z0T2 z1T2 z2T2 y0T2 y1T2 y2T2);(replace U:=au (U.out.below hb));(replace B:=au (aA B.out hb));(clear hb);(have Wa:=au (Kd.R_reads' hk).2.2);(have Wac:=(Kd.R_reads' hk).2.1);(clear hk);(have dU_0:w801.cell? ⟨t2.heap.size,0,none⟩=some (.int .i64 d):=(ak U.out.z 0).trans rfl);(have dU_1:w801.cell? ⟨t2.heap.size,1,none⟩=some (.slice Pa2 D.length ca2):=(ak U.out.z 1).trans rfl);(have dU_2:w801.cell? ⟨t2.heap.size,2,none⟩=some (.slice Pf2 F.length cf2):=(ak U.out.z 2).trans rfl))
   clear E1
   have TT:=au (spec_UsedExtents.calls K2 d Pa2 ca2 D Pf2 cf2 F L o w801 U.out.r0 U.out.h0 U.out.r1 U.out.h1 E2.out)
   go_wp2_with (go_at_call 20;refine TT.out.mono ?_;(rintro e w802 ⟨u0,rfl,hk,hb⟩);(obtain⟨Lb,ld,rfl⟩:=Kd.bq hk);(clear TT);(clear dU_0 dU_1 dU_2);(replace U:=au (U.out.below hb));(replace Wa:=au (Kd.aN Wa.out hb));(replace B:=au (aA B.out hb));(clear hb);(have Wb:=au (Kd.R_reads' hk).2.2);(have Wbc:=(Kd.R_reads' hk).2.1);(clear hk))
   clear E2
   have q1:(o == o)=true:=beq_self_eq_true o
   have q2:(o != o)=false:=by simp
   have TT:=au (laws_sameExtents.calls K3 La lc L Lb ld L true w802 Wa.out Wac Wb.out Wbc E5.out)
   go_wp2_with (go_at_call 21;refine TT.out.mono ?_)
   (first|rintro e w803 rfl hb|rintro e w803 ⟨rfl,hb⟩)
   clear TT
   replace hb:=hb.below
   replace U:=au (U.out.below hb)
   replace Wa:=au (Kd.aN Wa.out hb)
   replace Wb:=au (Kd.aN Wb.out hb)
   replace B:=au (aA B.out hb)
   clear hb
   clear E5 Wb
   cases o with
   | false=>
    obtain rfl:=HF.out rfl
    go_wp2
    go_ret
    exact⟨rfl,B.out⟩
   | true=>
    obtain⟨hg,hsum,hel⟩:=HT.out rfl
    have hs1:=jA hg
    obtain⟨k5,h5⟩:=jB hg
    have G5:=au (h5 k5 (Nat.le_refl _))
    have hb4:=(dx.1 hg).1
    have HEL:=au hel
    generalize jP D 0=m1 at G5
    generalize eG D=n1 at G5 hsum hs1
    have HSUM:=au (show n1+eG L=d∧0≤n1∧d≤400 by omega)
    clear h5 hsum hel hs1 hg hb4 HT HF q1 q2
    have dU_0:w803.cell? ⟨t2.heap.size,0,none⟩=some (.int .i64 d):=(ak U.out.z 0).trans rfl
    have dU_1:w803.cell? ⟨t2.heap.size,1,none⟩=some (.slice Pa2 D.length ca2):=(ak U.out.z 1).trans rfl
    have dU_2:w803.cell? ⟨t2.heap.size,2,none⟩=some (.slice Pf2 F.length cf2):=(ak U.out.z 2).trans rfl
    have TT:=au (impl_RoomIn.calls k5 d Pa2 ca2 D Pf2 cf2 F n1 m1 true w803 U.out.r0 U.out.h0 U.out.r1 U.out.h1 G5.out)
    go_wp2_with (go_at_call 16;refine TT.out.mono ?_)
    (first|rintro e w804 rfl hb|rintro e w804 ⟨rfl,hb⟩)
    clear TT
    clear dU_0 dU_1 dU_2
    replace U:=au (U.out.below hb)
    replace Wa:=au (Kd.aN Wa.out hb)
    replace B:=au (aA B.out hb)
    clear hb
    have hln:=HLN.out
    clear G5
    go_wp2
    go_loopw [141,22] (fun v s wr=>∃ (n:Nat) (z:Int),n≤L.length∧v = .int .i64 n∧s = .int .i64 z∧Aside0 (0≤z∧z+eG (L.drop n)=d)∧Aside0 (Below w804.heap.size w804 wr)) (fun v _ _=>L.length - (intOf v).toNat)
    case atStart=>exact⟨0,n1,Nat.zero_le _,rfl,rfl,⟨HSUM.out.2.1,HSUM.out.1⟩,⟨Below.refl _ _⟩⟩
    case round=>
     obtain⟨n,z,hn,rfl,rfl,HZ,HB⟩:=hrel
     replace U:=au (U.out.below HB.out)
     replace Wa:=au (Kd.aN Wa.out HB.out)
     by_cases hn0:n<L.length
     ·have hnn:((n:Int) < (L.length:Int))=True:=eq_true (by omega)
      have hnm:(0≤(n:Int))=True:=eq_true (by omega)
      obtain⟨ad,ea,hx0,hx1⟩:=bF Wa.out (n:Int) (by omega) (by omega)
      have er:=gQ hn0
      have hmem:L[n]∈L:=List.getElem_mem hn0
      have hbd:=HEL.out _ hmem
      have hdr:=fE hn0
      rw[er] at hx0 hx1 hdr
      have hz:=HZ.out
      have hd4:=HSUM.out.2.2
      rw[hdr,fT] at hz
      have hge:0≤eG (L.drop (n+1)):=by
       have:∀ (l:List EX),(∀ x∈l,1≤x.f1∧x.f1≤400)→0≤eG l:=by
        intro l
        induction l with
        | nil=>intro _;simp[eG]
        | cons x l ih=>intro h;have h1:=h x (List.mem_cons_self ..);have h2:=ih (fun y hy=>h y (List.mem_cons_of_mem _ hy));rw[fT];omega
       exact this _ (fun x hx=>HEL.out x (List.mem_of_mem_drop hx))
      generalize L[n]=x at hx0 hx1 hz hbd
      obtain⟨xa,xl⟩:=x
      simp only[Int.toNat_natCast] at hx0 hx1 hz hbd
      have wz:wrap64 (z+xl)=z+xl:=w64 (by omega) (by omega)
      have HZ2:=au (show 0≤z+xl∧(z+xl)+eG (L.drop (n+1))=d by omega)
      obtain⟨V1,V2,hV1,hV2,y0,y1,z0,z1,E,BL⟩:=jq wr (.int .i64 xa) (.int .i64 xl)
      have HB2:=au (aA HB.out BL.out)
      subst ea
      have E0:V2.cell? ⟨wr.heap.size,0,none⟩=some (.int .i64 xa):=(ak E.out 0).trans rfl
      have E1:V2.cell? ⟨wr.heap.size,1,none⟩=some (.int .i64 xl):=(ak E.out 1).trans rfl
      clear hmem hz hbd hdr er HZ hge hd4 BL E
      go_wp2
      go_roundw
      case rel=>exact⟨n+1,z+xl,hn0,by go_num,by rw[wz],HZ2,HB2⟩
      case measure=>simp[intOf];omega
     ·have hnn:((n:Int) < (L.length:Int))=False:=eq_false (by omega)
      replace B:=au (aA B.out HB.out)
      have hz:=HZ.out.2
      rw[List.drop_of_length_le (by omega)] at hz
      obtain rfl:z=d:=by rw[← hz];simp[eG]
      clear hz HZ HSUM HEL
      have dU_0:wr.cell? ⟨t2.heap.size,0,none⟩=some (.int .i64 z):=(ak U.out.z 0).trans rfl
      have dU_1:wr.cell? ⟨t2.heap.size,1,none⟩=some (.slice Pa2 D.length ca2):=(ak U.out.z 1).trans rfl
      have dU_2:wr.cell? ⟨t2.heap.size,2,none⟩=some (.slice Pf2 F.length cf2):=(ak U.out.z 2).trans rfl
      have j1:(z == z)=true:=beq_self_eq_true z
      go_wp2
      go_ret
      exact⟨rfl,B.out⟩
end Go.Proofs.Ytelblhkbogljnaa.PFre
namespace Go.Proofs.Ytelblhkbogljnaa.fnGiven
open Go.ChangeShapes Go.WideShapes Go.ChangeAt Go.RowKit
open Go.ChangeMaps (open_string shut_string)
open Go.Proofs.Ytelblhkbogljnaa.PFre Go.Proofs.Ytelblhkbogljnaa.ZFre Go.Proofs.YtelblhkbogljnaaW.PrintWords Go.Proofs.YtelblhkbogljnaaW.PrintLast Go.Proofs.YtelblhkbogljnaaW.PrintMore
set_option linter.unusedVariables false
theorem mM {l:List Int} (h:∀ x∈l,(Lit.int .u8 x).wf=true):Bytes l:=fun x hx=>by
  have:=h x hx
  simp[Lit.wf,IntKind.min,IntKind.max,IntKind.signed,IntKind.bits] at this
  omega
theorem own:ownKnob Try.prog.godebug=none:=by kernel_rfl
theorem laidOut:laidOutB Try.prog=true:=by kernel_rfl
def qV (k:IntKind) (w:World) (a:Option Addr) (len cap:Nat) (zs:List Int):Prop:=
  (a=none∧len=0∧cap=0∧zs=[])∨
  ∃ x,a=some x∧len≤cap∧cap≤maxLen∧zs.length=cap∧(∀ i,i<zs.length→w.cell? (x.add i)=some (.int k (zs.getD i 0)))∧∀ n∈zs,(Lit.int k n).wf=true
set_option maxRecDepth 100000 in
theorem lifted (os:Os) (started:os.Started) (H:Type) (enc:TypeId×Value→H) :
    ReturnsInHanded {} Try.checked os 4 .any (Rows.fnGivenSpec.pre6 enc Try.prog Try.f4 Rows.fnGivenRow.domain false) (Rows.fnGivenSpec.post enc Try.prog Try.f4 false true false false):=by
  refine returnsInHanded_of_change_sized (C:=Try.checked) own started (by kernel_rfl) Try.func4
    (ChangeSpec.witness6 (enc:=enc) (C:=Try.checked) false ⟨#[],#[.slice none 0 0,.slice none 0 0],[]⟩ 8 (by kernel_rfl) (by kernel_rfl) (by kernel_rfl) (by kernel_rfl)) ?_
  intro W base args ds gs before hval0 hW hcnd hsz0 _
  have hsz:(DataW.weightsEach Try.prog (Try.f4.params.toList++Rows.fnGivenSpec.plain.varTypes Try.prog) (ds++gs)).all (·≤reachBytes)=true:=hsz0
  have hval:∀ (j:Nat) t v,Try.f4.params[j]? = some t→args[j]? = some v→Value.okWide Try.prog W .any base t v:=hval0
  have hW':=hW
  obtain⟨p,q,hA0,hV,rfl,hfz,hnd⟩:=hW
  have hA:DataW.TrodAll enc Try.prog W 0 (fun _=>true) true Try.f4.params.toList args.toList ds p:=hA0
  rw[Try.params4] at hA hval hsz
  obtain⟨v0,vs0,d0,ds0,p0,q0,hargs,rfl,rfl,h0,r0⟩:=trodAll_cons hA
  obtain⟨v1,vs1,d1,ds1,p1,q1,rfl,rfl,rfl,h1,r1⟩:=trodAll_cons r0
  obtain⟨rfl,rfl,rfl⟩:=trodAll_nil r1
  obtain rfl:args=#[v0,v1]:=by cases args;simp_all
  obtain⟨rfl,rfl⟩:=trodVars_none hV
  obtain⟨a0,len0,cap0,rfl⟩:=okWide_slice Try.underlying33 (hval 0 33 v0 rfl rfl)
  have k0:=h0
  have lt0:∀ x∈p0,x.block<W.heap.size:=by obtain⟨m,hm⟩:=k0;exact DataW.trod_lt m _ _ _ hm
  obtain⟨z0,w0⟩:∃ zs,qV .u8 W a0 len0 cap0 zs:=by
    obtain⟨fuel,hf⟩:=h0
    rcases open_ints Try.underlying33 Try.underlying5 (by kernel_rfl) hf with⟨hcs,_⟩|⟨x,l,c,zs,hcs,_,hl,hm,hz,_,hcell,hwz⟩
    · simp[Value.cells] at hcs
      obtain⟨rfl,rfl,rfl⟩:=hcs
      exact⟨[],.inl ⟨rfl,rfl,rfl,rfl⟩⟩
    · simp[Value.cells] at hcs
      obtain⟨rfl,rfl,rfl⟩:=hcs
      exact⟨zs,.inr ⟨_,rfl,hl,hm,by simpa using hz,hcell,hwz⟩⟩
  have y0:len0*1≤140737488351232:=Go.Proofs.YtelblhkbogljnaaW.PrintWords.kJ hsz (j:=0) (t:=33) rfl rfl Try.underlying33 Try.underlying5 (by kernel_rfl) (by kernel_rfl) h0
  obtain⟨a1,len1,cap1,rfl⟩:=okWide_slice Try.underlying33 (hval 1 33 v1 rfl rfl)
  have k1:=h1
  have lt1:∀ x∈p1,x.block<W.heap.size:=by obtain⟨m,hm⟩:=k1;exact DataW.trod_lt m _ _ _ hm
  obtain⟨z1,w1⟩:∃ zs,qV .u8 W a1 len1 cap1 zs:=by
    obtain⟨fuel,hf⟩:=h1
    rcases open_ints Try.underlying33 Try.underlying5 (by kernel_rfl) hf with⟨hcs,_⟩|⟨x,l,c,zs,hcs,_,hl,hm,hz,_,hcell,hwz⟩
    · simp[Value.cells] at hcs
      obtain⟨rfl,rfl,rfl⟩:=hcs
      exact⟨[],.inl ⟨rfl,rfl,rfl,rfl⟩⟩
    · simp[Value.cells] at hcs
      obtain⟨rfl,rfl,rfl⟩:=hcs
      exact⟨zs,.inr ⟨_,rfl,hl,hm,by simpa using hz,hcell,hwz⟩⟩
  have y1:len1*1≤140737488351232:=Go.Proofs.YtelblhkbogljnaaW.PrintWords.kJ hsz (j:=1) (t:=33) rfl rfl Try.underlying33 Try.underlying5 (by kernel_rfl) (by kernel_rfl) h1
  clear hA0 hval0 hsz0 hsz
  obtain⟨l0,rfl,hr0,hm0,hw0,hc0⟩:=bU.ofRowC w0
  obtain⟨l1,rfl,hr1,hm1,hw1,hc1⟩:=bU.ofRowC w1
  refine(kZ _ _ l0 _ _ l1 W (mM hw0) (Kd.gY (d:=(0:Int)) (h1:=fun _=>rfl) hr0) hc0 (mM hw1) (Kd.gY (d:=(0:Int)) (h1:=fun _=>rfl) hr1) hc1 (by omega) (by omega)).mono fun e W' ⟨he,bel⟩=>?_
  subst he
  exact⟨_,rfl,_,_,_,[],_,[],hW',trodAll_mk1 (shut_bool Try.underlying4 _),(trodAll_cons_mk (Below.trod laidOut (by kernel_rfl) (of_decide_eq_true (by kernel_rfl)) k0 bel lt0) (trodAll_cons_mk (Below.trod laidOut (by kernel_rfl) (of_decide_eq_true (by kernel_rfl)) k1 bel lt1) trodAll_mk0)),rfl,bel.frame _,fun h=>by cases h⟩
theorem over:Rows.fnGivenRow.holds Try.pinned (OpenSpec.ofChange Rows.fnGivenSpec):=
  OpenClaim.holds_of_wide 4 Try.f4 rfl rfl rfl rfl rfl rfl rfl ⟨rfl,rfl,rfl,rfl,rfl⟩ rfl rfl rfl rfl rfl (by kernel_rfl) Try.func4 (by kernel_rfl)
    (of_decide_eq_true (by kernel_rfl)) (by unfold Func.isWrapper;first|(rw[if_pos (by decide +kernel)];kernel_rfl)|(rw[if_neg (by decide +kernel)];exact⟨rfl,rfl⟩))
    (fun os started H enc _=>lifted os started H enc)
theorem proved:Rows.FnGivenSaid:=over
#print axioms proved
end Go.Proofs.Ytelblhkbogljnaa.fnGiven
namespace Go.Proofs.Ytelblhkbogljnaa
theorem fnGiven_holds:Rows.FnGivenSaid:=fnGiven.proved
end Go.Proofs.Ytelblhkbogljnaa
