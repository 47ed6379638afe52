import Derived.Test.YtdghdjachbbdmaaDoorSGoo1
import Derived.Test.YtdghdjachbbdmaaDoorProg
import Derived.Below
import Derived.Deep.Draws
import Derived.Deep.AppendLies
import Derived.Maps.AppendAt
import Derived.OwnWalk
import Derived.Laws.BytesArg
import Derived.Laws.MakeOwn
import Derived.Laws.OwnMore
import Derived.Deep.OwnRows
import Derived.Tactics
import Derived.Lib.ConvBytes
import Derived.Laws.Slices
import Derived.WalkKit
import Derived.KernelRfl
import Derived.RowKit3
import Derived.Deep.LoopGhost
import Derived.Deep.QuietTactic
import Derived.BigQuiet
import Derived.WideLaws
import Derived.Deep.DeepCutAuto
import Derived.Deep.CutBlock
import Derived.Deep.RegionHeld3
import Derived.Laws.Rows
import Derived.Lib.AppendStr
import Derived.ArgAppend
import Derived.Laws.IdiomCopy
import Derived.OrdersHeld
import Derived.Laws.BitsLemmas
import Derived.RowKit
namespace Go.Proofs.YtdghdjachbbdmaaDoor
theorem apu_:(∀ (a:Act) (v:Value),Act.put a none v=a)∧(∀ (t:Array Value) (d:List Deferred) (N:Tmp) (v:Value),Act.put ⟨t,d⟩ (some N) v=⟨t.setIfInBounds N v,d⟩)∧(∀ (l:List Value) (i:Nat) (x:Value),l.toArray.setIfInBounds i x = (l.set i x).toArray)∧(∀ (a b:Value) (l:List Value),(a::l).set 0 b=b::l)∧(∀ (a b:Value) (l:List Value) (n:Nat),(a::l).set (n+1) b=a::l.set n b)∧(∀ n:Int,IntKind.i64.wrap n=Go.RowKit.wrap64 n)∧(∀ n:Int,IntKind.i32.wrap n=Go.RowKit.wrap32 n):=
  ⟨fun _ _=>rfl,fun _ _ _ _=>rfl,fun _ _ _=>List.setIfInBounds_toArray ..,fun _ _ _=>rfl,fun _ _ _ _=>rfl,fun n=>by unfold Go.RowKit.wrap64;exact IntKind.wrap_i64 n,fun n=>by unfold Go.RowKit.wrap32;exact IntKind.wrap_i32 n⟩
end Go.Proofs.YtdghdjachbbdmaaDoor
namespace Go.Proofs
open Go Go.RowKit
theorem amp_:(∀ {α β:Type} (f:α→β) (l:List α),Array.map f l.toArray = (l.map f).toArray)∧(∀ {α β:Type} (f:α→β) (a:α) (l:List α),List.map f (a::l)=f a::List.map f l)∧(∀ {α β:Type} (f:α→β),List.map f []=[]):=⟨fun _ _=>List.map_toArray ..,fun _ _ _=>rfl,fun _=>rfl⟩
theorem ald_:(∀ {α:Type} (i:Nat) (l:List α),(l.drop i).length=l.length - i)∧(∀ {α:Type} (i:Nat) (l:List α),(l.take i).length=min i l.length):=⟨fun _ _=>List.length_drop ..,fun _ _=>List.length_take ..⟩
end Go.Proofs
namespace Go.Proofs.YtdghdjachbbdmaaDoor.PFre
open Go.RowKit Go.Proofs.YtdghdjachbbdmaaDoorW.PrintWords Go.Proofs.YtdghdjachbbdmaaDoorW.PrintLast Go.Proofs.YtdghdjachbbdmaaDoorW.PrintMore
attribute [local go_sem] bG bF bQ bR bB bC bH bE
set_option linter.unusedVariables false
set_option linter.unusedSimpArgs false
def errW:Option Int→Value
 | none=>.nilIface
 | some c=>.iface 0 (.int .i64 c)
theorem dD:errW none = .nilIface:=rfl
theorem dG (c:Int):errW (some c) = .iface 0 (.int .i64 c):=rfl
theorem info4:(Tryd.prog.info? 4).map (fun i=>(i.zero,i.size,i.bytes))=some (some (.bool false),1,1):=by kernel_rfl
theorem oU:(Tryd.prog.info? 47).map (fun i=>(i.zero,i.size,i.bytes))=some (some (.agg #[(.string ⟨#[]⟩),(.int .i64 0),(.slice none 0 0)]),3,48):=by kernel_rfl
theorem nC:(Tryd.prog.info? 51).map (fun i=>(i.zero,i.size,i.bytes))=some (some (.agg #[(.int .i64 0),(.int .i64 0),(.int .i64 0),(.bool false)]),4,32):=by kernel_rfl
theorem d9:(Tryd.prog.info? 72).map (fun i=>(i.zero,i.size,i.bytes))=some (some (.agg #[(.int .i64 0),(.int .i64 0)]),2,16):=by kernel_rfl
structure S80 where
 f0:Int
 f1:Int
def z80:S80:=⟨(0:Int),(0:Int)⟩
def k80:Kd S80:=Kd.iso (Kd.pair (Kd.int .i64) (Kd.int .i64)) (fun x:S80=>(x.f0,x.f1))
theorem ng {w:World} {x:S80} {cs:List Value} (h:k80.K w x cs):cs=[.int .i64 x.f0,.int .i64 x.f1]:=by
 obtain⟨_,_,rfl,rfl,rfl⟩:=h
 exact rfl
def eD (xs:List S80) (i:Int):S80:=xs.getD i.toNat z80
theorem o6 {w:World} {A:Option Addr} {n:Nat} {xs:List S80} (h:Kd.C k80 w A n xs) (i:Int) (h0:0≤i) (h1:i<n):∃ ad,A=some ad∧w.cell? (ad.add (i.toNat*2))=some (.int .i64 (eD xs i).f0)∧w.cell? ⟨(ad.add (i.toNat*2)).block,(ad.add (i.toNat*2)).off+1,none⟩=some (.int .i64 (eD xs i).f1):=by
 obtain⟨ad,c,e,_,hK,hc0⟩:=Kd.iY h z80 i h0 h1
 have hc:∀ j u,c[j]? = some u→w.cell? (ad.add (i.toNat*2+j))=some u:=hc0
 obtain rfl:=ng hK
 exact⟨ad,e,hc 0 _ rfl,by rw[← cZ _ _ 1 (by omega)];exact hc 1 _ rfl⟩
structure S104 where
 f0:Int
 f1:Int
 f2:Int
 f3:Bool
def z104:S104:=⟨(0:Int),(0:Int),(0:Int),false⟩
def gB:Kd S104:=Kd.iso (Kd.pair (Kd.int .i64) (Kd.pair (Kd.int .i64) (Kd.pair (Kd.int .i64) Kd.bool))) (fun x:S104=>(x.f0,x.f1,x.f2,x.f3))
theorem l8 {w:World} {x:S104} {cs:List Value} (h:gB.K w x cs):cs=[.int .i64 x.f0,.int .i64 x.f1,.int .i64 x.f2,.bool x.f3]:=by
 obtain⟨_,_,rfl,rfl,⟨_,_,rfl,rfl,⟨_,_,rfl,rfl,rfl⟩⟩⟩:=h
 exact rfl
def bY (xs:List S104) (i:Int):S104:=xs.getD i.toNat z104
theorem nW {w:World} {A:Option Addr} {n:Nat} {xs:List S104} (h:Kd.C gB w A n xs) (i:Int) (h0:0≤i) (h1:i<n):∃ ad,A=some ad∧w.cell? (ad.add (i.toNat*4))=some (.int .i64 (bY xs i).f0)∧w.cell? ⟨(ad.add (i.toNat*4)).block,(ad.add (i.toNat*4)).off+1,none⟩=some (.int .i64 (bY xs i).f1)∧w.cell? ⟨(ad.add (i.toNat*4)).block,(ad.add (i.toNat*4)).off+2,none⟩=some (.int .i64 (bY xs i).f2)∧w.cell? ⟨(ad.add (i.toNat*4)).block,(ad.add (i.toNat*4)).off+3,none⟩=some (.bool (bY xs i).f3):=by
 obtain⟨ad,c,e,_,hK,hc0⟩:=Kd.iY h z104 i h0 h1
 have hc:∀ j u,c[j]? = some u→w.cell? (ad.add (i.toNat*4+j))=some u:=hc0
 obtain rfl:=l8 hK
 exact⟨ad,e,hc 0 _ rfl,by rw[← cZ _ _ 1 (by omega)];exact hc 1 _ rfl,by rw[← cZ _ _ 2 (by omega)];exact hc 2 _ rfl,by rw[← cZ _ _ 3 (by omega)];exact hc 3 _ rfl⟩
structure S61 where
 f0:(List S104)
def z61:S61:=⟨([]:List S104)⟩
def k61:Kd S61:=Kd.iso (Kd.slice 104 gB) (fun x:S61=>x.f0)
theorem mI {w:World} {x:S61} {cs:List Value} (h:k61.K w x cs):∃ A0 c0,cs=[.slice A0 x.f0.length c0]∧x.f0.length≤c0∧gB.C w A0 x.f0.length x.f0:=by
 obtain⟨A0,c0,rfl,l0,g0⟩:=h
 exact⟨A0,c0,rfl,l0,g0⟩
structure S63 where
 f0:ByteArray
 f1:Int
 f2:S61
def z63:S63:=⟨(⟨#[]⟩:ByteArray),(0:Int),z61⟩
def k63:Kd S63:=Kd.iso (Kd.pair Kd.string (Kd.pair (Kd.int .i64) k61)) (fun x:S63=>(x.f0,x.f1,x.f2))
theorem mJ {w:World} {x:S63} {cs:List Value} (h:k63.K w x cs):∃ A2 c2,cs=[.string x.f0,.int .i64 x.f1,.slice A2 x.f2.f0.length c2]∧x.f2.f0.length≤c2∧gB.C w A2 x.f2.f0.length x.f2.f0:=by
 obtain⟨_,_,rfl,rfl,⟨_,_,rfl,rfl,s2⟩⟩:=h
 obtain⟨A2,c2,rfl,l2,g2⟩:=mI s2
 exact⟨A2,c2,rfl,l2,g2⟩
def bP (xs:List S63) (i:Int):S63:=xs.getD i.toNat z63
theorem ky {w:World} {A:Option Addr} {n:Nat} {xs:List S63} (h:Kd.C k63 w A n xs) (i:Int) (h0:0≤i) (h1:i<n):∃ ad A2 c2,A=some ad∧w.cell? (ad.add (i.toNat*3))=some (.string (bP xs i).f0)∧w.cell? ⟨(ad.add (i.toNat*3)).block,(ad.add (i.toNat*3)).off+1,none⟩=some (.int .i64 (bP xs i).f1)∧w.cell? ⟨(ad.add (i.toNat*3)).block,(ad.add (i.toNat*3)).off+2,none⟩=some (.slice A2 (bP xs i).f2.f0.length c2)∧(bP xs i).f2.f0.length≤c2∧gB.C w A2 (bP xs i).f2.f0.length (bP xs i).f2.f0:=by
 obtain⟨ad,c,e,_,hK,hc0⟩:=Kd.iY h z63 i h0 h1
 have hc:∀ j u,c[j]? = some u→w.cell? (ad.add (i.toNat*3+j))=some u:=hc0
 obtain⟨A2,c2,rfl,l2,g2⟩:=mJ hK
 exact⟨ad,A2,c2,e,hc 0 _ rfl,by rw[← cZ _ _ 1 (by omega)];exact hc 1 _ rfl,by rw[← cZ _ _ 2 (by omega)];exact hc 2 _ rfl,l2,g2⟩
structure S72 where
 f0:Int
 f1:Int
def z72:S72:=⟨(0:Int),(0:Int)⟩
def k72:Kd S72:=Kd.iso (Kd.pair (Kd.int .i64) (Kd.int .i64)) (fun x:S72=>(x.f0,x.f1))
theorem nk {w:World} {x:S72} {cs:List Value} (h:k72.K w x cs):cs=[.int .i64 x.f0,.int .i64 x.f1]:=by
 obtain⟨_,_,rfl,rfl,rfl⟩:=h
 exact rfl
theorem ji {w:World} {base:Nat} {ok:Nat→Prop} {x:S72} {cs:List Value} (h:k72.M w base ok x cs):cs=[.int .i64 x.f0,.int .i64 x.f1]:=by
 obtain⟨_,_,rfl,rfl,rfl⟩:=h
 exact rfl
theorem ib (w:World) (base:Nat) (ok:Nat→Prop) (x:S72)  : k72.M w base ok x [.int .i64 x.f0,.int .i64 x.f1]:=⟨[.int .i64 x.f0],[.int .i64 x.f1],rfl,rfl,rfl⟩
def aH (xs:List S72) (i:Int):S72:=xs.getD i.toNat z72
theorem bI {w:World} {A:Option Addr} {n:Nat} {xs:List S72} (h:Kd.C k72 w A n xs) (i:Int) (h0:0≤i) (h1:i<n):∃ ad,A=some ad∧w.cell? (ad.add (i.toNat*2))=some (.int .i64 (aH xs i).f0)∧w.cell? ⟨(ad.add (i.toNat*2)).block,(ad.add (i.toNat*2)).off+1,none⟩=some (.int .i64 (aH xs i).f1):=by
 obtain⟨ad,c,e,_,hK,hc0⟩:=Kd.iY h z72 i h0 h1
 have hc:∀ j u,c[j]? = some u→w.cell? (ad.add (i.toNat*2+j))=some u:=hc0
 obtain rfl:=nk hK
 exact⟨ad,e,hc 0 _ rfl,by rw[← cZ _ _ 1 (by omega)];exact hc 1 _ rfl⟩
structure S51 where
 f0:Int
 f1:Int
 f2:Int
 f3:Bool
def z51:S51:=⟨(0:Int),(0:Int),(0:Int),false⟩
def k51:Kd S51:=Kd.iso (Kd.pair (Kd.int .i64) (Kd.pair (Kd.int .i64) (Kd.pair (Kd.int .i64) Kd.bool))) (fun x:S51=>(x.f0,x.f1,x.f2,x.f3))
theorem mq {w:World} {x:S51} {cs:List Value} (h:k51.K w x cs):cs=[.int .i64 x.f0,.int .i64 x.f1,.int .i64 x.f2,.bool x.f3]:=by
 obtain⟨_,_,rfl,rfl,⟨_,_,rfl,rfl,⟨_,_,rfl,rfl,rfl⟩⟩⟩:=h
 exact rfl
theorem jc {w:World} {base:Nat} {ok:Nat→Prop} {x:S51} {cs:List Value} (h:k51.M w base ok x cs):cs=[.int .i64 x.f0,.int .i64 x.f1,.int .i64 x.f2,.bool x.f3]:=by
 obtain⟨_,_,rfl,rfl,⟨_,_,rfl,rfl,⟨_,_,rfl,rfl,rfl⟩⟩⟩:=h
 exact rfl
theorem lD (w:World) (base:Nat) (ok:Nat→Prop) (x:S51)  : k51.M w base ok x [.int .i64 x.f0,.int .i64 x.f1,.int .i64 x.f2,.bool x.f3]:=⟨[.int .i64 x.f0],[.int .i64 x.f1,.int .i64 x.f2,.bool x.f3],rfl,rfl,⟨[.int .i64 x.f1],[.int .i64 x.f2,.bool x.f3],rfl,rfl,⟨[.int .i64 x.f2],[.bool x.f3],rfl,rfl,rfl⟩⟩⟩
def ax (xs:List S51) (i:Int):S51:=xs.getD i.toNat z51
theorem cK {w:World} {A:Option Addr} {n:Nat} {xs:List S51} (h:Kd.C k51 w A n xs) (i:Int) (h0:0≤i) (h1:i<n):∃ ad,A=some ad∧w.cell? (ad.add (i.toNat*4))=some (.int .i64 (ax xs i).f0)∧w.cell? ⟨(ad.add (i.toNat*4)).block,(ad.add (i.toNat*4)).off+1,none⟩=some (.int .i64 (ax xs i).f1)∧w.cell? ⟨(ad.add (i.toNat*4)).block,(ad.add (i.toNat*4)).off+2,none⟩=some (.int .i64 (ax xs i).f2)∧w.cell? ⟨(ad.add (i.toNat*4)).block,(ad.add (i.toNat*4)).off+3,none⟩=some (.bool (ax xs i).f3):=by
 obtain⟨ad,c,e,_,hK,hc0⟩:=Kd.iY h z51 i h0 h1
 have hc:∀ j u,c[j]? = some u→w.cell? (ad.add (i.toNat*4+j))=some u:=hc0
 obtain rfl:=mq hK
 exact⟨ad,e,hc 0 _ rfl,by rw[← cZ _ _ 1 (by omega)];exact hc 1 _ rfl,by rw[← cZ _ _ 2 (by omega)];exact hc 2 _ rfl,by rw[← cZ _ _ 3 (by omega)];exact hc 3 _ rfl⟩
structure S45 where
 f0:(List S51)
def z45:S45:=⟨([]:List S51)⟩
def k45:Kd S45:=Kd.iso (Kd.slice 51 k51) (fun x:S45=>x.f0)
theorem mF {w:World} {x:S45} {cs:List Value} (h:k45.K w x cs):∃ A0 c0,cs=[.slice A0 x.f0.length c0]∧x.f0.length≤c0∧k51.C w A0 x.f0.length x.f0:=by
 obtain⟨A0,c0,rfl,l0,g0⟩:=h
 exact⟨A0,c0,rfl,l0,g0⟩
theorem l9 {w:World} {base:Nat} {ok:Nat→Prop} {x:S45} {cs:List Value} (h:k45.M w base ok x cs):∃ v0,cs=[v0]∧k51.R 51 w base ok v0 x.f0:=by
 obtain⟨v0,rfl,g0⟩:=h
 exact⟨v0,rfl,g0⟩
theorem oo (w:World) (base:Nat) (ok:Nat→Prop) (x:S45) {v0:Value} (g0:k51.R 51 w base ok v0 x.f0):k45.M w base ok x [v0]:=⟨v0,rfl,g0⟩
structure S47 where
 f0:ByteArray
 f1:Int
 f2:S45
def z47:S47:=⟨(⟨#[]⟩:ByteArray),(0:Int),z45⟩
def k47:Kd S47:=Kd.iso (Kd.pair Kd.string (Kd.pair (Kd.int .i64) k45)) (fun x:S47=>(x.f0,x.f1,x.f2))
theorem mY {w:World} {x:S47} {cs:List Value} (h:k47.K w x cs):∃ A2 c2,cs=[.string x.f0,.int .i64 x.f1,.slice A2 x.f2.f0.length c2]∧x.f2.f0.length≤c2∧k51.C w A2 x.f2.f0.length x.f2.f0:=by
 obtain⟨_,_,rfl,rfl,⟨_,_,rfl,rfl,s2⟩⟩:=h
 obtain⟨A2,c2,rfl,l2,g2⟩:=mF s2
 exact⟨A2,c2,rfl,l2,g2⟩
theorem iX {w:World} {base:Nat} {ok:Nat→Prop} {x:S47} {cs:List Value} (h:k47.M w base ok x cs):∃ v2,cs=[.string x.f0,.int .i64 x.f1,v2]∧k51.R 51 w base ok v2 x.f2.f0:=by
 obtain⟨_,_,rfl,rfl,⟨_,_,rfl,rfl,s2⟩⟩:=h
 obtain⟨v2,rfl,g2⟩:=l9 s2
 exact⟨v2,rfl,g2⟩
theorem lG (w:World) (base:Nat) (ok:Nat→Prop) (x:S47) {v2:Value} (g2:k51.R 51 w base ok v2 x.f2.f0):k47.M w base ok x [.string x.f0,.int .i64 x.f1,v2]:=⟨[.string x.f0],[.int .i64 x.f1,v2],rfl,rfl,⟨[.int .i64 x.f1],[v2],rfl,rfl,(oo w base ok x.f2 g2)⟩⟩
def az (xs:List S47) (i:Int):S47:=xs.getD i.toNat z47
theorem dQ {w:World} {A:Option Addr} {n:Nat} {xs:List S47} (h:Kd.C k47 w A n xs) (i:Int) (h0:0≤i) (h1:i<n):∃ ad A2 c2,A=some ad∧w.cell? (ad.add (i.toNat*3))=some (.string (az xs i).f0)∧w.cell? ⟨(ad.add (i.toNat*3)).block,(ad.add (i.toNat*3)).off+1,none⟩=some (.int .i64 (az xs i).f1)∧w.cell? ⟨(ad.add (i.toNat*3)).block,(ad.add (i.toNat*3)).off+2,none⟩=some (.slice A2 (az xs i).f2.f0.length c2)∧(az xs i).f2.f0.length≤c2∧k51.C w A2 (az xs i).f2.f0.length (az xs i).f2.f0:=by
 obtain⟨ad,c,e,_,hK,hc0⟩:=Kd.iY h z47 i h0 h1
 have hc:∀ j u,c[j]? = some u→w.cell? (ad.add (i.toNat*3+j))=some u:=hc0
 obtain⟨A2,c2,rfl,l2,g2⟩:=mY hK
 exact⟨ad,A2,c2,e,hc 0 _ rfl,by rw[← cZ _ _ 1 (by omega)];exact hc 1 _ rfl,by rw[← cZ _ _ 2 (by omega)];exact hc 2 _ rfl,l2,g2⟩
structure S32 where
 f0:Int
 f1:(List S72)
 f2:(List S72)
attribute [local go_sem] bG bF bQ bR bB bC bH bE
set_option linter.unusedVariables false
set_option linter.unusedSimpArgs false
def laws_szExtentS.f (l0:List (S80)) (a1:Int):Option (Int):=if (wrap64 (a1 - (l0.length:Int)))<0 then (some (-1)) else (some (wrap64 (a1 - (l0.length:Int))))
set_option maxHeartbeats 8000000 in
set_option maxRecDepth 100000 in
theorem laws_szExtentS.calls (A0:Option Addr) (c0:Nat) (l0:List (S80)) (a1:Int) (r:Int) (w:World) (hr0:Kd.C k80 w A0 l0.length l0) (hc0:l0.length≤c0) (h:laws_szExtentS.f l0 a1=some r) :
  Calls Tryd.prog 22 #[.slice A0 l0.length c0,.int .i64 a1] w fun e w'=>e = .returned (.int .i64 r)∧Drawn0 w w':=by
 have HR0:=av hr0
 have HC0:=av hc0
 clear hr0 hc0
 have H:(if (wrap64 (a1 - (l0.length:Int)))<0 then (some (-1)) else (some (wrap64 (a1 - (l0.length:Int)))))=some r:=h
 clear h
 by_cases c3:(wrap64 (a1 - (l0.length:Int)))<0
 ·rw[if_pos c3] at H
  have c3b0:decide ((wrap64 (a1 - (l0.length:Int)))<0)=true:=decide_eq_true c3
  clear c3
  obtain rfl:=Option.some.inj H
  go_enter Tryd.func22,Tryd.ntmps22
  go_wp2
  go_ret
  exact⟨by first|rfl|(simp;done)|(simp[*];done),by repeat(first|exact Drawn0.refl _|apply Drawn0.step)⟩
 ·rw[if_neg c3] at H
  have c3b0:decide ((wrap64 (a1 - (l0.length:Int)))<0)=false:=decide_eq_false c3
  clear c3
  obtain rfl:=Option.some.inj H
  go_enter Tryd.func22,Tryd.ntmps22
  go_wp2
  go_ret
  exact⟨by first|rfl|(simp;done)|(simp[*];done),by repeat(first|exact Drawn0.refl _|apply Drawn0.step)⟩
def laws_szFree.f (a0_0:Int) (l0_1:List (S80)) (l0_2:List (S80)) (a1:Int):Option (Int):=(laws_szExtentS.f l0_1 a1).bind fun t102=>(if t102<0 then (some (-1)) else ((laws_szExtentS.f l0_2 t102).bind fun t103=>(if t103<0 then (some (-1)) else (some t103))))
set_option maxHeartbeats 8000000 in
set_option maxRecDepth 100000 in
theorem laws_szFree.calls (a0_0:Int) (A0_1:Option Addr) (c0_1:Nat) (l0_1:List (S80)) (A0_2:Option Addr) (c0_2:Nat) (l0_2:List (S80)) (a1:Int) (r:Int) (w:World) (hr0_1:Kd.C k80 w A0_1 l0_1.length l0_1) (hc0_1:l0_1.length≤c0_1) (hr0_2:Kd.C k80 w A0_2 l0_2.length l0_2) (hc0_2:l0_2.length≤c0_2) (h:laws_szFree.f a0_0 l0_1 l0_2 a1=some r) :
  Calls Tryd.prog 9 #[.agg #[.int .i64 a0_0,.slice A0_1 l0_1.length c0_1,.slice A0_2 l0_2.length c0_2],.int .i64 a1] w fun e w'=>e = .returned (.int .i64 r)∧Below w.heap.size w w':=by
 have hu24:=Tryd.underlying24
 have HR0_1:=av hr0_1
 have HC0_1:=av hc0_1
 clear hr0_1 hc0_1
 have HR0_2:=av hr0_2
 have HC0_2:=av hc0_2
 clear hr0_2 hc0_2
 have HB:=av (Below.refl w.heap.size w)
 have H:((laws_szExtentS.f l0_1 a1).bind fun t102=>(if t102<0 then (some (-1)) else ((laws_szExtentS.f l0_2 t102).bind fun t103=>(if t103<0 then (some (-1)) else (some t103)))))=some r:=h
 clear h
 replace H:=Option.bind_eq_some_iff.mp H
 obtain⟨t102,A30,H⟩:=H
 replace H:(if t102<0 then (some (-1)) else ((laws_szExtentS.f l0_2 t102).bind fun t103=>(if t103<0 then (some (-1)) else (some t103))))=some r:=H
 have A3:=av A30
 clear A30
 by_cases c4:t102<0
 ·rw[if_pos c4] at H
  have c4b0:decide (t102<0)=true:=decide_eq_true c4
  clear c4
  obtain rfl:=Option.some.inj H
  go_enter Tryd.func9,Tryd.ntmps9
  go_wp2_with (first|((with_reducible refine aJ (N:=2) rfl ?_);refine aI ?hg (N:=2) ?hd (cs:=#[.int .i64 a0_0,.slice A0_1 l0_1.length c0_1,.slice A0_2 l0_2.length c0_2]) (t:=24) ?hr ?_;(case hd=>rfl);(case hg=>rfl);(case hr=>first|(go_simp;done)|(go_simp;rfl));intro gb101 hg w5 hbox hb;have BK101:=av (hbox);have GW101:=av ((by rw[hg];exact(ay (by with_reducible repeat(first|exact HB.out|apply af|apply aa|apply ae))):w.heap.size≤gb101));have GE101:=av ((by rw[hg];exact(ay (by with_reducible repeat(first|exact HB.out|apply af|apply aa|apply ae))):w.heap.size≤gb101));replace HB:=av (aA (by with_reducible repeat(first|exact HB.out|apply af|apply aa|apply ae)) hb);clear hb hbox hg;have hcz6_0:w5.cell? ⟨gb101,0,none⟩=some (.int .i64 a0_0):=(ag BK101.out 0).trans rfl;have hcz6_1:w5.cell? ⟨gb101,1,none⟩=some (.slice A0_1 l0_1.length c0_1):=(ag BK101.out 1).trans rfl;have hcz6_2:w5.cell? ⟨gb101,2,none⟩=some (.slice A0_2 l0_2.length c0_2):=(ag BK101.out 2).trans rfl;have hfz6_0:=ah BK101.out 0;have hfz6_1:=ah BK101.out 1;have hfz6_2:=ah BK101.out 2)|((with_reducible refine aK (f:=22) rfl ?_);refine bn (some 8) rfl rfl Tryd.func22 (by kernel_rfl) rfl #[.slice A0_1 l0_1.length c0_1,.int .i64 a1] rfl (by(try simp only[amp_]);first|done|rfl|(simp only[ald_];rfl)) ?_;(with_reducible refine(laws_szExtentS.calls _ _ l0_1 a1 t102 _ ?side1 ?side2 A3.out).mono ?_);(case side1=>repeat(first|exact(Kd.aQ HR0_1.out HB.out)|(with_reducible first|apply Kd.aW|apply Kd.aV|apply Kd.aY)));(case side2=>exact HC0_1.out);rintro e w' ⟨rfl,⟨nd,rfl⟩⟩;refine⟨_,rfl,?_⟩))
  go_ret
  exact⟨by first|rfl|(simp <;> rfl)|(simp[*] <;> rfl),by with_reducible repeat(first|exact HB.out|apply af|apply aa|apply ae|refine ai ?_ GE101.out)⟩
 ·rw[if_neg c4] at H
  have c4b0:decide (t102<0)=false:=decide_eq_false c4
  clear c4
  replace H:=Option.bind_eq_some_iff.mp H
  obtain⟨t103,A70,H⟩:=H
  replace H:(if t103<0 then (some (-1)) else (some t103))=some r:=H
  have A7:=av A70
  clear A70
  by_cases c8:t103<0
  ·rw[if_pos c8] at H
   have c8b0:decide (t103<0)=true:=decide_eq_true c8
   clear c8
   obtain rfl:=Option.some.inj H
   go_enter Tryd.func9,Tryd.ntmps9
   go_wp2_with (first|((with_reducible refine aJ (N:=2) rfl ?_);refine aI ?hg (N:=2) ?hd (cs:=#[.int .i64 a0_0,.slice A0_1 l0_1.length c0_1,.slice A0_2 l0_2.length c0_2]) (t:=24) ?hr ?_;(case hd=>rfl);(case hg=>rfl);(case hr=>first|(go_simp;done)|(go_simp;rfl));intro gb101 hg w9 hbox hb;have BK101:=av (hbox);have GW101:=av ((by rw[hg];exact(ay (by with_reducible repeat(first|exact HB.out|apply af|apply aa|apply ae))):w.heap.size≤gb101));have GE101:=av ((by rw[hg];exact(ay (by with_reducible repeat(first|exact HB.out|apply af|apply aa|apply ae))):w.heap.size≤gb101));replace HB:=av (aA (by with_reducible repeat(first|exact HB.out|apply af|apply aa|apply ae)) hb);clear hb hbox hg;have hcz10_0:w9.cell? ⟨gb101,0,none⟩=some (.int .i64 a0_0):=(ag BK101.out 0).trans rfl;have hcz10_1:w9.cell? ⟨gb101,1,none⟩=some (.slice A0_1 l0_1.length c0_1):=(ag BK101.out 1).trans rfl;have hcz10_2:w9.cell? ⟨gb101,2,none⟩=some (.slice A0_2 l0_2.length c0_2):=(ag BK101.out 2).trans rfl;have hfz10_0:=ah BK101.out 0;have hfz10_1:=ah BK101.out 1;have hfz10_2:=ah BK101.out 2)|((with_reducible refine aK (f:=22) rfl ?_);refine bn (some 8) rfl rfl Tryd.func22 (by kernel_rfl) rfl #[.slice A0_1 l0_1.length c0_1,.int .i64 a1] rfl (by(try simp only[amp_]);first|done|rfl|(simp only[ald_];rfl)) ?_;(with_reducible refine(laws_szExtentS.calls _ _ l0_1 a1 t102 _ ?side1 ?side2 A3.out).mono ?_);(case side1=>repeat(first|exact(Kd.aQ HR0_1.out HB.out)|(with_reducible first|apply Kd.aW|apply Kd.aV|apply Kd.aY)));(case side2=>exact HC0_1.out);rintro e w' ⟨rfl,⟨nd,rfl⟩⟩;refine⟨_,rfl,?_⟩)|((with_reducible refine aK (f:=22) rfl ?_);refine bn (some 14) rfl rfl Tryd.func22 (by kernel_rfl) rfl #[.slice A0_2 l0_2.length c0_2,.int .i64 t102] rfl (by(try simp only[amp_]);first|done|rfl|(simp only[ald_];rfl)) ?_;(with_reducible refine(laws_szExtentS.calls _ _ l0_2 t102 t103 _ ?side1 ?side2 A7.out).mono ?_);(case side1=>repeat(first|exact(Kd.aQ HR0_2.out (by with_reducible repeat(first|exact HB.out|apply af|apply aa|apply ae|refine ai ?_ GE101.out)))|(with_reducible first|apply Kd.aW|apply Kd.aV|apply Kd.aY)));(case side2=>exact HC0_2.out);rintro e w' ⟨rfl,⟨nd,rfl⟩⟩;refine⟨_,rfl,?_⟩))
   go_ret
   exact⟨by first|rfl|(simp <;> rfl)|(simp[*] <;> rfl),by with_reducible repeat(first|exact HB.out|apply af|apply aa|apply ae|refine ai ?_ GE101.out)⟩
  ·rw[if_neg c8] at H
   have c8b0:decide (t103<0)=false:=decide_eq_false c8
   clear c8
   obtain rfl:=Option.some.inj H
   go_enter Tryd.func9,Tryd.ntmps9
   go_wp2_with (first|((with_reducible refine aJ (N:=2) rfl ?_);refine aI ?hg (N:=2) ?hd (cs:=#[.int .i64 a0_0,.slice A0_1 l0_1.length c0_1,.slice A0_2 l0_2.length c0_2]) (t:=24) ?hr ?_;(case hd=>rfl);(case hg=>rfl);(case hr=>first|(go_simp;done)|(go_simp;rfl));intro gb101 hg w11 hbox hb;have BK101:=av (hbox);have GW101:=av ((by rw[hg];exact(ay (by with_reducible repeat(first|exact HB.out|apply af|apply aa|apply ae))):w.heap.size≤gb101));have GE101:=av ((by rw[hg];exact(ay (by with_reducible repeat(first|exact HB.out|apply af|apply aa|apply ae))):w.heap.size≤gb101));replace HB:=av (aA (by with_reducible repeat(first|exact HB.out|apply af|apply aa|apply ae)) hb);clear hb hbox hg;have hcz12_0:w11.cell? ⟨gb101,0,none⟩=some (.int .i64 a0_0):=(ag BK101.out 0).trans rfl;have hcz12_1:w11.cell? ⟨gb101,1,none⟩=some (.slice A0_1 l0_1.length c0_1):=(ag BK101.out 1).trans rfl;have hcz12_2:w11.cell? ⟨gb101,2,none⟩=some (.slice A0_2 l0_2.length c0_2):=(ag BK101.out 2).trans rfl;have hfz12_0:=ah BK101.out 0;have hfz12_1:=ah BK101.out 1;have hfz12_2:=ah BK101.out 2)|((with_reducible refine aK (f:=22) rfl ?_);refine bn (some 8) rfl rfl Tryd.func22 (by kernel_rfl) rfl #[.slice A0_1 l0_1.length c0_1,.int .i64 a1] rfl (by(try simp only[amp_]);first|done|rfl|(simp only[ald_];rfl)) ?_;(with_reducible refine(laws_szExtentS.calls _ _ l0_1 a1 t102 _ ?side1 ?side2 A3.out).mono ?_);(case side1=>repeat(first|exact(Kd.aQ HR0_1.out HB.out)|(with_reducible first|apply Kd.aW|apply Kd.aV|apply Kd.aY)));(case side2=>exact HC0_1.out);rintro e w' ⟨rfl,⟨nd,rfl⟩⟩;refine⟨_,rfl,?_⟩)|((with_reducible refine aK (f:=22) rfl ?_);refine bn (some 14) rfl rfl Tryd.func22 (by kernel_rfl) rfl #[.slice A0_2 l0_2.length c0_2,.int .i64 t102] rfl (by(try simp only[amp_]);first|done|rfl|(simp only[ald_];rfl)) ?_;(with_reducible refine(laws_szExtentS.calls _ _ l0_2 t102 t103 _ ?side1 ?side2 A7.out).mono ?_);(case side1=>repeat(first|exact(Kd.aQ HR0_2.out (by with_reducible repeat(first|exact HB.out|apply af|apply aa|apply ae|refine ai ?_ GE101.out)))|(with_reducible first|apply Kd.aW|apply Kd.aV|apply Kd.aY)));(case side2=>exact HC0_2.out);rintro e w' ⟨rfl,⟨nd,rfl⟩⟩;refine⟨_,rfl,?_⟩))
   go_ret
   exact⟨by first|rfl|(simp <;> rfl)|(simp[*] <;> rfl),by with_reducible repeat(first|exact HB.out|apply af|apply aa|apply ae|refine ai ?_ GE101.out)⟩
def laws_szPieceS.f (l0:List (S104)) (a1:Int):Option (Int):=if (wrap64 (a1 - (l0.length:Int)))<0 then (some (-1)) else (some (wrap64 (a1 - (l0.length:Int))))
set_option maxHeartbeats 8000000 in
set_option maxRecDepth 100000 in
theorem laws_szPieceS.calls (A0:Option Addr) (c0:Nat) (l0:List (S104)) (a1:Int) (r:Int) (w:World) (hr0:Kd.C gB w A0 l0.length l0) (hc0:l0.length≤c0) (h:laws_szPieceS.f l0 a1=some r) :
  Calls Tryd.prog 53 #[.slice A0 l0.length c0,.int .i64 a1] w fun e w'=>e = .returned (.int .i64 r)∧Drawn0 w w':=by
 have HR0:=av hr0
 have HC0:=av hc0
 clear hr0 hc0
 have H:(if (wrap64 (a1 - (l0.length:Int)))<0 then (some (-1)) else (some (wrap64 (a1 - (l0.length:Int)))))=some r:=h
 clear h
 by_cases c3:(wrap64 (a1 - (l0.length:Int)))<0
 ·rw[if_pos c3] at H
  have c3b0:decide ((wrap64 (a1 - (l0.length:Int)))<0)=true:=decide_eq_true c3
  clear c3
  obtain rfl:=Option.some.inj H
  go_enter Tryd.func53,Tryd.ntmps53
  go_wp2
  go_ret
  exact⟨by first|rfl|(simp;done)|(simp[*];done),by repeat(first|exact Drawn0.refl _|apply Drawn0.step)⟩
 ·rw[if_neg c3] at H
  have c3b0:decide ((wrap64 (a1 - (l0.length:Int)))<0)=false:=decide_eq_false c3
  clear c3
  obtain rfl:=Option.some.inj H
  go_enter Tryd.func53,Tryd.ntmps53
  go_wp2
  go_ret
  exact⟨by first|rfl|(simp;done)|(simp[*];done),by repeat(first|exact Drawn0.refl _|apply Drawn0.step)⟩
def laws_szFileMap.f (l0_0:List (S104)) (a1:Int):Option (Int):=(laws_szPieceS.f l0_0 a1).bind fun t105=>(if t105<0 then (some (-1)) else (some t105))
set_option maxHeartbeats 8000000 in
set_option maxRecDepth 100000 in
theorem laws_szFileMap.calls (A0_0:Option Addr) (c0_0:Nat) (l0_0:List (S104)) (a1:Int) (r:Int) (w:World) (hr0_0:Kd.C gB w A0_0 l0_0.length l0_0) (hc0_0:l0_0.length≤c0_0) (h:laws_szFileMap.f l0_0 a1=some r) :
  Calls Tryd.prog 40 #[.agg #[.slice A0_0 l0_0.length c0_0],.int .i64 a1] w fun e w'=>e = .returned (.int .i64 r)∧Below w.heap.size w w':=by
 have hu61:=Tryd.underlying61
 have HR0_0:=av hr0_0
 have HC0_0:=av hc0_0
 clear hr0_0 hc0_0
 have HB:=av (Below.refl w.heap.size w)
 have H:((laws_szPieceS.f l0_0 a1).bind fun t105=>(if t105<0 then (some (-1)) else (some t105)))=some r:=h
 clear h
 replace H:=Option.bind_eq_some_iff.mp H
 obtain⟨t105,A30,H⟩:=H
 replace H:(if t105<0 then (some (-1)) else (some t105))=some r:=H
 have A3:=av A30
 clear A30
 by_cases c4:t105<0
 ·rw[if_pos c4] at H
  have c4b0:decide (t105<0)=true:=decide_eq_true c4
  clear c4
  obtain rfl:=Option.some.inj H
  go_enter Tryd.func40,Tryd.ntmps40
  go_wp2_with (first|((with_reducible refine aJ (N:=2) rfl ?_);refine aI ?hg (N:=2) ?hd (cs:=#[.slice A0_0 l0_0.length c0_0]) (t:=61) ?hr ?_;(case hd=>rfl);(case hg=>rfl);(case hr=>first|(go_simp;done)|(go_simp;rfl));intro gb104 hg w5 hbox hb;have BK104:=av (hbox);have GW104:=av ((by rw[hg];exact(ay (by with_reducible repeat(first|exact HB.out|apply af|apply aa|apply ae))):w.heap.size≤gb104));have GE104:=av ((by rw[hg];exact(ay (by with_reducible repeat(first|exact HB.out|apply af|apply aa|apply ae))):w.heap.size≤gb104));replace HB:=av (aA (by with_reducible repeat(first|exact HB.out|apply af|apply aa|apply ae)) hb);clear hb hbox hg;have hcz6_0:w5.cell? ⟨gb104,0,none⟩=some (.slice A0_0 l0_0.length c0_0):=(ag BK104.out 0).trans rfl;have hfz6_0:=ah BK104.out 0)|((with_reducible refine aK (f:=53) rfl ?_);refine bn (some 8) rfl rfl Tryd.func53 (by kernel_rfl) rfl #[.slice A0_0 l0_0.length c0_0,.int .i64 a1] rfl (by(try simp only[amp_]);first|done|rfl|(simp only[ald_];rfl)) ?_;(with_reducible refine(laws_szPieceS.calls _ _ l0_0 a1 t105 _ ?side1 ?side2 A3.out).mono ?_);(case side1=>repeat(first|exact(Kd.aQ HR0_0.out HB.out)|(with_reducible first|apply Kd.aW|apply Kd.aV|apply Kd.aY)));(case side2=>exact HC0_0.out);rintro e w' ⟨rfl,⟨nd,rfl⟩⟩;refine⟨_,rfl,?_⟩))
  go_ret
  exact⟨by first|rfl|(simp <;> rfl)|(simp[*] <;> rfl),by with_reducible repeat(first|exact HB.out|apply af|apply aa|apply ae|refine ai ?_ GE104.out)⟩
 ·rw[if_neg c4] at H
  have c4b0:decide (t105<0)=false:=decide_eq_false c4
  clear c4
  obtain rfl:=Option.some.inj H
  go_enter Tryd.func40,Tryd.ntmps40
  go_wp2_with (first|((with_reducible refine aJ (N:=2) rfl ?_);refine aI ?hg (N:=2) ?hd (cs:=#[.slice A0_0 l0_0.length c0_0]) (t:=61) ?hr ?_;(case hd=>rfl);(case hg=>rfl);(case hr=>first|(go_simp;done)|(go_simp;rfl));intro gb104 hg w7 hbox hb;have BK104:=av (hbox);have GW104:=av ((by rw[hg];exact(ay (by with_reducible repeat(first|exact HB.out|apply af|apply aa|apply ae))):w.heap.size≤gb104));have GE104:=av ((by rw[hg];exact(ay (by with_reducible repeat(first|exact HB.out|apply af|apply aa|apply ae))):w.heap.size≤gb104));replace HB:=av (aA (by with_reducible repeat(first|exact HB.out|apply af|apply aa|apply ae)) hb);clear hb hbox hg;have hcz8_0:w7.cell? ⟨gb104,0,none⟩=some (.slice A0_0 l0_0.length c0_0):=(ag BK104.out 0).trans rfl;have hfz8_0:=ah BK104.out 0)|((with_reducible refine aK (f:=53) rfl ?_);refine bn (some 8) rfl rfl Tryd.func53 (by kernel_rfl) rfl #[.slice A0_0 l0_0.length c0_0,.int .i64 a1] rfl (by(try simp only[amp_]);first|done|rfl|(simp only[ald_];rfl)) ?_;(with_reducible refine(laws_szPieceS.calls _ _ l0_0 a1 t105 _ ?side1 ?side2 A3.out).mono ?_);(case side1=>repeat(first|exact(Kd.aQ HR0_0.out HB.out)|(with_reducible first|apply Kd.aW|apply Kd.aV|apply Kd.aY)));(case side2=>exact HC0_0.out);rintro e w' ⟨rfl,⟨nd,rfl⟩⟩;refine⟨_,rfl,?_⟩))
  go_ret
  exact⟨by first|rfl|(simp <;> rfl)|(simp[*] <;> rfl),by with_reducible repeat(first|exact HB.out|apply af|apply aa|apply ae|refine ai ?_ GE104.out)⟩
def laws_szHeld.f (a0_0:ByteArray) (a0_1:Int) (l0_2:List (S104)) (a1:Int):Option (Int):=if (wrap64 (a1 - (a0_0.size:Int)))<0 then (some (-1)) else ((laws_szFileMap.f l0_2 (wrap64 (a1 - (a0_0.size:Int)))).bind fun t107=>(if t107<0 then (some (-1)) else (some t107)))
set_option maxHeartbeats 8000000 in
set_option maxRecDepth 100000 in
theorem laws_szHeld.calls (a0_0:ByteArray) (a0_1:Int) (A0_2:Option Addr) (c0_2:Nat) (l0_2:List (S104)) (a1:Int) (r:Int) (w:World) (hr0_2:Kd.C gB w A0_2 l0_2.length l0_2) (hc0_2:l0_2.length≤c0_2) (h:laws_szHeld.f a0_0 a0_1 l0_2 a1=some r) :
  Calls Tryd.prog 23 #[.agg #[.string a0_0,.int .i64 a0_1,.slice A0_2 l0_2.length c0_2],.int .i64 a1] w fun e w'=>e = .returned (.int .i64 r)∧Below w.heap.size w w':=by
 have hu63:=Tryd.underlying63
 have hu61:=Tryd.underlying61
 have HR0_2:=av hr0_2
 have HC0_2:=av hc0_2
 clear hr0_2 hc0_2
 have HB:=av (Below.refl w.heap.size w)
 have H:(if (wrap64 (a1 - (a0_0.size:Int)))<0 then (some (-1)) else ((laws_szFileMap.f l0_2 (wrap64 (a1 - (a0_0.size:Int)))).bind fun t107=>(if t107<0 then (some (-1)) else (some t107))))=some r:=h
 clear h
 by_cases c3:(wrap64 (a1 - (a0_0.size:Int)))<0
 ·rw[if_pos c3] at H
  have c3b0:decide ((wrap64 (a1 - (a0_0.size:Int)))<0)=true:=decide_eq_true c3
  clear c3
  obtain rfl:=Option.some.inj H
  go_enter Tryd.func23,Tryd.ntmps23
  go_wp2_with (first|((with_reducible refine aJ (N:=2) rfl ?_);refine aI ?hg (N:=2) ?hd (cs:=#[.string a0_0,.int .i64 a0_1,.slice A0_2 l0_2.length c0_2]) (t:=63) ?hr ?_;(case hd=>rfl);(case hg=>rfl);(case hr=>first|(go_simp;done)|(go_simp;rfl));intro gb106 hg w4 hbox hb;have BK106:=av (hbox);have GW106:=av ((by rw[hg];exact(ay (by with_reducible repeat(first|exact HB.out|apply af|apply aa|apply ae))):w.heap.size≤gb106));have GE106:=av ((by rw[hg];exact(ay (by with_reducible repeat(first|exact HB.out|apply af|apply aa|apply ae))):w.heap.size≤gb106));replace HB:=av (aA (by with_reducible repeat(first|exact HB.out|apply af|apply aa|apply ae)) hb);clear hb hbox hg;have hcz5_0:w4.cell? ⟨gb106,0,none⟩=some (.string a0_0):=(ag BK106.out 0).trans rfl;have hcz5_1:w4.cell? ⟨gb106,1,none⟩=some (.int .i64 a0_1):=(ag BK106.out 1).trans rfl;have hcz5_2:w4.cell? ⟨gb106,2,none⟩=some (.slice A0_2 l0_2.length c0_2):=(ag BK106.out 2).trans rfl;have hfz5_0:=ah BK106.out 0;have hfz5_1:=ah BK106.out 1;have hfz5_2:=ah BK106.out 2))
  go_ret
  exact⟨by first|rfl|(simp <;> rfl)|(simp[*] <;> rfl),by with_reducible repeat(first|exact HB.out|apply af|apply aa|apply ae|refine ai ?_ GE106.out)⟩
 ·rw[if_neg c3] at H
  have c3b0:decide ((wrap64 (a1 - (a0_0.size:Int)))<0)=false:=decide_eq_false c3
  clear c3
  replace H:=Option.bind_eq_some_iff.mp H
  obtain⟨t107,A60,H⟩:=H
  replace H:(if t107<0 then (some (-1)) else (some t107))=some r:=H
  have A6:=av A60
  clear A60
  by_cases c7:t107<0
  ·rw[if_pos c7] at H
   have c7b0:decide (t107<0)=true:=decide_eq_true c7
   clear c7
   obtain rfl:=Option.some.inj H
   go_enter Tryd.func23,Tryd.ntmps23
   go_wp2_with (first|((with_reducible refine aJ (N:=2) rfl ?_);refine aI ?hg (N:=2) ?hd (cs:=#[.string a0_0,.int .i64 a0_1,.slice A0_2 l0_2.length c0_2]) (t:=63) ?hr ?_;(case hd=>rfl);(case hg=>rfl);(case hr=>first|(go_simp;done)|(go_simp;rfl));intro gb106 hg w8 hbox hb;have BK106:=av (hbox);have GW106:=av ((by rw[hg];exact(ay (by with_reducible repeat(first|exact HB.out|apply af|apply aa|apply ae))):w.heap.size≤gb106));have GE106:=av ((by rw[hg];exact(ay (by with_reducible repeat(first|exact HB.out|apply af|apply aa|apply ae))):w.heap.size≤gb106));replace HB:=av (aA (by with_reducible repeat(first|exact HB.out|apply af|apply aa|apply ae)) hb);clear hb hbox hg;have hcz9_0:w8.cell? ⟨gb106,0,none⟩=some (.string a0_0):=(ag BK106.out 0).trans rfl;have hcz9_1:w8.cell? ⟨gb106,1,none⟩=some (.int .i64 a0_1):=(ag BK106.out 1).trans rfl;have hcz9_2:w8.cell? ⟨gb106,2,none⟩=some (.slice A0_2 l0_2.length c0_2):=(ag BK106.out 2).trans rfl;have hfz9_0:=ah BK106.out 0;have hfz9_1:=ah BK106.out 1;have hfz9_2:=ah BK106.out 2)|((with_reducible refine aK (f:=40) rfl ?_);refine bn (some 15) rfl rfl Tryd.func40 (by kernel_rfl) rfl #[.agg #[.slice A0_2 l0_2.length c0_2],.int .i64 (wrap64 (a1 - (a0_0.size:Int)))] rfl (by(try simp only[amp_]);first|done|rfl|(simp only[ald_];rfl)) ?_;(with_reducible refine(laws_szFileMap.calls _ _ l0_2 (wrap64 (a1 - (a0_0.size:Int))) t107 _ ?side1 ?side2 A6.out).mono ?_);(case side1=>repeat(first|exact(Kd.aQ HR0_2.out HB.out)|(with_reducible first|apply Kd.aW|apply Kd.aV|apply Kd.aY)));(case side2=>exact HC0_2.out);rintro e w10 ⟨rfl,hb⟩;refine⟨_,rfl,?_⟩;replace BK106:=av (aG (g:=gb106) (o:=.cells #[.string a0_0,.int .i64 a0_1,.slice A0_2 l0_2.length c0_2] 63 (0,0)) (by(with_reducible repeat(first|apply aj|apply au|apply ak));exact BK106.out) hb);replace HB:=av (aA (by with_reducible repeat(first|exact HB.out|apply af|apply aa|apply ae|refine ai ?_ GE106.out)) hb);(try clear hb);(try clear hb2);(try clear hk);(try clear hi)))
   go_ret
   exact⟨by first|rfl|(simp <;> rfl)|(simp[*] <;> rfl),by with_reducible repeat(first|exact HB.out|apply af|apply aa|apply ae|refine ai ?_ GE106.out)⟩
  ·rw[if_neg c7] at H
   have c7b0:decide (t107<0)=false:=decide_eq_false c7
   clear c7
   obtain rfl:=Option.some.inj H
   go_enter Tryd.func23,Tryd.ntmps23
   go_wp2_with (first|((with_reducible refine aJ (N:=2) rfl ?_);refine aI ?hg (N:=2) ?hd (cs:=#[.string a0_0,.int .i64 a0_1,.slice A0_2 l0_2.length c0_2]) (t:=63) ?hr ?_;(case hd=>rfl);(case hg=>rfl);(case hr=>first|(go_simp;done)|(go_simp;rfl));intro gb106 hg w11 hbox hb;have BK106:=av (hbox);have GW106:=av ((by rw[hg];exact(ay (by with_reducible repeat(first|exact HB.out|apply af|apply aa|apply ae))):w.heap.size≤gb106));have GE106:=av ((by rw[hg];exact(ay (by with_reducible repeat(first|exact HB.out|apply af|apply aa|apply ae))):w.heap.size≤gb106));replace HB:=av (aA (by with_reducible repeat(first|exact HB.out|apply af|apply aa|apply ae)) hb);clear hb hbox hg;have hcz12_0:w11.cell? ⟨gb106,0,none⟩=some (.string a0_0):=(ag BK106.out 0).trans rfl;have hcz12_1:w11.cell? ⟨gb106,1,none⟩=some (.int .i64 a0_1):=(ag BK106.out 1).trans rfl;have hcz12_2:w11.cell? ⟨gb106,2,none⟩=some (.slice A0_2 l0_2.length c0_2):=(ag BK106.out 2).trans rfl;have hfz12_0:=ah BK106.out 0;have hfz12_1:=ah BK106.out 1;have hfz12_2:=ah BK106.out 2)|((with_reducible refine aK (f:=40) rfl ?_);refine bn (some 15) rfl rfl Tryd.func40 (by kernel_rfl) rfl #[.agg #[.slice A0_2 l0_2.length c0_2],.int .i64 (wrap64 (a1 - (a0_0.size:Int)))] rfl (by(try simp only[amp_]);first|done|rfl|(simp only[ald_];rfl)) ?_;(with_reducible refine(laws_szFileMap.calls _ _ l0_2 (wrap64 (a1 - (a0_0.size:Int))) t107 _ ?side1 ?side2 A6.out).mono ?_);(case side1=>repeat(first|exact(Kd.aQ HR0_2.out HB.out)|(with_reducible first|apply Kd.aW|apply Kd.aV|apply Kd.aY)));(case side2=>exact HC0_2.out);rintro e w13 ⟨rfl,hb⟩;refine⟨_,rfl,?_⟩;replace BK106:=av (aG (g:=gb106) (o:=.cells #[.string a0_0,.int .i64 a0_1,.slice A0_2 l0_2.length c0_2] 63 (0,0)) (by(with_reducible repeat(first|apply aj|apply au|apply ak));exact BK106.out) hb);replace HB:=av (aA (by with_reducible repeat(first|exact HB.out|apply af|apply aa|apply ae|refine ai ?_ GE106.out)) hb);(try clear hb);(try clear hb2);(try clear hk);(try clear hi)))
   go_ret
   exact⟨by first|rfl|(simp <;> rfl)|(simp[*] <;> rfl),by with_reducible repeat(first|exact HB.out|apply af|apply aa|apply ae|refine ai ?_ GE106.out)⟩
def laws_szHeldS.l0:Nat→List (S63)→Int→Int→Option (Int)
 | 0,_,_,_=>none
 | k+1,x0,x1,x5=>if x5 < (x0.length:Int) then (if 0≤x5 then ((laws_szHeld.f ((bP x0 x5).f0) ((bP x0 x5).f1) ((bP x0 x5).f2.f0) x1).bind fun t109=>(if t109<0 then (some (-1)) else (laws_szHeldS.l0 k x0 t109 (wrap64 (x5+1))))) else (none)) else (some x1)
def laws_szHeldS.f (k:Nat) (l0:List (S63)) (a1:Int):Option (Int):=if (wrap64 (a1 - (l0.length:Int)))<0 then (some (-1)) else (laws_szHeldS.l0 k l0 (wrap64 (a1 - (l0.length:Int))) 0)
set_option maxHeartbeats 8000000 in
set_option maxRecDepth 100000 in
theorem laws_szHeldS.calls (k:Nat) (A0:Option Addr) (c0:Nat) (l0:List (S63)) (a1:Int) (r:Int) (w:World) (hr0:Kd.C k63 w A0 l0.length l0) (hc0:l0.length≤c0) (h:laws_szHeldS.f k l0 a1=some r) :
  Calls Tryd.prog 10 #[.slice A0 l0.length c0,.int .i64 a1] w fun e w'=>e = .returned (.int .i64 r)∧Below w.heap.size w w':=by
 have hu63:=Tryd.underlying63
 have HR0:=av hr0
 have HC0:=av hc0
 clear hr0 hc0
 have HB:=av (Below.refl w.heap.size w)
 have H:(if (wrap64 (a1 - (l0.length:Int)))<0 then (some (-1)) else (laws_szHeldS.l0 k l0 (wrap64 (a1 - (l0.length:Int))) 0))=some r:=h
 clear h
 by_cases c3:(wrap64 (a1 - (l0.length:Int)))<0
 ·rw[if_pos c3] at H
  have c3b0:decide ((wrap64 (a1 - (l0.length:Int)))<0)=true:=decide_eq_true c3
  clear c3
  obtain rfl:=Option.some.inj H
  go_enter Tryd.func10,Tryd.ntmps10
  go_wp2
  go_ret
  exact⟨by first|rfl|(simp <;> rfl)|(simp[*] <;> rfl),by with_reducible repeat(first|exact HB.out|apply af|apply aa|apply ae)⟩
 ·rw [if_neg c3] at H
  have c3b0:decide ((wrap64 (a1 - (l0.length:Int)))<0)=false:=decide_eq_false c3
  clear c3
  have H':=av H
  clear H
  go_enter Tryd.func10,Tryd.ntmps10
  go_wp2
  go_loopg [1,5] k (fun kq v1 v5 w'=>∃ (x1_1:Int) (x5_1:Int),v1 = .int .i64 x1_1∧v5 = .int .i64 x5_1∧Aside0 (laws_szHeldS.l0 kq l0 x1_1 x5_1=some r)∧Aside0 (kq≤k)∧Aside0 (Below w.heap.size w w'))
  case atStart=>exact⟨(wrap64 (a1 - (l0.length:Int))),(0),(by first|rfl|(simp;done)|(simp[*];done)),(by first|rfl|(simp;done)|(simp[*];done)),H',⟨Nat.le_refl _⟩,⟨by with_reducible repeat(first|exact HB.out|apply af|apply aa|apply ae)⟩⟩
  case round =>
   clear H'
   try clear c1
   try clear p2
   try clear c3
   try clear c3b0
   obtain⟨x1_1,x5_1,rfl,rfl,HA,HK1,HB⟩:=hrel
   cases gk with
   | zero=>exact absurd HA.out (by simp[laws_szHeldS.l0])
   | succ k1=>
    have H:=HA.out
    clear HA
    simp only[laws_szHeldS.l0] at H
    by_cases c4:x5_1 < (l0.length:Int)
    ·rw[if_pos c4] at H
     have c4b0:decide (x5_1 < (l0.length:Int))=true:=decide_eq_true c4
     clear c4
     by_cases c5:0≤x5_1
     ·rw[if_pos c5] at H
      have c5b0:decide (0≤x5_1)=true:=decide_eq_true c5
      clear c5
      replace H:=Option.bind_eq_some_iff.mp H
      obtain⟨t109,A60,H⟩:=H
      replace H:(if t109<0 then (some (-1)) else (laws_szHeldS.l0 k1 l0 t109 (wrap64 (x5_1+1))))=some r:=H
      have A6:=av A60
      clear A60
      by_cases c7:t109<0
      ·rw[if_pos c7] at H
       have c7b0:decide (t109<0)=true:=decide_eq_true c7
       clear c7
       obtain rfl:=Option.some.inj H
       have p108:0≤(x5_1:Int):=of_decide_eq_true (by assumption)
       have q108:x5_1 < (l0.length:Int):=of_decide_eq_true (by assumption)
       obtain⟨ad108,A108_2,c108_2,e108,hx108_0,hx108_1,hx108_2,hl108_2,hi108_2⟩:=ky HR0.out x5_1 p108 q108
       cases e108
       replace hx108_0:=(HB.out.cell (World.block_lt_of_cell? w _ hx108_0)).trans hx108_0
       replace hx108_1:=(HB.out.cell (World.block_lt_of_cell? w _ hx108_1)).trans hx108_1
       replace hx108_2:=(HB.out.cell (World.block_lt_of_cell? w _ hx108_2)).trans hx108_2
       have HR108_2:=av hi108_2
       have HC108_2:=av hl108_2
       clear hi108_2 hl108_2
       replace p108:=eq_true p108
       replace q108:=eq_true q108
       go_wp2_with (first|((with_reducible refine aK (f:=23) rfl ?_);refine bn (some 23) rfl rfl Tryd.func23 (by kernel_rfl) rfl #[.agg #[.string ((bP l0 x5_1).f0),.int .i64 ((bP l0 x5_1).f1),.slice A108_2 ((bP l0 x5_1).f2.f0).length c108_2],.int .i64 x1_1] rfl (by(try simp only[amp_]);first|done|rfl|(simp only[ald_];rfl)) ?_;(with_reducible refine(laws_szHeld.calls ((bP l0 x5_1).f0) ((bP l0 x5_1).f1) _ _ ((bP l0 x5_1).f2.f0) x1_1 t109 _ ?side1 ?side2 A6.out).mono ?_);(case side1=>repeat(first|exact(Kd.aQ HR108_2.out HB.out)|(with_reducible first|apply Kd.aW|apply Kd.aV|apply Kd.aY)));(case side2=>exact HC108_2.out);rintro e w8 ⟨rfl,hb⟩;refine⟨_,rfl,?_⟩;replace HB:=av (aA (by with_reducible repeat(first|exact HB.out|apply af|apply aa|apply ae)) hb);(try clear hb);(try clear hb2);(try clear hk);(try clear hi)))
       go_ret
       exact⟨by first|rfl|(simp <;> rfl)|(simp[*] <;> rfl),by with_reducible repeat(first|exact HB.out|apply af|apply aa|apply ae)⟩
      ·rw[if_neg c7] at H
       have c7b0:decide (t109<0)=false:=decide_eq_false c7
       clear c7
       have H':=av H
       clear H
       have p108:0≤(x5_1:Int):=of_decide_eq_true (by assumption)
       have q108:x5_1 < (l0.length:Int):=of_decide_eq_true (by assumption)
       obtain⟨ad108,A108_2,c108_2,e108,hx108_0,hx108_1,hx108_2,hl108_2,hi108_2⟩:=ky HR0.out x5_1 p108 q108
       cases e108
       replace hx108_0:=(HB.out.cell (World.block_lt_of_cell? w _ hx108_0)).trans hx108_0
       replace hx108_1:=(HB.out.cell (World.block_lt_of_cell? w _ hx108_1)).trans hx108_1
       replace hx108_2:=(HB.out.cell (World.block_lt_of_cell? w _ hx108_2)).trans hx108_2
       have HR108_2:=av hi108_2
       have HC108_2:=av hl108_2
       clear hi108_2 hl108_2
       replace p108:=eq_true p108
       replace q108:=eq_true q108
       go_wp2_with (first|((with_reducible refine aK (f:=23) rfl ?_);refine bn (some 23) rfl rfl Tryd.func23 (by kernel_rfl) rfl #[.agg #[.string ((bP l0 x5_1).f0),.int .i64 ((bP l0 x5_1).f1),.slice A108_2 ((bP l0 x5_1).f2.f0).length c108_2],.int .i64 x1_1] rfl (by(try simp only[amp_]);first|done|rfl|(simp only[ald_];rfl)) ?_;(with_reducible refine(laws_szHeld.calls ((bP l0 x5_1).f0) ((bP l0 x5_1).f1) _ _ ((bP l0 x5_1).f2.f0) x1_1 t109 _ ?side1 ?side2 A6.out).mono ?_);(case side1=>repeat(first|exact(Kd.aQ HR108_2.out HB.out)|(with_reducible first|apply Kd.aW|apply Kd.aV|apply Kd.aY)));(case side2=>exact HC108_2.out);rintro e w9 ⟨rfl,hb⟩;refine⟨_,rfl,?_⟩;replace HB:=av (aA (by with_reducible repeat(first|exact HB.out|apply af|apply aa|apply ae)) hb);(try clear hb);(try clear hb2);(try clear hk);(try clear hi)))
       go_roundg k1
       case measure=>have:=HK1.out;omega
       case rel=>exact⟨(t109),(wrap64 (x5_1+1)),(by first|rfl|(simp;done)|(simp[*];done)),(by first|rfl|(simp;done)|(simp[*];done)),H',⟨by have:=HK1.out;omega⟩,⟨by with_reducible repeat(first|exact HB.out|apply af|apply aa|apply ae)⟩⟩
     ·rw[if_neg c5] at H
      exact absurd H (by simp)
    ·rw[if_neg c4] at H
     have c4b0:decide (x5_1 < (l0.length:Int))=false:=decide_eq_false c4
     clear c4
     obtain rfl:=Option.some.inj H
     go_wp2
     go_ret
     exact⟨by first|rfl|(simp <;> rfl)|(simp[*] <;> rfl),by with_reducible repeat(first|exact HB.out|apply af|apply aa|apply ae)⟩
def laws_szSystem.f (k:Nat) (a0_0:Int) (a0_1:Int) (l0_2:List (S80)) (l0_3:List (S80)) (l0_4:List (S63)) (a1:Int):Option (Int):=(laws_szFree.f a0_1 l0_2 l0_3 a1).bind fun t111=>(if t111<0 then (some (-1)) else ((laws_szHeldS.f k l0_4 t111).bind fun t112=>(if t112<0 then (some (-1)) else (some t112))))
set_option maxHeartbeats 8000000 in
set_option maxRecDepth 100000 in
theorem laws_szSystem.calls (k:Nat) (a0_0:Int) (a0_1:Int) (A0_2:Option Addr) (c0_2:Nat) (l0_2:List (S80)) (A0_3:Option Addr) (c0_3:Nat) (l0_3:List (S80)) (A0_4:Option Addr) (c0_4:Nat) (l0_4:List (S63)) (a1:Int) (r:Int) (w:World) (hr0_2:Kd.C k80 w A0_2 l0_2.length l0_2) (hc0_2:l0_2.length≤c0_2) (hr0_3:Kd.C k80 w A0_3 l0_3.length l0_3) (hc0_3:l0_3.length≤c0_3) (hr0_4:Kd.C k63 w A0_4 l0_4.length l0_4) (hc0_4:l0_4.length≤c0_4) (h:laws_szSystem.f k a0_0 a0_1 l0_2 l0_3 l0_4 a1=some r) :
  Calls Tryd.prog 4 #[.agg #[.int .i64 a0_0,.int .i64 a0_1,.slice A0_2 l0_2.length c0_2,.slice A0_3 l0_3.length c0_3,.slice A0_4 l0_4.length c0_4],.int .i64 a1] w fun e w'=>e = .returned (.int .i64 r)∧Below w.heap.size w w':=by
 have hu27:=Tryd.underlying27
 have hu24:=Tryd.underlying24
 have HR0_2:=av hr0_2
 have HC0_2:=av hc0_2
 clear hr0_2 hc0_2
 have HR0_3:=av hr0_3
 have HC0_3:=av hc0_3
 clear hr0_3 hc0_3
 have HR0_4:=av hr0_4
 have HC0_4:=av hc0_4
 clear hr0_4 hc0_4
 have HB:=av (Below.refl w.heap.size w)
 have H:((laws_szFree.f a0_1 l0_2 l0_3 a1).bind fun t111=>(if t111<0 then (some (-1)) else ((laws_szHeldS.f k l0_4 t111).bind fun t112=>(if t112<0 then (some (-1)) else (some t112)))))=some r:=h
 clear h
 replace H:=Option.bind_eq_some_iff.mp H
 obtain⟨t111,A30,H⟩:=H
 replace H:(if t111<0 then (some (-1)) else ((laws_szHeldS.f k l0_4 t111).bind fun t112=>(if t112<0 then (some (-1)) else (some t112))))=some r:=H
 have A3:=av A30
 clear A30
 by_cases c4:t111<0
 ·rw[if_pos c4] at H
  have c4b0:decide (t111<0)=true:=decide_eq_true c4
  clear c4
  obtain rfl:=Option.some.inj H
  go_enter Tryd.func4,Tryd.ntmps4
  go_wp2_with (first|((with_reducible refine aJ (N:=2) rfl ?_);refine aI ?hg (N:=2) ?hd (cs:=#[.int .i64 a0_0,.int .i64 a0_1,.slice A0_2 l0_2.length c0_2,.slice A0_3 l0_3.length c0_3,.slice A0_4 l0_4.length c0_4]) (t:=27) ?hr ?_;(case hd=>rfl);(case hg=>rfl);(case hr=>first|(go_simp;done)|(go_simp;rfl));intro gb110 hg w5 hbox hb;have BK110:=av (hbox);have GW110:=av ((by rw[hg];exact(ay (by with_reducible repeat(first|exact HB.out|apply af|apply aa|apply ae))):w.heap.size≤gb110));have GE110:=av ((by rw[hg];exact(ay (by with_reducible repeat(first|exact HB.out|apply af|apply aa|apply ae))):w.heap.size≤gb110));replace HB:=av (aA (by with_reducible repeat(first|exact HB.out|apply af|apply aa|apply ae)) hb);clear hb hbox hg;have hcz6_0:w5.cell? ⟨gb110,0,none⟩=some (.int .i64 a0_0):=(ag BK110.out 0).trans rfl;have hcz6_1:w5.cell? ⟨gb110,1,none⟩=some (.int .i64 a0_1):=(ag BK110.out 1).trans rfl;have hcz6_2:w5.cell? ⟨gb110,2,none⟩=some (.slice A0_2 l0_2.length c0_2):=(ag BK110.out 2).trans rfl;have hcz6_3:w5.cell? ⟨gb110,3,none⟩=some (.slice A0_3 l0_3.length c0_3):=(ag BK110.out 3).trans rfl;have hcz6_4:w5.cell? ⟨gb110,4,none⟩=some (.slice A0_4 l0_4.length c0_4):=(ag BK110.out 4).trans rfl;have hfz6_0:=ah BK110.out 0;have hfz6_1:=ah BK110.out 1;have hfz6_2:=ah BK110.out 2;have hfz6_3:=ah BK110.out 3;have hfz6_4:=ah BK110.out 4)|((with_reducible refine aK (f:=9) rfl ?_);refine bn (some 8) rfl rfl Tryd.func9 (by kernel_rfl) rfl #[.agg #[.int .i64 a0_1,.slice A0_2 l0_2.length c0_2,.slice A0_3 l0_3.length c0_3],.int .i64 a1] rfl (by(try simp only[amp_]);first|done|rfl|(simp only[ald_];rfl)) ?_;(with_reducible refine(laws_szFree.calls a0_1 _ _ l0_2 _ _ l0_3 a1 t111 _ ?side1 ?side2 ?side3 ?side4 A3.out).mono ?_);(case side1=>repeat(first|exact(Kd.aQ HR0_2.out HB.out)|(with_reducible first|apply Kd.aW|apply Kd.aV|apply Kd.aY)));(case side2=>exact HC0_2.out);(case side3=>repeat(first|exact(Kd.aQ HR0_3.out HB.out)|(with_reducible first|apply Kd.aW|apply Kd.aV|apply Kd.aY)));(case side4=>exact HC0_3.out);rintro e w7 ⟨rfl,hb⟩;refine⟨_,rfl,?_⟩;replace BK110:=av (aG (g:=gb110) (o:=.cells #[.int .i64 a0_0,.int .i64 a0_1,.slice A0_2 l0_2.length c0_2,.slice A0_3 l0_3.length c0_3,.slice A0_4 l0_4.length c0_4] 27 (0,0)) (by(with_reducible repeat(first|apply aj|apply au|apply ak));exact BK110.out) hb);replace HB:=av (aA (by with_reducible repeat(first|exact HB.out|apply af|apply aa|apply ae|refine ai ?_ GE110.out)) hb);(try clear hb);(try clear hb2);(try clear hk);(try clear hi)))
  go_ret
  exact⟨by first|rfl|(simp <;> rfl)|(simp[*] <;> rfl),by with_reducible repeat(first|exact HB.out|apply af|apply aa|apply ae|refine ai ?_ GE110.out)⟩
 ·rw[if_neg c4] at H
  have c4b0:decide (t111<0)=false:=decide_eq_false c4
  clear c4
  replace H:=Option.bind_eq_some_iff.mp H
  obtain⟨t112,A80,H⟩:=H
  replace H:(if t112<0 then (some (-1)) else (some t112))=some r:=H
  have A8:=av A80
  clear A80
  by_cases c9:t112<0
  ·rw[if_pos c9] at H
   have c9b0:decide (t112<0)=true:=decide_eq_true c9
   clear c9
   obtain rfl:=Option.some.inj H
   go_enter Tryd.func4,Tryd.ntmps4
   go_wp2_with (first|((with_reducible refine aJ (N:=2) rfl ?_);refine aI ?hg (N:=2) ?hd (cs:=#[.int .i64 a0_0,.int .i64 a0_1,.slice A0_2 l0_2.length c0_2,.slice A0_3 l0_3.length c0_3,.slice A0_4 l0_4.length c0_4]) (t:=27) ?hr ?_;(case hd=>rfl);(case hg=>rfl);(case hr=>first|(go_simp;done)|(go_simp;rfl));intro gb110 hg w10 hbox hb;have BK110:=av (hbox);have GW110:=av ((by rw[hg];exact(ay (by with_reducible repeat(first|exact HB.out|apply af|apply aa|apply ae))):w.heap.size≤gb110));have GE110:=av ((by rw[hg];exact(ay (by with_reducible repeat(first|exact HB.out|apply af|apply aa|apply ae))):w.heap.size≤gb110));replace HB:=av (aA (by with_reducible repeat(first|exact HB.out|apply af|apply aa|apply ae)) hb);clear hb hbox hg;have hcz11_0:w10.cell? ⟨gb110,0,none⟩=some (.int .i64 a0_0):=(ag BK110.out 0).trans rfl;have hcz11_1:w10.cell? ⟨gb110,1,none⟩=some (.int .i64 a0_1):=(ag BK110.out 1).trans rfl;have hcz11_2:w10.cell? ⟨gb110,2,none⟩=some (.slice A0_2 l0_2.length c0_2):=(ag BK110.out 2).trans rfl;have hcz11_3:w10.cell? ⟨gb110,3,none⟩=some (.slice A0_3 l0_3.length c0_3):=(ag BK110.out 3).trans rfl;have hcz11_4:w10.cell? ⟨gb110,4,none⟩=some (.slice A0_4 l0_4.length c0_4):=(ag BK110.out 4).trans rfl;have hfz11_0:=ah BK110.out 0;have hfz11_1:=ah BK110.out 1;have hfz11_2:=ah BK110.out 2;have hfz11_3:=ah BK110.out 3;have hfz11_4:=ah BK110.out 4)|((with_reducible refine aK (f:=9) rfl ?_);refine bn (some 8) rfl rfl Tryd.func9 (by kernel_rfl) rfl #[.agg #[.int .i64 a0_1,.slice A0_2 l0_2.length c0_2,.slice A0_3 l0_3.length c0_3],.int .i64 a1] rfl (by(try simp only[amp_]);first|done|rfl|(simp only[ald_];rfl)) ?_;(with_reducible refine(laws_szFree.calls a0_1 _ _ l0_2 _ _ l0_3 a1 t111 _ ?side1 ?side2 ?side3 ?side4 A3.out).mono ?_);(case side1=>repeat(first|exact(Kd.aQ HR0_2.out HB.out)|(with_reducible first|apply Kd.aW|apply Kd.aV|apply Kd.aY)));(case side2=>exact HC0_2.out);(case side3=>repeat(first|exact(Kd.aQ HR0_3.out HB.out)|(with_reducible first|apply Kd.aW|apply Kd.aV|apply Kd.aY)));(case side4=>exact HC0_3.out);rintro e w12 ⟨rfl,hb⟩;refine⟨_,rfl,?_⟩;replace BK110:=av (aG (g:=gb110) (o:=.cells #[.int .i64 a0_0,.int .i64 a0_1,.slice A0_2 l0_2.length c0_2,.slice A0_3 l0_3.length c0_3,.slice A0_4 l0_4.length c0_4] 27 (0,0)) (by(with_reducible repeat(first|apply aj|apply au|apply ak));exact BK110.out) hb);replace HB:=av (aA (by with_reducible repeat(first|exact HB.out|apply af|apply aa|apply ae|refine ai ?_ GE110.out)) hb);(try clear hb);(try clear hb2);(try clear hk);(try clear hi);have hcz13_0:w12.cell? ⟨gb110,0,none⟩=some (.int .i64 a0_0):=(ag BK110.out 0).trans rfl;have hcz13_1:w12.cell? ⟨gb110,1,none⟩=some (.int .i64 a0_1):=(ag BK110.out 1).trans rfl;have hcz13_2:w12.cell? ⟨gb110,2,none⟩=some (.slice A0_2 l0_2.length c0_2):=(ag BK110.out 2).trans rfl;have hcz13_3:w12.cell? ⟨gb110,3,none⟩=some (.slice A0_3 l0_3.length c0_3):=(ag BK110.out 3).trans rfl;have hcz13_4:w12.cell? ⟨gb110,4,none⟩=some (.slice A0_4 l0_4.length c0_4):=(ag BK110.out 4).trans rfl;have hfz13_0:=ah BK110.out 0;have hfz13_1:=ah BK110.out 1;have hfz13_2:=ah BK110.out 2;have hfz13_3:=ah BK110.out 3;have hfz13_4:=ah BK110.out 4)|((with_reducible refine aK (f:=10) rfl ?_);refine bn (some 14) rfl rfl Tryd.func10 (by kernel_rfl) rfl #[.slice A0_4 l0_4.length c0_4,.int .i64 t111] rfl (by(try simp only[amp_]);first|done|rfl|(simp only[ald_];rfl)) ?_;(with_reducible refine(laws_szHeldS.calls k _ _ l0_4 t111 t112 _ ?side1 ?side2 A8.out).mono ?_);(case side1=>repeat(first|exact(Kd.aQ HR0_4.out HB.out)|(with_reducible first|apply Kd.aW|apply Kd.aV|apply Kd.aY)));(case side2=>exact HC0_4.out);rintro e w14 ⟨rfl,hb⟩;refine⟨_,rfl,?_⟩;replace BK110:=av (aG (g:=gb110) (o:=.cells #[.int .i64 a0_0,.int .i64 a0_1,.slice A0_2 l0_2.length c0_2,.slice A0_3 l0_3.length c0_3,.slice A0_4 l0_4.length c0_4] 27 (0,0)) (by(with_reducible repeat(first|apply aj|apply au|apply ak));exact BK110.out) hb);replace HB:=av (aA (by with_reducible repeat(first|exact HB.out|apply af|apply aa|apply ae|refine ai ?_ GE110.out)) hb);(try clear hb);(try clear hb2);(try clear hk);(try clear hi)))
   go_ret
   exact⟨by first|rfl|(simp <;> rfl)|(simp[*] <;> rfl),by with_reducible repeat(first|exact HB.out|apply af|apply aa|apply ae|refine ai ?_ GE110.out)⟩
  ·rw[if_neg c9] at H
   have c9b0:decide (t112<0)=false:=decide_eq_false c9
   clear c9
   obtain rfl:=Option.some.inj H
   go_enter Tryd.func4,Tryd.ntmps4
   go_wp2_with (first|((with_reducible refine aJ (N:=2) rfl ?_);refine aI ?hg (N:=2) ?hd (cs:=#[.int .i64 a0_0,.int .i64 a0_1,.slice A0_2 l0_2.length c0_2,.slice A0_3 l0_3.length c0_3,.slice A0_4 l0_4.length c0_4]) (t:=27) ?hr ?_;(case hd=>rfl);(case hg=>rfl);(case hr=>first|(go_simp;done)|(go_simp;rfl));intro gb110 hg w15 hbox hb;have BK110:=av (hbox);have GW110:=av ((by rw[hg];exact(ay (by with_reducible repeat(first|exact HB.out|apply af|apply aa|apply ae))):w.heap.size≤gb110));have GE110:=av ((by rw[hg];exact(ay (by with_reducible repeat(first|exact HB.out|apply af|apply aa|apply ae))):w.heap.size≤gb110));replace HB:=av (aA (by with_reducible repeat(first|exact HB.out|apply af|apply aa|apply ae)) hb);clear hb hbox hg;have hcz16_0:w15.cell? ⟨gb110,0,none⟩=some (.int .i64 a0_0):=(ag BK110.out 0).trans rfl;have hcz16_1:w15.cell? ⟨gb110,1,none⟩=some (.int .i64 a0_1):=(ag BK110.out 1).trans rfl;have hcz16_2:w15.cell? ⟨gb110,2,none⟩=some (.slice A0_2 l0_2.length c0_2):=(ag BK110.out 2).trans rfl;have hcz16_3:w15.cell? ⟨gb110,3,none⟩=some (.slice A0_3 l0_3.length c0_3):=(ag BK110.out 3).trans rfl;have hcz16_4:w15.cell? ⟨gb110,4,none⟩=some (.slice A0_4 l0_4.length c0_4):=(ag BK110.out 4).trans rfl;have hfz16_0:=ah BK110.out 0;have hfz16_1:=ah BK110.out 1;have hfz16_2:=ah BK110.out 2;have hfz16_3:=ah BK110.out 3;have hfz16_4:=ah BK110.out 4)|((with_reducible refine aK (f:=9) rfl ?_);refine bn (some 8) rfl rfl Tryd.func9 (by kernel_rfl) rfl #[.agg #[.int .i64 a0_1,.slice A0_2 l0_2.length c0_2,.slice A0_3 l0_3.length c0_3],.int .i64 a1] rfl (by(try simp only[amp_]);first|done|rfl|(simp only[ald_];rfl)) ?_;(with_reducible refine(laws_szFree.calls a0_1 _ _ l0_2 _ _ l0_3 a1 t111 _ ?side1 ?side2 ?side3 ?side4 A3.out).mono ?_);(case side1=>repeat(first|exact(Kd.aQ HR0_2.out HB.out)|(with_reducible first|apply Kd.aW|apply Kd.aV|apply Kd.aY)));(case side2=>exact HC0_2.out);(case side3=>repeat(first|exact(Kd.aQ HR0_3.out HB.out)|(with_reducible first|apply Kd.aW|apply Kd.aV|apply Kd.aY)));(case side4=>exact HC0_3.out);rintro e w17 ⟨rfl,hb⟩;refine⟨_,rfl,?_⟩;replace BK110:=av (aG (g:=gb110) (o:=.cells #[.int .i64 a0_0,.int .i64 a0_1,.slice A0_2 l0_2.length c0_2,.slice A0_3 l0_3.length c0_3,.slice A0_4 l0_4.length c0_4] 27 (0,0)) (by(with_reducible repeat(first|apply aj|apply au|apply ak));exact BK110.out) hb);replace HB:=av (aA (by with_reducible repeat(first|exact HB.out|apply af|apply aa|apply ae|refine ai ?_ GE110.out)) hb);(try clear hb);(try clear hb2);(try clear hk);(try clear hi);have hcz18_0:w17.cell? ⟨gb110,0,none⟩=some (.int .i64 a0_0):=(ag BK110.out 0).trans rfl;have hcz18_1:w17.cell? ⟨gb110,1,none⟩=some (.int .i64 a0_1):=(ag BK110.out 1).trans rfl;have hcz18_2:w17.cell? ⟨gb110,2,none⟩=some (.slice A0_2 l0_2.length c0_2):=(ag BK110.out 2).trans rfl;have hcz18_3:w17.cell? ⟨gb110,3,none⟩=some (.slice A0_3 l0_3.length c0_3):=(ag BK110.out 3).trans rfl;have hcz18_4:w17.cell? ⟨gb110,4,none⟩=some (.slice A0_4 l0_4.length c0_4):=(ag BK110.out 4).trans rfl;have hfz18_0:=ah BK110.out 0;have hfz18_1:=ah BK110.out 1;have hfz18_2:=ah BK110.out 2;have hfz18_3:=ah BK110.out 3;have hfz18_4:=ah BK110.out 4)|((with_reducible refine aK (f:=10) rfl ?_);refine bn (some 14) rfl rfl Tryd.func10 (by kernel_rfl) rfl #[.slice A0_4 l0_4.length c0_4,.int .i64 t111] rfl (by(try simp only[amp_]);first|done|rfl|(simp only[ald_];rfl)) ?_;(with_reducible refine(laws_szHeldS.calls k _ _ l0_4 t111 t112 _ ?side1 ?side2 A8.out).mono ?_);(case side1=>repeat(first|exact(Kd.aQ HR0_4.out HB.out)|(with_reducible first|apply Kd.aW|apply Kd.aV|apply Kd.aY)));(case side2=>exact HC0_4.out);rintro e w19 ⟨rfl,hb⟩;refine⟨_,rfl,?_⟩;replace BK110:=av (aG (g:=gb110) (o:=.cells #[.int .i64 a0_0,.int .i64 a0_1,.slice A0_2 l0_2.length c0_2,.slice A0_3 l0_3.length c0_3,.slice A0_4 l0_4.length c0_4] 27 (0,0)) (by(with_reducible repeat(first|apply aj|apply au|apply ak));exact BK110.out) hb);replace HB:=av (aA (by with_reducible repeat(first|exact HB.out|apply af|apply aa|apply ae|refine ai ?_ GE110.out)) hb);(try clear hb);(try clear hb2);(try clear hk);(try clear hi)))
   go_ret
   exact⟨by first|rfl|(simp <;> rfl)|(simp[*] <;> rfl),by with_reducible repeat(first|exact HB.out|apply af|apply aa|apply ae|refine ai ?_ GE110.out)⟩
end Go.Proofs.YtdghdjachbbdmaaDoor.PFre
