import Derived.Test.YtelblhkbogljnaaFGiv1
import Derived.Test.YtelblhkbogljnaaProg
import Derived.Below
import Derived.Deep.Draws
import Derived.Deep.AppendLies
import Derived.Maps.AppendAt
import Derived.OwnWalk
import Derived.Laws.BytesArg
import Derived.Laws.MakeOwn
import Derived.Laws.OwnMore
import Derived.Deep.OwnRows
import Derived.Tactics
import Derived.Lib.ConvBytes
import Derived.Laws.Slices
import Derived.WalkKit
import Derived.KernelRfl
import Derived.RowKit3
import Derived.Deep.LoopGhost
import Derived.Deep.QuietTactic
import Derived.BigQuiet
import Derived.WideLaws
import Derived.Deep.DeepCutAuto
import Derived.Deep.CutBlock
import Derived.Deep.RegionHeld3
import Derived.Laws.Rows
import Derived.Lib.AppendStr
import Derived.ArgAppend
import Derived.Laws.IdiomCopy
import Derived.OrdersHeld
import Derived.Laws.BitsLemmas
import Derived.RowKit
import Derived.Lib.SliceRun
import Derived.Shelf.SlSortCmp.WholeK
namespace Go.Proofs.Ytelblhkbogljnaa
theorem apu_:(∀ (a:Act) (v:Value),Act.put a none v=a)∧(∀ (t:Array Value) (d:List Deferred) (N:Tmp) (v:Value),Act.put ⟨t,d⟩ (some N) v=⟨t.setIfInBounds N v,d⟩)∧(∀ (l:List Value) (i:Nat) (x:Value),l.toArray.setIfInBounds i x = (l.set i x).toArray)∧(∀ (a b:Value) (l:List Value),(a::l).set 0 b=b::l)∧(∀ (a b:Value) (l:List Value) (n:Nat),(a::l).set (n+1) b=a::l.set n b)∧(∀ n:Int,IntKind.i64.wrap n=Go.RowKit.wrap64 n)∧(∀ n:Int,IntKind.i32.wrap n=Go.RowKit.wrap32 n):=
  ⟨fun _ _=>rfl,fun _ _ _ _=>rfl,fun _ _ _=>List.setIfInBounds_toArray ..,fun _ _ _=>rfl,fun _ _ _ _=>rfl,fun n=>by unfold Go.RowKit.wrap64;exact IntKind.wrap_i64 n,fun n=>by unfold Go.RowKit.wrap32;exact IntKind.wrap_i32 n⟩
end Go.Proofs.Ytelblhkbogljnaa
namespace Go.Proofs
open Go Go.RowKit
theorem amp_:(∀ {α β:Type} (f:α→β) (l:List α),Array.map f l.toArray = (l.map f).toArray)∧(∀ {α β:Type} (f:α→β) (a:α) (l:List α),List.map f (a::l)=f a::List.map f l)∧(∀ {α β:Type} (f:α→β),List.map f []=[]):=⟨fun _ _=>List.map_toArray ..,fun _ _ _=>rfl,fun _=>rfl⟩
theorem ald_:(∀ {α:Type} (i:Nat) (l:List α),(l.drop i).length=l.length - i)∧(∀ {α:Type} (i:Nat) (l:List α),(l.take i).length=min i l.length):=⟨fun _ _=>List.length_drop ..,fun _ _=>List.length_take ..⟩
end Go.Proofs
namespace Go.Proofs.Ytelblhkbogljnaa.PFre
open Go.RowKit Go.Proofs.YtelblhkbogljnaaW.PrintWords Go.Proofs.YtelblhkbogljnaaW.PrintLast Go.Proofs.YtelblhkbogljnaaW.PrintMore
attribute [local go_sem] bG bH bS bT bB bA bJ bI
set_option linter.unusedVariables false
set_option linter.unusedSimpArgs false
def errW:Option Int→Value
 | none=>.nilIface
 | some c=>.iface 0 (.int .i64 c)
theorem cu:errW none = .nilIface:=rfl
theorem cB (c:Int):errW (some c) = .iface 0 (.int .i64 c):=rfl
theorem info4:(Try.prog.info? 4).map (fun i=>(i.zero,i.size,i.bytes))=some (some (.bool false),1,1):=by kernel_rfl
theorem bV:(Try.prog.info? 35).map (fun i=>(i.zero,i.size,i.bytes))=some (some (.agg #[(.int .i64 0),(.int .i64 0)]),2,16):=by kernel_rfl
structure S35 where
 f0:Int
 f1:Int
def z35:S35:=⟨(0:Int),(0:Int)⟩
def k35:Kd S35:=Kd.iso (Kd.pair (Kd.int .i64) (Kd.int .i64)) (fun x:S35=>(x.f0,x.f1))
theorem qi {w:World} {x:S35} {cs:List Value} (h:k35.K w x cs):cs=[.int .i64 x.f0,.int .i64 x.f1]:=by
 obtain⟨_,_,rfl,rfl,rfl⟩:=h
 exact rfl
theorem eu (w:World) (base:Nat) (ok:Nat→Prop) (x:S35)  : k35.M w base ok x [.int .i64 x.f0,.int .i64 x.f1]:=⟨[.int .i64 x.f0],[.int .i64 x.f1],rfl,rfl,rfl⟩
def ax (xs:List S35) (i:Int):S35:=xs.getD i.toNat z35
theorem bF {w:World} {A:Option Addr} {n:Nat} {xs:List S35} (h:Kd.C k35 w A n xs) (i:Int) (h0:0≤i) (h1:i<n):∃ ad,A=some ad∧w.cell? (ad.add (i.toNat*2))=some (.int .i64 (ax xs i).f0)∧w.cell? ⟨(ad.add (i.toNat*2)).block,(ad.add (i.toNat*2)).off+1,none⟩=some (.int .i64 (ax xs i).f1):=by
 obtain⟨ad,c,e,_,hK,hc0⟩:=Kd.C_get h z35 i h0 h1
 have hc:∀ j u,c[j]? = some u→w.cell? (ad.add (i.toNat*2+j))=some u:=hc0
 obtain rfl:=qi hK
 exact⟨ad,e,hc 0 _ rfl,by rw[← oO _ _ 1 (by omega)];exact hc 1 _ rfl⟩
structure S24 where
 f0:Int
 f1:(List S35)
 f2:(List S35)
open Go.RowKit Go.Proofs.YtelblhkbogljnaaW.PrintWords Go.Proofs.YtelblhkbogljnaaW.PrintLast Go.Proofs.YtelblhkbogljnaaW.PrintMore Go.Proofs.Ytelblhkbogljnaa.E
abbrev EX:=S35
theorem qX {a b:EX} (h0:a.f0=b.f0) (h1:a.f1=b.f1):a=b:=by cases a;cases b;simp only at h0 h1;rw[h0,h1]
instance:DecidableEq EX:=fun a b=>if h:a.f0=b.f0∧a.f1=b.f1 then .isTrue (qX h.1 h.2) else .isFalse (fun e=>h ⟨by rw[e],by rw[e]⟩)
structure Sep (B:Int) (l:List EX):Prop where
  a:∀ x∈l,0≤x.f0∧1≤x.f1∧x.f0+x.f1≤B
  p:l.Pairwise fun x y=>x.f0+x.f1<y.f0
def cov (l:List EX) (k:Int):Bool:=l.any fun x=>decide (x.f0≤k∧k<x.f0+x.f1)
theorem gW {l:List EX} {k:Int}:cov l k=true↔∃ x∈l,x.f0≤k∧k<x.f0+x.f1:=by
  unfold cov
  rw[List.any_eq_true]
  constructor
  · rintro⟨x,hx,h⟩;exact⟨x,hx,of_decide_eq_true h⟩
  · rintro⟨x,hx,h⟩;exact⟨x,hx,decide_eq_true h⟩
theorem eO (k:Int):cov [] k=false:=rfl
theorem kw (x:EX) (l:List EX) (k:Int):cov (x::l) k = (decide (x.f0≤k∧k<x.f0+x.f1) || cov l k):=rfl
theorem dC (l m:List EX) (k:Int):cov (l++m) k = (cov l k || cov m k):=by unfold cov;rw[List.any_append]
section
variable {B:Int} {l m:List EX} {x:EX}
theorem Sep.nil (B:Int):Sep B []:=⟨fun _ h=>(by cases h),List.Pairwise.nil⟩
theorem Sep.tail (h:Sep B (x::l)):Sep B l:=⟨fun y hy=>h.a y (List.mem_cons_of_mem _ hy),(List.pairwise_cons.1 h.p).2⟩
theorem Sep.head (h:Sep B (x::l)):0≤x.f0∧1≤x.f1∧x.f0+x.f1≤B:=h.a x (List.mem_cons_self ..)
theorem Sep.far (h:Sep B (x::l)) {k:Int} (hk:cov l k=true):x.f0+x.f1<k:=by
  obtain⟨y,hy,h1,_⟩:=gW.1 hk
  have:=(List.pairwise_cons.1 h.p).1 y hy
  omega
theorem Sep.rng (h:Sep B l) {k:Int} (hk:cov l k=true):0≤k∧k<B:=by
  obtain⟨y,hy,h1,h2⟩:=gW.1 hk
  have:=h.a y hy
  omega
theorem Sep.cons (hx:0≤x.f0∧1≤x.f1∧x.f0+x.f1≤B) (hl:Sep B l) (hf:∀ y∈l,x.f0+x.f1<y.f0):Sep B (x::l):=
  ⟨fun y hy=>by rcases List.mem_cons.1 hy with e|e;exact e▸hx;exact hl.a y e,List.pairwise_cons.2 ⟨hf,hl.p⟩⟩
theorem Sep.append (hl:Sep B l) (hm:Sep B m) (hf:∀ x∈l,∀ y∈m,x.f0+x.f1<y.f0):Sep B (l++m):=
  ⟨fun y hy=>by rcases List.mem_append.1 hy with e|e;exact hl.a y e;exact hm.a y e,List.pairwise_append.2 ⟨hl.p,hm.p,hf⟩⟩
theorem Sep.left (h:Sep B (l++m)):Sep B l:=⟨fun y hy=>h.a y (List.mem_append_left _ hy),(List.pairwise_append.1 h.p).1⟩
theorem Sep.right (h:Sep B (l++m)):Sep B m:=⟨fun y hy=>h.a y (List.mem_append_right _ hy),(List.pairwise_append.1 h.p).2.1⟩
theorem Sep.between (h:Sep B (l++m)):∀ x∈l,∀ y∈m,x.f0+x.f1<y.f0:=(List.pairwise_append.1 h.p).2.2
theorem kL : ∀ {l m : List EX}, Sep B l → Sep B m → (∀ k, cov l k = cov m k) → l = m
  | [],[],_,_,_=>rfl
  | [],y::s,_,hm,h=>by
    have h1:=h y.f0
    have:=hm.head
    rw[eO,kw,decide_eq_true (by omega)] at h1
    simp at h1
  | x::r,[],hl,_,h=>by
    have h1:=h x.f0
    have:=hl.head
    rw[eO,kw,decide_eq_true (by omega)] at h1
    simp at h1
  | x :: r, y :: s, hl, hm, h => by
    have hx:=hl.head
    have hy:=hm.head
    have in_:∀ {x:EX} {r:List EX} {k:Int},cov (x::r) k=true↔(x.f0≤k∧k<x.f0+x.f1)∨cov r k=true:=fun {x r k}=>by
      rw[kw,Bool.or_eq_true,decide_eq_true_iff]
    have e0:x.f0=y.f0:=by
      have h1:cov (y::s) x.f0=true:=by rw[← h];exact in_.2 (.inl (by omega))
      have h2:cov (x::r) y.f0=true:=by rw[h];exact in_.2 (.inl (by omega))
      rcases in_.1 h1 with e|e <;> rcases in_.1 h2 with e'|e'
      · omega
      · have:=hl.far e';omega
      · have:=hm.far e;omega
      · have:=hm.far e;have:=hl.far e';omega
    have e1:x.f1=y.f1:=by
      refine Classical.byContradiction fun hne=>?_
      by_cases hlt:x.f1<y.f1
      · have h1:cov (x::r) (x.f0+x.f1)=true:=by rw[h];exact in_.2 (.inl (by omega))
        rcases in_.1 h1 with e|e
        · omega
        · have:=hl.far e;omega
      · have h1:cov (y::s) (y.f0+y.f1)=true:=by rw[← h];exact in_.2 (.inl (by omega))
        rcases in_.1 h1 with e|e
        · omega
        · have:=hm.far e;omega
    have exy:x=y:=by cases x;cases y;simp only at e0 e1;rw[e0,e1]
    subst exy
    rw [kL hl.tail hm.tail (fun k => by
      have h1:=h k
      rw[Bool.eq_iff_iff,in_,in_] at h1
      rw[Bool.eq_iff_iff]
      constructor
      · intro hk
        have:=hl.far hk
        rcases h1.1 (.inr hk) with e|e
        · omega
        · exact e
      · intro hk
        have:=hm.far hk
        rcases h1.2 (.inr hk) with e|e
        · omega
        · exact e)]
def eG (l:List EX):Int:=(l.map fun x=>x.f1).sum
theorem fT (x:EX) (l:List EX):eG (x::l)=x.f1+eG l:=rfl
def cnt (n:Nat) (f:Int→Bool):Nat:=(List.range n).countP fun i:Nat=>f (i:Int)
theorem fH (n:Nat) (f:Int→Bool):cnt (n+1) f=cnt n f+if f (n:Int)=true then 1 else 0:=by
  unfold cnt
  rw[List.range_succ,List.countP_append,List.countP_cons,List.countP_nil]
  omega
theorem jI {f g:Int→Bool}:∀ (n:Nat),(∀ i:Int,0≤i→i<n→f i=g i)→cnt n f=cnt n g
  | 0,_=>rfl
  | n+1,h=>by rw[fH,fH,jI n (fun i h0 h1=>h i h0 (by omega)),h n (by omega) (by omega)]
theorem nz {f g:Int→Bool}:∀ (n:Nat),(∀ i:Int,0≤i→i<n→¬ (f i=true∧g i=true))→cnt n (fun i=>f i || g i)=cnt n f+cnt n g
  | 0,_=>rfl
  | n+1,h=>by
    have:=nz (f:=f) (g:=g) n (fun i h0 h1=>h i h0 (by omega))
    have hn:=h n (by omega) (by omega)
    rw[fH,fH,fH,this]
    cases h1:f n <;> cases h2:g n <;> simp_all <;> omega
theorem nX {f:Int→Bool}:∀ (n:Nat),cnt n (fun i=>!f i)+cnt n f=n
  | 0=>rfl
  | n+1=>by
    have:=nX (f:=f) n
    rw[fH,fH]
    cases h1:f n <;> simp <;> omega
theorem nI (a b:Int) (h0:0≤a) (h1:0≤b):∀ (n:Nat),(cnt n (fun i=>decide (a≤i∧i<a+b)):Int)=if (n:Int)≤a then 0 else if (n:Int)≤a+b then (n:Int) - a else b
  | 0=>by rw[if_pos (by omega)];rfl
  | n+1=>by
    have:=nI a b h0 h1 n
    rw[fH]
    simp only[decide_eq_true_iff]
    split <;> (repeat' split) <;> (repeat' split at this) <;> omega
theorem qh (n:Nat):cnt n (fun _=>false)=0:=by unfold cnt;simp
theorem jk:∀ {l:List EX} {n:Nat},Sep (n:Int) l→(cnt n (cov l):Int)=eG l
  | [],n,_=>by
    have:cnt n (cov [])=0:=qh n
    rw[this];rfl
  | x :: r, n, h => by
    have hx:=h.head
    have e:cnt n (cov (x::r))=cnt n (fun i=>decide (x.f0≤i∧i<x.f0+x.f1))+cnt n (cov r):=by
      rw[← nz n (fun i _ _ hh=>by have:=h.far hh.2;have:=of_decide_eq_true hh.1;omega)]
      rfl
    have h2:=jk h.tail
    have h3:=nI x.f0 x.f1 hx.1 (by omega) n
    rw[e,fT,Int.natCast_add,h2,h3]
    split
    · omega
    · split <;> omega
end
def jc (l : List EX) (at_ : Int) (b : Bool) : List EX :=
  if b=true then (match l.getLast? with
    | some y=>if y.f0+y.f1=at_ then l.dropLast++[⟨y.f0,y.f1+1⟩] else l++[⟨at_,1⟩]
    | none=>[⟨at_,1⟩]) else l
def bv (h:Int→Bool):Nat→List EX
  | 0=>[]
  | n+1=>jc (bv h n) (n:Int) (h (n:Int))
theorem oq (h : Int → Bool) : ∀ (n : Nat), Sep (n : Int) (bv h n) ∧ (∀ k : Int, cov (bv h n) k = (decide (0 ≤ k ∧ k < n) && h k)) := by
  intro n
  induction n with
  | zero=>exact⟨Sep.nil _,fun k=>by rw[bv,eO,decide_eq_false (by omega)];rfl⟩
  | succ n ih =>
    obtain⟨hs,hc⟩:=ih
    have wide:Sep ((n+1:Nat):Int) (bv h n):=⟨fun x hx=>by have:=hs.a x hx;omega,hs.p⟩
    rw[bv]
    unfold jc
    cases hb:h (n:Int) with
    | false=>
      rw[if_neg (by simp)]
      refine⟨wide,fun k=>?_⟩
      rw[hc k]
      by_cases e:k = (n:Int)
      · subst e;rw[hb];simp
      · congr 1
        rw[decide_eq_decide]
        omega
    | true=>
      rw[if_pos rfl]
      cases hl:(bv h n).getLast? with
      | none=>
        have he:=List.getLast?_eq_none_iff.1 hl
        rw[he] at hc
        have hone:Sep ((n+1:Nat):Int) [⟨(n:Int),1⟩]:=⟨fun x hx=>by obtain rfl:=List.mem_singleton.1 hx;exact⟨by show(0:Int)≤n;omega,Int.le_refl _,by show(n:Int)+1≤_;omega⟩,List.pairwise_singleton ..⟩
        refine⟨hone,fun k=>?_⟩
        have h1:=hc k
        rw[eO] at h1
        show(decide ((n:Int)≤k∧k < (n:Int)+1) || cov [] k)=_
        rw[eO,Bool.or_false]
        by_cases e:k = (n:Int)
        · subst e;rw[hb,decide_eq_true (by omega),decide_eq_true (by omega)];rfl
        · rw[decide_eq_false (by omega)]
          by_cases e2:0≤k∧k < (n:Int)
          · rw[decide_eq_true e2] at h1
            rw[decide_eq_true (by omega)]
            exact h1
          · rw[decide_eq_false (by omega)];rfl
      | some y=>
        obtain⟨m,hm⟩:∃ m,bv h n=m++[y]:=List.getLast?_eq_some_iff.1 hl
        have hy:=hs.a y (by rw[hm];simp)
        simp only
        by_cases e:y.f0+y.f1 = (n:Int)
        · rw [if_pos e, hm, List.dropLast_concat]
          rw[hm] at hs hc wide
          have hbt:=hs.between
          refine⟨wide.left.append ⟨fun x hx=>?_,List.pairwise_singleton ..⟩ (fun x hx z hz=>?_),fun k=>?_⟩
          · obtain rfl:=List.mem_singleton.1 hx
            exact⟨hy.1,by show 1≤y.f1+1;omega,by show y.f0 + (y.f1+1)≤_;omega⟩
          · obtain rfl:=List.mem_singleton.1 hz
            exact hbt x hx y (by simp)
          · have h1:=hc k
            rw[dC] at h1 ⊢
            have e1:cov [(⟨y.f0,y.f1+1⟩:EX)] k = (cov [y] k || decide (k = (n:Int))):=by
              show(decide (y.f0≤k∧k<y.f0 + (y.f1+1)) || false) = ((decide (y.f0≤k∧k<y.f0+y.f1) || false) || _)
              rw[Bool.or_false,Bool.or_false,Bool.eq_iff_iff,Bool.or_eq_true,decide_eq_true_iff,decide_eq_true_iff,decide_eq_true_iff]
              omega
            rw[e1,← Bool.or_assoc,h1]
            by_cases e2:k = (n:Int)
            · subst e2;rw[hb];simp;omega
            · rw[decide_eq_false e2,Bool.or_false]
              congr 1
              rw[decide_eq_decide]
              omega
        · rw [if_neg e]
          refine⟨wide.append ⟨fun x hx=>?_,List.pairwise_singleton ..⟩ (fun x hx z hz=>?_),fun k=>?_⟩
          · obtain rfl:=List.mem_singleton.1 hx
            exact⟨by show(0:Int)≤n;omega,Int.le_refl _,by show(n:Int)+1≤_;omega⟩
          · obtain rfl:=List.mem_singleton.1 hz
            show x.f0+x.f1 < (n:Int)
            rw[hm] at hx hs
            rcases List.mem_append.1 hx with hx|hx
            · have:=hs.between x hx y (by simp);omega
            · obtain rfl:=List.mem_singleton.1 hx;omega
          · rw[dC,hc k]
            have e1:cov [(⟨(n:Int),1⟩:EX)] k=decide (k = (n:Int)):=by
              show(decide ((n:Int)≤k∧k < (n:Int)+1) || false)=_
              rw[Bool.or_false,decide_eq_decide]
              omega
            rw[e1]
            by_cases e2:k = (n:Int)
            · subst e2;rw[hb];simp;omega
            · rw[decide_eq_false e2,Bool.or_false]
              congr 1
              rw[decide_eq_decide]
              omega
theorem nY {l:List EX} {n:Nat} {h:Int→Bool} (hl:Sep (n:Int) l) (hc:∀ k:Int,0≤k→k<n→cov l k=h k):bv h n=l:=by
  obtain⟨h1,h2⟩:=oq h n
  refine kL h1 hl (fun k=>?_)
  rw[h2]
  by_cases e:0≤k∧k < (n:Int)
  · rw[decide_eq_true e,Bool.true_and,hc k e.1 e.2]
  · rw[decide_eq_false e,Bool.false_and]
    cases hb:cov l k with
    | false=>rfl
    | true=>exact absurd (hl.rng hb) e
abbrev EL:=S35
def slices_Clone_E.f (l0:List EL):Option (List EL):=if l0.length≤1048576 then some l0 else none
set_option maxHeartbeats 2000000 in
set_option maxRecDepth 100000 in
theorem slices_Clone_E.calls (A0:Option Addr) (c0:Nat) (l0:List EL) (r:List EL) (w:World) (hr0:Kd.C k35 w A0 l0.length l0) (hc0:l0.length≤c0) (h:slices_Clone_E.f l0=some r) :
  Calls Try.prog 62 #[.slice A0 l0.length c0] w fun e w'=>∃ v0_:Value,e = .returned v0_∧Kd.R k35 35 w' w.heap.size (fun _=>True) v0_ r∧Below w.heap.size w w':=by
 unfold slices_Clone_E.f at h
 by_cases hl:l0.length≤1048576
 ·rw [if_pos hl] at h
  obtain rfl:=Option.some.inj h
  have HR:=au hr0
  have HL:=au hl
  have q:∀ (W:World) (a:Option Addr) (n c:Nat),(binOp .eql 22 (.slice a n c) (.slice none 0 0)).run Try.prog W = .ok (.bool a.isNone) W:=fun W a n c=>Lib.run_eql_slice_nil W 22 35 a n c 0 0 Try.underlying22
  clear hr0 h hl
  cases A0 with
  | none=>
   have hn:l0=[]:=by
    by_cases hp:0<l0.length
    ·obtain⟨ad,e,_⟩:=HR.out.2.2 hp
     cases e
    ·exact List.eq_nil_of_length_eq_zero (by omega)
   subst hn
   go_enter Try.func62,Try.ntmps62
   go_wp2
   go_ret
   exact⟨_,rfl,Kd.dn _ _ _ _ _,Below.refl _ _⟩
  | some ad=>
   go_enter Try.func62,Try.ntmps62
   go_wp2_with (first
    | ((with_reducible refine aM (N:=5) rfl ?_);refine Kd.lC k35 w.heap.size 35 ?hg (N:=5) ?hd (xs:=([]:List EL)) (inner:=[]) (ok:=fun _=>True) (okp:=fun _=>True) ?hr ?hp (fun _ hk=>hk) trivial (Below.refl w.heap.size w) (Nat.le_refl _) (by simp) ?_;(case hd=>rfl);(case hg=>rfl);(case hr=>first|(go_simp;done)|(go_simp;rfl));(case hp=>exact(cz.none _ _));intro v1 w1 ho1 hb1 hg_ hnew_;clear hg_ hnew_;have HO1:=au ho1;have HB1:=au hb1;clear ho1 hb1)
    | ((with_reducible refine bu (b:=.append) (xs:=#[.tmp 5,.tmp 6]) rfl ?_);at_builtin;refine Kd.bY k35 (w0:=w) w.heap.size rfl (.tmp 5) (.tmp 6) 22 35 (.agg #[.int .i64 0,.int .i64 0]) 16 rfl Try.underlying22 bV rfl (by decide) (by omega) v1 [] l0 _ _ _ (fun _=>True) (fun _=>False) rfl rfl HO1.out (Kd.aN HR.out HB1.out) (fun _ _ h=>h) (fun _ h=>h.elim) (fun _ _=>trivial) HB1.out HB1.out.size (by have:=HL.out;simp;omega) ?_;intro v2 w2 ho2 hb2 hg_ hat_;clear hg_ hat_;have HO2:=au ho2;have HB2:=au hb2;clear ho2 hb2))
   go_ret
   exact⟨_,rfl,HO2.out,HB2.out⟩
 ·rw[if_neg hl] at h
  cases h
abbrev ES (w:World) (base:Nat) (ok:Nat→Prop) (v:Value) (xs:List EL):Prop:=k35.R 35 w base ok v xs
theorem ic (xs:List EL) (i:Int):ax xs i=xs.getD i.toNat z35:=rfl
theorem mO {w:World} {base:Nat} {ok:Nat→Prop} {x:EL} {cs:List Value}:k35.M w base ok x cs↔cs=[.int .i64 x.f0,.int .i64 x.f1]:=by
 constructor
 ·rintro⟨c0,c1,rfl,h0,h1⟩
  have e0:c0=[.int .i64 x.f0]:=h0
  have e1:c1=[.int .i64 x.f1]:=h1
  subst e0 e1
  rfl
 ·rintro rfl
  exact⟨[.int .i64 x.f0],[.int .i64 x.f1],rfl,rfl,rfl⟩
theorem jU {W:World} {base g n cap:Nat} {ok:Nat→Prop} {xs:List EL} (h:ES W base ok (.slice (some ⟨g,0,none⟩) n cap) xs) (i:Int) (h0:0≤i) (h1:i<n) :
  W.cell? ⟨g,i.toNat*2,none⟩=some (.int .i64 (ax xs i).f0)∧W.cell? ⟨g,i.toNat*2+1,none⟩=some (.int .i64 (ax xs i).f1)∧∀ j,W.frozen? ⟨g,i.toNat*2+j,none⟩=false:=by
 obtain⟨c,hcl,hM,hcc,hfr⟩:=Kd.pI h z35 i h0 h1
 rw[← ic,mO] at hM
 subst hM
 exact⟨hcc 0 _ rfl,hcc 1 _ rfl,hfr⟩
theorem mo {W:World} {base g n cap:Nat} {ok:Nat→Prop} {xs:List EL} (h:ES W base ok (.slice (some ⟨g,0,none⟩) n cap) xs) (i:Int) (h0:0≤i) (h1:i<n) (x:Int) :
  ES (W.setCell ⟨g,i.toNat*2+1,none⟩ (.int .i64 x)) base ok (.slice (some ⟨g,0,none⟩) n cap) (xs.set i.toNat ⟨(ax xs i).f0,x⟩):=by
 obtain⟨c,hcl,hM0,hcc,hfr⟩:=Kd.pI h z35 i h0 h1
 rw[← ic,mO] at hM0
 subst hM0
 exact(Kd.R_seg (okp:=fun _=>False) (seg:=[.int .i64 x]) (j:=1) h i h0 h1 hcl hcc (by show 1+1≤2;omega) (mO.2 rfl) (fun _ hk=>hk.elim)).1
theorem nV {h:Int→Bool} {q:Nat} (hb:h (q:Int)=false):bv h (q+1)=bv h q:=by
 rw[bv,hb];rfl
theorem kI {h:Int→Bool} {q:Nat} (hb:h (q:Int)=true) (he:bv h q=[]):bv h (q+1)=[⟨(q:Int),1⟩]:=by
 rw[bv,hb,he];rfl
theorem lG {h:Int→Bool} {q m:Nat} (hb:h (q:Int)=true) (hl:(bv h q).length=m+1) (he:(ax (bv h q) (m:Int)).f0 + (ax (bv h q) (m:Int)).f1 = (q:Int)) :
  bv h (q+1) = (bv h q).set m ⟨(ax (bv h q) (m:Int)).f0,(ax (bv h q) (m:Int)).f1+1⟩:=by
 rw[bv,hb]
 unfold jc
 obtain⟨l,y,hy⟩:∃ l y,bv h q=l++[y]:=⟨_,_,(List.dropLast_concat_getLast (by intro e;rw[e] at hl;simp at hl)).symm⟩
 rw[hy] at he hl ⊢
 have hm:l.length=m:=by simpa using hl
 have hr:ax (l++[y]) (m:Int)=y:=by
  rw[ic,Int.toNat_natCast,List.getD_eq_getElem?_getD,List.getElem?_append_right (by omega),hm,Nat.sub_self];rfl
 rw[hr] at he ⊢
 simp only[if_true,List.getLast?_append,List.getLast?_singleton,Option.some_or]
 rw[if_pos he,List.dropLast_concat,List.set_append_right _ _ (by omega),hm,Nat.sub_self]
 rfl
theorem lF {h:Int→Bool} {q m:Nat} (hb:h (q:Int)=true) (hl:(bv h q).length=m+1) (he:(ax (bv h q) (m:Int)).f0 + (ax (bv h q) (m:Int)).f1≠(q:Int)) :
  bv h (q+1)=bv h q++[⟨(q:Int),1⟩]:=by
 rw[bv,hb]
 unfold jc
 obtain⟨l,y,hy⟩:∃ l y,bv h q=l++[y]:=⟨_,_,(List.dropLast_concat_getLast (by intro e;rw[e] at hl;simp at hl)).symm⟩
 rw[hy] at he hl ⊢
 have hm:l.length=m:=by simpa using hl
 have hr:ax (l++[y]) (m:Int)=y:=by
  rw[ic,Int.toNat_natCast,List.getD_eq_getElem?_getD,List.getElem?_append_right (by omega),hm,Nat.sub_self];rfl
 rw[hr] at he
 simp only[if_true,List.getLast?_append,List.getLast?_singleton,Option.some_or]
 rw[if_neg he]
theorem lJ {h:Int→Bool} {q m:Nat} (hl:(bv h q).length=m+1):0≤(ax (bv h q) (m:Int)).f0∧1≤(ax (bv h q) (m:Int)).f1∧(ax (bv h q) (m:Int)).f0 + (ax (bv h q) (m:Int)).f1≤(q:Int):=by
 refine(oq h q).1.a _ ?_
 rw[ic,Int.toNat_natCast,List.getD_eq_getElem?_getD,List.getElem?_eq_getElem (by omega)]
 exact List.getElem_mem _
theorem gP (h:Int→Bool):∀ q:Nat,(bv h q).length≤q
 | 0=>Nat.le_refl _
 | q+1=>by
  have:=gP h q
  rw[bv]
  unfold jc
  split
  ·split
   ·split
    ·simp;omega
    ·simp;omega
   ·simp
  ·omega
set_option maxHeartbeats 8000000 in
set_option maxRecDepth 100000 in
theorem kN (b:Nat) (hb:b≤400) (B gb cb:Nat) (bs:List Bool) (hbl:b≤bs.length) (w:World) (hB:w.heap[B]? = some (.cells #[.slice (some ⟨gb,0,none⟩) bs.length cb] 72 (0,0))) (hR:Kd.C Kd.bool w (some ⟨gb,0,none⟩) bs.length bs) :
  Calls Try.prog 36 #[.int .i64 b,.func (.func 75) #[] #[.pointer (some ⟨B,0,none⟩)]] w fun e w'=>∃ v0_:Value,e = .returned v0_∧ES w' w.heap.size (fun _=>True) v0_ (bv (fun i=>dO false bs i) b)∧Below w.heap.size w w':=by
 have hu:=Try.underlying35
 have hu2:=Try.underlying22
 have hu3:=Try.underlying72
 have HB:=au hB
 have HRB:=au hR
 have HBL:=au hbl
 clear hB hR hbl
 go_enter Try.func36,Try.ntmps36
 go_wp2_with ((with_reducible refine aM (N:=8) rfl ?_);refine Kd.lC k35 w.heap.size 35 ?hg (N:=8) ?hd (xs:=([]:List EL)) (inner:=[]) (ok:=fun _=>True) (okp:=fun _=>True) ?hr ?hp (fun _ hk=>hk) trivial (Below.refl w.heap.size w) (Nat.le_refl _) (by simp) ?_;(case hd=>rfl);(case hg=>rfl);(case hr=>first|(go_simp;done)|(go_simp;rfl));(case hp=>exact(cz.none _ _));intro v1 w1 ho1 hb1 hg_ hnew_;clear hg_ hnew_;have HO1:=au ho1;have HB1:=au hb1;clear ho1 hb1;obtain⟨A1,c1,rfl⟩:∃ A1 c1,v1 = .slice A1 0 c1:=(by obtain⟨A1,c1,e_⟩:=Kd.bq HO1.out;exact⟨A1,c1,e_⟩))
 go_loopw [5,10] (fun v5 v10 wr=>∃ (q:Nat) (A:Option Addr) (n c:Nat),q≤b∧v10 = .int .i64 q∧v5 = .slice A n c∧Aside0 (n = (bv (fun i=>dO false bs i) q).length)∧Aside0 (ES wr w.heap.size (fun _=>True) (.slice A n c) (bv (fun i=>dO false bs i) q))∧Aside0 (Below w.heap.size w wr)) (fun _ v10 _=>b - (intOf v10).toNat)
 case atStart=>exact⟨0,A1,0,c1,Nat.zero_le _,rfl,rfl,⟨rfl⟩,⟨HO1.out⟩,HB1⟩
 case round =>
  clear HO1 HB1
  obtain⟨q,A,n,c,hq,rfl,rfl,HN,HR,HW⟩:=hrel
  by_cases hqb:q<b
  ·have hqq:((q:Int) < (b:Int))=True:=eq_true (by omega)
   have hb0:wr.cell? ⟨B,0,none⟩=some (.slice (some ⟨gb,0,none⟩) bs.length cb):=(ak (ay HB.out HW.out) 0).trans rfl
   have hqs:q<bs.length:=by have:=HBL.out;omega
   obtain⟨adb,eb,hy⟩:=Kd.nR HRB.out (q:Int) (by omega) (by omega)
   cases eb
   simp only[Int.toNat_natCast] at hy
   have hb1:=bX HW.out hy
   rw[add_plain] at hb1
   clear hy
   have hqs1:((q:Int) < (bs.length:Int))=True:=eq_true (by omega)
   have HLE:=au (gP (fun i=>dO false bs i) q)
   cases hbit:dO false bs (q:Int) with
   | false=>
    rw[hbit] at hb1
    have HE:=au (nV (h:=(fun i=>dO false bs i)) (q:=q) (by simp[hbit]))
    clear hbit
    go_wp2
    go_roundw
    case rel=>exact⟨q+1,A,n,c,hqb,by go_num,rfl,⟨by rw[HE.out];exact HN.out⟩,⟨by rw[HE.out];exact HR.out⟩,HW⟩
    case measure=>simp[intOf];omega
   | true=>
    rw[hbit] at hb1
    have hT:(fun i=>dO false bs i) (q:Int)=true:=by simp[hbit]
    cases n with
    | zero=>
     have hnil:bv (fun i=>dO false bs i) q=[]:=List.eq_nil_of_length_eq_zero HN.out.symm
     have HE:=au (show bv (fun i=>dO false bs i) (q+1)=[]++[⟨(q:Int),1⟩] from kI hT hnil)
     replace HR:Aside0 (ES wr w.heap.size (fun _=>True) (.slice A 0 c) []):=au (by have:=HR.out;rw[hnil] at this;exact this)
     clear HN HLE hT hbit
     have HL2:=au (show([]:List EL).length=0 from rfl)
     have HLL:=au (show([]:List EL).length≤400 by simp)
     go_wp2
     go_quiet (fail)
     have R1:=au (Kd.aC HR.out nq)
     have W1:=au (aa HW.out nq)
     clear HR HW hb0 hb1
     go_wp2_with ((with_reducible refine bu (b:=.append) (xs:=#[.tmp 45,.tmp 48]) rfl ?_);at_builtin;refine Kd.dH k35 (w0:=w) (W:=wr.drewN nq) w.heap.size rfl (.tmp 45) (.tmp 48) 22 35 (.agg #[.int .i64 0,.int .i64 0]) 16 rfl Try.underlying22 bV rfl (by decide) (by omega) (.slice A 0 c) ([]:List EL) (⟨(q:Int),1⟩:EL) [.int .i64 q,.int .i64 1] (fun _=>True) (fun _=>False) rfl rfl ?aP (fun _ h_=>h_.elim) (fun _ _=>trivial) R1.out W1.out W1.out.size (by have:=HLL.out;omega) ?_;(case aP=>exact mO.2 rfl);intro v4 w4 ho hb4 hg hat;obtain⟨A4,c4,rfl⟩:∃ A4 c4,v4 = .slice A4 (0+1) c4:=(by obtain⟨A4,c4,e_⟩:=Kd.bq ho;exact⟨A4,c4,by rw[e_,List.length_append,HL2.out];rfl⟩);have R4:=au ho;have W4:=au hb4;clear ho hb4 hg hat)
     go_roundw
     case rel=>exact⟨q+1,A4,0+1,c4,hqb,by go_num,rfl,⟨by rw[HE.out,List.length_append,HL2.out];rfl⟩,⟨by rw[HE.out];exact R4.out⟩,W4⟩
     case measure=>simp[intOf];omega
    | succ m=>
     have hl:=HN.out.symm
     have HK:=au (lJ hl)
     obtain⟨g,cap,e6,_⟩:=Kd.iQ HR.out (by omega)
     injection e6 with eA en ec
     subst eA
     clear en ec
     obtain⟨k0,k1,k2⟩:=jU HR.out (m:Int) (by omega) (by omega)
     simp only[Int.toNat_natCast] at k0 k1 k2
     replace k2:=k2 1
     have hm1:wrap64 (((m+1:Nat):Int) - 1) = (m:Int):=by rw[w64 (by omega) (by have:=HLE.out;omega)];omega
     have hm2:((m+1:Nat):Int) - 1 = (m:Int):=by omega
     have hm3:((m:Int) < ((m+1:Nat):Int))=True:=eq_true (by omega)
     have hmb:m<400:=by have:=HLE.out;omega
     by_cases hend:(ax (bv (fun i=>dO false bs i) q) (m:Int)).f0 + (ax (bv (fun i=>dO false bs i) q) (m:Int)).f1 = (q:Int)
     ·have HE:=au (lG hT hl hend)
      generalize bv (fun i=>dO false bs i) q=l at HN HR HK HE k0 k1 hend hl
      generalize hy0:(ax l (m:Int)).f0=y0 at HK HE k0 hend
      generalize hy1:(ax l (m:Int)).f1=y1 at HK HE k1 hend
      have z0:=HK.out.1
      have z1:=HK.out.2.1
      have z2:y1≤400:=by have:=HK.out.2.2;omega
      have HY:=au hy0
      clear HLE hT hbit hl hy0 hy1 HK
      have HEND:=au hend
      clear hend
      go_wp2
      have hs3:IntKind.i64.wrap (y0+y1) = (q:Int):=by rw[HEND.out];exact IntWalk.i64_in _ (by omega)
      go_quiet (fail)
      clear hs3
      have R1:=au (Kd.aC HR.out nq)
      have W1:=au (aa HW.out nq)
      have R2:=au (show ES ((wr.drewN nq).setCell ⟨g,m*2+1,none⟩ (.int .i64 (y1+1))) w.heap.size (fun _=>True) (.slice (some ⟨g,0,none⟩) (m+1) c) (l.set m ⟨y0,y1+1⟩) by
       have h_:=mo R1.out (m:Int) (by omega) (by omega) (y1+1)
       rw[Int.toNat_natCast,HY.out] at h_
       exact h_)
      have W2:=au (ae W1.out (Kd.dI R1.out g rfl):Below w.heap.size w ((wr.drewN nq).setCell ⟨g,m*2+1,none⟩ (.int .i64 (y1+1))))
      clear HR HW hb0 hb1
      go_wp2
      go_roundw
      case rel=>exact⟨q+1,some ⟨g,0,none⟩,m+1,c,hqb,by go_num,rfl,⟨by rw[HE.out,List.length_set];exact HN.out⟩,⟨by rw[HE.out];exact R2.out⟩,W2⟩
      case measure=>simp[intOf];omega
     ·have HE:=au (lF hT hl hend)
      generalize bv (fun i=>dO false bs i) q=l at HN HR HK HE HLE k0 k1 hend hl
      generalize hy0:(ax l (m:Int)).f0=y0 at HK HE k0 hend
      generalize hy1:(ax l (m:Int)).f1=y1 at HK HE k1 hend
      have z0:=HK.out.1
      have z1:=HK.out.2.1
      have z2:y0+y1≤400:=by have:=HK.out.2.2;omega
      have HL2:=au hl
      have HLL:=au (show l.length≤400 by have:=HLE.out;omega)
      have HEND:=au hend
      have ze:(y0+y1 == (q:Int))=false:=beq_eq_false_iff_ne.2 hend
      clear HLE hT hbit hl hy0 hy1 HK hend
      go_wp2
      have hs3:IntKind.i64.wrap (y0+y1)=y0+y1:=IntWalk.i64_in _ (by omega)
      go_quiet (fail)
      clear hs3 ze
      have R1:=au (Kd.aC HR.out nq)
      have W1:=au (aa HW.out nq)
      clear HR HW hb0 hb1
      go_wp2_with ((with_reducible refine bu (b:=.append) (xs:=#[.tmp 45,.tmp 48]) rfl ?_);at_builtin;refine Kd.dH k35 (w0:=w) (W:=wr.drewN nq) w.heap.size rfl (.tmp 45) (.tmp 48) 22 35 (.agg #[.int .i64 0,.int .i64 0]) 16 rfl Try.underlying22 bV rfl (by decide) (by omega) (.slice (some ⟨g,0,none⟩) (m+1) c) l (⟨(q:Int),1⟩:EL) [.int .i64 q,.int .i64 1] (fun _=>True) (fun _=>False) rfl rfl ?aP (fun _ h_=>h_.elim) (fun _ _=>trivial) R1.out W1.out W1.out.size (by have:=HLL.out;omega) ?_;(case aP=>exact mO.2 rfl);intro v4 w4 ho hb4 hg hat;obtain⟨A4,c4,rfl⟩:∃ A4 c4,v4 = .slice A4 (m+1+1) c4:=(by obtain⟨A4,c4,e_⟩:=Kd.bq ho;exact⟨A4,c4,by rw[e_,List.length_append,HL2.out];rfl⟩);have R4:=au ho;have W4:=au hb4;clear ho hb4 hg hat)
      go_roundw
      case rel=>exact⟨q+1,A4,m+1+1,c4,hqb,by go_num,rfl,⟨by rw[HE.out,List.length_append,HL2.out];rfl⟩,⟨by rw[HE.out];exact R4.out⟩,W4⟩
      case measure=>simp[intOf];omega
  ·have hqq:((q:Int) < (b:Int))=False:=eq_false (by omega)
   have hqe:q=b:=by omega
   subst hqe
   clear hqb
   go_wp2
   go_ret
   exact⟨_,rfl,HR.out,HW.out⟩
set_option maxHeartbeats 8000000 in
set_option maxRecDepth 100000 in
theorem mr (b:Nat) (hb:b≤400) (B gb cb:Nat) (bs:List Bool) (hbl:b≤bs.length) (w:World) (hB:w.heap[B]? = some (.cells #[.slice (some ⟨gb,0,none⟩) bs.length cb] 72 (0,0))) (hR:Kd.C Kd.bool w (some ⟨gb,0,none⟩) bs.length bs) :
  Calls Try.prog 36 #[.int .i64 b,.func (.func 54) #[] #[.pointer (some ⟨B,0,none⟩)]] w fun e w'=>∃ v0_:Value,e = .returned v0_∧ES w' w.heap.size (fun _=>True) v0_ (bv (fun i=>!dO false bs i) b)∧Below w.heap.size w w':=by
 have hu:=Try.underlying35
 have hu2:=Try.underlying22
 have hu3:=Try.underlying72
 have HB:=au hB
 have HRB:=au hR
 have HBL:=au hbl
 clear hB hR hbl
 go_enter Try.func36,Try.ntmps36
 go_wp2_with ((with_reducible refine aM (N:=8) rfl ?_);refine Kd.lC k35 w.heap.size 35 ?hg (N:=8) ?hd (xs:=([]:List EL)) (inner:=[]) (ok:=fun _=>True) (okp:=fun _=>True) ?hr ?hp (fun _ hk=>hk) trivial (Below.refl w.heap.size w) (Nat.le_refl _) (by simp) ?_;(case hd=>rfl);(case hg=>rfl);(case hr=>first|(go_simp;done)|(go_simp;rfl));(case hp=>exact(cz.none _ _));intro v1 w1 ho1 hb1 hg_ hnew_;clear hg_ hnew_;have HO1:=au ho1;have HB1:=au hb1;clear ho1 hb1;obtain⟨A1,c1,rfl⟩:∃ A1 c1,v1 = .slice A1 0 c1:=(by obtain⟨A1,c1,e_⟩:=Kd.bq HO1.out;exact⟨A1,c1,e_⟩))
 go_loopw [5,10] (fun v5 v10 wr=>∃ (q:Nat) (A:Option Addr) (n c:Nat),q≤b∧v10 = .int .i64 q∧v5 = .slice A n c∧Aside0 (n = (bv (fun i=>!dO false bs i) q).length)∧Aside0 (ES wr w.heap.size (fun _=>True) (.slice A n c) (bv (fun i=>!dO false bs i) q))∧Aside0 (Below w.heap.size w wr)) (fun _ v10 _=>b - (intOf v10).toNat)
 case atStart=>exact⟨0,A1,0,c1,Nat.zero_le _,rfl,rfl,⟨rfl⟩,⟨HO1.out⟩,HB1⟩
 case round =>
  clear HO1 HB1
  obtain⟨q,A,n,c,hq,rfl,rfl,HN,HR,HW⟩:=hrel
  by_cases hqb:q<b
  ·have hqq:((q:Int) < (b:Int))=True:=eq_true (by omega)
   have hb0:wr.cell? ⟨B,0,none⟩=some (.slice (some ⟨gb,0,none⟩) bs.length cb):=(ak (ay HB.out HW.out) 0).trans rfl
   have hqs:q<bs.length:=by have:=HBL.out;omega
   obtain⟨adb,eb,hy⟩:=Kd.nR HRB.out (q:Int) (by omega) (by omega)
   cases eb
   simp only[Int.toNat_natCast] at hy
   have hb1:=bX HW.out hy
   rw[add_plain] at hb1
   clear hy
   have hqs1:((q:Int) < (bs.length:Int))=True:=eq_true (by omega)
   have HLE:=au (gP (fun i=>!dO false bs i) q)
   cases hbit:dO false bs (q:Int) with
   | true=>
    rw[hbit] at hb1
    have HE:=au (nV (h:=(fun i=>!dO false bs i)) (q:=q) (by simp[hbit]))
    clear hbit
    go_wp2
    go_roundw
    case rel=>exact⟨q+1,A,n,c,hqb,by go_num,rfl,⟨by rw[HE.out];exact HN.out⟩,⟨by rw[HE.out];exact HR.out⟩,HW⟩
    case measure=>simp[intOf];omega
   | false=>
    rw[hbit] at hb1
    have hT:(fun i=>!dO false bs i) (q:Int)=true:=by simp[hbit]
    cases n with
    | zero=>
     have hnil:bv (fun i=>!dO false bs i) q=[]:=List.eq_nil_of_length_eq_zero HN.out.symm
     have HE:=au (show bv (fun i=>!dO false bs i) (q+1)=[]++[⟨(q:Int),1⟩] from kI hT hnil)
     replace HR:Aside0 (ES wr w.heap.size (fun _=>True) (.slice A 0 c) []):=au (by have:=HR.out;rw[hnil] at this;exact this)
     clear HN HLE hT hbit
     have HL2:=au (show([]:List EL).length=0 from rfl)
     have HLL:=au (show([]:List EL).length≤400 by simp)
     go_wp2
     go_quiet (fail)
     have R1:=au (Kd.aC HR.out nq)
     have W1:=au (aa HW.out nq)
     clear HR HW hb0 hb1
     go_wp2_with ((with_reducible refine bu (b:=.append) (xs:=#[.tmp 45,.tmp 48]) rfl ?_);at_builtin;refine Kd.dH k35 (w0:=w) (W:=wr.drewN nq) w.heap.size rfl (.tmp 45) (.tmp 48) 22 35 (.agg #[.int .i64 0,.int .i64 0]) 16 rfl Try.underlying22 bV rfl (by decide) (by omega) (.slice A 0 c) ([]:List EL) (⟨(q:Int),1⟩:EL) [.int .i64 q,.int .i64 1] (fun _=>True) (fun _=>False) rfl rfl ?aP (fun _ h_=>h_.elim) (fun _ _=>trivial) R1.out W1.out W1.out.size (by have:=HLL.out;omega) ?_;(case aP=>exact mO.2 rfl);intro v4 w4 ho hb4 hg hat;obtain⟨A4,c4,rfl⟩:∃ A4 c4,v4 = .slice A4 (0+1) c4:=(by obtain⟨A4,c4,e_⟩:=Kd.bq ho;exact⟨A4,c4,by rw[e_,List.length_append,HL2.out];rfl⟩);have R4:=au ho;have W4:=au hb4;clear ho hb4 hg hat)
     go_roundw
     case rel=>exact⟨q+1,A4,0+1,c4,hqb,by go_num,rfl,⟨by rw[HE.out,List.length_append,HL2.out];rfl⟩,⟨by rw[HE.out];exact R4.out⟩,W4⟩
     case measure=>simp[intOf];omega
    | succ m=>
     have hl:=HN.out.symm
     have HK:=au (lJ hl)
     obtain⟨g,cap,e6,_⟩:=Kd.iQ HR.out (by omega)
     injection e6 with eA en ec
     subst eA
     clear en ec
     obtain⟨k0,k1,k2⟩:=jU HR.out (m:Int) (by omega) (by omega)
     simp only[Int.toNat_natCast] at k0 k1 k2
     replace k2:=k2 1
     have hm1:wrap64 (((m+1:Nat):Int) - 1) = (m:Int):=by rw[w64 (by omega) (by have:=HLE.out;omega)];omega
     have hm2:((m+1:Nat):Int) - 1 = (m:Int):=by omega
     have hm3:((m:Int) < ((m+1:Nat):Int))=True:=eq_true (by omega)
     have hmb:m<400:=by have:=HLE.out;omega
     by_cases hend:(ax (bv (fun i=>!dO false bs i) q) (m:Int)).f0 + (ax (bv (fun i=>!dO false bs i) q) (m:Int)).f1 = (q:Int)
     ·have HE:=au (lG hT hl hend)
      generalize bv (fun i=>!dO false bs i) q=l at HN HR HK HE k0 k1 hend hl
      generalize hy0:(ax l (m:Int)).f0=y0 at HK HE k0 hend
      generalize hy1:(ax l (m:Int)).f1=y1 at HK HE k1 hend
      have z0:=HK.out.1
      have z1:=HK.out.2.1
      have z2:y1≤400:=by have:=HK.out.2.2;omega
      have HY:=au hy0
      clear HLE hT hbit hl hy0 hy1 HK
      have HEND:=au hend
      clear hend
      go_wp2
      have hs3:IntKind.i64.wrap (y0+y1) = (q:Int):=by rw[HEND.out];exact IntWalk.i64_in _ (by omega)
      go_quiet (fail)
      clear hs3
      have R1:=au (Kd.aC HR.out nq)
      have W1:=au (aa HW.out nq)
      have R2:=au (show ES ((wr.drewN nq).setCell ⟨g,m*2+1,none⟩ (.int .i64 (y1+1))) w.heap.size (fun _=>True) (.slice (some ⟨g,0,none⟩) (m+1) c) (l.set m ⟨y0,y1+1⟩) by
       have h_:=mo R1.out (m:Int) (by omega) (by omega) (y1+1)
       rw[Int.toNat_natCast,HY.out] at h_
       exact h_)
      have W2:=au (ae W1.out (Kd.dI R1.out g rfl):Below w.heap.size w ((wr.drewN nq).setCell ⟨g,m*2+1,none⟩ (.int .i64 (y1+1))))
      clear HR HW hb0 hb1
      go_wp2
      go_roundw
      case rel=>exact⟨q+1,some ⟨g,0,none⟩,m+1,c,hqb,by go_num,rfl,⟨by rw[HE.out,List.length_set];exact HN.out⟩,⟨by rw[HE.out];exact R2.out⟩,W2⟩
      case measure=>simp[intOf];omega
     ·have HE:=au (lF hT hl hend)
      generalize bv (fun i=>!dO false bs i) q=l at HN HR HK HE HLE k0 k1 hend hl
      generalize hy0:(ax l (m:Int)).f0=y0 at HK HE k0 hend
      generalize hy1:(ax l (m:Int)).f1=y1 at HK HE k1 hend
      have z0:=HK.out.1
      have z1:=HK.out.2.1
      have z2:y0+y1≤400:=by have:=HK.out.2.2;omega
      have HL2:=au hl
      have HLL:=au (show l.length≤400 by have:=HLE.out;omega)
      have HEND:=au hend
      have ze:(y0+y1 == (q:Int))=false:=beq_eq_false_iff_ne.2 hend
      clear HLE hT hbit hl hy0 hy1 HK hend
      go_wp2
      have hs3:IntKind.i64.wrap (y0+y1)=y0+y1:=IntWalk.i64_in _ (by omega)
      go_quiet (fail)
      clear hs3 ze
      have R1:=au (Kd.aC HR.out nq)
      have W1:=au (aa HW.out nq)
      clear HR HW hb0 hb1
      go_wp2_with ((with_reducible refine bu (b:=.append) (xs:=#[.tmp 45,.tmp 48]) rfl ?_);at_builtin;refine Kd.dH k35 (w0:=w) (W:=wr.drewN nq) w.heap.size rfl (.tmp 45) (.tmp 48) 22 35 (.agg #[.int .i64 0,.int .i64 0]) 16 rfl Try.underlying22 bV rfl (by decide) (by omega) (.slice (some ⟨g,0,none⟩) (m+1) c) l (⟨(q:Int),1⟩:EL) [.int .i64 q,.int .i64 1] (fun _=>True) (fun _=>False) rfl rfl ?aP (fun _ h_=>h_.elim) (fun _ _=>trivial) R1.out W1.out W1.out.size (by have:=HLL.out;omega) ?_;(case aP=>exact mO.2 rfl);intro v4 w4 ho hb4 hg hat;obtain⟨A4,c4,rfl⟩:∃ A4 c4,v4 = .slice A4 (m+1+1) c4:=(by obtain⟨A4,c4,e_⟩:=Kd.bq ho;exact⟨A4,c4,by rw[e_,List.length_append,HL2.out];rfl⟩);have R4:=au ho;have W4:=au hb4;clear ho hb4 hg hat)
      go_roundw
      case rel=>exact⟨q+1,A4,m+1+1,c4,hqb,by go_num,rfl,⟨by rw[HE.out,List.length_append,HL2.out];rfl⟩,⟨by rw[HE.out];exact R4.out⟩,W4⟩
      case measure=>simp[intOf];omega
  ·have hqq:((q:Int) < (b:Int))=False:=eq_false (by omega)
   have hqe:q=b:=by omega
   subst hqe
   clear hqb
   go_wp2
   go_ret
   exact⟨_,rfl,HR.out,HW.out⟩
attribute [local go_sem] bG bH bS bT bB bA bJ bI
set_option linter.unusedVariables false
set_option linter.unusedSimpArgs false
def cmp_Or_int.l0:Nat→Int→List Int→Int→Int→Option (Int)
 | 0,_,_,_,_=>none
 | k+1,x3,x6,x7,x8=>if x8<x7 then (if 0≤x8 then (if x8 < (x6.length:Int) then (if (rd x6 x8)=x3 then (cmp_Or_int.l0 k x3 x6 x7 (wrap64 (x8+1))) else (some (rd x6 x8))) else (none)) else (none)) else (some x3)
def cmp_Or_int.f (k:Nat) (l0:List Int):Option (Int):=cmp_Or_int.l0 k 0 l0 (l0.length:Int) 0
set_option maxHeartbeats 8000000 in
set_option maxRecDepth 100000 in
theorem cmp_Or_int.calls (k:Nat) (A0:Option Addr) (c0:Nat) (l0:List Int) (r:Int) (w:World) (hr0:Kd.C (Kd.int .i64) w A0 l0.length l0) (hc0:l0.length≤c0) (h:cmp_Or_int.f k l0=some r) :
  Calls Try.prog 82 #[.slice A0 l0.length c0] w fun e w'=>e = .returned (.int .i64 r)∧Drawn0 w w':=by
 have HR0:=au hr0
 have HC0:=au hc0
 clear hr0 hc0
 have H:(cmp_Or_int.l0 k 0 l0 (l0.length:Int) 0)=some r:=h
 clear h
 have H':=au H
 clear H
 go_enter Try.func82,Try.ntmps82
 go_wp2
 go_loopg [8] k (fun kq v8 w'=>∃ (x8_1:Int),v8 = .int .i64 x8_1∧Aside0 (cmp_Or_int.l0 kq 0 l0 (l0.length:Int) x8_1=some r)∧Aside0 (kq≤k)∧Drawn0 w w')
 case atStart=>exact⟨(0),(by first|rfl|(simp;done)|(simp[*];done)),H',⟨Nat.le_refl _⟩,by repeat(first|exact Drawn0.refl _|apply Drawn0.step)⟩
 case round =>
  clear H'
  obtain⟨x8_1,rfl,HA,HK1,⟨m1,rfl⟩⟩:=hrel
  cases gk with
  | zero=>exact absurd HA.out (by simp[cmp_Or_int.l0])
  | succ k1=>
   have H:=HA.out
   clear HA
   simp only[cmp_Or_int.l0] at H
   by_cases c2:x8_1 < (l0.length:Int)
   ·rw [if_pos c2] at H
    have c2b0:decide (x8_1 < (l0.length:Int))=true:=decide_eq_true c2
    clear c2
    by_cases c3:0≤x8_1
    ·rw[if_pos c3] at H
     have c3b0:decide (0≤x8_1)=true:=decide_eq_true c3
     clear c3
     by_cases c4:x8_1 < (l0.length:Int)
     ·rw[if_pos c4] at H
      have c4b0:decide (x8_1 < (l0.length:Int))=true:=decide_eq_true c4
      clear c4
      by_cases c5:(rd l0 x8_1)=0
      ·rw[if_pos c5] at H
       have c5b0:((rd l0 x8_1) == 0)=true:=beq_iff_eq.mpr c5
       have c5b1:((rd l0 x8_1) != 0)=false:=bne_eq_false_iff_eq.mpr c5
       clear c5
       have H':=au H
       clear H
       have p430:0≤(x8_1:Int):=of_decide_eq_true (by assumption)
       have q430:x8_1 < (l0.length:Int):=of_decide_eq_true (by assumption)
       obtain⟨ad430,e430,hx430_0⟩:=Kd.kv HR0.out x8_1 p430 q430
       cases e430
       replace p430:=eq_true p430
       replace q430:=eq_true q430
       go_wp2
       go_roundg k1
       case measure=>have:=HK1.out;omega
       case rel=>exact⟨(wrap64 (x8_1+1)),(by first|rfl|(simp;done)|(simp[*];done)),H',⟨by have:=HK1.out;omega⟩,by repeat(first|exact Drawn0.refl _|apply Drawn0.step)⟩
      ·rw[if_neg c5] at H
       have c5b0:((rd l0 x8_1) == 0)=false:=beq_eq_false_iff_ne.mpr c5
       have c5b1:((rd l0 x8_1) != 0)=true:=bne_iff_ne.mpr c5
       obtain rfl:=Option.some.inj H
       have p430:0≤(x8_1:Int):=of_decide_eq_true (by assumption)
       have q430:x8_1 < (l0.length:Int):=of_decide_eq_true (by assumption)
       obtain⟨ad430,e430,hx430_0⟩:=Kd.kv HR0.out x8_1 p430 q430
       cases e430
       replace p430:=eq_true p430
       replace q430:=eq_true q430
       go_wp2
       go_ret
       exact⟨by first|rfl|(simp;done)|(simp[*];done),by repeat(first|exact Drawn0.refl _|apply Drawn0.step)⟩
     ·rw[if_neg c4] at H
      exact absurd H (by simp)
    ·rw[if_neg c3] at H
     exact absurd H (by simp)
   ·rw[if_neg c2] at H
    have c2b0:decide (x8_1 < (l0.length:Int))=false:=decide_eq_false c2
    clear c2
    obtain rfl:=Option.some.inj H
    go_wp2
    go_ret
    exact⟨by first|rfl|(simp;done)|(simp[*];done),by repeat(first|exact Drawn0.refl _|apply Drawn0.step)⟩
attribute [local go_sem] bG bH bS bT bB bA bJ bI
set_option linter.unusedVariables false
set_option linter.unusedSimpArgs false
def cmp_isNaN_int.f (a0:Int):Option (Bool):=some (a0 != a0)
set_option maxHeartbeats 8000000 in
set_option maxRecDepth 100000 in
theorem cmp_isNaN_int.calls (a0:Int) (r:Bool) (w:World) (h:cmp_isNaN_int.f a0=some r) :
  Calls Try.prog 96 #[.int .i64 a0] w fun e w'=>e = .returned (.bool r)∧Drawn0 w w':=by
 have H:(some (a0 != a0))=some r:=h
 clear h
 obtain rfl:=Option.some.inj H
 go_enter Try.func96,Try.ntmps96
 go_wp2
 go_ret
 exact⟨by first|rfl|(simp;done)|(simp[*];done),by repeat(first|exact Drawn0.refl _|apply Drawn0.step)⟩
attribute [local go_sem] bG bH bS bT bB bA bJ bI
set_option linter.unusedVariables false
set_option linter.unusedSimpArgs false
def cmp_Compare_int.f (a0:Int) (a1:Int):Option (Int):=(cmp_isNaN_int.f a0).bind fun t431=>((cmp_isNaN_int.f a1).bind fun t432=>(if t431=true then (if t432=true then (some 0) else (some (-1))) else (if t432=true then (some 1) else (if a0<a1 then (some (-1)) else (if a0 > a1 then (some 1) else (some 0))))))
set_option maxHeartbeats 8000000 in
set_option maxRecDepth 100000 in
theorem cmp_Compare_int.calls (a0:Int) (a1:Int) (r:Int) (w:World) (h:cmp_Compare_int.f a0 a1=some r) :
  Calls Try.prog 83 #[.int .i64 a0,.int .i64 a1] w fun e w'=>e = .returned (.int .i64 r)∧Drawn0 w w':=by
 have H:((cmp_isNaN_int.f a0).bind fun t431=>((cmp_isNaN_int.f a1).bind fun t432=>(if t431=true then (if t432=true then (some 0) else (some (-1))) else (if t432=true then (some 1) else (if a0<a1 then (some (-1)) else (if a0 > a1 then (some 1) else (some 0)))))))=some r:=h
 clear h
 replace H:=Option.bind_eq_some_iff.mp H
 obtain⟨t431,A30,H⟩:=H
 replace H:((cmp_isNaN_int.f a1).bind fun t432=>(if t431=true then (if t432=true then (some 0) else (some (-1))) else (if t432=true then (some 1) else (if a0<a1 then (some (-1)) else (if a0 > a1 then (some 1) else (some 0))))))=some r:=H
 have A3:=au A30
 clear A30
 replace H:=Option.bind_eq_some_iff.mp H
 obtain⟨t432,A40,H⟩:=H
 replace H:(if t431=true then (if t432=true then (some 0) else (some (-1))) else (if t432=true then (some 1) else (if a0<a1 then (some (-1)) else (if a0 > a1 then (some 1) else (some 0)))))=some r:=H
 have A4:=au A40
 clear A40
 by_cases c5:t431=true
 ·subst c5
  have H1:(if t432=true then (some 0) else (some (-1)))=some r:=by rw[if_pos rfl] at H;exact H
  clear H
  have H:=H1
  clear H1
  by_cases c6:t432=true
  ·subst c6
   have H1:(some 0)=some r:=by rw[if_pos rfl] at H;exact H
   clear H
   have H:=H1
   clear H1
   obtain rfl:=Option.some.inj H
   go_enter Try.func83,Try.ntmps83
   go_wp2_with (first|((with_reducible refine aW (f:=96) rfl ?_);refine bO (some 8) rfl rfl Try.func96 (by kernel_rfl) rfl #[.int .i64 a0] rfl (by(try simp only[amp_]);first|done|rfl|(simp only[ald_];rfl)) ?_;(with_reducible refine(cmp_isNaN_int.calls a0 true _ A3.out).mono ?_);rintro e w' ⟨rfl,⟨nd,rfl⟩⟩;refine⟨_,rfl,?_⟩)|((with_reducible refine aW (f:=96) rfl ?_);refine bO (some 10) rfl rfl Try.func96 (by kernel_rfl) rfl #[.int .i64 a1] rfl (by(try simp only[amp_]);first|done|rfl|(simp only[ald_];rfl)) ?_;(with_reducible refine(cmp_isNaN_int.calls a1 true _ A4.out).mono ?_);rintro e w' ⟨rfl,⟨nd,rfl⟩⟩;refine⟨_,rfl,?_⟩))
   go_ret
   exact⟨by first|rfl|(simp;done)|(simp[*];done),by repeat(first|exact Drawn0.refl _|apply Drawn0.step)⟩
  ·replace c6:=Bool.eq_false_iff.mpr c6
   subst c6
   have H1:(some (-1))=some r:=by rw[if_neg (show ¬ (false=true) by decide)] at H;exact H
   clear H
   have H:=H1
   clear H1
   obtain rfl:=Option.some.inj H
   go_enter Try.func83,Try.ntmps83
   go_wp2_with (first|((with_reducible refine aW (f:=96) rfl ?_);refine bO (some 8) rfl rfl Try.func96 (by kernel_rfl) rfl #[.int .i64 a0] rfl (by(try simp only[amp_]);first|done|rfl|(simp only[ald_];rfl)) ?_;(with_reducible refine(cmp_isNaN_int.calls a0 true _ A3.out).mono ?_);rintro e w' ⟨rfl,⟨nd,rfl⟩⟩;refine⟨_,rfl,?_⟩)|((with_reducible refine aW (f:=96) rfl ?_);refine bO (some 10) rfl rfl Try.func96 (by kernel_rfl) rfl #[.int .i64 a1] rfl (by(try simp only[amp_]);first|done|rfl|(simp only[ald_];rfl)) ?_;(with_reducible refine(cmp_isNaN_int.calls a1 false _ A4.out).mono ?_);rintro e w' ⟨rfl,⟨nd,rfl⟩⟩;refine⟨_,rfl,?_⟩))
   go_ret
   exact⟨by first|rfl|(simp;done)|(simp[*];done),by repeat(first|exact Drawn0.refl _|apply Drawn0.step)⟩
 ·replace c5:=Bool.eq_false_iff.mpr c5
  subst c5
  have H1:(if t432=true then (some 1) else (if a0<a1 then (some (-1)) else (if a0 > a1 then (some 1) else (some 0))))=some r:=by rw[if_neg (show ¬ (false=true) by decide)] at H;exact H
  clear H
  have H:=H1
  clear H1
  by_cases c7:t432=true
  ·subst c7
   have H1:(some 1)=some r:=by rw[if_pos rfl] at H;exact H
   clear H
   have H:=H1
   clear H1
   obtain rfl:=Option.some.inj H
   go_enter Try.func83,Try.ntmps83
   go_wp2_with (first|((with_reducible refine aW (f:=96) rfl ?_);refine bO (some 8) rfl rfl Try.func96 (by kernel_rfl) rfl #[.int .i64 a0] rfl (by(try simp only[amp_]);first|done|rfl|(simp only[ald_];rfl)) ?_;(with_reducible refine(cmp_isNaN_int.calls a0 false _ A3.out).mono ?_);rintro e w' ⟨rfl,⟨nd,rfl⟩⟩;refine⟨_,rfl,?_⟩)|((with_reducible refine aW (f:=96) rfl ?_);refine bO (some 10) rfl rfl Try.func96 (by kernel_rfl) rfl #[.int .i64 a1] rfl (by(try simp only[amp_]);first|done|rfl|(simp only[ald_];rfl)) ?_;(with_reducible refine(cmp_isNaN_int.calls a1 true _ A4.out).mono ?_);rintro e w' ⟨rfl,⟨nd,rfl⟩⟩;refine⟨_,rfl,?_⟩))
   go_ret
   exact⟨by first|rfl|(simp;done)|(simp[*];done),by repeat(first|exact Drawn0.refl _|apply Drawn0.step)⟩
  ·replace c7:=Bool.eq_false_iff.mpr c7
   subst c7
   have H1:(if a0<a1 then (some (-1)) else (if a0 > a1 then (some 1) else (some 0)))=some r:=by rw[if_neg (show ¬ (false=true) by decide)] at H;exact H
   clear H
   have H:=H1
   clear H1
   by_cases c8:a0<a1
   ·rw[if_pos c8] at H
    have c8b0:decide (a0<a1)=true:=decide_eq_true c8
    clear c8
    obtain rfl:=Option.some.inj H
    go_enter Try.func83,Try.ntmps83
    go_wp2_with (first|((with_reducible refine aW (f:=96) rfl ?_);refine bO (some 8) rfl rfl Try.func96 (by kernel_rfl) rfl #[.int .i64 a0] rfl (by(try simp only[amp_]);first|done|rfl|(simp only[ald_];rfl)) ?_;(with_reducible refine(cmp_isNaN_int.calls a0 false _ A3.out).mono ?_);rintro e w' ⟨rfl,⟨nd,rfl⟩⟩;refine⟨_,rfl,?_⟩)|((with_reducible refine aW (f:=96) rfl ?_);refine bO (some 10) rfl rfl Try.func96 (by kernel_rfl) rfl #[.int .i64 a1] rfl (by(try simp only[amp_]);first|done|rfl|(simp only[ald_];rfl)) ?_;(with_reducible refine(cmp_isNaN_int.calls a1 false _ A4.out).mono ?_);rintro e w' ⟨rfl,⟨nd,rfl⟩⟩;refine⟨_,rfl,?_⟩))
    go_ret
    exact⟨by first|rfl|(simp;done)|(simp[*];done),by repeat(first|exact Drawn0.refl _|apply Drawn0.step)⟩
   ·rw[if_neg c8] at H
    have c8b0:decide (a0<a1)=false:=decide_eq_false c8
    clear c8
    by_cases c9:a0 > a1
    ·rw[if_pos c9] at H
     have c9b0:decide (a1<a0)=true:=decide_eq_true c9
     clear c9
     obtain rfl:=Option.some.inj H
     go_enter Try.func83,Try.ntmps83
     go_wp2_with (first|((with_reducible refine aW (f:=96) rfl ?_);refine bO (some 8) rfl rfl Try.func96 (by kernel_rfl) rfl #[.int .i64 a0] rfl (by(try simp only[amp_]);first|done|rfl|(simp only[ald_];rfl)) ?_;(with_reducible refine(cmp_isNaN_int.calls a0 false _ A3.out).mono ?_);rintro e w' ⟨rfl,⟨nd,rfl⟩⟩;refine⟨_,rfl,?_⟩)|((with_reducible refine aW (f:=96) rfl ?_);refine bO (some 10) rfl rfl Try.func96 (by kernel_rfl) rfl #[.int .i64 a1] rfl (by(try simp only[amp_]);first|done|rfl|(simp only[ald_];rfl)) ?_;(with_reducible refine(cmp_isNaN_int.calls a1 false _ A4.out).mono ?_);rintro e w' ⟨rfl,⟨nd,rfl⟩⟩;refine⟨_,rfl,?_⟩))
     go_ret
     exact⟨by first|rfl|(simp;done)|(simp[*];done),by repeat(first|exact Drawn0.refl _|apply Drawn0.step)⟩
    ·rw[if_neg c9] at H
     have c9b0:decide (a1<a0)=false:=decide_eq_false c9
     clear c9
     obtain rfl:=Option.some.inj H
     go_enter Try.func83,Try.ntmps83
     go_wp2_with (first|((with_reducible refine aW (f:=96) rfl ?_);refine bO (some 8) rfl rfl Try.func96 (by kernel_rfl) rfl #[.int .i64 a0] rfl (by(try simp only[amp_]);first|done|rfl|(simp only[ald_];rfl)) ?_;(with_reducible refine(cmp_isNaN_int.calls a0 false _ A3.out).mono ?_);rintro e w' ⟨rfl,⟨nd,rfl⟩⟩;refine⟨_,rfl,?_⟩)|((with_reducible refine aW (f:=96) rfl ?_);refine bO (some 10) rfl rfl Try.func96 (by kernel_rfl) rfl #[.int .i64 a1] rfl (by(try simp only[amp_]);first|done|rfl|(simp only[ald_];rfl)) ?_;(with_reducible refine(cmp_isNaN_int.calls a1 false _ A4.out).mono ?_);rintro e w' ⟨rfl,⟨nd,rfl⟩⟩;refine⟨_,rfl,?_⟩))
     go_ret
     exact⟨by first|rfl|(simp;done)|(simp[*];done),by repeat(first|exact Drawn0.refl _|apply Drawn0.step)⟩
end Go.Proofs.Ytelblhkbogljnaa.PFre
namespace Go.Proofs
open Go.Shelf
def Try.sortExt_ren:Go.Shelf.Ren:=⟨fun|6=>63|15=>81|14=>80|28=>94|29=>95|20=>86|21=>87|22=>88|23=>89|24=>90|25=>91|26=>92|27=>93|46=>98|47=>99|48=>100|49=>101|50=>102|57=>104|n=>n,fun|22=>22|24=>35|25=>82|3=>3|39=>101|0=>0|53=>114|55=>65|4=>4|46=>108|45=>107|50=>74|5=>5|9=>9|66=>117|70=>121|76=>124|77=>125|n=>n,fun|n=>n⟩
theorem Try.sortExt:Go.Proofs.SlLaysF0.n6 Try.prog Try.sortExt_ren:={
  mixed:=by kernel_rfl
  f6:=⟨Try.f63.name,by decide,Try.func63.trans (congrArg some (by kernel_rfl))⟩
  f14:=⟨Try.f80.name,by decide,Try.func80.trans (congrArg some (by kernel_rfl))⟩
  f15:=Try.func81.trans (congrArg some (by kernel_rfl))
  f20:=⟨Try.f86.name,by decide,Try.func86.trans (congrArg some (by kernel_rfl))⟩
  f21:=⟨Try.f87.name,by decide,Try.func87.trans (congrArg some (by kernel_rfl))⟩
  f22:=⟨Try.f88.name,by decide,Try.func88.trans (congrArg some (by kernel_rfl))⟩
  f23:=⟨Try.f89.name,by decide,Try.func89.trans (congrArg some (by kernel_rfl))⟩
  f24:=⟨Try.f90.name,by decide,Try.func90.trans (congrArg some (by kernel_rfl))⟩
  f25:=⟨Try.f91.name,by decide,Try.func91.trans (congrArg some (by kernel_rfl))⟩
  f26:=⟨Try.f92.name,by decide,Try.func92.trans (congrArg some (by kernel_rfl))⟩
  f27:=⟨Try.f93.name,by decide,Try.func93.trans (congrArg some (by kernel_rfl))⟩
  f28:=Try.func94.trans (congrArg some (by kernel_rfl))
  f29:=Try.func95.trans (congrArg some (by kernel_rfl))
  f46:=⟨Try.f98.name,by decide,Try.func98.trans (congrArg some (by kernel_rfl))⟩
  f47:=Try.func99.trans (congrArg some (by kernel_rfl))
  f48:=Try.func100.trans (congrArg some (by kernel_rfl))
  f49:=⟨Try.f101.name,by decide,Try.func101.trans (congrArg some (by kernel_rfl))⟩
  f50:=⟨Try.f102.name,by decide,Try.func102.trans (congrArg some (by kernel_rfl))⟩
  f57:=⟨Try.f104.name,by decide,Try.func104.trans (congrArg some (by kernel_rfl))⟩
  t0:=Try.underlying0
  a0:=Try.isAgg0
  z0:=Try.sizeOf0
  v0:=Try.zeroValue0
  t3:=Try.underlying3
  a3:=Try.isAgg3
  z3:=Try.sizeOf3
  v3:=Try.zeroValue3
  t4:=Try.underlying4
  a4:=Try.isAgg4
  z4:=Try.sizeOf4
  v4:=Try.zeroValue4
  t5:=Try.underlying5
  a5:=Try.isAgg5
  z5:=Try.sizeOf5
  v5:=Try.zeroValue5
  t9:=Try.underlying9
  a9:=Try.isAgg9
  z9:=Try.sizeOf9
  v9:=Try.zeroValue9
  t22:=Try.underlying22
  a22:=Try.isAgg22
  z22:=Try.sizeOf22
  v22:=Try.zeroValue22
  t25:=Try.underlying82
  a25:=Try.isAgg82
  z25:=Try.sizeOf82
  v25:=Try.zeroValue82
  t39:=Try.underlying101
  a39:=Try.isAgg101
  z39:=Try.sizeOf101
  v39:=Try.zeroValue101
  t45:=Try.underlying107
  a45:=Try.isAgg107
  z45:=Try.sizeOf107
  v45:=Try.zeroValue107
  t46:=Try.underlying108
  a46:=Try.isAgg108
  z46:=Try.sizeOf108
  v46:=Try.zeroValue108
  t50:=Try.underlying74
  a50:=Try.isAgg74
  z50:=Try.sizeOf74
  v50:=Try.zeroValue74
  t53:=Try.underlying114
  a53:=Try.isAgg114
  z53:=Try.sizeOf114
  v53:=Try.zeroValue114
  t55:=Try.underlying65
  a55:=Try.isAgg65
  z55:=Try.sizeOf65
  v55:=Try.zeroValue65
  t66:=Try.underlying117
  a66:=Try.isAgg117
  z66:=Try.sizeOf117
  v66:=Try.zeroValue117
  t70:=Try.underlying121
  a70:=Try.isAgg121
  z70:=Try.sizeOf121
  v70:=Try.zeroValue121
  t76:=Try.underlying124
  a76:=Try.isAgg124
  z76:=Try.sizeOf124
  v76:=Try.zeroValue124
  t77:=Try.underlying125
  a77:=Try.isAgg125
  z77:=Try.sizeOf125
  v77:=Try.zeroValue125 }
end Go.Proofs
namespace Go.Proofs.Ytelblhkbogljnaa.PFre
open Go.RowKit Go.Proofs.YtelblhkbogljnaaW.PrintWords Go.Proofs.YtelblhkbogljnaaW.PrintLast Go.Proofs.YtelblhkbogljnaaW.PrintMore Go.Proofs.Ytelblhkbogljnaa.E
set_option linter.unusedSimpArgs false
set_option linter.unusedVariables false
def Grw (w W:World):Prop:=∃ q os,W=Go.Sort.grow (w.drewN q) os
theorem Grw.refl (w:World):Grw w w:=⟨0,#[],by rw[Go.Sort.grow_empty];rfl⟩
theorem Grw.alloc {w W:World} (h:Grw w W) (o:Obj):Grw w (W.alloc o):=by
 obtain⟨q,os,rfl⟩:=h
 exact⟨q,os++#[o],by rw[Go.Sort.alloc_eq_grow,Go.Sort.grow_grow]⟩
theorem Grw.drewN {w W:World} (h:Grw w W) (n:Nat):Grw w (W.drewN n):=by
 obtain⟨q,os,rfl⟩:=h
 exact⟨q+n,os,by show Go.Sort.grow ((w.drewN q).drewN n) os=_;rw[World.drewN_drewN]⟩
theorem Grw.drew {w W:World} (h:Grw w W):Grw w W.drew:=h.drewN 1
theorem Grw.below {w W:World} (h:Grw w W):Below w.heap.size w W:=by
 obtain⟨q,os,rfl⟩:=h
 refine⟨rfl,rfl,rfl,by simp[Go.Sort.grow,World.drewN],fun k hk=>?_⟩
 show(w.heap++os)[k]? = w.heap[k]?
 rw[Array.getElem?_append_left hk]
def lq (a b:Int):Int:=if a<b then -1 else if a > b then 1 else 0
def nH (x y:EX):Int:=if lq x.f1 y.f1=0 then lq x.f0 y.f0 else lq x.f1 y.f1
theorem lD (a b:Int):cmp_Compare_int.f a b=some (lq a b):=by
 unfold cmp_Compare_int.f cmp_isNaN_int.f lq
 simp
 split
 ·rfl
 ·split <;> rfl
theorem qO (a b:Int):cmp_Or_int.f 5 [a,b]=some (if a=0 then b else a):=by
 have e1:wrap64 (0+1)=1:=by decide +kernel
 have e2:wrap64 (1+1)=2:=by decide +kernel
 unfold cmp_Or_int.f
 simp only[cmp_Or_int.l0,List.length_cons,List.length_nil,e1,e2]
 by_cases h:a=0
 ·subst h
  by_cases h2:b=0
  ·subst h2;simp[rd]
  ·simp[rd,h2]
 ·simp[rd,h]
theorem o6 {W:World} {gt:Nat} {a b:Int} (h:W.heap[gt]? = some (.cells #[.int .i64 a,.int .i64 b] 3 (0,0))):Kd.C (Kd.int .i64) W (some ⟨gt,0,none⟩) 2 [a,b]:=by
 refine Kd.gY (enc:=Value.int .i64) (d:=(0:Int)) ⟨rfl,by omega,fun _=>⟨_,rfl,fun j hj=>?_⟩⟩
 obtain rfl|rfl:j=0∨j=1:=by omega
 ·exact(ak h 0).trans rfl
 ·exact(ak h 1).trans rfl
set_option maxHeartbeats 4000000 in
set_option maxRecDepth 100000 in
theorem iO (x y:EX) (w:World):Calls Try.prog 64 #[.agg #[.int .i64 x.f0,.int .i64 x.f1],.agg #[.int .i64 y.f0,.int .i64 y.f1]] w fun e w'=>e = .returned (.int .i64 (nH x y))∧Grw w w':=by
 have hu35:=Try.underlying35
 obtain⟨W1,hW1⟩:∃ W,w.alloc (.cells #[.int .i64 x.f0,.int .i64 x.f1] 35)=W:=⟨_,rfl⟩
 obtain⟨W2,hW2⟩:∃ W,W1.alloc (.cells #[.int .i64 y.f0,.int .i64 y.f1] 35)=W:=⟨_,rfl⟩
 have G:=au (show Grw w W2 by rw[← hW2,← hW1];exact((Grw.refl w).alloc _).alloc _)
 have hb2:Below W1.heap.size W1 W2:=by rw[← hW2];exact ah (Below.refl _ _) _
 have X1:W1.heap[w.heap.size]? = some (.cells #[.int .i64 x.f0,.int .i64 x.f1] 35 (0,0)):=by rw[← hW1];exact heap_alloc_new w _
 have Y2:W2.heap[W1.heap.size]? = some (.cells #[.int .i64 y.f0,.int .i64 y.f1] 35 (0,0)):=by rw[← hW2];exact heap_alloc_new W1 _
 have X:=au (ay X1 hb2)
 have Y:=au Y2
 clear hb2 X1 Y2
 have EC:=au (lD x.f1 y.f1)
 have EE:=au (lD x.f0 y.f0)
 have ES:=au (show cmp_Or_int.f 5 [lq x.f1 y.f1,lq x.f0 y.f0]=some (nH x y) from qO _ _)
 generalize nH x y=r at ES ⊢
 generalize lq x.f1 y.f1=c1 at EC ES
 generalize lq x.f0 y.f0=c2 at EE ES
 go_enter Try.func64,Try.ntmps64
 go_wp2
 clear hW1 hW2
 generalize hgx:w.heap.size=gx at X ⊢
 generalize hgy:W1.heap.size=gy at Y ⊢
 clear hgx hgy
 refine dZ (n:=13) (S:=fun w'=>w'.cell? ⟨gx,1,none⟩=some (.int .i64 x.f1)∧w'.cell? ⟨gy,1,none⟩=some (.int .i64 y.f1)∧w'.cell? ⟨gx,0,none⟩=some (.int .i64 x.f0)∧w'.cell? ⟨gy,0,none⟩=some (.int .i64 y.f0)) (ds:=[]) #[false,false,false,false,false,false,false,false,false,false,false,false,false] (by kernel_rfl) rfl rfl ⟨(ak X.out 1).trans rfl,(ak Y.out 1).trans rfl,(ak X.out 0).trans rfl,(ak Y.out 0).trans rfl⟩ (fun hHeld=>?_)
 have hb:=ai (Below.refl W2.heap.size W2)
 replace G:=au G.out.drew
 replace X:=au (ay X.out hb)
 replace Y:=au (ay Y.out hb)
 clear hb
 generalize W2.drew=w3 at X Y G hHeld ⊢
 refine aQ (i:=0) (N:=some 5) (v:=?_) (a':=?_) #[true,false,false,false,false,false,false,false,false,false,false,false,false] rfl rfl (by kernel_rfl) (fun _ _ _ h=>h) (Or.inl ⟨by rfl,?_⟩) ?_ ?_
 rotate_left
 ·intro w'
  go_simp
  with_reducible rfl
 rotate_left
 ·simp only[apu_]
  rfl
 refine bN (i:=1) (N:=some 6) (v:=?_) (a':=?_) #[true,true,false,false,false,false,false,false,false,false,false,false,false] rfl rfl (by kernel_rfl) (fun _ _ _ h=>h) (Or.inl ⟨by rfl,?_⟩) hHeld ?_ ?_
 rotate_left
 ·rintro w' ⟨s0,s1,s2,s3⟩
  go_simp
  with_reducible rfl
 rotate_left
 ·simp only[apu_]
  rfl
 refine aQ (i:=2) (N:=some 7) (v:=?_) (a':=?_) #[true,true,true,false,false,false,false,false,false,false,false,false,false] rfl rfl (by kernel_rfl) (fun _ _ _ h=>h) (Or.inl ⟨by rfl,?_⟩) ?_ ?_
 rotate_left
 ·intro w'
  go_simp
  with_reducible rfl
 rotate_left
 ·simp only[apu_]
  rfl
 refine bN (i:=3) (N:=some 8) (v:=?_) (a':=?_) #[true,true,true,true,false,false,false,false,false,false,false,false,false] rfl rfl (by kernel_rfl) (fun _ _ _ h=>h) (Or.inl ⟨by rfl,?_⟩) hHeld ?_ ?_
 rotate_left
 ·rintro w' ⟨s0,s1,s2,s3⟩
  go_simp
  with_reducible rfl
 rotate_left
 ·simp only[apu_]
  rfl
 refine aQ (i:=5) (N:=some 10) (v:=?_) (a':=?_) #[true,true,true,true,false,true,false,false,false,false,false,false,false] rfl rfl (by kernel_rfl) (fun _ _ _ h=>h) (Or.inl ⟨by rfl,?_⟩) ?_ ?_
 rotate_left
 ·intro w'
  go_simp
  with_reducible rfl
 rotate_left
 ·simp only[apu_]
  rfl
 refine bN (i:=6) (N:=some 11) (v:=?_) (a':=?_) #[true,true,true,true,false,true,true,false,false,false,false,false,false] rfl rfl (by kernel_rfl) (fun _ _ _ h=>h) (Or.inl ⟨by rfl,?_⟩) hHeld ?_ ?_
 rotate_left
 ·rintro w' ⟨s0,s1,s2,s3⟩
  go_simp
  with_reducible rfl
 rotate_left
 ·simp only[apu_]
  rfl
 refine aQ (i:=7) (N:=some 12) (v:=?_) (a':=?_) #[true,true,true,true,false,true,true,true,false,false,false,false,false] rfl rfl (by kernel_rfl) (fun _ _ _ h=>h) (Or.inl ⟨by rfl,?_⟩) ?_ ?_
 rotate_left
 ·intro w'
  go_simp
  with_reducible rfl
 rotate_left
 ·simp only[apu_]
  rfl
 refine bN (i:=8) (N:=some 13) (v:=?_) (a':=?_) #[true,true,true,true,false,true,true,true,true,false,false,false,false] rfl rfl (by kernel_rfl) (fun _ _ _ h=>h) (Or.inl ⟨by rfl,?_⟩) hHeld ?_ ?_
 rotate_left
 ·rintro w' ⟨s0,s1,s2,s3⟩
  go_simp
  with_reducible rfl
 rotate_left
 ·simp only[apu_]
  rfl
 refine dN (i:=4) (N:=some 9) #[true,true,true,true,true,true,true,true,true,false,false,false,false] rfl rfl (by kernel_rfl) (by decide) (fun K hK=>?_)
 refine dh Try.func83 (by kernel_rfl) rfl #[.int .i64 x.f1,.int .i64 y.f1] (by rfl) rfl rfl (by(try simp only[amp_]);first|done|rfl|(simp only[ald_];rfl)) ?_
 refine(cmp_Compare_int.calls x.f1 y.f1 c1 w3 EC.out).mono ?_
 rintro e w4 ⟨rfl,⟨n4,hd⟩⟩
 refine⟨_,rfl,?_⟩
 subst hd
 have hb:=((Grw.refl w3).drewN n4).below
 replace G:=au (G.out.drewN n4)
 replace X:=au (ay X.out hb)
 replace Y:=au (ay Y.out hb)
 clear hb
 generalize w3.drewN n4=w4 at X Y G ⊢
 refine hK.out _ _ ⟨(ak X.out 1).trans rfl,(ak Y.out 1).trans rfl,(ak X.out 0).trans rfl,(ak Y.out 0).trans rfl⟩ (fun hHeld=>?_)
 clear hK K
 refine bQ (a':=?_) ?_ ?_
 rotate_left
 ·show Act.put _ (some 9) _=_
  simp only[apu_]
  rfl
 refine dN (i:=9) (N:=some 14) #[true,true,true,true,true,true,true,true,true,true,false,false,false] rfl rfl (by kernel_rfl) (by decide) (fun K hK=>?_)
 refine dh Try.func83 (by kernel_rfl) rfl #[.int .i64 x.f0,.int .i64 y.f0] (by rfl) rfl rfl (by(try simp only[amp_]);first|done|rfl|(simp only[ald_];rfl)) ?_
 refine(cmp_Compare_int.calls x.f0 y.f0 c2 w4 EE.out).mono ?_
 rintro e w5 ⟨rfl,⟨n9,hd⟩⟩
 refine⟨_,rfl,?_⟩
 subst hd
 have hb:=((Grw.refl w4).drewN n9).below
 replace G:=au (G.out.drewN n9)
 replace X:=au (ay X.out hb)
 replace Y:=au (ay Y.out hb)
 clear hb
 generalize w4.drewN n9=w5 at X Y G ⊢
 refine hK.out _ _ ⟨(ak X.out 1).trans rfl,(ak Y.out 1).trans rfl,(ak X.out 0).trans rfl,(ak Y.out 0).trans rfl⟩ (fun hHeld=>?_)
 clear hK K
 refine bQ (a':=?_) ?_ ?_
 rotate_left
 ·show Act.put _ (some 14) _=_
  simp only[apu_]
  rfl
 refine dN (i:=10) (N:=some 15) #[true,true,true,true,true,true,true,true,true,true,true,false,false] rfl rfl (by kernel_rfl) (by decide) (fun K hK=>?_)
 refine fD (by rfl) (v:=.slice (some ⟨w5.heap.size,0,none⟩) 2 2) (w1:=w5.alloc (.cells #[.int .i64 c1,.int .i64 c2] 3)) (by first|(go_simp;done)|(go_simp;rfl)) ?_
 have hb:=ah (Below.refl w5.heap.size w5) (.cells #[.int .i64 c1,.int .i64 c2] 3)
 have T:=au (heap_alloc_new w5 (.cells #[.int .i64 c1,.int .i64 c2] 3))
 replace G:=au (G.out.alloc (.cells #[.int .i64 c1,.int .i64 c2] 3))
 replace X:=au (ay X.out hb)
 replace Y:=au (ay Y.out hb)
 clear hb
 generalize hgt:w5.heap.size=gt at T ⊢
 clear hgt
 generalize w5.alloc (.cells #[.int .i64 c1,.int .i64 c2] 3)=w6 at X Y G T ⊢
 refine hK.out _ _ ⟨(ak X.out 1).trans rfl,(ak Y.out 1).trans rfl,(ak X.out 0).trans rfl,(ak Y.out 0).trans rfl⟩ (fun hHeld=>?_)
 clear hK K
 refine bQ (a':=?_) ?_ ?_
 rotate_left
 ·show Act.put _ (some 15) _=_
  simp only[apu_]
  rfl
 refine dN (i:=11) (N:=some 16) #[true,true,true,true,true,true,true,true,true,true,true,true,false] rfl rfl (by kernel_rfl) (by decide) (fun K hK=>?_)
 refine dh Try.func82 (by kernel_rfl) rfl #[.slice (some ⟨gt,0,none⟩) 2 2] (by rfl) rfl rfl (by(try simp only[amp_]);first|done|rfl|(simp only[ald_];rfl)) ?_
 refine(cmp_Or_int.calls 5 (some ⟨gt,0,none⟩) 2 [c1,c2] r w6 (o6 T.out) (by simp) ES.out).mono ?_
 rintro e w7 ⟨rfl,⟨n8,hd⟩⟩
 refine⟨_,rfl,?_⟩
 subst hd
 have hb:=((Grw.refl w6).drewN n8).below
 replace G:=au (G.out.drewN n8)
 replace X:=au (ay X.out hb)
 replace Y:=au (ay Y.out hb)
 clear hb
 generalize w6.drewN n8=w7 at X Y G ⊢
 refine hK.out _ _ ⟨(ak X.out 1).trans rfl,(ak Y.out 1).trans rfl,(ak X.out 0).trans rfl,(ak Y.out 0).trans rfl⟩ (fun hHeld=>?_)
 clear hK K
 refine bQ (a':=?_) ?_ ?_
 rotate_left
 ·show Act.put _ (some 16) _=_
  simp only[apu_]
  rfl
 refine aQ (i:=12) (N:=some 4) (v:=?_) (a':=?_) #[true,true,true,true,true,true,true,true,true,true,true,true,true] rfl rfl (by kernel_rfl) (fun _ _ _ h=>h) (Or.inl ⟨by rfl,?_⟩) ?_ ?_
 rotate_left
 ·intro w'
  go_simp
  with_reducible rfl
 rotate_left
 ·simp only[apu_]
  rfl
 refine fo (by kernel_rfl) ?_
 clear hHeld
 go_wp2
 go_ret
 exact⟨rfl,G.out⟩
def ltE (x y:EX):Bool:=decide (x.f1<y.f1∨(x.f1=y.f1∧x.f0<y.f0))
theorem nU {x y:EX}:ltE x y=true↔x.f1<y.f1∨(x.f1=y.f1∧x.f0<y.f0):=decide_eq_true_iff
theorem kP {x y:EX}:ltE x y=false↔y.f1<x.f1∨(y.f1=x.f1∧y.f0≤x.f0):=by
 unfold ltE
 rw[decide_eq_false_iff_not]
 omega
def jd (x:EX):List EX→List EX
 | []=>[x]
 | y::r=>if ltE y x=true then y::jd x r else x::y::r
def gX (out:List EX):List EX→List EX
 | []=>out
 | x::r=>gX (jd x out) r
def bD (l:List EX):List EX:=gX [] l
abbrev Asc (l:List EX):Prop:=l.Pairwise fun x y=>ltE y x=false
theorem jv (x:EX):∀ l:List EX,(jd x l).Perm (x::l)
 | []=>.refl _
 | y::r=>by
  unfold jd
  split
  ·exact((jv x r).cons y).trans (.swap x y r)
  ·exact .refl _
theorem mF (x:EX):∀ {l:List EX},Asc l→Asc (jd x l)
 | [],_=>List.pairwise_singleton ..
 | y::r,h=>by
  obtain⟨h1,h2⟩:=List.pairwise_cons.1 h
  unfold jd
  split
  ·rename_i hlt
   refine List.pairwise_cons.2 ⟨fun z hz=>?_,mF x h2⟩
   rcases List.mem_cons.1 ((jv x r).mem_iff.1 hz) with e|e
   ·subst e
    rw[nU] at hlt
    rw[kP]
    omega
   ·exact h1 z e
  ·rename_i hlt
   have hlt:ltE y x=false:=by simpa using hlt
   refine List.pairwise_cons.2 ⟨fun z hz=>?_,h⟩
   rcases List.mem_cons.1 hz with e|e
   ·subst e;exact hlt
   ·have:=h1 z e
    rw[kP] at this hlt ⊢
    omega
theorem jK:∀ (l out:List EX),(gX out l).Perm (out++l)
 | [],out=>by rw[gX,List.append_nil]
 | x::r,out=>by
  rw[gX]
  exact(jK r _).trans (((jv x out).append_right r).trans List.perm_middle.symm)
theorem kV:∀ (l:List EX) {out:List EX},Asc out→Asc (gX out l)
 | [],_,h=>h
 | x::r,_,h=>kV r (mF x h)
theorem iT (l:List EX):(bD l).Perm l:=jK l []
theorem oW (l:List EX):Asc (bD l):=kV l List.Pairwise.nil
theorem fu (l:List EX):(bD l).length=l.length:=(iT l).length_eq
theorem nC {l m:List EX} (hl:Asc l) (hm:Asc m) (h:l.Perm m):l=m:=by
 refine List.Perm.eq_of_pairwise (fun a b _ _ h1 h2=>?_) hl hm h
 rw[kP] at h1 h2
 have e0:a.f0=b.f0:=by omega
 have e1:a.f1=b.f1:=by omega
 cases a;cases b;simp only at e0 e1;rw[e0,e1]
instance:Inhabited EX:=⟨z35⟩
def gM (x:EX):List Value:=[.int .i64 x.f0,.int .i64 x.f1]
def ik (l:List EX):List Value:=l.flatMap gM
theorem iF:∀ l:List EX,(ik l).length=l.length*2
 | []=>rfl
 | x::r=>by
  have:=iF r
  show(gM x++ik r).length=_
  rw[List.length_append,this,List.length_cons]
  show 2+r.length*2=_
  omega
theorem jw:∀ (l:List EX) (t:Nat),t<l.length*2→(ik l)[t]? = some ((gM (l.getD (t / 2) z35)).getD (t % 2) undef)
 | [],t,h=>by simp at h
 | x::r,0,_=>rfl
 | x::r,1,_=>rfl
 | x::r,t+2,h=>by
  have:=jw r t (by simp at h;omega)
  show(gM x++ik r)[t+2]? = _
  rw[List.getElem?_append_right (by show 2≤t+2;omega),show t+2 - (gM x).length=t from rfl,this,show(t+2) / 2=t / 2+1 by omega,show(t+2) % 2=t % 2 by omega]
  rfl
section
variable {w:World} {base:Nat} {ok:Nat→Prop} {v:Value} {l:List EX}
theorem lM:∀ {l:List EX} {cs:List Value},cz (fun (p:EX) c=>c=gM p) 2 l cs→cs=ik l
 | [],cs,h=>List.eq_nil_of_length_eq_zero (by have:=h.1;simpa using this)
 | x::r,cs,h=>by
  have h0:=h.2 0 x rfl
  simp only[Nat.zero_mul,List.drop_zero] at h0
  have hr:cz (fun (p:EX) c=>c=gM p) 2 r (cs.drop 2):=by
   refine⟨by have:=h.1;rw[List.length_drop,this,List.length_cons];omega,fun j p hj=>?_⟩
   have:=h.2 (j+1) p (by simpa using hj)
   rw[List.drop_drop,show 2+j*2 = (j+1)*2 by omega]
   exact this
  have h1:=lM hr
  show cs=gM x++ik r
  rw[← h0,← h1,List.take_append_drop]
theorem jr:∀ (l:List EX),cz (fun (p:EX) c=>c=gM p) 2 l (ik l)
 | []=>⟨rfl,fun j p hj=>by cases hj⟩
 | x::r=>by
  have h:=jr r
  refine⟨iF _,fun j p hj=>?_⟩
  cases j with
  | zero=>obtain rfl:=Option.some.inj hj;rfl
  | succ j=>
   have:=h.2 j p (by simpa using hj)
   rw[show(j+1)*2=2+j*2 by omega,← List.drop_drop]
   exact this
theorem qU {w:World} {base:Nat} {ok:Nat→Prop} {p:EX} {cs:List Value}:k35.M w base ok p cs↔cs=gM p:=by
 constructor
 ·rintro⟨c0,c1,rfl,rfl,rfl⟩;rfl
 ·rintro rfl;exact⟨[.int .i64 p.f0],[.int .i64 p.f1],rfl,rfl,rfl⟩
theorem mP (h:Kd.R k35 35 w base ok v l):w.ownsRow base 35 2 v l.length (ik l):=by
 obtain⟨_,inner,ho,hr⟩:=h
 have:inner=ik l:=lM ⟨hr.1,fun j p hj=>qU.1 (hr.2 j p hj)⟩
 rw[← this]
 exact ho
theorem R_E (h:w.ownsRow base 35 2 v l.length (ik l)) (hok:∀ k,v.ownBlock=some k→ok k):Kd.R k35 35 w base ok v l:=
 ⟨hok,ik l,h,(jr l).1,fun j p hj=>qU.2 ((jr l).2 j p hj)⟩
end
theorem l6 (x y:EX):ltOf nH x y=ltE x y:=by
 unfold ltOf nH lq ltE
 rw[decide_eq_decide]
 (repeat' split) <;> omega
theorem qw:Go.Sort.SWO (ltOf nH):=by
 refine⟨fun x=>?_,fun x y z h1 h2=>?_,fun x y z h1 h2=>?_⟩
 ·rw[l6,kP];omega
 ·rw[l6,nU] at *;omega
 ·rw[l6,kP] at *;omega
theorem lv (w:World) (g:Nat) (f:Array Value→Array Value) (k:Nat) (h:k≠g):(Sort.mapBlock w g f).heap[k]? = w.heap[k]?:=by
 unfold Sort.mapBlock
 simp[Array.getElem?_modify,Ne.symm h]
theorem iP (w:World) (g:Nat) (f:Array Value→Array Value) {c:Array Value} {e:TypeId} (h:w.heap[g]? = some (.cells c e (0,0))):(Sort.mapBlock w g f).heap[g]? = some (.cells (f c) e (0,0)):=by
 unfold Sort.mapBlock
 simp[Array.getElem?_modify,h,Sort.onCells]
theorem ol (l:List EX) (t:Nat) (h:t<l.length*2):(Sort.flatK gM 2 l.toArray)[t]! = (gM (l.getD (t / 2) z35)).getD (t % 2) undef:=by
 rw[Sort.get_flatK _ _ _ _ (by simpa using h)]
 have h1:l.toArray[t / 2]! = l.getD (t / 2) z35:=by
  rw[getElem!_pos _ _ (by simp;omega)]
  simp[show t / 2<l.length by omega]
 rw[h1]
 obtain e|e:t % 2=0∨t % 2=1:=by omega
 ·rw[e];rfl
 ·rw[e];rfl
set_option maxHeartbeats 2000000 in
theorem pJ {W:World} {base g n cap:Nat} {ok:Nat→Prop} {L:List EX} (h:Kd.R k35 35 W base ok (.slice (some ⟨g,0,none⟩) n cap) L) (hL:L.length≤1048576) :
  Calls Try.prog 63 #[.slice (some ⟨g,0,none⟩) n cap,.func (.func 64) #[] #[]] W fun e w'=>e = .returned (.tuple #[])∧Kd.R k35 35 w' base ok (.slice (some ⟨g,0,none⟩) n cap) (bD L)∧Below base W w':=by
 have hn:=(Kd.R_reads' h).1
 obtain⟨hl,ho⟩:=mP h
 rcases ho with⟨e,_⟩|⟨g',cap',cur,e,hge,hh,hc1,hc2,hc3,hc4⟩
 ·cases e
 injection e with e1 e2 e3
 injection e1 with e1
 injection e1 with e1
 subst e1 e3 e2
 have hok:=h.1
 have hblk:g<W.heap.size:=by
  refine Nat.lt_of_not_le fun hle=>?_
  rw[Array.getElem?_eq_none hle] at hh
  cases hh
 have hH:Sort.HoldsK gM 2 W g 0 L.toArray:=fun j hj=>by
  have hj2:j<L.length*2:=by simpa using hj
  have hjc:j<cur.size:=by omega
  have h1:cur.toList[j]? = (ik L)[j]?:=by rw[← hc4,List.getElem?_take_of_lt (by omega)]
  rw[jw L j hj2,Array.getElem?_toList] at h1
  rw[Nat.zero_add,ol L j hj2]
  exact⟨(ak hh j).trans h1,av hh j⟩
 have eg:∀ args w,(callFunc 64 args).run Try.prog w = .ok (.enter 64 args) w:=enters_of Try.func64 (by kernel_rfl) rfl
 have key:=AnyQ.slices_SortFunc Try.sortExt 2 (fun w=>by exact Try.isAgg35 w) (fun w=>by exact Try.sizeOf35 w) gM (fun _=>rfl) (fun x v hv=>by simp[gM] at hv;rcases hv with rfl|rfl <;> rfl) nH qw 64 #[] g 0 cap L.toArray W eg
  (fun m os dk _ x y=>(iO x y _).mono fun e w' ⟨he,q,os',hw⟩=>⟨he,q,os',hw⟩) hH hblk (by simp;omega)
 rw[show(L.toArray.size:Nat)=L.length by simp] at key
 refine key.mono fun e w' ⟨he,d',m,os,hp,hs,hw⟩=>?_
 obtain⟨hp1,_,hp3⟩:=hp
 have hd:d'.size=L.length:=by simpa using hp1
 have hperm:d'.toList.Perm L:=by
  have e1:(d'.extract 0 L.length).toList=d'.toList:=by simp[← hd]
  have e2:(L.toArray.extract 0 L.length).toList=L:=by simp
  rw[e1,e2] at hp3
  exact hp3
 have hasc:Asc d'.toList:=by
  refine List.pairwise_iff_getElem.2 (fun i j hi hj hij=>?_)
  have:=hs i j (Nat.zero_le _) hij (by simpa [hd] using hj)
  rw[l6,getElem!_pos d' j (by simpa using hj),getElem!_pos d' i (by simpa using hi)] at this
  simpa using this
 have hE:d'.toList=bD L:=nC hasc (oW L) (hperm.trans (iT L).symm)
 have hA:d' = (bD L).toArray:=by rw[← hE]
 subst hw
 have hg:(sortWorldK gM 2 W g 0 m d' os).heap[g]? = some (.cells (Sort.putCells id 0 (Sort.flatK gM 2 d') cur) 35 (0,0)):=by
  have h1:(Sort.putRowK gM 2 (Sort.ahead W m) g 0 d').heap[g]? = some (.cells (Sort.putCells id 0 (Sort.flatK gM 2 d') cur) 35 (0,0)):=iP (Sort.ahead W m) g _ hh
  show((Sort.putRowK gM 2 (Sort.ahead W m) g 0 d').heap++os)[g]? = _
  rw[Array.getElem?_append_left (by simp[Sort.putRowK,Sort.putRow,Sort.mapBlock,Sort.ahead];exact hblk)]
  exact h1
 have hsl:=fu L
 refine⟨he,R_E ⟨by rw[iF],.inr ⟨g,cap,_,by rw[hsl],hge,hg,by omega,hc2,by simp[Sort.putCells];omega,?_⟩⟩ (fun k hk=>hok k hk),?_⟩
 ·apply List.ext_getElem?
  intro j
  rw[hsl]
  by_cases hj:j<L.length*2
  ·have hjc:j<cur.size:=by omega
   rw[List.getElem?_take_of_lt hj,jw _ _ (by omega)]
   unfold Sort.putCells
   rw[Array.getElem?_toList,Array.getElem?_mapIdx,Array.getElem?_eq_getElem hjc]
   simp only[Option.map_some]
   rw[if_pos (by simp;omega),Nat.sub_zero,hA,ol _ _ (by omega)]
   rfl
  ·rw[List.getElem?_eq_none (by simp;omega),List.getElem?_eq_none (by rw[iF];omega)]
 ·refine⟨rfl,rfl,rfl,?_,fun k hk=>?_⟩
  ·simp[sortWorldK,Sort.grow,Sort.putRowK,Sort.putRow,Sort.mapBlock,Sort.ahead]
  ·show((Sort.putRowK gM 2 (Sort.ahead W m) g 0 d').heap++os)[k]? = _
   rw[Array.getElem?_append_left (by simp[Sort.putRowK,Sort.putRow,Sort.mapBlock,Sort.ahead];omega)]
   exact lv (Sort.ahead W m) g _ k (by omega)
set_option maxHeartbeats 4000000 in
set_option maxRecDepth 100000 in
theorem ni (n:Nat) (hn:n≤1) (w:World):Calls Try.prog 95 #[.int .u64 n] w fun e w'=>∃ r:Int,e = .returned (.int .i64 r)∧w=w':=by
 rcases(show n=0∨n=1 by omega) with rfl|rfl
 all_goals
  go_enter Try.func95,Try.ntmps95
  go_wp2
  go_ret
  exact⟨_,rfl,rfl⟩
set_option maxHeartbeats 4000000 in
set_option maxRecDepth 100000 in
theorem oQ (n:Nat) (hn:n≤1) (w:World):Calls Try.prog 81 #[.int .u64 n] w fun e w'=>∃ r:Int,e = .returned (.int .i64 r)∧w=w':=by
 go_enter Try.func81,Try.ntmps81
 go_wp2_with (go_at_call 95;refine(ni n hn w).mono ?_;rintro e w2 ⟨r,rfl,rfl⟩)
 go_ret
 exact⟨_,rfl,rfl⟩
set_option maxHeartbeats 4000000 in
set_option maxRecDepth 100000 in
theorem kW (A:Option Addr) (n c:Nat) (hn:n≤1) (f:Value) (w:World):Calls Try.prog 86 #[.slice A n c,.int .i64 0,.int .i64 n,f] w fun e w'=>e = .returned (.tuple #[])∧w=w':=by
 have hq:((1:Int) < (n:Int))=False:=eq_false (by omega)
 go_enter Try.func86,Try.ntmps86
 go_wp2
 go_loopw [8] (fun v8 wr=>v8 = .int .i64 1∧wr=w) (fun _ _=>0)
 case atStart=>exact⟨rfl,rfl⟩
 case round=>
  obtain⟨rfl,rfl⟩:=hrel
  go_wp2
  first|go_end0|((try simp only[Exit.inBlock,Exit.then]);refine bodyPost_ret (results_none rfl _ _ _) rfl ?_)
  exact⟨rfl,rfl⟩
set_option maxHeartbeats 4000000 in
set_option maxRecDepth 100000 in
theorem qG (A:Option Addr) (n c:Nat) (hn:n≤1) (l:Int) (f:Value) (w:World):Calls Try.prog 80 #[.slice A n c,.int .i64 0,.int .i64 n,.int .i64 l,f] w fun e w'=>e = .returned (.tuple #[])∧w=w':=by
 have hq:((n:Int)≤12)=True:=eq_true (by omega)
 have hn2:n≤1000:=by omega
 have H:=au hn
 clear hn
 go_enter Try.func80,Try.ntmps80
 go_wp2
 go_loopw [1,2] (fun v1 v2 wr=>v1 = .int .i64 0∧v2 = .int .i64 n∧wr=w) (fun _ _ _=>0)
 case atStart=>exact⟨rfl,rfl,rfl⟩
 case round=>
  obtain⟨rfl,rfl,rfl⟩:=hrel
  go_wp2_with (go_at_call 86;refine(kW A n c H.out f _).mono ?_;rintro e w3 ⟨rfl,rfl⟩)
  first|go_end0|((try simp only[Exit.inBlock,Exit.then]);refine bodyPost_ret (results_none rfl _ _ _) rfl ?_)
  exact⟨rfl,rfl⟩
set_option maxHeartbeats 4000000 in
set_option maxRecDepth 100000 in
theorem mh (A:Option Addr) (n c:Nat) (hn:n≤1) (f:Value) (w:World):Calls Try.prog 63 #[.slice A n c,f] w fun e w'=>e = .returned (.tuple #[])∧w=w':=by
 have hu:IntKind.u64.wrap (n:Int) = (n:Int):=by
  simp[IntKind.wrap,IntKind.bits,IntKind.signed]
  omega
 have H:=au hn
 have hn2:n≤1000:=by omega
 clear hn
 go_enter Try.func63,Try.ntmps63
 go_wp2_with (first
  | (go_at_call 81;refine(oQ n H.out _).mono ?_;rintro e w2 ⟨r,rfl,rfl⟩)
  | (go_at_call 80;refine(qG A n c H.out _ f _).mono ?_;rintro e w3 ⟨rfl,rfl⟩))
 first|go_end0|((try simp only[Exit.inBlock,Exit.then]);refine bodyPost_ret (results_none rfl _ _ _) rfl ?_)
 exact⟨rfl,rfl⟩
theorem pg {W:World} {base:Nat} {A:Option Addr} {n c:Nat} {ok:Nat→Prop} {L:List EX} (h:ES W base ok (.slice A n c) L) (hL:L.length≤1048576) :
  Calls Try.prog 63 #[.slice A n c,.func (.func 64) #[] #[]] W fun e w'=>e = .returned (.tuple #[])∧ES w' base ok (.slice A n c) (bD L)∧Below base W w':=by
 rcases(mP h).2 with⟨e,h0⟩|⟨g,cap,cur,e,_⟩
 ·injection e with e1 e2 e3
  subst e1 e2 e3
  have hl:L=[]:=List.eq_nil_of_length_eq_zero h0
  subst hl
  refine(mh none 0 0 (by omega) _ W).mono fun e w' ⟨he,hw⟩=>?_
  subst hw
  exact⟨he,h,Below.refl _ _⟩
 ·injection e with e1 e2 e3
  subst e1
  exact pJ h hL
theorem eY {W:World} {g:Nat} {a b c:Value} (h:W.heap[g]? = some (.cells #[a,b,c] 24 (0,0))) (x y z:Value):(((W.setCell ⟨g,0,none⟩ x).setCell ⟨g,1,none⟩ y).setCell ⟨g,2,none⟩ z).heap[g]? = some (.cells #[x,y,z] 24 (0,0)):=
 aK (cs:=#[x,y,c]) (aK (cs:=#[x,b,c]) (aK (cs:=#[a,b,c]) h 0 x rfl) 1 y rfl) 2 z rfl
theorem lW {W:World} {g:Nat} {a b c:Value} {base:Nat} {ok:Nat→Prop} {v:Value} {xs:List EL} (h:W.heap[g]? = some (.cells #[a,b,c] 24 (0,0))) (hr:ES W base ok v xs) (x y z:Value):ES (((W.setCell ⟨g,0,none⟩ x).setCell ⟨g,1,none⟩ y).setCell ⟨g,2,none⟩ z) base ok v xs:=
 Kd.ig (Kd.ig (Kd.ig hr h (by decide) 0 x) (aK (cs:=#[a,b,c]) h 0 x rfl) (by decide) 1 y) (aK (cs:=#[x,b,c]) (aK (cs:=#[a,b,c]) h 0 x rfl) 1 y rfl) (by decide) 2 z
set_option maxHeartbeats 4000000 in
set_option maxRecDepth 100000 in
theorem fP (b:Int) (A:Option Addr) (c:Nat) (l:List EL) (hl:l.length≤1048576) (w:World) (hr:Kd.C k35 w A l.length l) (hc:l.length≤c) :
  Calls Try.prog 35 #[.int .i64 b,.slice A l.length c] w fun e w'=>∃ v2_:Value,e = .returned (.agg #[.int .i64 b,.slice A l.length c,v2_])∧ES w' w.heap.size (fun _=>True) v2_ (bD l)∧Below w.heap.size w w':=by
 have hu:=Try.underlying24
 obtain⟨W1,hW1⟩:∃ W,w.alloc (.cells #[.int .i64 0,.slice none 0 0,.slice none 0 0] 24)=W:=⟨_,rfl⟩
 have hb1:Below w.heap.size w W1:=by rw[← hW1];exact ah (Below.refl _ _) _
 have Z1:=au (show W1.heap[w.heap.size]? = some (.cells #[.int .i64 0,.slice none 0 0,.slice none 0 0] 24 (0,0)) by rw[← hW1];exact heap_alloc_new w _)
 have TT:=au (slices_Clone_E.calls A c l l W1 (Kd.aN hr hb1) hc (by unfold slices_Clone_E.f;rw[if_pos (by omega)]))
 have HB1:=au hb1
 have HL:=au hl
 have WL:=au (aH Z1.out)
 clear hb1 hr hc hl
 go_enter Try.func35,Try.ntmps35
 go_wp2_with (go_at_call 62;refine TT.out.mono ?_)
 rintro e w2 ⟨v2,rfl,hr2,hb2⟩
 clear TT hW1
 obtain⟨A2,c2,rfl⟩:=Kd.bq hr2
 have Z2:=au (ay Z1.out hb2)
 have B2:=au (aA HB1.out hb2)
 have ZS:=au (show w.heap.size<W1.heap.size from WL.out)
 have TT:=au (pg hr2 HL.out)
 clear hr2 hb2
 go_wp2_with (go_at_call 63;refine TT.out.mono ?_;(rintro e w3 ⟨rfl,hr3,hb3⟩);(have Z3:=au (show w3.heap[w.heap.size]? = some (.cells #[.int .i64 0,.slice none 0 0,.slice none 0 0] 24 (0,0)) from(hb3.block _ ZS.out).trans Z2.out));(have B3:=au (d9 B2.out (Nat.le_of_lt ZS.out) hb3));(have R3:=au (Kd.bz hr3 (Nat.le_of_lt ZS.out)));(clear hr3 hb3 TT);(have z0:w3.cell? ⟨w.heap.size,0,none⟩=some (.int .i64 0):=(ak Z3.out 0).trans rfl);(have z1:w3.cell? ⟨w.heap.size,1,none⟩=some (.slice none 0 0):=(ak Z3.out 1).trans rfl);(have z2:w3.cell? ⟨w.heap.size,2,none⟩=some (.slice none 0 0):=(ak Z3.out 2).trans rfl);(have y0:=av Z3.out 0);(have y1:=av Z3.out 1);have y2:=av Z3.out 2)
 refine bodyPost_ret (results_cell_row rfl _ _ w.heap.size 24 #[.int .i64 b,.slice A l.length c,.slice A2 l.length c2] (0,0) _ rfl (eY Z3.out _ _ _) Try.underlying24 rfl (by kernel_rfl)) rfl ?_
 exact⟨_,rfl,lW Z3.out R3.out _ _ _,ae (ae (ae B3.out (Nat.le_refl _)) (Nat.le_refl _)) (Nat.le_refl _)⟩
open Go.RowKit Go.Proofs.YtelblhkbogljnaaW.PrintWords Go.Proofs.YtelblhkbogljnaaW.PrintLast Go.Proofs.YtelblhkbogljnaaW.PrintMore
attribute [local go_sem] bG bH bS bT bB bA bJ bI
set_option linter.unusedVariables false
set_option linter.unusedSimpArgs false
def impl_within.f (a0:Int) (a1:Int) (a2:Int):Option (Bool):=if a0≥a1 then (some (decide (a0≤a2))) else (some false)
set_option maxHeartbeats 8000000 in
set_option maxRecDepth 100000 in
theorem impl_within.calls (a0:Int) (a1:Int) (a2:Int) (r:Bool) (w:World) (h:impl_within.f a0 a1 a2=some r) :
  Calls Try.prog 34 #[.int .i64 a0,.int .i64 a1,.int .i64 a2] w fun e w'=>e = .returned (.bool r)∧Drawn0 w w':=by
 have H:(if a0≥a1 then (some (decide (a0≤a2))) else (some false))=some r:=h
 clear h
 by_cases c4:a0≥a1
 ·rw[if_pos c4] at H
  have c4b0:decide (a1≤a0)=true:=decide_eq_true c4
  clear c4
  obtain rfl:=Option.some.inj H
  go_enter Try.func34,Try.ntmps34
  go_wp2
  go_ret
  exact⟨by first|rfl|(simp;done)|(simp[*];done),by repeat(first|exact Drawn0.refl _|apply Drawn0.step)⟩
 ·rw[if_neg c4] at H
  have c4b0:decide (a1≤a0)=false:=decide_eq_false c4
  clear c4
  obtain rfl:=Option.some.inj H
  go_enter Try.func34,Try.ntmps34
  go_wp2
  go_ret
  exact⟨by first|rfl|(simp;done)|(simp[*];done),by repeat(first|exact Drawn0.refl _|apply Drawn0.step)⟩
attribute [local go_sem] bG bH bS bT bB bA bJ bI
set_option linter.unusedVariables false
set_option linter.unusedSimpArgs false
def impl_isExtent.f (a0_0:Int) (a0_1:Int) (a1:Int):Option (Bool):=(impl_within.f a0_0 0 (wrap64 (a1 - 1))).bind fun t443=>(if t443=true then ((impl_within.f a0_1 1 (wrap64 (a1 - a0_0))).bind fun t444=>(some t444)) else (some false))
set_option maxHeartbeats 8000000 in
set_option maxRecDepth 100000 in
theorem impl_isExtent.calls (a0_0:Int) (a0_1:Int) (a1:Int) (r:Bool) (w:World) (h:impl_isExtent.f a0_0 a0_1 a1=some r) :
  Calls Try.prog 48 #[.agg #[.int .i64 a0_0,.int .i64 a0_1],.int .i64 a1] w fun e w'=>e = .returned (.bool r)∧Below w.heap.size w w':=by
 have hu35:=Try.underlying35
 have HB:=au (Below.refl w.heap.size w)
 have H:((impl_within.f a0_0 0 (wrap64 (a1 - 1))).bind fun t443=>(if t443=true then ((impl_within.f a0_1 1 (wrap64 (a1 - a0_0))).bind fun t444=>(some t444)) else (some false)))=some r:=h
 clear h
 replace H:=Option.bind_eq_some_iff.mp H
 obtain⟨t443,A30,H⟩:=H
 replace H:(if t443=true then ((impl_within.f a0_1 1 (wrap64 (a1 - a0_0))).bind fun t444=>(some t444)) else (some false))=some r:=H
 have A3:=au A30
 clear A30
 by_cases c4:t443=true
 ·subst c4
  have H1:((impl_within.f a0_1 1 (wrap64 (a1 - a0_0))).bind fun t444=>(some t444))=some r:=by rw[if_pos rfl] at H;exact H
  clear H
  have H:=H1
  clear H1
  replace H:=Option.bind_eq_some_iff.mp H
  obtain⟨t444,A50,H⟩:=H
  replace H:(some t444)=some r:=H
  have A5:=au A50
  clear A50
  obtain rfl:=Option.some.inj H
  go_enter Try.func48,Try.ntmps48
  go_wp2_with (first|((with_reducible refine aM (N:=2) rfl ?_);refine aJ ?hg (N:=2) ?hd (cs:=#[.int .i64 a0_0,.int .i64 a0_1]) (t:=35) ?hr ?_;(case hd=>rfl);(case hg=>rfl);(case hr=>first|(go_simp;done)|(go_simp;rfl));intro gb442 hg w6 hbox hb;have BK442:=au (hbox);have GW442:=au ((by rw[hg];exact(az (by with_reducible repeat(first|exact HB.out|apply ah|apply aa|apply ai))):w.heap.size≤gb442));have GE442:=au ((by rw[hg];exact(az (by with_reducible repeat(first|exact HB.out|apply ah|apply aa|apply ai))):w.heap.size≤gb442));replace HB:=au (aA (by with_reducible repeat(first|exact HB.out|apply ah|apply aa|apply ai)) hb);clear hb hbox hg;have hcz7_0:w6.cell? ⟨gb442,0,none⟩=some (.int .i64 a0_0):=(ak BK442.out 0).trans rfl;have hcz7_1:w6.cell? ⟨gb442,1,none⟩=some (.int .i64 a0_1):=(ak BK442.out 1).trans rfl;have hfz7_0:=av BK442.out 0;have hfz7_1:=av BK442.out 1)|((with_reducible refine aW (f:=34) rfl ?_);refine bO (some 9) rfl rfl Try.func34 (by kernel_rfl) rfl #[.int .i64 a0_0,.int .i64 0,.int .i64 (wrap64 (a1 - 1))] rfl (by(try simp only[amp_]);first|done|rfl|(simp only[ald_];rfl)) ?_;(with_reducible refine(impl_within.calls a0_0 0 (wrap64 (a1 - 1)) true _ A3.out).mono ?_);rintro e w' ⟨rfl,⟨nd,rfl⟩⟩;refine⟨_,rfl,?_⟩)|(go_at_call 34;(with_reducible refine(impl_within.calls a0_1 1 (wrap64 (a1 - a0_0)) t444 _ A5.out).mono ?_);rintro e w' ⟨rfl,⟨nd,rfl⟩⟩))
  go_ret
  exact⟨by first|rfl|(simp <;> rfl)|(simp[*] <;> rfl),by with_reducible repeat(first|exact HB.out|apply ah|apply aa|apply ai|refine ae ?_ GE442.out)⟩
 ·replace c4:=Bool.eq_false_iff.mpr c4
  subst c4
  have H1:(some false)=some r:=by rw[if_neg (show ¬ (false=true) by decide)] at H;exact H
  clear H
  have H:=H1
  clear H1
  obtain rfl:=Option.some.inj H
  go_enter Try.func48,Try.ntmps48
  go_wp2_with (first|((with_reducible refine aM (N:=2) rfl ?_);refine aJ ?hg (N:=2) ?hd (cs:=#[.int .i64 a0_0,.int .i64 a0_1]) (t:=35) ?hr ?_;(case hd=>rfl);(case hg=>rfl);(case hr=>first|(go_simp;done)|(go_simp;rfl));intro gb442 hg w8 hbox hb;have BK442:=au (hbox);have GW442:=au ((by rw[hg];exact(az (by with_reducible repeat(first|exact HB.out|apply ah|apply aa|apply ai))):w.heap.size≤gb442));have GE442:=au ((by rw[hg];exact(az (by with_reducible repeat(first|exact HB.out|apply ah|apply aa|apply ai))):w.heap.size≤gb442));replace HB:=au (aA (by with_reducible repeat(first|exact HB.out|apply ah|apply aa|apply ai)) hb);clear hb hbox hg;have hcz9_0:w8.cell? ⟨gb442,0,none⟩=some (.int .i64 a0_0):=(ak BK442.out 0).trans rfl;have hcz9_1:w8.cell? ⟨gb442,1,none⟩=some (.int .i64 a0_1):=(ak BK442.out 1).trans rfl;have hfz9_0:=av BK442.out 0;have hfz9_1:=av BK442.out 1)|((with_reducible refine aW (f:=34) rfl ?_);refine bO (some 9) rfl rfl Try.func34 (by kernel_rfl) rfl #[.int .i64 a0_0,.int .i64 0,.int .i64 (wrap64 (a1 - 1))] rfl (by(try simp only[amp_]);first|done|rfl|(simp only[ald_];rfl)) ?_;(with_reducible refine(impl_within.calls a0_0 0 (wrap64 (a1 - 1)) false _ A3.out).mono ?_);rintro e w' ⟨rfl,⟨nd,rfl⟩⟩;refine⟨_,rfl,?_⟩))
  go_ret
  exact⟨by first|rfl|(simp <;> rfl)|(simp[*] <;> rfl),by with_reducible repeat(first|exact HB.out|apply ah|apply aa|apply ai|refine ae ?_ GE442.out)⟩
attribute [local go_sem] bG bH bS bT bB bA bJ bI
set_option linter.unusedVariables false
set_option linter.unusedSimpArgs false
theorem pF (d:Nat) (w:World) (x0 y0:Int) (x1 y1:Int) :
  (Op.equalIn (d+2) 35 (.agg #[.int .i64 x0,.int .i64 x1]) (.agg #[.int .i64 y0,.int .i64 y1])).run Try.prog w = .ok (x0 == y0 && (x1 == y1)) w:=by
 refine qZ Try.underlying35 (by kernel_rfl) ?_
 refine pE (by rfl) (by go_simp;rfl) (by go_simp;rfl) (by go_simp) ?_
 exact qb (by rfl) (by go_simp;rfl) (by go_simp;rfl) (by go_simp)
attribute [local go_sem] bG bH bS bT bB bA bJ bI
set_option linter.unusedVariables false
set_option linter.unusedSimpArgs false
attribute [local go_sem high] pF
def impl_Extent_51.l0:Nat→List (S35)→List (S35)→Int→Int→Option (Bool)
 | 0,_,_,_,_=>none
 | k+1,x0,x1,x12,x13=>if x13<x12 then (if 0≤x13 then (if x13 < (x0.length:Int) then (if x13 < (x1.length:Int) then (if (!(((ax x0 x13).f0) == ((ax x1 x13).f0)) || (!(((ax x0 x13).f1) == ((ax x1 x13).f1))))=true then (some false) else (impl_Extent_51.l0 k x0 x1 x12 (wrap64 (x13+1)))) else (none)) else (none)) else (none)) else (some true)
def impl_Extent_51.f (k:Nat) (l0:List (S35)) (l1:List (S35)):Option (Bool):=if (l0.length:Int) = (l1.length:Int) then (impl_Extent_51.l0 k l0 l1 (l0.length:Int) 0) else (some false)
set_option maxHeartbeats 8000000 in
set_option maxRecDepth 100000 in
theorem impl_Extent_51.calls (k : Nat) (A0 : Option Addr) (c0 : Nat) (l0 : List (S35)) (A1 : Option Addr) (c1 : Nat) (l1 : List (S35)) (r : Bool) (w : World) (hr0 : Kd.C k35 w A0 l0.length l0) (hc0 : l0.length ≤ c0) (hr1 : Kd.C k35 w A1 l1.length l1) (hc1 : l1.length ≤ c1) (h : impl_Extent_51.f k l0 l1 = some r) :
  Calls Try.prog 51 #[.slice A0 l0.length c0,.slice A1 l1.length c1] w fun e w'=>e = .returned (.bool r)∧Drawn0 w w':=by
 have hu35:=Try.underlying35
 have HR0:=au hr0
 have HC0:=au hc0
 clear hr0 hc0
 have HR1:=au hr1
 have HC1:=au hc1
 clear hr1 hc1
 have H:(if (l0.length:Int) = (l1.length:Int) then (impl_Extent_51.l0 k l0 l1 (l0.length:Int) 0) else (some false))=some r:=h
 clear h
 by_cases c3:(l0.length:Int) = (l1.length:Int)
 ·rw [if_pos c3] at H
  have c3b0:((l0.length:Int) == (l1.length:Int))=true:=beq_iff_eq.mpr c3
  have c3b1:((l0.length:Int) != (l1.length:Int))=false:=bne_eq_false_iff_eq.mpr c3
  have c3b2:(l0.length == l1.length)=true:=by first|simpa using c3|(simp at c3 ⊢;omega)
  clear c3
  have H':=au H
  clear H
  go_enter Try.func51,Try.ntmps51
  go_wp2
  repeat(go_quiet (fail);try go_wp2)
  go_loopg [13] k (fun kq v13 w'=>∃ (x13_1:Int),v13 = .int .i64 x13_1∧Aside0 (impl_Extent_51.l0 kq l0 l1 (l0.length:Int) x13_1=some r)∧Aside0 (kq≤k)∧Drawn0 w w')
  case atStart=>exact⟨(0),(by first|rfl|(simp;done)|(simp[*];done)),H',⟨Nat.le_refl _⟩,by repeat(first|exact Drawn0.refl _|apply Drawn0.step)⟩
  case round =>
   clear H'
   try clear c1
   try clear p2
   try clear c3
   try clear c3b0
   try clear c3b1
   try clear c3b2
   obtain⟨x13_1,rfl,HA,HK1,⟨m1,rfl⟩⟩:=hrel
   cases gk with
   | zero=>exact absurd HA.out (by simp[impl_Extent_51.l0])
   | succ k1=>
    have H:=HA.out
    clear HA
    simp only[impl_Extent_51.l0] at H
    by_cases c4:x13_1 < (l0.length:Int)
    ·rw [if_pos c4] at H
     have c4b0:decide (x13_1 < (l0.length:Int))=true:=decide_eq_true c4
     clear c4
     by_cases c5:0≤x13_1
     ·rw [if_pos c5] at H
      have c5b0:decide (0≤x13_1)=true:=decide_eq_true c5
      clear c5
      by_cases c6:x13_1 < (l0.length:Int)
      ·rw[if_pos c6] at H
       have c6b0:decide (x13_1 < (l0.length:Int))=true:=decide_eq_true c6
       clear c6
       by_cases c7:x13_1 < (l1.length:Int)
       ·rw[if_pos c7] at H
        have c7b0:decide (x13_1 < (l1.length:Int))=true:=decide_eq_true c7
        clear c7
        by_cases c8:(!(((ax l0 x13_1).f0) == ((ax l1 x13_1).f0)) || (!(((ax l0 x13_1).f1) == ((ax l1 x13_1).f1))))=true
        ·rw[if_pos c8] at H
         have c8b0:(!(((ax l0 x13_1).f0) == ((ax l1 x13_1).f0)) || (!(((ax l0 x13_1).f1) == ((ax l1 x13_1).f1))))=true:=c8
         clear c8
         obtain rfl:=Option.some.inj H
         have p445:0≤(x13_1:Int):=of_decide_eq_true (by assumption)
         have q445:x13_1 < (l0.length:Int):=of_decide_eq_true (by assumption)
         obtain⟨ad445,e445,hx445_0,hx445_1⟩:=bF HR0.out x13_1 p445 q445
         cases e445
         replace p445:=eq_true p445
         replace q445:=eq_true q445
         have p446:0≤(x13_1:Int):=of_decide_eq_true (by assumption)
         have q446:x13_1 < (l1.length:Int):=of_decide_eq_true (by assumption)
         obtain⟨ad446,e446,hx446_0,hx446_1⟩:=bF HR1.out x13_1 p446 q446
         cases e446
         replace p446:=eq_true p446
         replace q446:=eq_true q446
         go_wp2
         repeat(go_quiet (fail);try go_wp2)
         go_ret
         exact⟨by first|rfl|(simp;done)|(simp[*];done),by repeat(first|exact Drawn0.refl _|apply Drawn0.step)⟩
        ·rw[if_neg c8] at H
         have c8b0:(!(((ax l0 x13_1).f0) == ((ax l1 x13_1).f0)) || (!(((ax l0 x13_1).f1) == ((ax l1 x13_1).f1))))=false:=by simpa using c8
         clear c8
         have H':=au H
         clear H
         have p445:0≤(x13_1:Int):=of_decide_eq_true (by assumption)
         have q445:x13_1 < (l0.length:Int):=of_decide_eq_true (by assumption)
         obtain⟨ad445,e445,hx445_0,hx445_1⟩:=bF HR0.out x13_1 p445 q445
         cases e445
         replace p445:=eq_true p445
         replace q445:=eq_true q445
         have p446:0≤(x13_1:Int):=of_decide_eq_true (by assumption)
         have q446:x13_1 < (l1.length:Int):=of_decide_eq_true (by assumption)
         obtain⟨ad446,e446,hx446_0,hx446_1⟩:=bF HR1.out x13_1 p446 q446
         cases e446
         replace p446:=eq_true p446
         replace q446:=eq_true q446
         go_wp2
         repeat(go_quiet (fail);try go_wp2)
         go_roundg k1
         case measure=>have:=HK1.out;omega
         case rel=>exact⟨(wrap64 (x13_1+1)),(by first|rfl|(simp;done)|(simp[*];done)),H',⟨by have:=HK1.out;omega⟩,by repeat(first|exact Drawn0.refl _|apply Drawn0.step)⟩
       ·rw[if_neg c7] at H
        exact absurd H (by simp)
      ·rw[if_neg c6] at H
       exact absurd H (by simp)
     ·rw[if_neg c5] at H
      exact absurd H (by simp)
    ·rw[if_neg c4] at H
     have c4b0:decide (x13_1 < (l0.length:Int))=false:=decide_eq_false c4
     clear c4
     obtain rfl:=Option.some.inj H
     go_wp2
     repeat(go_quiet (fail);try go_wp2)
     go_ret
     exact⟨by first|rfl|(simp;done)|(simp[*];done),by repeat(first|exact Drawn0.refl _|apply Drawn0.step)⟩
 ·rw[if_neg c3] at H
  have c3b0:((l0.length:Int) == (l1.length:Int))=false:=beq_eq_false_iff_ne.mpr c3
  have c3b1:((l0.length:Int) != (l1.length:Int))=true:=bne_iff_ne.mpr c3
  have c3b2:(l0.length == l1.length)=false:=by first|simpa using c3|(simp at c3 ⊢;omega)
  obtain rfl:=Option.some.inj H
  go_enter Try.func51,Try.ntmps51
  go_wp2
  repeat(go_quiet (fail);try go_wp2)
  go_ret
  exact⟨by first|rfl|(simp;done)|(simp[*];done),by repeat(first|exact Drawn0.refl _|apply Drawn0.step)⟩
attribute [local go_sem] bG bH bS bT bB bA bJ bI
set_option linter.unusedVariables false
set_option linter.unusedSimpArgs false
mutual
def impl_Free_isFree.l0:Nat→List Bool→List (S35)→Int→Int→Option (List Bool)
 | 0,_,_,_,_=>none
 | k+1,x3,x11,x12,x13=>if x13<x12 then (if 0≤x13 then (if x13 < (x11.length:Int) then (impl_Free_isFree.l1 k x3 x11 x12 x13 ((ax x11 x13).f1) 0 ((ax x11 x13).f0) ((ax x11 x13).f1)) else (none)) else (none)) else (some x3)
def impl_Free_isFree.l1:Nat→List Bool→List (S35)→Int→Int→Int→Int→Int→Int→Option (List Bool)
 | 0,_,_,_,_,_,_,_,_=>none
 | k+1,x3,x11,x12,x13,x18,x19,x453000,x453001=>if x19<x18 then (if 0≤(wrap64 (x453000+x19)) then (if (wrap64 (x453000+x19)) < (x3.length:Int) then (impl_Free_isFree.l1 k (x3.set ((wrap64 (x453000+x19)):Int).toNat true) x11 x12 x13 x18 (wrap64 (x19+1)) x453000 x453001) else (none)) else (none)) else (impl_Free_isFree.l0 k x3 x11 x12 (wrap64 (x13+1)))
end
def impl_Free_isFree.f (k:Nat) (a0_0:Int) (l0_1:List (S35)) (l0_2:List (S35)):Option (List Bool):=if 0≤a0_0 then (if (a0_0:Int).toNat≤281474976710656 then (impl_Free_isFree.l0 k (List.replicate (a0_0:Int).toNat false) l0_1 (l0_1.length:Int) 0) else (none)) else (none)
set_option maxHeartbeats 8000000 in
set_option maxRecDepth 100000 in
theorem impl_Free_isFree.calls (k : Nat) (a0_0 : Int) (A0_1 : Option Addr) (c0_1 : Nat) (l0_1 : List (S35)) (A0_2 : Option Addr) (c0_2 : Nat) (l0_2 : List (S35)) (r : List Bool) (w : World) (hr0_1 : Kd.C k35 w A0_1 l0_1.length l0_1) (hc0_1 : l0_1.length ≤ c0_1) (hr0_2 : Kd.C k35 w A0_2 l0_2.length l0_2) (hc0_2 : l0_2.length ≤ c0_2) (h : impl_Free_isFree.f k a0_0 l0_1 l0_2 = some r) :
  Calls Try.prog 53 #[.agg #[.int .i64 a0_0,.slice A0_1 l0_1.length c0_1,.slice A0_2 l0_2.length c0_2]] w fun e w'=>∃ v0_:Value,e = .returned (v0_)∧Kd.R Kd.bool 4 w' w.heap.size (fun _=>True) v0_ r∧Below w.heap.size w w':=by
 have hu24:=Try.underlying24
 have hu35:=Try.underlying35
 have HR0_1:=au hr0_1
 have HC0_1:=au hc0_1
 clear hr0_1 hc0_1
 have HR0_2:=au hr0_2
 have HC0_2:=au hc0_2
 clear hr0_2 hc0_2
 have HB:=au (Below.refl w.heap.size w)
 have H:(if 0≤a0_0 then (if (a0_0:Int).toNat≤281474976710656 then (impl_Free_isFree.l0 k (List.replicate (a0_0:Int).toNat false) l0_1 (l0_1.length:Int) 0) else (none)) else (none))=some r:=h
 clear h
 by_cases c2:0≤a0_0
 ·rw [if_pos c2] at H
  have c2b0:=eq_true c2
  have c2b1:decide (0≤a0_0)=true:=decide_eq_true c2
  clear c2
  by_cases c3:(a0_0:Int).toNat≤281474976710656
  ·rw [if_pos c3] at H
   have c3b0:=eq_true c3
   have c3b1:decide ((a0_0:Int).toNat≤281474976710656)=true:=decide_eq_true c3
   clear c3
   obtain⟨y448,hy448⟩:∃ y_:List Bool,y_ = (List.replicate (a0_0:Int).toNat false):=⟨_,rfl⟩
   replace H:(impl_Free_isFree.l0 k y448 l0_1 (l0_1.length:Int) 0)=some r:=by first|(rw[hy448];with_reducible exact H)|(have H2_:=(Option.bind_some _ _).symm.trans H;rw[hy448];with_reducible exact H2_)|(have H2_:=(Option.bind_some _ _).symm.trans H;with_reducible exact H2_)|with_reducible exact H|(rw[hy448];exact H)|exact H
   have Ny448:=au hy448
   clear hy448
   have H':=au H
   clear H
   go_enter Try.func53,Try.ntmps53
   go_wp2_with (first|((with_reducible refine aM (N:=1) rfl ?_);refine aJ ?hg (N:=1) ?hd (cs:=#[.int .i64 a0_0,.slice A0_1 l0_1.length c0_1,.slice A0_2 l0_2.length c0_2]) (t:=24) ?hr ?_;(case hd=>rfl);(case hg=>rfl);(case hr=>first|(go_simp;done)|(go_simp;rfl));intro gb447 hg w4 hbox hb;have BK447:=au (hbox);have GW447:=au ((by rw[hg];exact(az (by with_reducible repeat(first|exact HB.out|apply ah|apply aa|apply ai))):w.heap.size≤gb447));have GE447:=au ((by rw[hg];exact(az (by with_reducible repeat(first|exact HB.out|apply ah|apply aa|apply ai))):w.heap.size≤gb447));replace HB:=au (aA (by with_reducible repeat(first|exact HB.out|apply ah|apply aa|apply ai)) hb);clear hb hbox hg;have hcz5_0:w4.cell? ⟨gb447,0,none⟩=some (.int .i64 a0_0):=(ak BK447.out 0).trans rfl;have hcz5_1:w4.cell? ⟨gb447,1,none⟩=some (.slice A0_1 l0_1.length c0_1):=(ak BK447.out 1).trans rfl;have hcz5_2:w4.cell? ⟨gb447,2,none⟩=some (.slice A0_2 l0_2.length c0_2):=(ak BK447.out 2).trans rfl;have hfz5_0:=av BK447.out 0;have hfz5_1:=av BK447.out 1;have hfz5_2:=av BK447.out 2)|((with_reducible refine aM (N:=9) rfl ?_);refine Kd.q9 Kd.bool _ 4 rfl (N:=9) rfl 72 _ _ rfl a0_0 rfl rfl Try.underlying72 (.bool false) 1 info4 rfl (by decide) (by omega) false (ok:=fun _=>True) (okp:=fun _=>True) rfl (fun _ hk=>hk) trivial (of_decide_eq_true (by assumption)) (Nat.le_trans (Nat.mul_le_mul_right _ (of_decide_eq_true (by assumption):a0_0.toNat≤281474976710656)) (by omega)) (Below.refl _ _) (Nat.le_refl _) ?_;intro v449 w6 ho7 hb hg_ hnew_;clear hg_ hnew_;(first|rw[← Ny448.out] at ho7|(simp only[Int.reduceToNat] at ho7;rw[← Ny448.out] at ho7));have HO450:=au (Kd.bz ho7 (az (by with_reducible repeat(first|exact HB.out|apply ah|apply aa|apply ai|refine ae ?_ GE447.out))));replace BK447:=au (ay (g:=gb447) (o:=.cells #[.int .i64 a0_0,.slice A0_1 l0_1.length c0_1,.slice A0_2 l0_2.length c0_2] 24 (0,0)) (by(with_reducible repeat(first|apply ag|apply aj|apply af));exact BK447.out) hb);replace HB:=au (aA (by with_reducible repeat(first|exact HB.out|apply ah|apply aa|apply ai|refine ae ?_ GE447.out)) hb);clear hb ho7;have hcz8_0:w6.cell? ⟨gb447,0,none⟩=some (.int .i64 a0_0):=(ak BK447.out 0).trans rfl;have hcz8_1:w6.cell? ⟨gb447,1,none⟩=some (.slice A0_1 l0_1.length c0_1):=(ak BK447.out 1).trans rfl;have hcz8_2:w6.cell? ⟨gb447,2,none⟩=some (.slice A0_2 l0_2.length c0_2):=(ak BK447.out 2).trans rfl;have hfz8_0:=av BK447.out 0;have hfz8_1:=av BK447.out 1;have hfz8_2:=av BK447.out 2))
   go_loopg [13] k (fun kq v13 w'=>∃ (x3_1:List Bool) (x13_1:Int),v13 = .int .i64 x13_1∧Aside0 (impl_Free_isFree.l0 kq x3_1 l0_1 (l0_1.length:Int) x13_1=some r)∧Aside0 (kq≤k)∧Aside0 (Kd.R Kd.bool 4 w' w.heap.size (fun _=>True) v449 x3_1)∧Aside0 (w'.heap[gb447]? = some (.cells #[.int .i64 a0_0,(.slice A0_1 l0_1.length c0_1),(.slice A0_2 l0_2.length c0_2)] 24 (0,0)))∧Aside0 (Below w.heap.size w w'))
   case atStart=>exact⟨(y448),(0),(by first|rfl|(simp;done)|(simp[*];done)),H',⟨Nat.le_refl _⟩,⟨by(with_reducible repeat(first|apply Kd.aD|apply Kd.aC|apply Kd.aI));exact HO450.out⟩,⟨by(with_reducible repeat(first|apply ag|apply aj|apply af));exact BK447.out⟩,⟨by with_reducible repeat(first|exact HB.out|apply ah|apply aa|apply ai|refine ae ?_ GE447.out)⟩⟩
   case round =>
    clear H'
    try clear c2
    try clear c2b0
    try clear c2b1
    try clear p2
    try clear c3
    try clear c3b0
    try clear c3b1
    try clear c5
    try clear hcz5_0
    try clear hcz5_1
    try clear hcz5_2
    try clear hcz8_0
    try clear hcz8_1
    try clear hcz8_2
    try clear hfz5_0
    try clear hfz5_1
    try clear hfz5_2
    try clear hfz8_0
    try clear hfz8_1
    try clear hfz8_2
    obtain⟨x3_1,x13_1,rfl,HA,HK1,HO_3,BK447,HB⟩:=hrel
    cases gk with
    | zero=>exact absurd HA.out (by simp[impl_Free_isFree.l0])
    | succ k1 =>
     have H:=HA.out
     clear HA
     simp only[impl_Free_isFree.l0] at H
     by_cases c9:x13_1 < (l0_1.length:Int)
     ·rw [if_pos c9] at H
      have c9b0:decide (x13_1 < (l0_1.length:Int))=true:=decide_eq_true c9
      clear c9
      by_cases c10:0≤x13_1
      ·rw [if_pos c10] at H
       have c10b0:decide (0≤x13_1)=true:=decide_eq_true c10
       clear c10
       by_cases c11:x13_1 < (l0_1.length:Int)
       ·rw [if_pos c11] at H
        have c11b0:decide (x13_1 < (l0_1.length:Int))=true:=decide_eq_true c11
        clear c11
        have H':=au H
        clear H
        have p451:0≤(x13_1:Int):=of_decide_eq_true (by assumption)
        have q451:x13_1 < (l0_1.length:Int):=of_decide_eq_true (by assumption)
        obtain⟨ad451,e451,hx451_0,hx451_1⟩:=bF HR0_1.out x13_1 p451 q451
        cases e451
        replace hx451_0:=(HB.out.cell (World.block_lt_of_cell? w _ hx451_0)).trans hx451_0
        replace hx451_1:=(HB.out.cell (World.block_lt_of_cell? w _ hx451_1)).trans hx451_1
        replace p451:=eq_true p451
        replace q451:=eq_true q451
        go_wp2_with (first|((with_reducible refine aM (N:=5) rfl ?_);refine aJ ?hg (N:=5) ?hd (cs:=#[.int .i64 0,.int .i64 0]) (t:=35) ?hr ?_;(case hd=>rfl);(case hg=>rfl);(case hr=>first|(go_simp;done)|(go_simp;rfl));intro gb452 hg w12 hbox hb;replace HO_3:=au (Kd.bi (by(with_reducible repeat(first|apply Kd.aD|apply Kd.aC|apply Kd.aI));exact HO_3.out) hb);have BK452:=au (hbox);have GW452:=au ((by rw[hg];exact(az (by with_reducible repeat(first|exact HB.out|apply ah|apply aa|apply ai|refine ae ?_ GE447.out))):w.heap.size≤gb452));have GE452:=au ((by rw[hg];exact(az (by with_reducible repeat(first|exact HB.out|apply ah|apply aa|apply ai|refine ae ?_ GE447.out))):w.heap.size≤gb452));replace HB:=au (aA (by with_reducible repeat(first|exact HB.out|apply ah|apply aa|apply ai|refine ae ?_ GE447.out)) hb);have NB447_452:=au ((by rw[hg];exact Nat.ne_of_lt (aH (g:=gb447) (o:=.cells #[.int .i64 a0_0,.slice (some ad451) l0_1.length c0_1,.slice A0_2 l0_2.length c0_2] 24 (0,0)) (by(with_reducible repeat(first|apply ag|apply aj|apply af));exact BK447.out)):gb447≠gb452));have NB452_447:=au ((by rw[hg];exact Nat.ne_of_gt (aH (g:=gb447) (o:=.cells #[.int .i64 a0_0,.slice (some ad451) l0_1.length c0_1,.slice A0_2 l0_2.length c0_2] 24 (0,0)) (by(with_reducible repeat(first|apply ag|apply aj|apply af));exact BK447.out)):gb452≠gb447));replace BK447:=au (ay (g:=gb447) (o:=.cells #[.int .i64 a0_0,.slice (some ad451) l0_1.length c0_1,.slice A0_2 l0_2.length c0_2] 24 (0,0)) (by(with_reducible repeat(first|apply ag|apply aj|apply af));exact BK447.out) hb);clear hb hbox hg;have hnb13:=NB452_447.out;have hnc13:=NB447_452.out;have hcz14_0:w12.cell? ⟨gb452,0,none⟩=some (.int .i64 0):=(ak BK452.out 0).trans rfl;have hcz14_1:w12.cell? ⟨gb452,1,none⟩=some (.int .i64 0):=(ak BK452.out 1).trans rfl;have hfz14_0:=av BK452.out 0;have hfz14_1:=av BK452.out 1))
        go_loopg [19] k1 (fun kq v19 w'=>∃ (x3_2:List Bool) (x19_2:Int),v19 = .int .i64 x19_2∧Aside0 (impl_Free_isFree.l1 kq x3_2 l0_1 (l0_1.length:Int) x13_1 ((ax l0_1 x13_1).f1) x19_2 ((ax l0_1 x13_1).f0) ((ax l0_1 x13_1).f1)=some r)∧Aside0 (kq≤k1)∧Aside0 (Kd.R Kd.bool 4 w' w.heap.size (fun _=>True) v449 x3_2)∧Aside0 (w'.heap[gb447]? = some (.cells #[.int .i64 a0_0,(.slice (some ad451) l0_1.length c0_1),(.slice A0_2 l0_2.length c0_2)] 24 (0,0)))∧Aside0 (w'.heap[gb452]? = some (.cells #[.int .i64 ((ax l0_1 x13_1).f0),.int .i64 ((ax l0_1 x13_1).f1)] 35 (0,0)))∧Aside0 (Below w.heap.size w w'))
        case atStart=>exact⟨(x3_1),(0),(by first|rfl|(simp;done)|(simp[*];done)),H',⟨Nat.le_refl _⟩,⟨by(with_reducible repeat(first|apply Kd.aD|apply Kd.aC|apply Kd.aI));exact Kd.aT (Kd.aV (p:=⟨gb452,1,none⟩) (Kd.aV (p:=⟨gb452,0,none⟩) (Kd.bK HO_3.out BK452.out (by decide)) (fun _ hk=>hk.2) (.int .i64 ((ax l0_1 x13_1).f0))) (fun _ hk=>hk.2) (.int .i64 ((ax l0_1 x13_1).f1))) (fun _ hk=>trivial)⟩,⟨by(with_reducible repeat(first|apply ag|apply aj|apply af));refine aG ?_ NB447_452.out _;(with_reducible repeat(first|apply ag|apply aj|apply af));refine aG ?_ NB447_452.out _;(with_reducible repeat(first|apply ag|apply aj|apply af));exact BK447.out⟩,⟨by(with_reducible repeat(first|apply ag|apply aj|apply af));refine aK (cs:=#[.int .i64 ((ax l0_1 x13_1).f0),.int .i64 0]) ?_ 1 _ rfl;(with_reducible repeat(first|apply ag|apply aj|apply af));refine aK (cs:=#[.int .i64 0,.int .i64 0]) ?_ 0 _ rfl;(with_reducible repeat(first|apply ag|apply aj|apply af));exact BK452.out⟩,⟨by with_reducible repeat(first|exact HB.out|apply ah|apply aa|apply ai|refine ae ?_ GE447.out|refine ae ?_ GE452.out)⟩⟩
        case round =>
         clear H'
         try clear c1
         try clear c2
         try clear c2b0
         try clear c2b1
         try clear p2
         try clear c3
         try clear c3b0
         try clear c3b1
         try clear p4
         try clear q4
         try clear hx4
         try clear c5
         try clear c9
         try clear c9b0
         try clear c10
         try clear c10b0
         try clear c11
         try clear c11b0
         try clear c13
         try clear hcz14_0
         try clear hcz14_1
         try clear hcz5_0
         try clear hcz5_1
         try clear hcz5_2
         try clear hcz8_0
         try clear hcz8_1
         try clear hcz8_2
         try clear hfz14_0
         try clear hfz14_1
         try clear hfz5_0
         try clear hfz5_1
         try clear hfz5_2
         try clear hfz8_0
         try clear hfz8_1
         try clear hfz8_2
         try clear hx451_0
         try clear hx451_1
         try clear p2
         try clear p451
         try clear q451
         obtain⟨x3_2,x19_2,rfl,HA,HK2,HO_3,BK447,BK452,HB⟩:=hrel
         cases gk with
         | zero=>exact absurd HA.out (by simp[impl_Free_isFree.l1])
         | succ k2=>
          have H:=HA.out
          clear HA
          simp only[impl_Free_isFree.l1] at H
          by_cases c15:x19_2 < ((ax l0_1 x13_1).f1)
          ·rw[if_pos c15] at H
           have c15b0:decide (x19_2 < ((ax l0_1 x13_1).f1))=true:=decide_eq_true c15
           clear c15
           obtain⟨ji16,hji16⟩:∃ j_:Int,(wrap64 (((ax l0_1 x13_1).f0)+x19_2))=j_:=⟨_,rfl⟩
           replace H:(if 0≤(ji16) then (if (ji16) < (x3_2.length:Int) then (impl_Free_isFree.l1 k2 (x3_2.set ((ji16):Int).toNat true) l0_1 (l0_1.length:Int) x13_1 ((ax l0_1 x13_1).f1) (wrap64 (x19_2+1)) ((ax l0_1 x13_1).f0) ((ax l0_1 x13_1).f1)) else (none)) else (none))=some r:=by first|(rw[hji16] at H;exact H)|(simp only[hji16] at H ⊢;exact H)
           have hji16w:(IntKind.i64.wrap (((ax l0_1 x13_1).f0)+x19_2))=ji16:=(kE _).trans hji16
           by_cases c17:0≤(ji16)
           ·rw[if_pos c17] at H
            have c17b0:decide (0≤(ji16))=true:=decide_eq_true c17
            clear c17
            by_cases c18:(ji16) < (x3_2.length:Int)
            ·rw[if_pos c18] at H
             have c18b0:decide ((ji16) < (x3_2.length:Int))=true:=decide_eq_true c18
             clear c18
             obtain⟨y453,hy453⟩:∃ y_:List Bool,y_ = (x3_2.set ((ji16):Int).toNat true):=⟨_,rfl⟩
             replace H:(impl_Free_isFree.l1 k2 y453 l0_1 (l0_1.length:Int) x13_1 ((ax l0_1 x13_1).f1) (wrap64 (x19_2+1)) ((ax l0_1 x13_1).f0) ((ax l0_1 x13_1).f1))=some r:=by first|(rw[hy453];with_reducible exact H)|(have H2_:=(Option.bind_some _ _).symm.trans H;rw[hy453];with_reducible exact H2_)|(have H2_:=(Option.bind_some _ _).symm.trans H;with_reducible exact H2_)|with_reducible exact H|(rw[hy453];exact H)|exact H
             have Ny453:=au hy453
             clear hy453
             have H':=au H
             clear H
             have hnb20:=NB452_447.out
             have hnc20:=NB447_452.out
             have hcz21_0:wr.cell? ⟨gb452,0,none⟩=some (.int .i64 ((ax l0_1 x13_1).f0)):=(ak BK452.out 0).trans rfl
             have hcz21_1:wr.cell? ⟨gb452,1,none⟩=some (.int .i64 ((ax l0_1 x13_1).f1)):=(ak BK452.out 1).trans rfl
             have hfz21_0:=av BK452.out 0
             have hfz21_1:=av BK452.out 1
             have p19:0≤((ji16):Int):=of_decide_eq_true (by assumption)
             have q19:((ji16):Int) < ((x3_2.length:Int):Int):=of_decide_eq_true (by assumption)
             obtain⟨go19,co19,eo19,gb19,gl19,cl19,HG19⟩:=Kd.iQ HO_3.out (by omega)
             (first|cases eo19|(injection eo19 with ea_ en_ ec_;(first|subst ea_|(injection ea_ with ea_;subst ea_));subst ec_;clear en_))
             have GB19:=au gb19
             have GG19:=au HG19
             clear gb19 gl19 HG19
             obtain⟨hx19_0,hf19_0⟩:=Kd.nS false HO_3.out ((ji16):Int) p19 q19
             replace p19:=eq_true p19
             replace q19:=eq_true q19
             have HP22:=Kd.rz HO_3.out ((ji16):Int) true
             go_wp2_with (first|((with_reducible refine gu (t:=4) (p:=27) rfl ?_);refine fG (t:=4) (p:=27) (v:=?vo_w23) (w1:=(wr.setCell ⟨go19,((ji16):Int).toNat,none⟩ (.bool true))) ?hg ?ho ?hn ?hr ?_;(case ho=>rfl);(case hg=>rfl);(case hn=>rfl);(case hr=>first|(go_simp;done)|(go_simp;rfl));intro w23 hw;have hg:wr.grownBy w23 (some go19):=(by rw[hw];exact HP22.2);have hp_:Kd.R Kd.bool 4 w23 w.heap.size (fun _=>True) (.slice (some ⟨go19,0,none⟩) x3_2.length co19) y453:=(by rw[hw,Ny453.out];exact HP22.1);clear HP22;replace BK447:=au (bf (g:=gb447) (o:=.cells #[.int .i64 a0_0,.slice (some ad451) l0_1.length c0_1,.slice A0_2 l0_2.length c0_2] 24 (0,0)) (by(with_reducible repeat(first|apply ag|apply aj|apply af));exact BK447.out) hg (Kd.gN HO_3.out BK447.out (by decide)));replace BK452:=au (bf (g:=gb452) (o:=.cells #[.int .i64 ((ax l0_1 x13_1).f0),.int .i64 ((ax l0_1 x13_1).f1)] 35 (0,0)) (by(with_reducible repeat(first|apply ag|apply aj|apply af));exact BK452.out) hg (Kd.gN HO_3.out BK452.out (by decide)));replace HO_3:=au (hp_);replace HB:=au ((by rw[hw];exact ae (HB.out) GB19.out:Below w.heap.size w w23));clear hg hw hp_))
             go_roundg k2
             case measure=>have:=HK1.out;have:=HK2.out;omega
             case rel=>exact⟨(y453),(wrap64 (x19_2+1)),(by first|rfl|(simp;done)|(simp[*];done)),H',⟨by have:=HK1.out;have:=HK2.out;omega⟩,⟨by(with_reducible repeat(first|apply Kd.aD|apply Kd.aC|apply Kd.aI));exact HO_3.out⟩,⟨by(with_reducible repeat(first|apply ag|apply aj|apply af));exact BK447.out⟩,⟨by(with_reducible repeat(first|apply ag|apply aj|apply af));exact BK452.out⟩,⟨by with_reducible repeat(first|exact HB.out|apply ah|apply aa|apply ai|refine ae ?_ GE447.out|refine ae ?_ GE452.out)⟩⟩
            ·rw[if_neg c18] at H
             exact absurd H (by simp)
           ·rw[if_neg c17] at H
            exact absurd H (by simp)
          ·rw[if_neg c15] at H
           have c15b0:decide (x19_2 < ((ax l0_1 x13_1).f1))=false:=decide_eq_false c15
           clear c15
           have H':=au H
           clear H
           go_wp2
           go_roundg k2
           case measure=>have:=HK1.out;have:=HK2.out;omega
           case rel=>exact⟨(x3_2),(wrap64 (x13_1+1)),(by first|rfl|(simp;done)|(simp[*];done)),H',⟨by have:=HK1.out;have:=HK2.out;omega⟩,⟨by(with_reducible repeat(first|apply Kd.aD|apply Kd.aC|apply Kd.aI));exact HO_3.out⟩,⟨by(with_reducible repeat(first|apply ag|apply aj|apply af));exact BK447.out⟩,⟨by with_reducible repeat(first|exact HB.out|apply ah|apply aa|apply ai|refine ae ?_ GE447.out|refine ae ?_ GE452.out)⟩⟩
       ·rw[if_neg c11] at H
        exact absurd H (by simp)
      ·rw[if_neg c10] at H
       exact absurd H (by simp)
     ·rw[if_neg c9] at H
      have c9b0:decide (x13_1 < (l0_1.length:Int))=false:=decide_eq_false c9
      clear c9
      obtain rfl:=Option.some.inj H
      go_wp2
      go_ret
      exact⟨_,by first|rfl|(simp <;> rfl)|(simp[*] <;> rfl),by(with_reducible repeat(first|apply Kd.aD|apply Kd.aC|apply Kd.aI));exact HO_3.out,by with_reducible repeat(first|exact HB.out|apply ah|apply aa|apply ai|refine ae ?_ GE447.out)⟩
  ·rw[if_neg c3] at H
   exact absurd H (by simp)
 ·rw[if_neg c2] at H
  exact absurd H (by simp)
def fl (n m:Nat):Array Bool:=((List.range n).map m.testBit).toArray
def okX (B:Int) (x:EX):Bool:=decide (0≤x.f0∧x.f0<B)&&decide (1≤x.f1∧x.f1≤B - x.f0)
def pQ (p:Option EX) (x:EX):Bool:=match p with|none=>true|some y=>decide (y.f0+y.f1<x.f0)
def dG (B:Int):Option EX→List EX→Bool
 | _,[]=>true
 | p,x::r=>okX B x&&pQ p x&&dG B (some x) r
def cK (B:Int) (P S:List EX):Bool:=decide (1≤B∧B≤400) && (decide (P.length≤60) && (dG B none P&&decide (bD P=S)))
def fe (P:List EX) (q:Nat):Option EX:=if q=0 then none else some (ax P ((q:Int) - 1))
theorem eQ {B:Int} {x:EX}:okX B x=true↔0≤x.f0∧1≤x.f1∧x.f0+x.f1≤B:=by
 unfold okX
 rw[Bool.and_eq_true,decide_eq_true_iff,decide_eq_true_iff]
 omega
theorem dM (a b c:Int):impl_within.f a b c=some (decide (b≤a∧a≤c)):=by
 unfold impl_within.f
 by_cases h:a≥b
 ·by_cases h2:a≤c
  ·simp[h,h2] <;> omega
  ·simp[h,h2]
 ·simp[h] <;> omega
theorem iR (B:Int) (x:EX) (hB:1≤B∧B≤400):impl_isExtent.f x.f0 x.f1 B=some (okX B x):=by
 unfold impl_isExtent.f okX
 rw[w64 (x:=B - 1) (by omega) (by omega),dM,Option.bind_some]
 by_cases h:0≤x.f0∧x.f0≤B - 1
 ·rw[if_pos (decide_eq_true h),w64 (x:=B - x.f0) (by omega) (by omega),dM,Option.bind_some,decide_eq_true (show 0≤x.f0∧x.f0<B by omega),Bool.true_and]
 ·rw[if_neg (by simpa using h),decide_eq_false (show ¬ (0≤x.f0∧x.f0<B) by omega)]
  rfl
theorem fE {P:List EX} {q:Nat} (h:q<P.length):P.drop q=ax P (q:Int)::P.drop (q+1):=by
 rw[List.drop_eq_getElem_cons h,ic,Int.toNat_natCast,List.getD_eq_getElem?_getD,List.getElem?_eq_getElem h]
 rfl
theorem kF {B:Int} {P:List EX} {q:Nat} (h:q<P.length):dG B (fe P q) (P.drop q) = (okX B (ax P (q:Int))&&pQ (fe P q) (ax P (q:Int))&&dG B (fe P (q+1)) (P.drop (q+1))):=by
 rw[fE h,dG]
 unfold fe
 rw[if_neg (show ¬ (q+1=0) by omega),show((q+1:Nat):Int) - 1 = (q:Int) by omega]
theorem nP (a b : List EX) (hl : a.length ≤ 1048576) : ∃ k, impl_Extent_51.f k a b = some (decide (a = b)) := by
 suffices h:∃ k0,∀ k,k0≤k→impl_Extent_51.f k a b=some (decide (a=b)) from by
  obtain⟨k0,h⟩:=h;exact⟨k0,h k0 (Nat.le_refl _)⟩
 show Ev (fun k=>impl_Extent_51.f k a b) (decide (a=b))
 unfold impl_Extent_51.f
 by_cases h:(a.length:Int) = (b.length:Int)
 ·refine aX h ?_
  have key : ∀ (f i : Nat), i + f = a.length → a.take i = b.take i → Ev (fun k => impl_Extent_51.l0 k a b (a.length : Int) (i : Int)) (decide (a = b)) := by
   intro f
   induction f with
   | zero=>
    intro i hi ht
    refine Ev.step (fun _=>impl_Extent_51.l0.eq_2 ..) (bE (by omega) (bP ?_))
    rw[List.take_of_length_le (by omega),List.take_of_length_le (by omega)] at ht
    rw[decide_eq_true ht]
   | succ f ih=>
    intro i hi ht
    have ha:i<a.length:=by omega
    have hb:i<b.length:=by omega
    have ea:ax a (i:Int)=a[i]:=by rw[ic,Int.toNat_natCast,List.getD_eq_getElem?_getD,List.getElem?_eq_getElem ha];rfl
    have eb:ax b (i:Int)=b[i]:=by rw[ic,Int.toNat_natCast,List.getD_eq_getElem?_getD,List.getElem?_eq_getElem hb];rfl
    have e1:wrap64 ((i:Int)+1) = ((i+1:Nat):Int):=by rw[w64 (by omega) (by omega)];omega
    by_cases hx:a[i]=b[i]
    ·refine Ev.step (fun _=>impl_Extent_51.l0.eq_2 ..) (aX (by omega) (aX (by omega) (aX (by omega) (aX (by omega) (bE (by rw[ea,eb,hx];simp) ?_)))))
     rw[e1]
     exact ih (i+1) (by omega) (by rw[List.take_succ_eq_append_getElem ha,List.take_succ_eq_append_getElem hb,ht,hx])
    ·refine Ev.step (fun _=>impl_Extent_51.l0.eq_2 ..) (aX (by omega) (aX (by omega) (aX (by omega) (aX (by omega) (aX ?_ (bP ?_))))))
     ·rw[ea,eb]
      by_cases e0:a[i].f0=b[i].f0
      ·have e1:a[i].f1≠b[i].f1:=fun e1=>hx (by
        cases h1:a[i];cases h2:b[i];rw[h1,h2] at e0 e1;simp only at e0 e1;rw[e0,e1])
       simp[e0,e1]
      ·simp[e0]
     ·rw[decide_eq_false (fun h=>hx (List.getElem_of_eq h ha))]
  have:=key a.length 0 (by omega) (by simp)
  simpa using this
 ·exact bE h (bP (by rw[decide_eq_false (fun e=>h (by rw[e]))]))
theorem jq (w:World) (a b:Value):∃ W1 W2,w.alloc (.cells #[.int .i64 0,.int .i64 0] 35)=W1∧(W1.setCell ⟨w.heap.size,0,none⟩ a).setCell ⟨w.heap.size,1,none⟩ b=W2∧
  W1.cell? ⟨w.heap.size,0,none⟩=some (.int .i64 0)∧W1.cell? ⟨w.heap.size,1,none⟩=some (.int .i64 0)∧W1.frozen? ⟨w.heap.size,0,none⟩=false∧W1.frozen? ⟨w.heap.size,1,none⟩=false∧
  Aside0 (W2.heap[w.heap.size]? = some (.cells #[a,b] 35 (0,0)))∧Aside0 (Below w.heap.size w W2):=by
 have h1:=heap_alloc_new w (.cells #[.int .i64 0,.int .i64 0] 35)
 have hb:=ah (Below.refl w.heap.size w) (.cells #[.int .i64 0,.int .i64 0] 35)
 exact⟨_,_,rfl,rfl,(ak h1 0).trans rfl,(ak h1 1).trans rfl,av h1 0,av h1 1,⟨aK (cs:=#[a,.int .i64 0]) (aK (cs:=#[.int .i64 0,.int .i64 0]) h1 0 a rfl) 1 b rfl⟩,⟨ae (ae hb (Nat.le_refl _)) (Nat.le_refl _)⟩⟩
set_option maxHeartbeats 8000000 in
set_option maxRecDepth 100000 in
theorem fZ (B : Int) (A1 : Option Addr) (c1 : Nat) (P : List EX) (A2 : Option Addr) (c2 : Nat) (S : List EX) (w : World) (hr1 : Kd.C k35 w A1 P.length P) (hc1 : P.length ≤ c1) (hr2 : Kd.C k35 w A2 S.length S) (hc2 : S.length ≤ c2) :
  Calls Try.prog 17 #[.agg #[.int .i64 B,.slice A1 P.length c1,.slice A2 S.length c2]] w fun e w'=>e = .returned (.bool (cK B P S))∧Below w.heap.size w w':=by
 have hu:=Try.underlying24
 have hu2:=Try.underlying35
 have hu3:=Try.underlying22
 obtain⟨W1,hW1⟩:∃ W,w.alloc (.cells #[.int .i64 B,.slice A1 P.length c1,.slice A2 S.length c2] 24)=W:=⟨_,rfl⟩
 have hb1:Below w.heap.size w W1:=by rw[← hW1];exact ah (Below.refl _ _) _
 have X:=au (show W1.heap[w.heap.size]? = some (.cells #[.int .i64 B,.slice A1 P.length c1,.slice A2 S.length c2] 24 (0,0)) by rw[← hW1];exact heap_alloc_new w _)
 have R1:=au (Kd.aN hr1 hb1)
 have R2:=au (Kd.aN hr2 hb1)
 have HC1:=au hc1
 have HC2:=au hc2
 have BB:=au hb1
 clear hr1 hr2 hc1 hc2 hb1
 have d0:W1.cell? ⟨w.heap.size,0,none⟩=some (.int .i64 B):=(ak X.out 0).trans rfl
 have d1:W1.cell? ⟨w.heap.size,1,none⟩=some (.slice A1 P.length c1):=(ak X.out 1).trans rfl
 have d2:W1.cell? ⟨w.heap.size,2,none⟩=some (.slice A2 S.length c2):=(ak X.out 2).trans rfl
 by_cases hB:1≤B∧B≤400
 ·have TT := au (impl_within.calls B 1 400 true W1 (by rw [dM, decide_eq_true hB]))
  have HB:=au hB
  by_cases h60:P.length≤60
  ·have q1 : (60 < (P.length : Int)) = False := eq_false (by omega)
   have q2:(60<P.length)=False:=eq_false (by omega)
   have HS:=au h60
   have hgm:=au (show cK B P S = (dG B none P&&decide (bD P=S)) by unfold cK;rw[decide_eq_true hB,decide_eq_true h60,Bool.true_and,Bool.true_and])
   clear hB h60
   go_enter Try.func17,Try.ntmps17
   go_wp2_with (go_at_call 34;refine TT.out.mono ?_;(rintro e w2 ⟨rfl,hd⟩);(have hb:=hd.below);(clear TT d0 d1 d2 hd);(have X2:=au (ay X.out hb));(have B2:=au (aA BB.out hb));(have RA:=au (Kd.aN R1.out hb));(have RB:=au (Kd.aN R2.out hb));(clear X BB R1 R2 hb);(have d0:w2.cell? ⟨w.heap.size,0,none⟩=some (.int .i64 B):=(ak X2.out 0).trans rfl);(have d1:w2.cell? ⟨w.heap.size,1,none⟩=some (.slice A1 P.length c1):=(ak X2.out 1).trans rfl))
   clear hW1 d0 d1
   generalize hgf:w.heap.size=gf at X2 ⊢
   have GF:=au hgf
   clear hgf
   go_loopw [18] (fun v wr=>∃ q:Nat,q≤P.length∧v = .int .i64 q∧Aside0 (dG B (fe P q) (P.drop q)=dG B none P)∧Aside0 (∀ m:Nat,q=m+1→okX B (ax P (m:Int))=true)∧Aside0 (Below w2.heap.size w2 wr)) (fun v _=>P.length - (intOf v).toNat)
   case atStart=>exact⟨0,Nat.zero_le _,rfl,⟨rfl⟩,⟨fun m h=>by omega⟩,⟨Below.refl _ _⟩⟩
   case round =>
    obtain⟨q,hq,rfl,HPL,HPR,HI⟩:=hrel
    have X3:=au (ay X2.out HI.out)
    have B3:=au (aA B2.out HI.out)
    have R3:=au (Kd.aN RA.out HI.out)
    have R4:=au (Kd.aN RB.out HI.out)
    have hP60:=HS.out
    by_cases hql:q<P.length
    ·have hqq:((q:Int) < (P.length:Int))=True:=eq_true (by omega)
     obtain⟨ad,ea,hx0,hx1⟩:=bF R3.out (q:Int) (by omega) (by omega)
     subst ea
     simp only[Int.toNat_natCast] at hx0 hx1
     have HST:=au (kF (B:=B) hql)
     obtain⟨x,hx⟩:∃ x,ax P (q:Int)=x:=⟨_,rfl⟩
     rw[hx] at hx0 hx1
     have HX:=au hx
     clear hx
     obtain⟨V1,V2,hV1,hV2,y0,y1,y2,y3,Y,BL⟩:=jq wr (.int .i64 x.f0) (.int .i64 x.f1)
     go_wp2
     clear hV1 hV2 y0 y1 y2 y3 hx0 hx1
     have X4:=au (ay X3.out BL.out)
     have B4:=au (aA B3.out BL.out)
     have I4:=au (aA HI.out BL.out)
     have R5:=au (Kd.aN R3.out BL.out)
     clear R3 R4 B3 X3 BL
     generalize hgx:wr.heap.size=gx at Y ⊢
     clear hgx
     have EC:=au (iR B x HB.out)
     cases hok:okX B x with
     | false=>
      rw[hok] at EC
      have HR0:=au (show cK B P S=false by
       have h1:=HST.out
       rw[HX.out,hok,Bool.false_and,Bool.false_and] at h1
       rw[hgm.out,← HPL.out,h1,Bool.false_and])
      clear hok
      refine dZ (n:=29) (S:=fun w'=>w'.cell? ⟨gx,0,none⟩=some (.int .i64 x.f0)∧w'.cell? ⟨gx,1,none⟩=some (.int .i64 x.f1)∧w'.cell? ⟨gf,0,none⟩=some (.int .i64 B)) (ds:=[]) (fl 29 0) (by kernel_rfl) rfl (by kernel_rfl) ⟨(ak Y.out 0).trans rfl,(ak Y.out 1).trans rfl,(ak X4.out 0).trans rfl⟩ (fun hHeld=>?_)
      have hb:=ai (Below.refl V2.heap.size V2)
      replace X4:=au (ay X4.out hb)
      replace Y:=au (ay Y.out hb)
      replace B4:=au (aA B4.out hb)
      replace I4:=au (aA I4.out hb)
      clear hb R5
      generalize V2.drew=w5 at X4 Y B4 I4 hHeld ⊢
      refine bN (i:=0) (N:=some 23) (v:=?_) (a':=?_) (fl 29 1) rfl rfl (by kernel_rfl) (fun _ _ _ h=>h) (Or.inl ⟨by rfl,?_⟩) hHeld ?_ ?_
      rotate_left
      ·rintro w' ⟨s0,s1,s2⟩
       go_simp
       with_reducible rfl
      rotate_left
      ·simp only[apu_]
       rfl
      refine aQ (i:=1) (N:=some 24) (v:=?_) (a':=?_) (fl 29 3) rfl rfl (by kernel_rfl) (fun _ _ _ h=>h) (Or.inl ⟨by rfl,?_⟩) ?_ ?_
      rotate_left
      ·intro w'
       go_simp
       with_reducible rfl
      rotate_left
      ·simp only[apu_]
       rfl
      refine bN (i:=2) (N:=some 25) (v:=?_) (a':=?_) (fl 29 7) rfl rfl (by kernel_rfl) (fun _ _ _ h=>h) (Or.inl ⟨by rfl,?_⟩) hHeld ?_ ?_
      rotate_left
      ·rintro w' ⟨s0,s1,s2⟩
       go_simp
       with_reducible rfl
      rotate_left
      ·simp only[apu_]
       rfl
      refine dN (i:=3) (N:=some 26) (fl 29 15) rfl rfl (by kernel_rfl) (by decide) (fun K hK=>?_)
      refine dh Try.func48 (by kernel_rfl) rfl #[.agg #[.int .i64 x.f0,.int .i64 x.f1],.int .i64 B] (by rfl) rfl rfl (by(try simp only[amp_]);first|done|rfl|(simp only[ald_];rfl)) ?_
      refine(impl_isExtent.calls x.f0 x.f1 B false w5 EC.out).mono ?_
      rintro e w6 ⟨rfl,hb⟩
      refine⟨_,rfl,?_⟩
      replace X4:=au (ay X4.out hb)
      replace Y:=au (ay Y.out hb)
      replace B4:=au (aA B4.out hb)
      replace I4:=au (aA I4.out hb)
      clear hb
      refine hK.out _ _ ⟨(ak Y.out 0).trans rfl,(ak Y.out 1).trans rfl,(ak X4.out 0).trans rfl⟩ (fun hHeld=>?_)
      clear hK K
      refine bQ (a':=?_) ?_ ?_
      rotate_left
      ·show Act.put _ (some 26) _=_
       simp only[apu_]
       rfl
      refine aQ (i:=4) (N:=some 27) (v:=?_) (a':=?_) (fl 29 31) rfl rfl (by kernel_rfl) (fun _ _ _ h=>h) (Or.inl ⟨by rfl,?_⟩) ?_ ?_
      rotate_left
      ·intro w'
       go_simp
       with_reducible rfl
      rotate_left
      ·simp only[apu_]
       rfl
      refine aQ (i:=5) (N:=some 28) (v:=?_) (a':=?_) (fl 29 63) rfl rfl (by kernel_rfl) (fun _ _ _ h=>h) (Or.inl ⟨by rfl,?_⟩) ?_ ?_
      rotate_left
      ·intro w'
       go_simp
       with_reducible rfl
      rotate_left
      ·simp only[apu_]
       rfl
      refine aQ (i:=6) (N:=some 29) (v:=undef) (a':=?_) (fl 29 127) rfl rfl (by kernel_rfl) (fun _ _ _ h=>h) (Or.inr ⟨by rfl,rfl⟩) ?_ ?_
      rotate_left
      ·simp only[apu_]
       rfl
      refine aQ (i:=7) (N:=some 30) (v:=undef) (a':=?_) (fl 29 255) rfl rfl (by kernel_rfl) (fun _ _ _ h=>h) (Or.inr ⟨by rfl,rfl⟩) ?_ ?_
      rotate_left
      ·simp only[apu_]
       rfl
      refine aQ (i:=8) (N:=some 31) (v:=undef) (a':=?_) (fl 29 511) rfl rfl (by kernel_rfl) (fun _ _ _ h=>h) (Or.inr ⟨by rfl,rfl⟩) ?_ ?_
      rotate_left
      ·simp only[apu_]
       rfl
      refine aQ (i:=9) (N:=some 32) (v:=undef) (a':=?_) (fl 29 1023) rfl rfl (by kernel_rfl) (fun _ _ _ h=>h) (Or.inr ⟨by rfl,rfl⟩) ?_ ?_
      rotate_left
      ·simp only[apu_]
       rfl
      refine aQ (i:=10) (N:=some 33) (v:=undef) (a':=?_) (fl 29 2047) rfl rfl (by kernel_rfl) (fun _ _ _ h=>h) (Or.inr ⟨by rfl,rfl⟩) ?_ ?_
      rotate_left
      ·simp only[apu_]
       rfl
      refine aQ (i:=11) (N:=some 34) (v:=undef) (a':=?_) (fl 29 4095) rfl rfl (by kernel_rfl) (fun _ _ _ h=>h) (Or.inr ⟨by rfl,rfl⟩) ?_ ?_
      rotate_left
      ·simp only[apu_]
       rfl
      refine aQ (i:=12) (N:=some 35) (v:=undef) (a':=?_) (fl 29 8191) rfl rfl (by kernel_rfl) (fun _ _ _ h=>h) (Or.inr ⟨by rfl,rfl⟩) ?_ ?_
      rotate_left
      ·simp only[apu_]
       rfl
      refine aQ (i:=13) (N:=some 36) (v:=undef) (a':=?_) (fl 29 16383) rfl rfl (by kernel_rfl) (fun _ _ _ h=>h) (Or.inr ⟨by rfl,rfl⟩) ?_ ?_
      rotate_left
      ·simp only[apu_]
       rfl
      refine aQ (i:=14) (N:=some 37) (v:=undef) (a':=?_) (fl 29 32767) rfl rfl (by kernel_rfl) (fun _ _ _ h=>h) (Or.inr ⟨by rfl,rfl⟩) ?_ ?_
      rotate_left
      ·simp only[apu_]
       rfl
      refine aQ (i:=15) (N:=some 38) (v:=undef) (a':=?_) (fl 29 65535) rfl rfl (by kernel_rfl) (fun _ _ _ h=>h) (Or.inr ⟨by rfl,rfl⟩) ?_ ?_
      rotate_left
      ·simp only[apu_]
       rfl
      refine aQ (i:=16) (N:=some 39) (v:=undef) (a':=?_) (fl 29 131071) rfl rfl (by kernel_rfl) (fun _ _ _ h=>h) (Or.inr ⟨by rfl,rfl⟩) ?_ ?_
      rotate_left
      ·simp only[apu_]
       rfl
      refine aQ (i:=17) (N:=some 40) (v:=undef) (a':=?_) (fl 29 262143) rfl rfl (by kernel_rfl) (fun _ _ _ h=>h) (Or.inr ⟨by rfl,rfl⟩) ?_ ?_
      rotate_left
      ·simp only[apu_]
       rfl
      refine aQ (i:=18) (N:=some 41) (v:=undef) (a':=?_) (fl 29 524287) rfl rfl (by kernel_rfl) (fun _ _ _ h=>h) (Or.inr ⟨by rfl,rfl⟩) ?_ ?_
      rotate_left
      ·simp only[apu_]
       rfl
      refine aQ (i:=19) (N:=some 42) (v:=undef) (a':=?_) (fl 29 1048575) rfl rfl (by kernel_rfl) (fun _ _ _ h=>h) (Or.inr ⟨by rfl,rfl⟩) ?_ ?_
      rotate_left
      ·simp only[apu_]
       rfl
      refine aQ (i:=20) (N:=some 43) (v:=undef) (a':=?_) (fl 29 2097151) rfl rfl (by kernel_rfl) (fun _ _ _ h=>h) (Or.inr ⟨by rfl,rfl⟩) ?_ ?_
      rotate_left
      ·simp only[apu_]
       rfl
      refine aQ (i:=21) (N:=some 44) (v:=undef) (a':=?_) (fl 29 4194303) rfl rfl (by kernel_rfl) (fun _ _ _ h=>h) (Or.inr ⟨by rfl,rfl⟩) ?_ ?_
      rotate_left
      ·simp only[apu_]
       rfl
      refine aQ (i:=22) (N:=some 45) (v:=undef) (a':=?_) (fl 29 8388607) rfl rfl (by kernel_rfl) (fun _ _ _ h=>h) (Or.inr ⟨by rfl,rfl⟩) ?_ ?_
      rotate_left
      ·simp only[apu_]
       rfl
      refine aQ (i:=23) (N:=some 46) (v:=undef) (a':=?_) (fl 29 16777215) rfl rfl (by kernel_rfl) (fun _ _ _ h=>h) (Or.inr ⟨by rfl,rfl⟩) ?_ ?_
      rotate_left
      ·simp only[apu_]
       rfl
      refine aQ (i:=24) (N:=some 47) (v:=undef) (a':=?_) (fl 29 33554431) rfl rfl (by kernel_rfl) (fun _ _ _ h=>h) (Or.inr ⟨by rfl,rfl⟩) ?_ ?_
      rotate_left
      ·simp only[apu_]
       rfl
      refine aQ (i:=25) (N:=some 48) (v:=undef) (a':=?_) (fl 29 67108863) rfl rfl (by kernel_rfl) (fun _ _ _ h=>h) (Or.inr ⟨by rfl,rfl⟩) ?_ ?_
      rotate_left
      ·simp only[apu_]
       rfl
      refine aQ (i:=26) (N:=some 49) (v:=undef) (a':=?_) (fl 29 134217727) rfl rfl (by kernel_rfl) (fun _ _ _ h=>h) (Or.inr ⟨by rfl,rfl⟩) ?_ ?_
      rotate_left
      ·simp only[apu_]
       rfl
      refine aQ (i:=27) (N:=some 50) (v:=undef) (a':=?_) (fl 29 268435455) rfl rfl (by kernel_rfl) (fun _ _ _ h=>h) (Or.inr ⟨by rfl,rfl⟩) ?_ ?_
      rotate_left
      ·simp only[apu_]
       rfl
      refine aQ (i:=28) (N:=some 51) (v:=?_) (a':=?_) (fl 29 536870911) rfl rfl (by kernel_rfl) (fun _ _ _ h=>h) (Or.inl ⟨by rfl,?_⟩) ?_ ?_
      rotate_left
      ·intro w'
       go_simp
       with_reducible rfl
      rotate_left
      ·simp only[apu_]
       rfl
      refine fo (by kernel_rfl) ?_
      clear hHeld
      go_wp2
      go_ret
      exact⟨by rw[HR0.out];rfl,B4.out⟩
     | true=>
      rw[hok] at EC
      cases q with
      | zero=>
       have HN:=au (show dG B (fe P (0+1)) (P.drop (0+1))=dG B none P by
        have h1:=HST.out
        rw[HX.out,hok] at h1
        rw[← HPL.out,h1]
        rfl)
       have HNR:=au (show ∀ m:Nat,0+1=m+1→okX B (ax P (m:Int))=true from fun m hm=>by
        obtain rfl:m=0:=by omega
        rw[HX.out];exact hok)
       clear hok
       refine dZ (n:=29) (S:=fun w'=>w'.cell? ⟨gx,0,none⟩=some (.int .i64 x.f0)∧w'.cell? ⟨gx,1,none⟩=some (.int .i64 x.f1)∧w'.cell? ⟨gf,0,none⟩=some (.int .i64 B)) (ds:=[]) (fl 29 0) (by kernel_rfl) rfl (by kernel_rfl) ⟨(ak Y.out 0).trans rfl,(ak Y.out 1).trans rfl,(ak X4.out 0).trans rfl⟩ (fun hHeld=>?_)
       have hb:=ai (Below.refl V2.heap.size V2)
       replace X4:=au (ay X4.out hb)
       replace Y:=au (ay Y.out hb)
       replace B4:=au (aA B4.out hb)
       replace I4:=au (aA I4.out hb)
       clear hb R5
       generalize V2.drew=w5 at X4 Y B4 I4 hHeld ⊢
       refine bN (i:=0) (N:=some 23) (v:=?_) (a':=?_) (fl 29 1) rfl rfl (by kernel_rfl) (fun _ _ _ h=>h) (Or.inl ⟨by rfl,?_⟩) hHeld ?_ ?_
       rotate_left
       ·rintro w' ⟨s0,s1,s2⟩
        go_simp
        with_reducible rfl
       rotate_left
       ·simp only[apu_]
        rfl
       refine aQ (i:=1) (N:=some 24) (v:=?_) (a':=?_) (fl 29 3) rfl rfl (by kernel_rfl) (fun _ _ _ h=>h) (Or.inl ⟨by rfl,?_⟩) ?_ ?_
       rotate_left
       ·intro w'
        go_simp
        with_reducible rfl
       rotate_left
       ·simp only[apu_]
        rfl
       refine bN (i:=2) (N:=some 25) (v:=?_) (a':=?_) (fl 29 7) rfl rfl (by kernel_rfl) (fun _ _ _ h=>h) (Or.inl ⟨by rfl,?_⟩) hHeld ?_ ?_
       rotate_left
       ·rintro w' ⟨s0,s1,s2⟩
        go_simp
        with_reducible rfl
       rotate_left
       ·simp only[apu_]
        rfl
       refine dN (i:=3) (N:=some 26) (fl 29 15) rfl rfl (by kernel_rfl) (by decide) (fun K hK=>?_)
       refine dh Try.func48 (by kernel_rfl) rfl #[.agg #[.int .i64 x.f0,.int .i64 x.f1],.int .i64 B] (by rfl) rfl rfl (by(try simp only[amp_]);first|done|rfl|(simp only[ald_];rfl)) ?_
       refine(impl_isExtent.calls x.f0 x.f1 B true w5 EC.out).mono ?_
       rintro e w6 ⟨rfl,hb⟩
       refine⟨_,rfl,?_⟩
       replace X4:=au (ay X4.out hb)
       replace Y:=au (ay Y.out hb)
       replace B4:=au (aA B4.out hb)
       replace I4:=au (aA I4.out hb)
       clear hb
       refine hK.out _ _ ⟨(ak Y.out 0).trans rfl,(ak Y.out 1).trans rfl,(ak X4.out 0).trans rfl⟩ (fun hHeld=>?_)
       clear hK K
       refine bQ (a':=?_) ?_ ?_
       rotate_left
       ·show Act.put _ (some 26) _=_
        simp only[apu_]
        rfl
       refine aQ (i:=4) (N:=some 27) (v:=?_) (a':=?_) (fl 29 31) rfl rfl (by kernel_rfl) (fun _ _ _ h=>h) (Or.inl ⟨by rfl,?_⟩) ?_ ?_
       rotate_left
       ·intro w'
        go_simp
        with_reducible rfl
       rotate_left
       ·simp only[apu_]
        rfl
       refine aQ (i:=5) (N:=some 28) (v:=?_) (a':=?_) (fl 29 63) rfl rfl (by kernel_rfl) (fun _ _ _ h=>h) (Or.inl ⟨by rfl,?_⟩) ?_ ?_
       rotate_left
       ·intro w'
        go_simp
        with_reducible rfl
       rotate_left
       ·simp only[apu_]
        rfl
       refine aQ (i:=6) (N:=some 29) (v:=?_) (a':=?_) (fl 29 127) rfl rfl (by kernel_rfl) (fun _ _ _ h=>h) (Or.inl ⟨by rfl,?_⟩) ?_ ?_
       rotate_left
       ·intro w'
        go_simp
        with_reducible rfl
       rotate_left
       ·simp only[apu_]
        rfl
       refine aQ (i:=7) (N:=some 30) (v:=?_) (a':=?_) (fl 29 255) rfl rfl (by kernel_rfl) (fun _ _ _ h=>h) (Or.inl ⟨by rfl,?_⟩) ?_ ?_
       rotate_left
       ·intro w'
        go_simp
        with_reducible rfl
       rotate_left
       ·simp only[apu_]
        rfl
       refine aQ (i:=8) (N:=some 31) (v:=?_) (a':=?_) (fl 29 511) rfl rfl (by kernel_rfl) (fun _ _ _ h=>h) (Or.inl ⟨by rfl,?_⟩) ?_ ?_
       rotate_left
       ·intro w'
        go_simp
        with_reducible rfl
       rotate_left
       ·simp only[apu_]
        rfl
       refine aQ (i:=9) (N:=some 32) (v:=undef) (a':=?_) (fl 29 1023) rfl rfl (by kernel_rfl) (fun _ _ _ h=>h) (Or.inr ⟨by rfl,rfl⟩) ?_ ?_
       rotate_left
       ·simp only[apu_]
        rfl
       refine aQ (i:=10) (N:=some 33) (v:=undef) (a':=?_) (fl 29 2047) rfl rfl (by kernel_rfl) (fun _ _ _ h=>h) (Or.inr ⟨by rfl,rfl⟩) ?_ ?_
       rotate_left
       ·simp only[apu_]
        rfl
       refine aQ (i:=11) (N:=some 34) (v:=undef) (a':=?_) (fl 29 4095) rfl rfl (by kernel_rfl) (fun _ _ _ h=>h) (Or.inr ⟨by rfl,rfl⟩) ?_ ?_
       rotate_left
       ·simp only[apu_]
        rfl
       refine aQ (i:=12) (N:=some 35) (v:=undef) (a':=?_) (fl 29 8191) rfl rfl (by kernel_rfl) (fun _ _ _ h=>h) (Or.inr ⟨by rfl,rfl⟩) ?_ ?_
       rotate_left
       ·simp only[apu_]
        rfl
       refine aQ (i:=13) (N:=some 36) (v:=undef) (a':=?_) (fl 29 16383) rfl rfl (by kernel_rfl) (fun _ _ _ h=>h) (Or.inr ⟨by rfl,rfl⟩) ?_ ?_
       rotate_left
       ·simp only[apu_]
        rfl
       refine aQ (i:=14) (N:=some 37) (v:=undef) (a':=?_) (fl 29 32767) rfl rfl (by kernel_rfl) (fun _ _ _ h=>h) (Or.inr ⟨by rfl,rfl⟩) ?_ ?_
       rotate_left
       ·simp only[apu_]
        rfl
       refine aQ (i:=15) (N:=some 38) (v:=undef) (a':=?_) (fl 29 65535) rfl rfl (by kernel_rfl) (fun _ _ _ h=>h) (Or.inr ⟨by rfl,rfl⟩) ?_ ?_
       rotate_left
       ·simp only[apu_]
        rfl
       refine aQ (i:=16) (N:=some 39) (v:=undef) (a':=?_) (fl 29 131071) rfl rfl (by kernel_rfl) (fun _ _ _ h=>h) (Or.inr ⟨by rfl,rfl⟩) ?_ ?_
       rotate_left
       ·simp only[apu_]
        rfl
       refine aQ (i:=17) (N:=some 40) (v:=undef) (a':=?_) (fl 29 262143) rfl rfl (by kernel_rfl) (fun _ _ _ h=>h) (Or.inr ⟨by rfl,rfl⟩) ?_ ?_
       rotate_left
       ·simp only[apu_]
        rfl
       refine aQ (i:=18) (N:=some 41) (v:=undef) (a':=?_) (fl 29 524287) rfl rfl (by kernel_rfl) (fun _ _ _ h=>h) (Or.inr ⟨by rfl,rfl⟩) ?_ ?_
       rotate_left
       ·simp only[apu_]
        rfl
       refine aQ (i:=19) (N:=some 42) (v:=undef) (a':=?_) (fl 29 1048575) rfl rfl (by kernel_rfl) (fun _ _ _ h=>h) (Or.inr ⟨by rfl,rfl⟩) ?_ ?_
       rotate_left
       ·simp only[apu_]
        rfl
       refine aQ (i:=20) (N:=some 43) (v:=undef) (a':=?_) (fl 29 2097151) rfl rfl (by kernel_rfl) (fun _ _ _ h=>h) (Or.inr ⟨by rfl,rfl⟩) ?_ ?_
       rotate_left
       ·simp only[apu_]
        rfl
       refine aQ (i:=21) (N:=some 44) (v:=undef) (a':=?_) (fl 29 4194303) rfl rfl (by kernel_rfl) (fun _ _ _ h=>h) (Or.inr ⟨by rfl,rfl⟩) ?_ ?_
       rotate_left
       ·simp only[apu_]
        rfl
       refine aQ (i:=22) (N:=some 45) (v:=undef) (a':=?_) (fl 29 8388607) rfl rfl (by kernel_rfl) (fun _ _ _ h=>h) (Or.inr ⟨by rfl,rfl⟩) ?_ ?_
       rotate_left
       ·simp only[apu_]
        rfl
       refine aQ (i:=23) (N:=some 46) (v:=undef) (a':=?_) (fl 29 16777215) rfl rfl (by kernel_rfl) (fun _ _ _ h=>h) (Or.inr ⟨by rfl,rfl⟩) ?_ ?_
       rotate_left
       ·simp only[apu_]
        rfl
       refine aQ (i:=24) (N:=some 47) (v:=undef) (a':=?_) (fl 29 33554431) rfl rfl (by kernel_rfl) (fun _ _ _ h=>h) (Or.inr ⟨by rfl,rfl⟩) ?_ ?_
       rotate_left
       ·simp only[apu_]
        rfl
       refine aQ (i:=25) (N:=some 48) (v:=undef) (a':=?_) (fl 29 67108863) rfl rfl (by kernel_rfl) (fun _ _ _ h=>h) (Or.inr ⟨by rfl,rfl⟩) ?_ ?_
       rotate_left
       ·simp only[apu_]
        rfl
       refine aQ (i:=26) (N:=some 49) (v:=undef) (a':=?_) (fl 29 134217727) rfl rfl (by kernel_rfl) (fun _ _ _ h=>h) (Or.inr ⟨by rfl,rfl⟩) ?_ ?_
       rotate_left
       ·simp only[apu_]
        rfl
       refine aQ (i:=27) (N:=some 50) (v:=?_) (a':=?_) (fl 29 268435455) rfl rfl (by kernel_rfl) (fun _ _ _ h=>h) (Or.inl ⟨by rfl,?_⟩) ?_ ?_
       rotate_left
       ·intro w'
        go_simp
        with_reducible rfl
       rotate_left
       ·simp only[apu_]
        rfl
       refine aQ (i:=28) (N:=some 51) (v:=?_) (a':=?_) (fl 29 536870911) rfl rfl (by kernel_rfl) (fun _ _ _ h=>h) (Or.inl ⟨by rfl,?_⟩) ?_ ?_
       rotate_left
       ·intro w'
        go_simp
        with_reducible rfl
       rotate_left
       ·simp only[apu_]
        rfl
       refine fo (by kernel_rfl) ?_
       clear hHeld
       go_wp2
       go_roundw
       case rel=>exact⟨0+1,by omega,by go_num,HN,HNR,I4⟩
       case measure=>simp[intOf];omega
      | succ m=>
       have hok2:=HPR.out m rfl
       obtain⟨ad',eb,hy0,hy1⟩:=bF R5.out (m:Int) (by omega) (by omega)
       cases eb
       simp only[Int.toNat_natCast] at hy0 hy1
       have hpq:fe P (m+1)=some (ax P (m:Int)):=by
        unfold fe
        rw[if_neg (by omega),show((m+1:Nat):Int) - 1 = (m:Int) by omega]
       have h1:=HST.out
       have hrdn:=HX.out
       rw[HX.out,hok,hpq] at h1
       obtain⟨y,hy⟩:∃ y,ax P (m:Int)=y:=⟨_,rfl⟩
       rw[hy] at hy0 hy1 hok2 h1
       have hyb:=eQ.1 hok2
       have HY:=au (And.intro hy0 hy1)
       have HNR:=au (show ∀ m':Nat,m+1+1=m'+1→okX B (ax P (m':Int))=true from fun m' hm=>by
        obtain rfl:m'=m+1:=by omega
        rw[hrdn];exact hok)
       have hwm:IntKind.i64.wrap ((m:Int)+1 - 1) = (m:Int):=by rw[show(m:Int)+1 - 1 = (m:Int) by omega];exact IntWalk.i64_in _ (by omega)
       have hwy:IntKind.i64.wrap (y.f0+y.f1)=y.f0+y.f1:=IntWalk.i64_in _ (by have:=HB.out;omega)
       have hwm2:wrap64 (m:Int) = (m:Int):=w64 (by omega) (by omega)
       have hwy2:wrap64 (y.f0+y.f1)=y.f0+y.f1:=w64 (by have:=HB.out;omega) (by have:=HB.out;omega)
       have hml:((m:Int) < (P.length:Int))=True:=eq_true (by omega)
       have hm0:((0:Int) < (m:Int)+1)=True:=eq_true (by omega)
       have HPQ:=au (show fe P (m+1)=some y by rw[hpq,hy])
       clear hy hy0 hy1 hok hok2 hyb hpq hrdn
       by_cases hgap:y.f0+y.f1<x.f0
       ·have hle:decide (x.f0≤y.f0+y.f1)=false:=decide_eq_false (by omega)
        have hle2:(x.f0≤y.f0+y.f1)=False:=eq_false (by omega)
        have HN:=au (show dG B (fe P (m+1+1)) (P.drop (m+1+1))=dG B none P by
         rw[← HPL.out,HPQ.out,h1]
         show _ = (true&&decide (y.f0+y.f1<x.f0)&&_)
         rw[decide_eq_true hgap]
         rfl)
        clear h1 hgap
        refine dZ (n:=29) (S:=fun w'=>w'.cell? ⟨gx,0,none⟩=some (.int .i64 x.f0)∧w'.cell? ⟨gx,1,none⟩=some (.int .i64 x.f1)∧w'.cell? ⟨gf,0,none⟩=some (.int .i64 B)∧w'.cell? ⟨gf,1,none⟩=some (.slice (some ad) P.length c1)∧w'.cell? (ad.add (m*2))=some (.int .i64 y.f0)∧w'.cell? ⟨(ad.add (m*2)).block,(ad.add (m*2)).off+1,none⟩=some (.int .i64 y.f1)) (ds:=[]) (fl 29 0) (by kernel_rfl) rfl (by kernel_rfl) ⟨(ak Y.out 0).trans rfl,(ak Y.out 1).trans rfl,(ak X4.out 0).trans rfl,(ak X4.out 1).trans rfl,HY.out.1,HY.out.2⟩ (fun hHeld=>?_)
        have hb:=ai (Below.refl V2.heap.size V2)
        replace X4:=au (ay X4.out hb)
        replace Y:=au (ay Y.out hb)
        replace B4:=au (aA B4.out hb)
        replace I4:=au (aA I4.out hb)
        replace HY:=au (And.intro (bX hb HY.out.1) (bX hb HY.out.2))
        clear hb R5
        generalize V2.drew=w5 at X4 Y B4 I4 HY hHeld ⊢
        refine bN (i:=0) (N:=some 23) (v:=?_) (a':=?_) (fl 29 1) rfl rfl (by kernel_rfl) (fun _ _ _ h=>h) (Or.inl ⟨by rfl,?_⟩) hHeld ?_ ?_
        rotate_left
        ·rintro w' ⟨s0,s1,s2,s3,s4,s5⟩
         go_simp
         with_reducible rfl
        rotate_left
        ·simp only[apu_]
         rfl
        refine aQ (i:=1) (N:=some 24) (v:=?_) (a':=?_) (fl 29 3) rfl rfl (by kernel_rfl) (fun _ _ _ h=>h) (Or.inl ⟨by rfl,?_⟩) ?_ ?_
        rotate_left
        ·intro w'
         go_simp
         with_reducible rfl
        rotate_left
        ·simp only[apu_]
         rfl
        refine bN (i:=2) (N:=some 25) (v:=?_) (a':=?_) (fl 29 7) rfl rfl (by kernel_rfl) (fun _ _ _ h=>h) (Or.inl ⟨by rfl,?_⟩) hHeld ?_ ?_
        rotate_left
        ·rintro w' ⟨s0,s1,s2,s3,s4,s5⟩
         go_simp
         with_reducible rfl
        rotate_left
        ·simp only[apu_]
         rfl
        refine dN (i:=3) (N:=some 26) (fl 29 15) rfl rfl (by kernel_rfl) (by decide) (fun K hK=>?_)
        refine dh Try.func48 (by kernel_rfl) rfl #[.agg #[.int .i64 x.f0,.int .i64 x.f1],.int .i64 B] (by rfl) rfl rfl (by(try simp only[amp_]);first|done|rfl|(simp only[ald_];rfl)) ?_
        refine(impl_isExtent.calls x.f0 x.f1 B true w5 EC.out).mono ?_
        rintro e w6 ⟨rfl,hb⟩
        refine⟨_,rfl,?_⟩
        replace X4:=au (ay X4.out hb)
        replace Y:=au (ay Y.out hb)
        replace B4:=au (aA B4.out hb)
        replace I4:=au (aA I4.out hb)
        replace HY:=au (And.intro (bX hb HY.out.1) (bX hb HY.out.2))
        clear hb
        refine hK.out _ _ ⟨(ak Y.out 0).trans rfl,(ak Y.out 1).trans rfl,(ak X4.out 0).trans rfl,(ak X4.out 1).trans rfl,HY.out.1,HY.out.2⟩ (fun hHeld=>?_)
        clear hK K
        refine bQ (a':=?_) ?_ ?_
        rotate_left
        ·show Act.put _ (some 26) _=_
         simp only[apu_]
         rfl
        refine aQ (i:=4) (N:=some 27) (v:=?_) (a':=?_) (fl 29 31) rfl rfl (by kernel_rfl) (fun _ _ _ h=>h) (Or.inl ⟨by rfl,?_⟩) ?_ ?_
        rotate_left
        ·intro w'
         go_simp
         with_reducible rfl
        rotate_left
        ·simp only[apu_]
         rfl
        refine aQ (i:=5) (N:=some 28) (v:=?_) (a':=?_) (fl 29 63) rfl rfl (by kernel_rfl) (fun _ _ _ h=>h) (Or.inl ⟨by rfl,?_⟩) ?_ ?_
        rotate_left
        ·intro w'
         go_simp
         with_reducible rfl
        rotate_left
        ·simp only[apu_]
         rfl
        refine aQ (i:=6) (N:=some 29) (v:=?_) (a':=?_) (fl 29 127) rfl rfl (by kernel_rfl) (fun _ _ _ h=>h) (Or.inl ⟨by rfl,?_⟩) ?_ ?_
        rotate_left
        ·intro w'
         go_simp
         with_reducible rfl
        rotate_left
        ·simp only[apu_]
         rfl
        refine aQ (i:=7) (N:=some 30) (v:=?_) (a':=?_) (fl 29 255) rfl rfl (by kernel_rfl) (fun _ _ _ h=>h) (Or.inl ⟨by rfl,?_⟩) ?_ ?_
        rotate_left
        ·intro w'
         go_simp
         with_reducible rfl
        rotate_left
        ·simp only[apu_]
         rfl
        refine aQ (i:=8) (N:=some 31) (v:=?_) (a':=?_) (fl 29 511) rfl rfl (by kernel_rfl) (fun _ _ _ h=>h) (Or.inl ⟨by rfl,?_⟩) ?_ ?_
        rotate_left
        ·intro w'
         go_simp
         with_reducible rfl
        rotate_left
        ·simp only[apu_]
         rfl
        refine aQ (i:=9) (N:=some 32) (v:=?_) (a':=?_) (fl 29 1023) rfl rfl (by kernel_rfl) (fun _ _ _ h=>h) (Or.inl ⟨by rfl,?_⟩) ?_ ?_
        rotate_left
        ·intro w'
         go_simp
         with_reducible rfl
        rotate_left
        ·simp only[apu_]
         rfl
        refine bN (i:=10) (N:=some 33) (v:=?_) (a':=?_) (fl 29 2047) rfl rfl (by kernel_rfl) (fun _ _ _ h=>h) (Or.inl ⟨by rfl,?_⟩) hHeld ?_ ?_
        rotate_left
        ·rintro w' ⟨s0,s1,s2,s3,s4,s5⟩
         go_simp
         with_reducible rfl
        rotate_left
        ·simp only[apu_]
         rfl
        refine aQ (i:=11) (N:=some 34) (v:=?_) (a':=?_) (fl 29 4095) rfl rfl (by kernel_rfl) (fun _ _ _ h=>h) (Or.inl ⟨by rfl,?_⟩) ?_ ?_
        rotate_left
        ·intro w'
         go_simp
         with_reducible rfl
        rotate_left
        ·simp only[apu_]
         rfl
        refine bN (i:=12) (N:=some 35) (v:=?_) (a':=?_) (fl 29 8191) rfl rfl (by kernel_rfl) (fun _ _ _ h=>h) (Or.inl ⟨by rfl,?_⟩) hHeld ?_ ?_
        rotate_left
        ·rintro w' ⟨s0,s1,s2,s3,s4,s5⟩
         go_simp
         with_reducible rfl
        rotate_left
        ·simp only[apu_]
         rfl
        refine aQ (i:=13) (N:=some 36) (v:=?_) (a':=?_) (fl 29 16383) rfl rfl (by kernel_rfl) (fun _ _ _ h=>h) (Or.inl ⟨by rfl,?_⟩) ?_ ?_
        rotate_left
        ·intro w'
         go_simp
         with_reducible rfl
        rotate_left
        ·simp only[apu_]
         rfl
        refine aQ (i:=14) (N:=some 37) (v:=?_) (a':=?_) (fl 29 32767) rfl rfl (by kernel_rfl) (fun _ _ _ h=>h) (Or.inl ⟨by rfl,?_⟩) ?_ ?_
        rotate_left
        ·intro w'
         go_simp
         with_reducible rfl
        rotate_left
        ·simp only[apu_]
         rfl
        refine aQ (i:=15) (N:=some 38) (v:=?_) (a':=?_) (fl 29 65535) rfl rfl (by kernel_rfl) (fun _ _ _ h=>h) (Or.inl ⟨by rfl,?_⟩) ?_ ?_
        rotate_left
        ·intro w'
         go_simp
         with_reducible rfl
        rotate_left
        ·simp only[apu_]
         rfl
        refine aQ (i:=16) (N:=some 39) (v:=?_) (a':=?_) (fl 29 131071) rfl rfl (by kernel_rfl) (fun _ _ _ h=>h) (Or.inl ⟨by rfl,?_⟩) ?_ ?_
        rotate_left
        ·intro w'
         go_simp
         with_reducible rfl
        rotate_left
        ·simp only[apu_]
         rfl
        refine bN (i:=17) (N:=some 40) (v:=?_) (a':=?_) (fl 29 262143) rfl rfl (by kernel_rfl) (fun _ _ _ h=>h) (Or.inl ⟨by rfl,?_⟩) hHeld ?_ ?_
        rotate_left
        ·rintro w' ⟨s0,s1,s2,s3,s4,s5⟩
         go_simp
         with_reducible rfl
        rotate_left
        ·simp only[apu_]
         rfl
        refine aQ (i:=18) (N:=some 41) (v:=?_) (a':=?_) (fl 29 524287) rfl rfl (by kernel_rfl) (fun _ _ _ h=>h) (Or.inl ⟨by rfl,?_⟩) ?_ ?_
        rotate_left
        ·intro w'
         go_simp
         with_reducible rfl
        rotate_left
        ·simp only[apu_]
         rfl
        refine bN (i:=19) (N:=some 42) (v:=?_) (a':=?_) (fl 29 1048575) rfl rfl (by kernel_rfl) (fun _ _ _ h=>h) (Or.inl ⟨by rfl,?_⟩) hHeld ?_ ?_
        rotate_left
        ·rintro w' ⟨s0,s1,s2,s3,s4,s5⟩
         go_simp
         with_reducible rfl
        rotate_left
        ·simp only[apu_]
         rfl
        refine aQ (i:=20) (N:=some 43) (v:=?_) (a':=?_) (fl 29 2097151) rfl rfl (by kernel_rfl) (fun _ _ _ h=>h) (Or.inl ⟨by rfl,?_⟩) ?_ ?_
        rotate_left
        ·intro w'
         go_simp
         with_reducible rfl
        rotate_left
        ·simp only[apu_]
         rfl
        refine aQ (i:=21) (N:=some 44) (v:=?_) (a':=?_) (fl 29 4194303) rfl rfl (by kernel_rfl) (fun _ _ _ h=>h) (Or.inl ⟨by rfl,?_⟩) ?_ ?_
        rotate_left
        ·intro w'
         go_simp
         with_reducible rfl
        rotate_left
        ·simp only[apu_]
         rfl
        refine aQ (i:=22) (N:=some 45) (v:=?_) (a':=?_) (fl 29 8388607) rfl rfl (by kernel_rfl) (fun _ _ _ h=>h) (Or.inl ⟨by rfl,?_⟩) ?_ ?_
        rotate_left
        ·intro w'
         go_simp
         with_reducible rfl
        rotate_left
        ·simp only[apu_]
         rfl
        refine aQ (i:=23) (N:=some 46) (v:=?_) (a':=?_) (fl 29 16777215) rfl rfl (by kernel_rfl) (fun _ _ _ h=>h) (Or.inl ⟨by rfl,?_⟩) ?_ ?_
        rotate_left
        ·intro w'
         go_simp
         with_reducible rfl
        rotate_left
        ·simp only[apu_]
         rfl
        refine bN (i:=24) (N:=some 47) (v:=?_) (a':=?_) (fl 29 33554431) rfl rfl (by kernel_rfl) (fun _ _ _ h=>h) (Or.inl ⟨by rfl,?_⟩) hHeld ?_ ?_
        rotate_left
        ·rintro w' ⟨s0,s1,s2,s3,s4,s5⟩
         go_simp
         with_reducible rfl
        rotate_left
        ·simp only[apu_]
         rfl
        refine aQ (i:=25) (N:=some 48) (v:=?_) (a':=?_) (fl 29 67108863) rfl rfl (by kernel_rfl) (fun _ _ _ h=>h) (Or.inl ⟨by rfl,?_⟩) ?_ ?_
        rotate_left
        ·intro w'
         go_simp
         with_reducible rfl
        rotate_left
        ·simp only[apu_]
         rfl
        refine aQ (i:=26) (N:=some 49) (v:=?_) (a':=?_) (fl 29 134217727) rfl rfl (by kernel_rfl) (fun _ _ _ h=>h) (Or.inl ⟨by rfl,?_⟩) ?_ ?_
        rotate_left
        ·intro w'
         go_simp
         with_reducible rfl
        rotate_left
        ·simp only[apu_]
         rfl
        refine aQ (i:=27) (N:=some 50) (v:=?_) (a':=?_) (fl 29 268435455) rfl rfl (by kernel_rfl) (fun _ _ _ h=>h) (Or.inl ⟨by rfl,?_⟩) ?_ ?_
        rotate_left
        ·intro w'
         go_simp
         with_reducible rfl
        rotate_left
        ·simp only[apu_]
         rfl
        refine aQ (i:=28) (N:=some 51) (v:=?_) (a':=?_) (fl 29 536870911) rfl rfl (by kernel_rfl) (fun _ _ _ h=>h) (Or.inl ⟨by rfl,?_⟩) ?_ ?_
        rotate_left
        ·intro w'
         go_simp
         with_reducible rfl
        rotate_left
        ·simp only[apu_]
         rfl
        refine fo (by kernel_rfl) ?_
        clear hHeld
        go_wp2
        go_roundw
        case rel=>exact⟨m+1+1,by omega,by go_num,HN,HNR,I4⟩
        case measure=>simp[intOf];omega
       ·have hle:decide (x.f0≤y.f0+y.f1)=true:=decide_eq_true (by omega)
        have hle2:(x.f0≤y.f0+y.f1)=True:=eq_true (by omega)
        have HR0:=au (show cK B P S=false by
         have h2:dG B none P=false:=by
          rw[← HPL.out,HPQ.out,h1]
          show(true&&decide (y.f0+y.f1<x.f0)&&_)=false
          rw[decide_eq_false hgap]
          rfl
         rw[hgm.out,h2,Bool.false_and])
        clear h1 hgap
        refine dZ (n:=29) (S:=fun w'=>w'.cell? ⟨gx,0,none⟩=some (.int .i64 x.f0)∧w'.cell? ⟨gx,1,none⟩=some (.int .i64 x.f1)∧w'.cell? ⟨gf,0,none⟩=some (.int .i64 B)∧w'.cell? ⟨gf,1,none⟩=some (.slice (some ad) P.length c1)∧w'.cell? (ad.add (m*2))=some (.int .i64 y.f0)∧w'.cell? ⟨(ad.add (m*2)).block,(ad.add (m*2)).off+1,none⟩=some (.int .i64 y.f1)) (ds:=[]) (fl 29 0) (by kernel_rfl) rfl (by kernel_rfl) ⟨(ak Y.out 0).trans rfl,(ak Y.out 1).trans rfl,(ak X4.out 0).trans rfl,(ak X4.out 1).trans rfl,HY.out.1,HY.out.2⟩ (fun hHeld=>?_)
        have hb:=ai (Below.refl V2.heap.size V2)
        replace X4:=au (ay X4.out hb)
        replace Y:=au (ay Y.out hb)
        replace B4:=au (aA B4.out hb)
        replace I4:=au (aA I4.out hb)
        replace HY:=au (And.intro (bX hb HY.out.1) (bX hb HY.out.2))
        clear hb R5
        generalize V2.drew=w5 at X4 Y B4 I4 HY hHeld ⊢
        refine bN (i:=0) (N:=some 23) (v:=?_) (a':=?_) (fl 29 1) rfl rfl (by kernel_rfl) (fun _ _ _ h=>h) (Or.inl ⟨by rfl,?_⟩) hHeld ?_ ?_
        rotate_left
        ·rintro w' ⟨s0,s1,s2,s3,s4,s5⟩
         go_simp
         with_reducible rfl
        rotate_left
        ·simp only[apu_]
         rfl
        refine aQ (i:=1) (N:=some 24) (v:=?_) (a':=?_) (fl 29 3) rfl rfl (by kernel_rfl) (fun _ _ _ h=>h) (Or.inl ⟨by rfl,?_⟩) ?_ ?_
        rotate_left
        ·intro w'
         go_simp
         with_reducible rfl
        rotate_left
        ·simp only[apu_]
         rfl
        refine bN (i:=2) (N:=some 25) (v:=?_) (a':=?_) (fl 29 7) rfl rfl (by kernel_rfl) (fun _ _ _ h=>h) (Or.inl ⟨by rfl,?_⟩) hHeld ?_ ?_
        rotate_left
        ·rintro w' ⟨s0,s1,s2,s3,s4,s5⟩
         go_simp
         with_reducible rfl
        rotate_left
        ·simp only[apu_]
         rfl
        refine dN (i:=3) (N:=some 26) (fl 29 15) rfl rfl (by kernel_rfl) (by decide) (fun K hK=>?_)
        refine dh Try.func48 (by kernel_rfl) rfl #[.agg #[.int .i64 x.f0,.int .i64 x.f1],.int .i64 B] (by rfl) rfl rfl (by(try simp only[amp_]);first|done|rfl|(simp only[ald_];rfl)) ?_
        refine(impl_isExtent.calls x.f0 x.f1 B true w5 EC.out).mono ?_
        rintro e w6 ⟨rfl,hb⟩
        refine⟨_,rfl,?_⟩
        replace X4:=au (ay X4.out hb)
        replace Y:=au (ay Y.out hb)
        replace B4:=au (aA B4.out hb)
        replace I4:=au (aA I4.out hb)
        replace HY:=au (And.intro (bX hb HY.out.1) (bX hb HY.out.2))
        clear hb
        refine hK.out _ _ ⟨(ak Y.out 0).trans rfl,(ak Y.out 1).trans rfl,(ak X4.out 0).trans rfl,(ak X4.out 1).trans rfl,HY.out.1,HY.out.2⟩ (fun hHeld=>?_)
        clear hK K
        refine bQ (a':=?_) ?_ ?_
        rotate_left
        ·show Act.put _ (some 26) _=_
         simp only[apu_]
         rfl
        refine aQ (i:=4) (N:=some 27) (v:=?_) (a':=?_) (fl 29 31) rfl rfl (by kernel_rfl) (fun _ _ _ h=>h) (Or.inl ⟨by rfl,?_⟩) ?_ ?_
        rotate_left
        ·intro w'
         go_simp
         with_reducible rfl
        rotate_left
        ·simp only[apu_]
         rfl
        refine aQ (i:=5) (N:=some 28) (v:=?_) (a':=?_) (fl 29 63) rfl rfl (by kernel_rfl) (fun _ _ _ h=>h) (Or.inl ⟨by rfl,?_⟩) ?_ ?_
        rotate_left
        ·intro w'
         go_simp
         with_reducible rfl
        rotate_left
        ·simp only[apu_]
         rfl
        refine aQ (i:=6) (N:=some 29) (v:=?_) (a':=?_) (fl 29 127) rfl rfl (by kernel_rfl) (fun _ _ _ h=>h) (Or.inl ⟨by rfl,?_⟩) ?_ ?_
        rotate_left
        ·intro w'
         go_simp
         with_reducible rfl
        rotate_left
        ·simp only[apu_]
         rfl
        refine aQ (i:=7) (N:=some 30) (v:=?_) (a':=?_) (fl 29 255) rfl rfl (by kernel_rfl) (fun _ _ _ h=>h) (Or.inl ⟨by rfl,?_⟩) ?_ ?_
        rotate_left
        ·intro w'
         go_simp
         with_reducible rfl
        rotate_left
        ·simp only[apu_]
         rfl
        refine aQ (i:=8) (N:=some 31) (v:=?_) (a':=?_) (fl 29 511) rfl rfl (by kernel_rfl) (fun _ _ _ h=>h) (Or.inl ⟨by rfl,?_⟩) ?_ ?_
        rotate_left
        ·intro w'
         go_simp
         with_reducible rfl
        rotate_left
        ·simp only[apu_]
         rfl
        refine aQ (i:=9) (N:=some 32) (v:=?_) (a':=?_) (fl 29 1023) rfl rfl (by kernel_rfl) (fun _ _ _ h=>h) (Or.inl ⟨by rfl,?_⟩) ?_ ?_
        rotate_left
        ·intro w'
         go_simp
         with_reducible rfl
        rotate_left
        ·simp only[apu_]
         rfl
        refine bN (i:=10) (N:=some 33) (v:=?_) (a':=?_) (fl 29 2047) rfl rfl (by kernel_rfl) (fun _ _ _ h=>h) (Or.inl ⟨by rfl,?_⟩) hHeld ?_ ?_
        rotate_left
        ·rintro w' ⟨s0,s1,s2,s3,s4,s5⟩
         go_simp
         with_reducible rfl
        rotate_left
        ·simp only[apu_]
         rfl
        refine aQ (i:=11) (N:=some 34) (v:=?_) (a':=?_) (fl 29 4095) rfl rfl (by kernel_rfl) (fun _ _ _ h=>h) (Or.inl ⟨by rfl,?_⟩) ?_ ?_
        rotate_left
        ·intro w'
         go_simp
         with_reducible rfl
        rotate_left
        ·simp only[apu_]
         rfl
        refine bN (i:=12) (N:=some 35) (v:=?_) (a':=?_) (fl 29 8191) rfl rfl (by kernel_rfl) (fun _ _ _ h=>h) (Or.inl ⟨by rfl,?_⟩) hHeld ?_ ?_
        rotate_left
        ·rintro w' ⟨s0,s1,s2,s3,s4,s5⟩
         go_simp
         with_reducible rfl
        rotate_left
        ·simp only[apu_]
         rfl
        refine aQ (i:=13) (N:=some 36) (v:=?_) (a':=?_) (fl 29 16383) rfl rfl (by kernel_rfl) (fun _ _ _ h=>h) (Or.inl ⟨by rfl,?_⟩) ?_ ?_
        rotate_left
        ·intro w'
         go_simp
         with_reducible rfl
        rotate_left
        ·simp only[apu_]
         rfl
        refine aQ (i:=14) (N:=some 37) (v:=?_) (a':=?_) (fl 29 32767) rfl rfl (by kernel_rfl) (fun _ _ _ h=>h) (Or.inl ⟨by rfl,?_⟩) ?_ ?_
        rotate_left
        ·intro w'
         go_simp
         with_reducible rfl
        rotate_left
        ·simp only[apu_]
         rfl
        refine aQ (i:=15) (N:=some 38) (v:=?_) (a':=?_) (fl 29 65535) rfl rfl (by kernel_rfl) (fun _ _ _ h=>h) (Or.inl ⟨by rfl,?_⟩) ?_ ?_
        rotate_left
        ·intro w'
         go_simp
         with_reducible rfl
        rotate_left
        ·simp only[apu_]
         rfl
        refine aQ (i:=16) (N:=some 39) (v:=?_) (a':=?_) (fl 29 131071) rfl rfl (by kernel_rfl) (fun _ _ _ h=>h) (Or.inl ⟨by rfl,?_⟩) ?_ ?_
        rotate_left
        ·intro w'
         go_simp
         with_reducible rfl
        rotate_left
        ·simp only[apu_]
         rfl
        refine bN (i:=17) (N:=some 40) (v:=?_) (a':=?_) (fl 29 262143) rfl rfl (by kernel_rfl) (fun _ _ _ h=>h) (Or.inl ⟨by rfl,?_⟩) hHeld ?_ ?_
        rotate_left
        ·rintro w' ⟨s0,s1,s2,s3,s4,s5⟩
         go_simp
         with_reducible rfl
        rotate_left
        ·simp only[apu_]
         rfl
        refine aQ (i:=18) (N:=some 41) (v:=?_) (a':=?_) (fl 29 524287) rfl rfl (by kernel_rfl) (fun _ _ _ h=>h) (Or.inl ⟨by rfl,?_⟩) ?_ ?_
        rotate_left
        ·intro w'
         go_simp
         with_reducible rfl
        rotate_left
        ·simp only[apu_]
         rfl
        refine bN (i:=19) (N:=some 42) (v:=?_) (a':=?_) (fl 29 1048575) rfl rfl (by kernel_rfl) (fun _ _ _ h=>h) (Or.inl ⟨by rfl,?_⟩) hHeld ?_ ?_
        rotate_left
        ·rintro w' ⟨s0,s1,s2,s3,s4,s5⟩
         go_simp
         with_reducible rfl
        rotate_left
        ·simp only[apu_]
         rfl
        refine aQ (i:=20) (N:=some 43) (v:=?_) (a':=?_) (fl 29 2097151) rfl rfl (by kernel_rfl) (fun _ _ _ h=>h) (Or.inl ⟨by rfl,?_⟩) ?_ ?_
        rotate_left
        ·intro w'
         go_simp
         with_reducible rfl
        rotate_left
        ·simp only[apu_]
         rfl
        refine aQ (i:=21) (N:=some 44) (v:=?_) (a':=?_) (fl 29 4194303) rfl rfl (by kernel_rfl) (fun _ _ _ h=>h) (Or.inl ⟨by rfl,?_⟩) ?_ ?_
        rotate_left
        ·intro w'
         go_simp
         with_reducible rfl
        rotate_left
        ·simp only[apu_]
         rfl
        refine aQ (i:=22) (N:=some 45) (v:=?_) (a':=?_) (fl 29 8388607) rfl rfl (by kernel_rfl) (fun _ _ _ h=>h) (Or.inl ⟨by rfl,?_⟩) ?_ ?_
        rotate_left
        ·intro w'
         go_simp
         with_reducible rfl
        rotate_left
        ·simp only[apu_]
         rfl
        refine aQ (i:=23) (N:=some 46) (v:=?_) (a':=?_) (fl 29 16777215) rfl rfl (by kernel_rfl) (fun _ _ _ h=>h) (Or.inl ⟨by rfl,?_⟩) ?_ ?_
        rotate_left
        ·intro w'
         go_simp
         with_reducible rfl
        rotate_left
        ·simp only[apu_]
         rfl
        refine bN (i:=24) (N:=some 47) (v:=?_) (a':=?_) (fl 29 33554431) rfl rfl (by kernel_rfl) (fun _ _ _ h=>h) (Or.inl ⟨by rfl,?_⟩) hHeld ?_ ?_
        rotate_left
        ·rintro w' ⟨s0,s1,s2,s3,s4,s5⟩
         go_simp
         with_reducible rfl
        rotate_left
        ·simp only[apu_]
         rfl
        refine aQ (i:=25) (N:=some 48) (v:=?_) (a':=?_) (fl 29 67108863) rfl rfl (by kernel_rfl) (fun _ _ _ h=>h) (Or.inl ⟨by rfl,?_⟩) ?_ ?_
        rotate_left
        ·intro w'
         go_simp
         with_reducible rfl
        rotate_left
        ·simp only[apu_]
         rfl
        refine aQ (i:=26) (N:=some 49) (v:=?_) (a':=?_) (fl 29 134217727) rfl rfl (by kernel_rfl) (fun _ _ _ h=>h) (Or.inl ⟨by rfl,?_⟩) ?_ ?_
        rotate_left
        ·intro w'
         go_simp
         with_reducible rfl
        rotate_left
        ·simp only[apu_]
         rfl
        refine aQ (i:=27) (N:=some 50) (v:=?_) (a':=?_) (fl 29 268435455) rfl rfl (by kernel_rfl) (fun _ _ _ h=>h) (Or.inl ⟨by rfl,?_⟩) ?_ ?_
        rotate_left
        ·intro w'
         go_simp
         with_reducible rfl
        rotate_left
        ·simp only[apu_]
         rfl
        refine aQ (i:=28) (N:=some 51) (v:=?_) (a':=?_) (fl 29 536870911) rfl rfl (by kernel_rfl) (fun _ _ _ h=>h) (Or.inl ⟨by rfl,?_⟩) ?_ ?_
        rotate_left
        ·intro w'
         go_simp
         with_reducible rfl
        rotate_left
        ·simp only[apu_]
         rfl
        refine fo (by kernel_rfl) ?_
        clear hHeld
        go_wp2
        go_ret
        exact⟨by rw[HR0.out];rfl,B4.out⟩
    ·have hqq:((q:Int) < (P.length:Int))=False:=eq_false (by omega)
     have HR0:=au (show cK B P S=decide (bD P=S) by
      have h1:=HPL.out
      rw[List.drop_of_length_le (by omega)] at h1
      rw[hgm.out,← h1]
      rfl)
     clear HPL HPR
     obtain⟨ke,hke⟩:=nP (bD P) S (by rw[fu];omega)
     have HKE:=au hke
     clear hke
     go_wp2
     refine dZ (n:=10) (S:=fun w'=>w'.cell? ⟨gf,0,none⟩=some (.int .i64 B)∧w'.cell? ⟨gf,1,none⟩=some (.slice A1 P.length c1)∧w'.cell? ⟨gf,2,none⟩=some (.slice A2 S.length c2)) (ds:=[]) (fl 10 0) (by kernel_rfl) rfl (by kernel_rfl) ⟨(ak X3.out 0).trans rfl,(ak X3.out 1).trans rfl,(ak X3.out 2).trans rfl⟩ (fun hHeld=>?_)
     have hb:=ai (Below.refl wr.heap.size wr)
     replace X3:=au (ay X3.out hb)
     replace B3:=au (aA B3.out hb)
     replace R3:=au (Kd.aN R3.out hb)
     replace R4:=au (Kd.aN R4.out hb)
     clear hb
     generalize wr.drew=w5 at X3 B3 R3 R4 hHeld ⊢
     refine aQ (i:=0) (N:=some 53) (v:=?_) (a':=?_) (fl 10 1) rfl rfl (by kernel_rfl) (fun _ _ _ h=>h) (Or.inl ⟨by rfl,?_⟩) ?_ ?_
     rotate_left
     ·intro w'
      go_simp
      with_reducible rfl
     rotate_left
     ·simp only[apu_]
      rfl
     refine bN (i:=1) (N:=some 54) (v:=?_) (a':=?_) (fl 10 3) rfl rfl (by kernel_rfl) (fun _ _ _ h=>h) (Or.inl ⟨by rfl,?_⟩) hHeld ?_ ?_
     rotate_left
     ·rintro w' ⟨s0,s1,s2⟩
      go_simp
      with_reducible rfl
     rotate_left
     ·simp only[apu_]
      rfl
     refine aQ (i:=2) (N:=some 55) (v:=?_) (a':=?_) (fl 10 7) rfl rfl (by kernel_rfl) (fun _ _ _ h=>h) (Or.inl ⟨by rfl,?_⟩) ?_ ?_
     rotate_left
     ·intro w'
      go_simp
      with_reducible rfl
     rotate_left
     ·simp only[apu_]
      rfl
     refine bN (i:=3) (N:=some 56) (v:=?_) (a':=?_) (fl 10 15) rfl rfl (by kernel_rfl) (fun _ _ _ h=>h) (Or.inl ⟨by rfl,?_⟩) hHeld ?_ ?_
     rotate_left
     ·rintro w' ⟨s0,s1,s2⟩
      go_simp
      with_reducible rfl
     rotate_left
     ·simp only[apu_]
      rfl
     refine aQ (i:=6) (N:=some 59) (v:=?_) (a':=?_) (fl 10 79) rfl rfl (by kernel_rfl) (fun _ _ _ h=>h) (Or.inl ⟨by rfl,?_⟩) ?_ ?_
     rotate_left
     ·intro w'
      go_simp
      with_reducible rfl
     rotate_left
     ·simp only[apu_]
      rfl
     refine bN (i:=7) (N:=some 60) (v:=?_) (a':=?_) (fl 10 207) rfl rfl (by kernel_rfl) (fun _ _ _ h=>h) (Or.inl ⟨by rfl,?_⟩) hHeld ?_ ?_
     rotate_left
     ·rintro w' ⟨s0,s1,s2⟩
      go_simp
      with_reducible rfl
     rotate_left
     ·simp only[apu_]
      rfl
     refine dN (i:=4) (N:=some 57) (fl 10 223) rfl rfl (by kernel_rfl) (by decide) (fun K hK=>?_)
     refine dh Try.func35 (by kernel_rfl) rfl #[.int .i64 B,.slice A1 P.length c1] (by rfl) rfl rfl (by(try simp only[amp_]);first|done|rfl|(simp only[ald_];rfl)) ?_
     refine(fP B A1 c1 P (by omega) w5 R3.out HC1.out).mono ?_
     rintro e w6 ⟨v2,rfl,hs,hb⟩
     obtain⟨A9,c9,rfl⟩:=Kd.bq hs
     refine⟨_,rfl,?_⟩
     replace X3:=au (ay X3.out hb)
     replace B3:=au (aA B3.out hb)
     replace R3:=au (Kd.aN R3.out hb)
     replace R4:=au (Kd.aN R4.out hb)
     have RS:=au (Kd.R_reads' hs)
     clear hb hs
     refine hK.out _ _ ⟨(ak X3.out 0).trans rfl,(ak X3.out 1).trans rfl,(ak X3.out 2).trans rfl⟩ (fun hHeld=>?_)
     clear hK K
     refine bQ (a':=?_) ?_ ?_
     rotate_left
     ·show Act.put _ (some 57) _=_
      simp only[apu_]
      rfl
     have hfd:∀ w':World,(Instr.field 24 (.agg #[.int .i64 B,.slice A1 P.length c1,.slice A9 (bD P).length c9]) 2).run Try.prog w' = .ok (.slice A9 (bD P).length c9) w':=fun _=>by kernel_rfl
     refine aQ (i:=5) (N:=some 58) (v:=?_) (a':=?_) (fl 10 255) rfl rfl (by kernel_rfl) (fun _ _ _ h=>h) (Or.inl ⟨by rfl,?_⟩) ?_ ?_
     rotate_left
     ·intro w'
      go_simp
      with_reducible rfl
     rotate_left
     ·simp only[apu_]
      rfl
     refine dN (i:=8) (N:=some 61) (fl 10 511) rfl rfl (by kernel_rfl) (by decide) (fun K hK=>?_)
     refine dh Try.func51 (by kernel_rfl) rfl #[.slice A9 (bD P).length c9,.slice A2 S.length c2] (by rfl) rfl rfl (by(try simp only[amp_]);first|done|rfl|(simp only[ald_];rfl)) ?_
     refine(impl_Extent_51.calls ke A9 c9 (bD P) A2 c2 S _ w6 RS.out.2.2 RS.out.2.1 R4.out HC2.out HKE.out).mono ?_
     rintro e w7 ⟨rfl,hd⟩
     have hb:=hd.below
     refine⟨_,rfl,?_⟩
     replace X3:=au (ay X3.out hb)
     replace B3:=au (aA B3.out hb)
     clear hb hd
     refine hK.out _ _ ⟨(ak X3.out 0).trans rfl,(ak X3.out 1).trans rfl,(ak X3.out 2).trans rfl⟩ (fun hHeld=>?_)
     clear hK K
     refine bQ (a':=?_) ?_ ?_
     rotate_left
     ·show Act.put _ (some 61) _=_
      simp only[apu_]
      rfl
     refine aQ (i:=9) (N:=some 2) (v:=?_) (a':=?_) (fl 10 1023) rfl rfl (by kernel_rfl) (fun _ _ _ h=>h) (Or.inl ⟨by rfl,?_⟩) ?_ ?_
     rotate_left
     ·intro w'
      go_simp
      with_reducible rfl
     rotate_left
     ·simp only[apu_]
      rfl
     refine fo (by kernel_rfl) ?_
     clear hHeld
     go_wp2
     go_ret
     exact⟨by rw[HR0.out];rfl,B3.out⟩
  ·have q1:(60 < (P.length:Int))=True:=eq_true (by omega)
   have q2:(60<P.length)=True:=eq_true (by omega)
   have HG:=au (show cK B P S=false by unfold cK;rw[decide_eq_false h60];simp)
   clear hB h60
   go_enter Try.func17,Try.ntmps17
   go_wp2_with (go_at_call 34;refine TT.out.mono ?_;(rintro e w2 ⟨rfl,hd⟩);(have hb:=hd.below);(clear TT d0 d1 d2 hd);(have X2:=au (ay X.out hb));(have B2:=au (aA BB.out hb));(clear X BB hb);(have d1:w2.cell? ⟨w.heap.size,1,none⟩=some (.slice A1 P.length c1):=(ak X2.out 1).trans rfl))
   go_ret
   exact⟨by rw[HG.out];rfl,B2.out⟩
 ·have TT:=au (impl_within.calls B 1 400 false W1 (by rw[dM,decide_eq_false hB]))
  have HG:=au (show cK B P S=false by unfold cK;rw[decide_eq_false hB];rfl)
  clear hB
  go_enter Try.func17,Try.ntmps17
  go_wp2_with (go_at_call 34;refine TT.out.mono ?_;(rintro e w2 ⟨rfl,hd⟩);(have hb:=hd.below);(clear TT d0 d1 d2 hd);(have B2:=au (aA BB.out hb));(clear X BB hb))
  go_ret
  exact⟨by rw[HG.out];rfl,B2.out⟩
def il (free:Bool) (a:Nat):Nat→Nat→List Bool→Option (List Bool)
 | 0,_,bs=>some bs
 | n+1,k,bs=>if dO false bs ((a+k:Nat):Int)=free then none else il free a n (k+1) (bs.set (a+k) free)
def lg (B:Int) (bs:List Bool):List EX:=bv (fun i=>dO false bs i) B.toNat
def kY (B:Int) (o:Option (List Bool)):Int×List EX×List EX×Bool:=match o with
 | none=>(0,[],[],false)
 | some bs=>if cK B (lg B bs) (bD (lg B bs))=true then (B,lg B bs,bD (lg B bs),true) else (0,[],[],false)
structure CH (w W:World) (gf gz gi gb cb:Nat) (B:Int) (A1:Option Addr) (n1 c1:Nat) (A2:Option Addr) (n2 c2:Nat) (bs:List Bool):Prop where
 f:W.heap[gf]? = some (.cells #[.int .i64 B,.slice A1 n1 c1,.slice A2 n2 c2] 24 (0,0))
 z:W.heap[gz]? = some (.cells #[.int .i64 0,.slice none 0 0,.slice none 0 0] 24 (0,0))
 i:W.heap[gi]? = some (.cells #[.slice (some ⟨gb,0,none⟩) bs.length cb] 72 (0,0))
 r:Kd.C Kd.bool W (some ⟨gb,0,none⟩) bs.length bs
 b:Below w.heap.size w W
theorem CH.below {w W W':World} {gf gz gi gb cb:Nat} {B:Int} {A1:Option Addr} {n1 c1:Nat} {A2:Option Addr} {n2 c2:Nat} {bs:List Bool} (h:CH w W gf gz gi gb cb B A1 n1 c1 A2 n2 c2 bs) (hb:Below W.heap.size W W'):CH w W' gf gz gi gb cb B A1 n1 c1 A2 n2 c2 bs:=
 ⟨ay h.f hb,ay h.z hb,ay h.i hb,Kd.aN h.r hb,aA h.b hb⟩
structure TwoR (w W:World) (v1 v2:Value) (Q S:List EX):Prop where
 q:ES W w.heap.size (fun _=>True) v1 Q
 s:ES W w.heap.size (fun _=>True) v2 S
 ne:∀ k,v1.ownBlock=some k→v2.ownBlock≠some k
theorem TwoR.below {w W W':World} {v1 v2:Value} {Q S:List EX} (h:TwoR w W v1 v2 Q S) (hb:Below W.heap.size W W'):TwoR w W' v1 v2 Q S:=⟨Kd.bi h.q hb,Kd.bi h.s hb,h.ne⟩
theorem mi {W:World} {base:Nat} {ok:Nat→Prop} {v:Value} {l:List EX} (h:ES W base ok v l) {k:Nat} (hk:v.ownBlock=some k):k<W.heap.size:=by
 rcases(mP h).2 with⟨e,_⟩|⟨g,cap,cur,e,_,hh,_⟩
 ·rw[e] at hk;cases hk
 ·rw[e] at hk
  obtain rfl:g=k:=by simpa [Value.ownBlock] using hk
  exact aH hh
theorem TwoR.mk2 {w W W':World} {v1 v2:Value} {Q S:List EX} (h:ES W w.heap.size (fun _=>True) v1 Q) (hb:Below W.heap.size W W') (hw:w.heap.size≤W.heap.size) (h2:ES W' W.heap.size (fun _=>True) v2 S):TwoR w W' v1 v2 Q S:=
 ⟨Kd.bi h hb,Kd.bz h2 hw,fun k hk e=>by
  have h3:=mi h hk
  have h4:=Kd.dI h2 k e
  omega⟩
theorem TwoR.r1 {w W:World} {v1 v2:Value} {Q S:List EX} (h:TwoR w W v1 v2 Q S):ES W w.heap.size (fun k_=>some k_≠v2.ownBlock) v1 Q:=R_E (mP h.q) (fun k hk e=>h.ne k hk e.symm)
theorem TwoR.r2 {w W:World} {v1 v2:Value} {Q S:List EX} (h:TwoR w W v1 v2 Q S):ES W w.heap.size (fun k_=>some k_≠v1.ownBlock) v2 S:=R_E (mP h.s) (fun k hk e=>h.ne k e.symm hk)
theorem TwoR.set3 {w W:World} {v1 v2:Value} {Q S:List EX} (h:TwoR w W v1 v2 Q S) {g:Nat} {a b c:Value} (hg:W.heap[g]? = some (.cells #[a,b,c] 24 (0,0))) (x y z:Value):TwoR w (((W.setCell ⟨g,0,none⟩ x).setCell ⟨g,1,none⟩ y).setCell ⟨g,2,none⟩ z) v1 v2 Q S:=
 ⟨lW hg h.q x y z,lW hg h.s x y z,h.ne⟩
set_option maxHeartbeats 16000000 in
set_option maxRecDepth 100000 in
theorem kX (B:Int) (A1:Option Addr) (c1:Nat) (P:List EX) (A2:Option Addr) (c2:Nat) (S:List EX) (a L:Nat) (free:Bool) (w:World) (hr1:Kd.C k35 w A1 P.length P) (hc1:P.length≤c1) (hr2:Kd.C k35 w A2 S.length S) (hc2:S.length≤c2)
  (hB:1≤B∧B≤400) (bs:List Bool) (hbl:(bs.length:Int)=B) (ki:Nat) (hki:impl_Free_isFree.f ki B P S=some bs) (hx:((a+L:Nat):Int)≤B) :
  Calls Try.prog 49 #[.agg #[.int .i64 B,.slice A1 P.length c1,.slice A2 S.length c2],.agg #[.int .i64 (a:Int),.int .i64 (L:Int)],.bool free] w fun e w'=>∃ v1_ v2_:Value,e = .returned (.tuple #[.agg #[.int .i64 (kY B (il free a L 0 bs)).1,v1_,v2_],.bool (kY B (il free a L 0 bs)).2.2.2])∧TwoR w w' v1_ v2_ (kY B (il free a L 0 bs)).2.1 (kY B (il free a L 0 bs)).2.2.1∧Below w.heap.size w w':=by
 have hu:=Try.underlying24
 have hu2:=Try.underlying35
 have hu3:=Try.underlying72
 have hu4:=Try.underlying22
 obtain⟨W1,hW1⟩:∃ W,w.alloc (.cells #[.int .i64 B,.slice A1 P.length c1,.slice A2 S.length c2] 24)=W:=⟨_,rfl⟩
 obtain⟨W2,hW2⟩:∃ W,W1.alloc (.cells #[.int .i64 (a:Int),.int .i64 (L:Int)] 35)=W:=⟨_,rfl⟩
 obtain⟨W3,hW3⟩:∃ W,W2.alloc (.cells #[.int .i64 0,.slice none 0 0,.slice none 0 0] 24)=W:=⟨_,rfl⟩
 have hb1:Below w.heap.size w W1:=by rw[← hW1];exact ah (Below.refl _ _) _
 have hb2:Below W1.heap.size W1 W2:=by rw[← hW2];exact ah (Below.refl _ _) _
 have hb3:Below W2.heap.size W2 W3:=by rw[← hW3];exact ah (Below.refl _ _) _
 have F1:W1.heap[w.heap.size]? = some (.cells #[.int .i64 B,.slice A1 P.length c1,.slice A2 S.length c2] 24 (0,0)):=by rw[← hW1];exact heap_alloc_new w _
 have X2:W2.heap[W1.heap.size]? = some (.cells #[.int .i64 (a:Int),.int .i64 (L:Int)] 35 (0,0)):=by rw[← hW2];exact heap_alloc_new W1 _
 have Z3:W3.heap[W2.heap.size]? = some (.cells #[.int .i64 0,.slice none 0 0,.slice none 0 0] 24 (0,0)):=by rw[← hW3];exact heap_alloc_new W2 _
 have FF:=au (ay (ay F1 hb2) hb3)
 have XX:=au (ay X2 hb3)
 have ZZ:=au Z3
 have BB:=au (aA (aA hb1 hb2) hb3)
 have R1:=au (Kd.aN (Kd.aN (Kd.aN hr1 hb1) hb2) hb3)
 have R2:=au (Kd.aN (Kd.aN (Kd.aN hr2 hb1) hb2) hb3)
 have GZ:=au (show w.heap.size≤W2.heap.size by have:=hb1.size;have:=hb2.size;omega)
 have HC1:=au hc1
 have HC2:=au hc2
 have HBL:=au hbl
 have HB:=au hB
 have HX:=au hx
 clear hb1 hb2 hb3 F1 X2 Z3 hr1 hr2 hc1 hc2
 have d0:W3.cell? ⟨w.heap.size,0,none⟩=some (.int .i64 B):=(ak FF.out 0).trans rfl
 have d1:W3.cell? ⟨w.heap.size,1,none⟩=some (.slice A1 P.length c1):=(ak FF.out 1).trans rfl
 have d2:W3.cell? ⟨w.heap.size,2,none⟩=some (.slice A2 S.length c2):=(ak FF.out 2).trans rfl
 have TT:=au (impl_Free_isFree.calls ki B A1 c1 P A2 c2 S bs W3 R1.out HC1.out R2.out HC2.out hki)
 clear hki hbl hB hx
 go_enter Try.func49,Try.ntmps49
 go_wp2_with (go_at_call 53;refine TT.out.mono ?_)
 rintro e w4 ⟨v0,rfl,hr0,hb0⟩
 clear TT d0 d1 d2 hW1
 generalize hgf:w.heap.size=gf at FF ⊢
 generalize hgx:W1.heap.size=gx at XX ⊢
 generalize hgz:W2.heap.size=gz at ZZ GZ ⊢
 clear hW2 hW3
 have GF:=au hgf
 obtain⟨gb,cb,hv,hbase,hlt,_⟩:=Kd.iQ hr0 (by have:=HBL.out;have:=HB.out;omega)
 subst hv
 have hb0':=hb0
 obtain⟨W5,hW5⟩:∃ W,w4.alloc (.cells #[.slice none 0 0] 72)=W:=⟨_,rfl⟩
 have hbA:Below w4.heap.size w4 W5:=by rw[← hW5];exact ah (Below.refl _ _) _
 have I5:W5.heap[w4.heap.size]? = some (.cells #[.slice none 0 0] 72 (0,0)):=by rw[← hW5];exact heap_alloc_new w4 _
 have i0:W5.cell? ⟨w4.heap.size,0,none⟩=some (.slice none 0 0):=(ak I5 0).trans rfl
 have i1:=av I5 0
 obtain⟨W6,hW6⟩:∃ W,W5.setCell ⟨w4.heap.size,0,none⟩ (.slice (some ⟨gb,0,none⟩) bs.length cb)=W:=⟨_,rfl⟩
 have hbB:Below w4.heap.size w4 W6:=by rw[← hW6];exact ae hbA (Nat.le_refl _)
 have I6:=au (show W6.heap[w4.heap.size]? = some (.cells #[.slice (some ⟨gb,0,none⟩) bs.length cb] 72 (0,0)) by rw[← hW6];exact aK I5 0 _ rfl)
 have B6:=au (aA hb0 hbB:Below W3.heap.size W3 W6)
 have RB:=au (Kd.aT (ok':=fun k=>k≠w4.heap.size) (Kd.dE (Kd.bi hr0 hbB)) (fun k hk=>by
  have:=hk.2.2.1
  intro e
  subst e
  obtain⟨q,hq,cells,hc⟩:=hk.2.2.2
  rw[show W6.heap[w4.heap.size]? = some (.cells #[.slice (some ⟨gb,0,none⟩) bs.length cb] 72 (0,0)) from I6.out] at hc
  injection hc with hc
  injection hc with _ hc _
  subst hc
  revert hq
  decide))
 clear hr0 hb0 hb0' hbA hbB I5
 have FX:=au (And.intro (ay FF.out B6.out) (And.intro (ay XX.out B6.out) (ay ZZ.out B6.out)))
 have x1:W6.cell? ⟨gx,1,none⟩=some (.int .i64 (L:Int)):=(ak FX.out.2.1 1).trans rfl
 have GG:=au (show W3.heap.size≤gb∧gx<W3.heap.size∧gz<W3.heap.size∧gf<W3.heap.size from⟨hbase,aH XX.out,aH ZZ.out,aH FF.out⟩)
 clear hbase hlt
 go_wp2
 clear hW5 hW6 i0 i1 x1
 generalize hgi:w4.heap.size=gi at I6 RB ⊢
 clear hgi
 obtain⟨n,hn⟩:∃ n,bs.length=n:=⟨_,rfl⟩
 have HN:=au (show(n:Int)=B∧bs.length=n by rw[← hn];exact⟨HBL.out,rfl⟩)
 rw[hn] at RB I6 ⊢
 clear hn
 go_loopw [15] (fun v wr=>∃ (q:Nat) (cs:List Bool),q≤L∧v = .int .i64 q∧Aside0 (cs.length=n)∧Aside0 (il free a (L - q) q cs=il free a L 0 bs)∧Aside0 (wr.heap[gi]? = some (.cells #[.slice (some ⟨gb,0,none⟩) n cb] 72 (0,0)))∧Aside0 (Kd.R Kd.bool 4 wr W3.heap.size (fun k=>k≠gi) (.slice (some ⟨gb,0,none⟩) n cb) cs)∧Aside0 (Below W3.heap.size W3 wr)) (fun v _=>L - (intOf v).toNat)
 case atStart=>exact⟨0,bs,Nat.zero_le _,rfl,⟨HN.out.2⟩,⟨rfl⟩,I6,RB,B6⟩
 case round =>
  clear I6 RB B6 FX
  obtain⟨q,cs,hq,rfl,HL,HC,I7,RB,B7⟩:=hrel
  have hL4:L≤400:=by have:=HX.out;have:=HB.out;omega
  have ha4:a≤400:=by have:=HX.out;have:=HB.out;omega
  have FX:=au (And.intro (ay FF.out B7.out) (And.intro (ay XX.out B7.out) (ay ZZ.out B7.out)))
  by_cases hql:q<L
  ·have hqq:((q:Int) < (L:Int))=True:=eq_true (by omega)
   have x0:wr.cell? ⟨gx,0,none⟩=some (.int .i64 (a:Int)):=(ak FX.out.2.1 0).trans rfl
   have i0:wr.cell? ⟨gi,0,none⟩=some (.slice (some ⟨gb,0,none⟩) n cb):=(ak I7.out 0).trans rfl
   have haq:((a:Int) + (q:Int) < (n:Int))=True:=eq_true (by have:=HX.out;have:=HN.out.1;omega)
   have haq0:(0≤(a:Int) + (q:Int))=True:=eq_true (by omega)
   have hat:((a:Int) + (q:Int)).toNat=a+q:=by omega
   obtain⟨hce,hfr⟩:=Kd.nS (d:=false) RB.out ((a+q:Nat):Int) (by omega) (by have:=HX.out;have:=HN.out.1;omega)
   rw[Int.toNat_natCast] at hce hfr
   obtain⟨r,hr⟩:∃ r,L - q=r+1:=⟨L - q - 1,by omega⟩
   have hc:=HC.out
   rw[hr,il] at hc
   by_cases hbit:dO false cs ((a+q:Nat):Int)=free
   ·rw[if_pos hbit] at hc
    have HR:=au (show kY B (il free a L 0 bs) = (0,[],[],false) by rw[← hc];rfl)
    rw[hbit] at hce
    have e1:(free == free)=true:=beq_self_eq_true free
    clear hc hbit hr HC
    have z0:wr.cell? ⟨gz,0,none⟩=some (.int .i64 0):=(ak FX.out.2.2 0).trans rfl
    have z1:wr.cell? ⟨gz,1,none⟩=some (.slice none 0 0):=(ak FX.out.2.2 1).trans rfl
    have z2:wr.cell? ⟨gz,2,none⟩=some (.slice none 0 0):=(ak FX.out.2.2 2).trans rfl
    have y0:=av FX.out.2.2 0
    have y1:=av FX.out.2.2 1
    have y2:=av FX.out.2.2 2
    go_wp2
    refine bodyPost_ret (di rfl _ _ gz 24 #[.int .i64 0,.slice none 0 0,.slice none 0 0] (0,0) _ rfl (eY FX.out.2.2 _ _ _) Try.underlying24 rfl (by kernel_rfl)) rfl ?_
    rw[HR.out]
    have hbz:=d9 BB.out BB.out.size B7.out
    have hgz:=GZ.out
    try rw[← GF.out]
    exact⟨_,_,rfl,⟨Kd.dn _ _ _ _ _,Kd.dn _ _ _ _ _,fun k hk=>by cases hk⟩,ae (ae (ae hbz hgz) hgz) hgz⟩
   ·rw[if_neg hbit] at hc
    have e1:(dO false cs ((a+q:Nat):Int) == free)=false:=beq_eq_false_iff_ne.2 hbit
    have HC2:=au (show il free a (L - (q+1)) (q+1) (cs.set (a+q) free)=il free a L 0 bs by rw[← hc,show L - (q+1)=r by omega])
    generalize dO false cs ((a+q:Nat):Int)=bit at hce e1
    have KK:Kept wr (wr.setCell ⟨gb,a+q,none⟩ (.bool free)) (fun j=>j=gb):=(Kept.refl wr (fun j=>j=gb)).setCell (p:=⟨gb,a+q,none⟩) (.inl rfl) _
    have hne:gi≠gb:=fun e=>(RB.out.1 gb rfl) e.symm
    have I8:=au (ko I7.out KK hne)
    have R8:=au (show Kd.R Kd.bool 4 (wr.setCell ⟨gb,a+q,none⟩ (.bool free)) W3.heap.size (fun k=>k≠gi) (.slice (some ⟨gb,0,none⟩) n cb) (cs.set (a+q) free) by
     have h_:=Kd.ru RB.out ((a+q:Nat):Int) free
     rw[Int.toNat_natCast] at h_
     exact h_)
    have B8:=au (ae B7.out GG.out.1:Below W3.heap.size W3 (wr.setCell ⟨gb,a+q,none⟩ (.bool free)))
    have HL8:=au (show(cs.set (a+q) free).length=n by rw[List.length_set];exact HL.out)
    clear hc hbit hr HC KK hne
    go_wp2
    go_roundw
    case rel=>exact⟨q+1,cs.set (a+q) free,hql,by go_num,HL8,HC2,I8,R8,B8⟩
    case measure=>simp[intOf];omega
  ·have hqq:((q:Int) < (L:Int))=False:=eq_false (by omega)
   have hqe:q=L:=by omega
   subst hqe
   have HO:=au (show il free a q 0 bs=some cs by rw[← HC.out,Nat.sub_self];rfl)
   rw[HO.out]
   clear HC hq hql
   have HW:=au (d9 BB.out BB.out.size B7.out)
   have CA0:=au (show CH w wr gf gz gi gb cb B A1 P.length c1 A2 S.length c2 cs from⟨FX.out.1,FX.out.2.2,by rw[HL.out];exact I7.out,(Kd.R_reads' RB.out).2.2,HW.out⟩)
   have NZ:=au (show gz<W3.heap.size∧W3.heap.size≤wr.heap.size from⟨GG.out.2.2.1,B7.out.size⟩)
   have HQ:=au (show cs.length=n∧(n:Int)=B from⟨HL.out,HN.out.1⟩)
   clear HL I7 RB B7 FX HW GG HN HX HBL R1 R2 FF XX ZZ BB
   obtain⟨Q,hQ⟩:∃ Q,lg B cs=Q:=⟨_,rfl⟩
   have HCQ:=au hQ
   have HR:=au (show kY B (some cs)=if cK B Q (bD Q)=true then (B,Q,bD Q,true) else (0,[],[],false) by rw[← hQ];rfl)
   clear hQ
   go_wp2
   refine dZ (n:=9) (S:=fun w'=>w'.cell? ⟨gf,0,none⟩=some (.int .i64 B)∧w'.cell? ⟨gf,0,none⟩=some (.int .i64 B)) (ds:=[8]) (fl 9 0) (by kernel_rfl) rfl (by kernel_rfl) ⟨(ak CA0.out.f 0).trans rfl,(ak CA0.out.f 0).trans rfl⟩ (fun hHeld=>?_)
   have CA:=au (CA0.out.below (ai (Below.refl wr.heap.size wr)))
   generalize wr.drew=wa at CA hHeld ⊢
   clear CA0
   refine aQ (i:=0) (N:=some 36) (v:=?_) (a':=?_) (fl 9 1) rfl rfl (by kernel_rfl) (fun _ _ _ h=>h) (Or.inl ⟨by rfl,?_⟩) ?_ ?_
   rotate_left
   ·intro w'
    go_simp
    with_reducible rfl
   rotate_left
   ·simp only[apu_]
    rfl
   refine bN (i:=1) (N:=some 37) (v:=?_) (a':=?_) (fl 9 3) rfl rfl (by kernel_rfl) (fun _ _ _ h=>h) (Or.inl ⟨by rfl,?_⟩) hHeld ?_ ?_
   rotate_left
   ·rintro w' ⟨s0,s1⟩
    go_simp
    with_reducible rfl
   rotate_left
   ·simp only[apu_]
    rfl
   refine aQ (i:=2) (N:=some 38) (v:=?_) (a':=?_) (fl 9 7) rfl rfl (by kernel_rfl) (fun _ _ _ h=>h) (Or.inl ⟨by rfl,?_⟩) ?_ ?_
   rotate_left
   ·intro w'
    go_simp
    with_reducible rfl
   rotate_left
   ·simp only[apu_]
    rfl
   refine bN (i:=3) (N:=some 39) (v:=?_) (a':=?_) (fl 9 15) rfl rfl (by kernel_rfl) (fun _ _ _ h=>h) (Or.inl ⟨by rfl,?_⟩) hHeld ?_ ?_
   rotate_left
   ·rintro w' ⟨s0,s1⟩
    go_simp
    with_reducible rfl
   rotate_left
   ·simp only[apu_]
    rfl
   refine aQ (i:=4) (N:=some 40) (v:=?_) (a':=?_) (fl 9 31) rfl rfl (by kernel_rfl) (fun _ _ _ h=>h) (Or.inl ⟨by rfl,?_⟩) ?_ ?_
   rotate_left
   ·intro w'
    go_simp
    with_reducible rfl
   rotate_left
   ·simp only[apu_]
    rfl
   refine o7 (σ:=Nat×Option Addr×Nat×Option Addr×Nat) 1 (fl 9 255) (fun s_=>[(41,.slice s_.2.1 Q.length s_.2.2.1),(42,.agg #[.int .i64 B,.slice s_.2.1 Q.length s_.2.2.1,.slice s_.2.2.2.1 (bD Q).length s_.2.2.2.2]),(10,.pointer (some ⟨s_.1,0,none⟩))]) (fun s_ w'=>w'.heap[s_.1]? = some (.cells #[.int .i64 0,.slice none 0 0,.slice none 0 0] 24 (0,0))∧CH w w' gf gz gi gb cb B A1 P.length c1 A2 S.length c2 cs∧TwoR w w' (.slice s_.2.1 Q.length s_.2.2.1) (.slice s_.2.2.2.1 (bD Q).length s_.2.2.2.2) Q (bD Q)∧gz<s_.1) ?_ ?_
   rotate_left
   ·intro hCont
    refine nN (i:=5) (j:=7) (Ni:=some 41) (Nj:=some 10) (fl 9 63) (fl 9 159) rfl rfl rfl rfl (by kernel_rfl) (by decide) (by decide) (fun K hK=>?_) (fun K hK=>?_)
    ·skip
     refine dh Try.func36 (by kernel_rfl) rfl #[.int .i64 B,.func (.func 75) #[] #[.pointer (some ⟨gi,0,none⟩)]] (by rfl) rfl rfl (by(try simp only[List.map_toArray,List.map_cons,List.map_nil]);first|done|rfl) ?_
     have hm:=kN B.toNat (by have:=HB.out;omega) gi gb cb cs (by have:=HQ.out;omega) wa CA.out.i CA.out.r
     rw[show((B.toNat:Nat):Int)=B by have:=HB.out;omega] at hm
     refine hm.mono ?_
     rintro e wb ⟨v1,rfl,hs,hb⟩
     obtain⟨A4,c4,rfl⟩:=Kd.bq hs
     rw[show bv (fun i=>dO false cs i) B.toNat=Q from HCQ.out] at hs ⊢
     refine⟨_,rfl,?_⟩
     have CB:=au (CA.out.below hb)
     have QA:=au (Kd.bz hs CA.out.b.size)
     clear hm hs hb
     refine hK.out _ _ ⟨(ak CB.out.f 0).trans rfl,(ak CB.out.f 0).trans rfl⟩ (fun hHeld=>?_)
     clear hK K
     refine bQ (a':=?_) ?_ ?_
     rotate_left
     ·show Act.put _ (some 41) _=_
      simp only[apu_]
      rfl
     refine nN (i:=6) (j:=7) (Ni:=some 42) (Nj:=some 10) (fl 9 127) (fl 9 191) rfl rfl rfl rfl (by kernel_rfl) (by decide) (by decide) (fun K hK=>?_) (fun K hK=>?_)
     ·skip
      refine dh Try.func35 (by kernel_rfl) rfl #[.int .i64 B,.slice A4 Q.length c4] (by rfl) rfl rfl (by(try simp only[List.map_toArray,List.map_cons,List.map_nil]);first|done|rfl) ?_
      have hq:=QA.out
      refine(fP B A4 c4 Q (by rw[← HCQ.out];have:=gP (fun i=>dO false cs i) B.toNat;unfold lg;have:=HB.out;omega) wb (Kd.R_reads' hq).2.2 (Kd.R_reads' hq).2.1).mono ?_
      rintro e wc ⟨v2,rfl,hs,hb⟩
      obtain⟨A9,c9,rfl⟩:=Kd.bq hs
      refine⟨_,rfl,?_⟩
      have CC:=au (CB.out.below hb)
      have TW:=au (TwoR.mk2 hq hb CB.out.b.size hs)
      clear hq hs hb QA
      refine hK.out _ _ ⟨(ak CC.out.f 0).trans rfl,(ak CC.out.f 0).trans rfl⟩ (fun hHeld=>?_)
      clear hK K
      refine bQ (a':=?_) ?_ ?_
      rotate_left
      ·show Act.put _ (some 42) _=_
       simp only[apu_]
       rfl
      refine dN (i:=7) (N:=some 10) (fl 9 255) rfl rfl (by kernel_rfl) (by decide) (fun K hK=>?_)
      refine fD (by rfl) (v:=.pointer (some ⟨wc.heap.size,0,none⟩)) (w1:=wc.alloc (.cells #[.int .i64 0,.slice none 0 0,.slice none 0 0] 24)) (by first|(go_simp;done)|(go_simp;rfl)) ?_
      have hba:=ah (Below.refl wc.heap.size wc) (.cells #[.int .i64 0,.slice none 0 0,.slice none 0 0] 24)
      have TB:=au (heap_alloc_new wc (.cells #[.int .i64 0,.slice none 0 0,.slice none 0 0] 24))
      have CD:=au (CC.out.below hba)
      have NB:=au (show gz<wc.heap.size from aH CC.out.z)
      replace TW:=au (TW.out.below hba)
      refine hK.out _ _ ⟨(ak CD.out.f 0).trans rfl,(ak CD.out.f 0).trans rfl⟩ (fun hHeld=>?_)
      clear hK K
      refine bQ (a':=?_) ?_ ?_
      rotate_left
      ·show Act.put _ (some 10) _=_
       simp only[apu_]
       rfl
      obtain⟨wd,hwo⟩:∃ W,wc.alloc (.cells #[.int .i64 0,.slice none 0 0,.slice none 0 0] 24)=W:=⟨_,rfl⟩
      rw[hwo] at TB CD TW hHeld ⊢
      clear hba hwo
      exact hCont (wc.heap.size,A4,c4,A9,c9) wd ⟨TB.out,CD.out,TW.out,NB.out⟩
     ·skip
      refine fD (by rfl) (v:=.pointer (some ⟨wb.heap.size,0,none⟩)) (w1:=wb.alloc (.cells #[.int .i64 0,.slice none 0 0,.slice none 0 0] 24)) (by first|(go_simp;done)|(go_simp;rfl)) ?_
      have hba:=ah (Below.refl wb.heap.size wb) (.cells #[.int .i64 0,.slice none 0 0,.slice none 0 0] 24)
      have TB:=au (heap_alloc_new wb (.cells #[.int .i64 0,.slice none 0 0,.slice none 0 0] 24))
      have CC:=au (CB.out.below hba)
      have NB:=au (show gz<wb.heap.size from aH CB.out.z)
      replace QA:=au (Kd.bi QA.out hba)
      refine hK.out _ _ ⟨(ak CC.out.f 0).trans rfl,(ak CC.out.f 0).trans rfl⟩ (fun hHeld=>?_)
      clear hK K
      refine bQ (a':=?_) ?_ ?_
      rotate_left
      ·show Act.put _ (some 10) _=_
       simp only[apu_]
       rfl
      obtain⟨wc,hwo⟩:∃ W,wb.alloc (.cells #[.int .i64 0,.slice none 0 0,.slice none 0 0] 24)=W:=⟨_,rfl⟩
      rw[hwo] at TB CC QA hHeld ⊢
      clear hba hwo
      refine dN (i:=6) (N:=some 42) (fl 9 255) rfl rfl (by kernel_rfl) (by decide) (fun K hK=>?_)
      refine dh Try.func35 (by kernel_rfl) rfl #[.int .i64 B,.slice A4 Q.length c4] (by rfl) rfl rfl (by(try simp only[List.map_toArray,List.map_cons,List.map_nil]);first|done|rfl) ?_
      have hq:=QA.out
      refine(fP B A4 c4 Q (by rw[← HCQ.out];have:=gP (fun i=>dO false cs i) B.toNat;unfold lg;have:=HB.out;omega) wc (Kd.R_reads' hq).2.2 (Kd.R_reads' hq).2.1).mono ?_
      rintro e wd ⟨v2,rfl,hs,hb⟩
      obtain⟨A9,c9,rfl⟩:=Kd.bq hs
      refine⟨_,rfl,?_⟩
      have CD:=au (CC.out.below hb)
      have TW:=au (TwoR.mk2 hq hb CC.out.b.size hs)
      replace TB:=au (ay TB.out hb)
      clear hq hs hb QA
      refine hK.out _ _ ⟨(ak CD.out.f 0).trans rfl,(ak CD.out.f 0).trans rfl⟩ (fun hHeld=>?_)
      clear hK K
      refine bQ (a':=?_) ?_ ?_
      rotate_left
      ·show Act.put _ (some 42) _=_
       simp only[apu_]
       rfl
      exact hCont (wb.heap.size,A4,c4,A9,c9) wd ⟨TB.out,CD.out,TW.out,NB.out⟩
    ·skip
     refine fD (by rfl) (v:=.pointer (some ⟨wa.heap.size,0,none⟩)) (w1:=wa.alloc (.cells #[.int .i64 0,.slice none 0 0,.slice none 0 0] 24)) (by first|(go_simp;done)|(go_simp;rfl)) ?_
     have hba:=ah (Below.refl wa.heap.size wa) (.cells #[.int .i64 0,.slice none 0 0,.slice none 0 0] 24)
     have TB:=au (heap_alloc_new wa (.cells #[.int .i64 0,.slice none 0 0,.slice none 0 0] 24))
     have CB:=au (CA.out.below hba)
     have NB:=au (show gz<wa.heap.size from aH CA.out.z)
     refine hK.out _ _ ⟨(ak CB.out.f 0).trans rfl,(ak CB.out.f 0).trans rfl⟩ (fun hHeld=>?_)
     clear hK K
     refine bQ (a':=?_) ?_ ?_
     rotate_left
     ·show Act.put _ (some 10) _=_
      simp only[apu_]
      rfl
     obtain⟨wb,hwo⟩:∃ W,wa.alloc (.cells #[.int .i64 0,.slice none 0 0,.slice none 0 0] 24)=W:=⟨_,rfl⟩
     rw[hwo] at TB CB hHeld ⊢
     clear hba hwo
     refine dN (i:=5) (N:=some 41) (fl 9 191) rfl rfl (by kernel_rfl) (by decide) (fun K hK=>?_)
     refine dh Try.func36 (by kernel_rfl) rfl #[.int .i64 B,.func (.func 75) #[] #[.pointer (some ⟨gi,0,none⟩)]] (by rfl) rfl rfl (by(try simp only[List.map_toArray,List.map_cons,List.map_nil]);first|done|rfl) ?_
     have hm:=kN B.toNat (by have:=HB.out;omega) gi gb cb cs (by have:=HQ.out;omega) wb CB.out.i CB.out.r
     rw[show((B.toNat:Nat):Int)=B by have:=HB.out;omega] at hm
     refine hm.mono ?_
     rintro e wc ⟨v1,rfl,hs,hb⟩
     obtain⟨A4,c4,rfl⟩:=Kd.bq hs
     rw[show bv (fun i=>dO false cs i) B.toNat=Q from HCQ.out] at hs ⊢
     refine⟨_,rfl,?_⟩
     have CC:=au (CB.out.below hb)
     have QA:=au (Kd.bz hs CB.out.b.size)
     replace TB:=au (ay TB.out hb)
     clear hm hs hb
     refine hK.out _ _ ⟨(ak CC.out.f 0).trans rfl,(ak CC.out.f 0).trans rfl⟩ (fun hHeld=>?_)
     clear hK K
     refine bQ (a':=?_) ?_ ?_
     rotate_left
     ·show Act.put _ (some 41) _=_
      simp only[apu_]
      rfl
     refine dN (i:=6) (N:=some 42) (fl 9 255) rfl rfl (by kernel_rfl) (by decide) (fun K hK=>?_)
     refine dh Try.func35 (by kernel_rfl) rfl #[.int .i64 B,.slice A4 Q.length c4] (by rfl) rfl rfl (by(try simp only[List.map_toArray,List.map_cons,List.map_nil]);first|done|rfl) ?_
     have hq:=QA.out
     refine(fP B A4 c4 Q (by rw[← HCQ.out];have:=gP (fun i=>dO false cs i) B.toNat;unfold lg;have:=HB.out;omega) wc (Kd.R_reads' hq).2.2 (Kd.R_reads' hq).2.1).mono ?_
     rintro e wd ⟨v2,rfl,hs,hb⟩
     obtain⟨A9,c9,rfl⟩:=Kd.bq hs
     refine⟨_,rfl,?_⟩
     have CD:=au (CC.out.below hb)
     have TW:=au (TwoR.mk2 hq hb CC.out.b.size hs)
     replace TB:=au (ay TB.out hb)
     clear hq hs hb QA
     refine hK.out _ _ ⟨(ak CD.out.f 0).trans rfl,(ak CD.out.f 0).trans rfl⟩ (fun hHeld=>?_)
     clear hK K
     refine bQ (a':=?_) ?_ ?_
     rotate_left
     ·show Act.put _ (some 42) _=_
      simp only[apu_]
      rfl
     exact hCont (wa.heap.size,A4,c4,A9,c9) wd ⟨TB.out,CD.out,TW.out,NB.out⟩
   rintro⟨bt,A4,c4,A9,c9⟩ we ⟨hT,hB,hW,hG⟩
   try dsimp only at hT hW hG
   dsimp only[fC]
   clear hHeld CA
   have CE:=au hB
   have TE:=au hT
   have TW:=au hW
   have GT:=au hG
   clear hT hB hW hG
   have t0:we.cell? ⟨bt,0,none⟩=some (.int .i64 0):=(ak TE.out 0).trans rfl
   have t1:we.cell? ⟨bt,1,none⟩=some (.slice none 0 0):=(ak TE.out 1).trans rfl
   have t2:we.cell? ⟨bt,2,none⟩=some (.slice none 0 0):=(ak TE.out 2).trans rfl
   have u0:=av TE.out 0
   have u1:=av TE.out 1
   have u2:=av TE.out 2
   refine bQ (a':=?_) ?_ ?_
   rotate_left
   ·simp only[apu_]
    rfl
   refine mX (i:=8) (N:=none) (fl 9 511) rfl rfl (by kernel_rfl) (by decide) (fun K hK=>?_)
   refine jb (w1:=((we.setCell ⟨bt,0,none⟩ (.int .i64 B)).setCell ⟨bt,1,none⟩ (.slice A4 Q.length c4)).setCell ⟨bt,2,none⟩ (.slice A9 (bD Q).length c9)) (by rfl) rfl ?_ ?_
   ·first|(go_simp;done)|(go_simp;rfl)
   refine hK.out _ _ ?_
   clear hK K
   refine fo (by kernel_rfl) ?_
   clear t0 t1 t2 u0 u1 u2
   have NE:=au (show gz≠bt by have:=GT.out;omega)
   have BT:=au (show w.heap.size≤bt by have:=GT.out;have:=GZ.out;omega)
   have HB9:=au (ae (ae (ae CE.out.b BT.out) BT.out) BT.out:Below w.heap.size w (((we.setCell ⟨bt,0,none⟩ (.int .i64 B)).setCell ⟨bt,1,none⟩ (.slice A4 Q.length c4)).setCell ⟨bt,2,none⟩ (.slice A9 (bD Q).length c9)))
   have T9:=au (eY TE.out (.int .i64 B) (.slice A4 Q.length c4) (.slice A9 (bD Q).length c9))
   have W9:=au (TW.out.set3 TE.out (.int .i64 B) (.slice A4 Q.length c4) (.slice A9 (bD Q).length c9))
   have Z9:=au (ko CE.out.z ((((Kept.refl we (fun j=>j=bt)).setCell (p:=⟨bt,0,none⟩) (.inl rfl) (.int .i64 B)).setCell (p:=⟨bt,1,none⟩) (.inl rfl) (.slice A4 Q.length c4)).setCell (p:=⟨bt,2,none⟩) (.inl rfl) (.slice A9 (bD Q).length c9)) NE.out)
   generalize ((we.setCell ⟨bt,0,none⟩ (.int .i64 B)).setCell ⟨bt,1,none⟩ (.slice A4 Q.length c4)).setCell ⟨bt,2,none⟩ (.slice A9 (bD Q).length c9)=wf at HB9 T9 W9 Z9 ⊢
   clear CE TE TW HCQ HQ
   have t0:wf.cell? ⟨bt,0,none⟩=some (.int .i64 B):=(ak T9.out 0).trans rfl
   have t1:wf.cell? ⟨bt,1,none⟩=some (.slice A4 Q.length c4):=(ak T9.out 1).trans rfl
   have t2:wf.cell? ⟨bt,2,none⟩=some (.slice A9 (bD Q).length c9):=(ak T9.out 2).trans rfl
   have TT:=au (fZ B A4 c4 Q A9 c9 (bD Q) wf (Kd.R_reads' W9.out.q).2.2 (Kd.R_reads' W9.out.q).2.1 (Kd.R_reads' W9.out.s).2.2 (Kd.R_reads' W9.out.s).2.1)
   cases hg:cK B Q (bD Q) with
   | false=>
    rw[hg] at TT
    replace HR:=au (show kY B (some cs) = (0,[],[],false) by rw[HR.out,hg];rfl)
    clear hg
    go_wp2_with (go_at_call 17;refine TT.out.mono ?_;(rintro e wg ⟨rfl,hb⟩);(clear TT t0 t1 t2);(have Z10:=au (ay Z9.out hb));(have B10:=au (aA HB9.out hb));(clear hb Z9 HB9 T9 W9);(have z0:wg.cell? ⟨gz,0,none⟩=some (.int .i64 0):=(ak Z10.out 0).trans rfl);(have z1:wg.cell? ⟨gz,1,none⟩=some (.slice none 0 0):=(ak Z10.out 1).trans rfl);(have z2:wg.cell? ⟨gz,2,none⟩=some (.slice none 0 0):=(ak Z10.out 2).trans rfl);(have y0:=av Z10.out 0);(have y1:=av Z10.out 1);have y2:=av Z10.out 2)
    refine bodyPost_ret (di rfl _ _ gz 24 #[.int .i64 0,.slice none 0 0,.slice none 0 0] (0,0) _ rfl (eY Z10.out _ _ _) Try.underlying24 rfl (by kernel_rfl)) rfl ?_
    first|rw[HR.out]|rw[HO.out,HR.out]
    have hgz:=GZ.out
    try rw[← GF.out]
    exact⟨_,_,rfl,⟨Kd.dn _ _ _ _ _,Kd.dn _ _ _ _ _,fun k hk=>by cases hk⟩,ae (ae (ae B10.out hgz) hgz) hgz⟩
   | true=>
    rw[hg] at TT
    replace HR:=au (show kY B (some cs) = (B,Q,bD Q,true) by rw[HR.out,hg];rfl)
    clear hg
    go_wp2_with (go_at_call 17;refine TT.out.mono ?_;(rintro e wg ⟨rfl,hb⟩);(clear TT t0 t1 t2);(have Z10:=au (ay Z9.out hb));(have T10:=au (ay T9.out hb));(have W10:=au (W9.out.below hb));(have B10:=au (aA HB9.out hb));(clear hb Z9 HB9 T9 W9);(have z0:wg.cell? ⟨gz,0,none⟩=some (.int .i64 0):=(ak Z10.out 0).trans rfl);(have z1:wg.cell? ⟨gz,1,none⟩=some (.slice none 0 0):=(ak Z10.out 1).trans rfl);(have z2:wg.cell? ⟨gz,2,none⟩=some (.slice none 0 0):=(ak Z10.out 2).trans rfl);(have y0:=av Z10.out 0);(have y1:=av Z10.out 1);(have y2:=av Z10.out 2);(have t0:wg.cell? ⟨bt,0,none⟩=some (.int .i64 B):=(ak T10.out 0).trans rfl);(have t1:wg.cell? ⟨bt,1,none⟩=some (.slice A4 Q.length c4):=(ak T10.out 1).trans rfl);(have t2:wg.cell? ⟨bt,2,none⟩=some (.slice A9 (bD Q).length c9):=(ak T10.out 2).trans rfl))
    refine bodyPost_ret (di rfl _ _ gz 24 #[.int .i64 B,.slice A4 Q.length c4,.slice A9 (bD Q).length c9] (0,0) _ rfl (eY Z10.out _ _ _) Try.underlying24 rfl (by kernel_rfl)) rfl ?_
    first|rw[HR.out]|rw[HO.out,HR.out]
    have hgz:=GZ.out
    try rw[← GF.out]
    exact⟨_,_,rfl,W10.out.set3 Z10.out _ _ _,ae (ae (ae B10.out hgz) hgz) hgz⟩
theorem lw {B:Int}:∀ (l:List EX) (p:Option EX),dG B p l=true→Sep B l∧∀ y,p=some y→∀ x∈l,y.f0+y.f1<x.f0
  | [],_,_=>⟨Sep.nil B,fun _ _ _ h=>by cases h⟩
  | x::r,p,h=>by
    rw[dG,Bool.and_eq_true,Bool.and_eq_true,eQ] at h
    obtain⟨⟨h1,h2⟩,h3⟩:=h
    obtain⟨h4,h5⟩:=lw r _ h3
    have h6:=h5 x rfl
    refine⟨Sep.cons h1 h4 h6,fun y hy z hz=>?_⟩
    subst hy
    have h7:y.f0+y.f1<x.f0:=of_decide_eq_true h2
    rcases List.mem_cons.1 hz with e|e
    · subst e;exact h7
    · have:=h6 z e;omega
theorem lQ {B:Int}:∀ (l:List EX) (p:Option EX),Sep B l→(∀ y,p=some y→∀ x∈l,y.f0+y.f1<x.f0)→dG B p l=true
  | [],_,_,_=>rfl
  | x::r,p,h,hp=>by
    rw[dG,Bool.and_eq_true,Bool.and_eq_true,eQ]
    refine⟨⟨h.head,?_⟩,lQ r _ h.tail (fun y hy z hz=>by obtain rfl:=Option.some.inj hy;exact(List.pairwise_cons.1 h.p).1 z hz)⟩
    cases p with
    | none=>rfl
    | some y=>exact decide_eq_true (hp y rfl x (List.mem_cons_self ..))
theorem jo {B:Int} {l:List EX}:dG B none l=true↔Sep B l:=⟨fun h=>(lw l none h).1,fun h=>lQ l none h (fun y hy=>by cases hy)⟩
theorem dx {B:Int} {P S:List EX}:cK B P S=true↔(1≤B∧B≤400)∧P.length≤60∧Sep B P∧S=bD P:=by
  unfold cK
  rw[Bool.and_eq_true,Bool.and_eq_true,Bool.and_eq_true,decide_eq_true_iff,decide_eq_true_iff,decide_eq_true_iff,jo]
  exact⟨fun ⟨a,b,c,d⟩=>⟨a,b,c,d.symm⟩,fun ⟨a,b,c,d⟩=>⟨a,b,c,d.symm⟩⟩
def Bits (n:Nat) (h:Int→Bool):List Bool:=(List.range n).map fun i:Nat=>h (i:Int)
theorem ky (n:Nat) (h:Int→Bool):(Bits n h).length=n:=by unfold Bits;simp
theorem ji (n:Nat) (h:Int→Bool) {i:Int} (h0:0≤i) (h1:i<n):dO false (Bits n h) i=h i:=by
  unfold dO Bits
  rw[List.getD_eq_getElem?_getD,List.getElem?_map,List.getElem?_range (by omega)]
  show h ((i.toNat:Nat):Int)=h i
  rw[show((i.toNat:Nat):Int)=i by omega]
theorem fV {n:Nat} {h h':Int→Bool} (e:∀ i:Int,0≤i→i<n→h i=h' i):Bits n h=Bits n h':=by
  unfold Bits
  exact List.map_congr_left (fun i hi=>e i (by omega) (by have:=List.mem_range.1 hi;omega))
theorem kD {n:Nat} {h:Int→Bool} {j:Int} (h0:0≤j) (b:Bool):(Bits n h).set j.toNat b=Bits n (fun k=>if k=j then b else h k):=by
  refine List.ext_getElem (by simp[Bits]) (fun i h1 h2=>?_)
  have hi:i<n:=by simpa [Bits] using h2
  rw[List.getElem_set]
  have eg:∀ (g:Int→Bool) (h3:i < (Bits n g).length),(Bits n g)[i]=g (i:Int):=fun g h3=>by simp[Bits]
  rw[eg,eg]
  by_cases e:j.toNat=i
  · rw[if_pos e,if_pos (by omega)]
  · rw[if_neg e,if_neg (by omega)]
theorem qJ (n:Nat):List.replicate n false=Bits n (fun _=>false):=by
  refine List.ext_getElem (by simp[Bits]) (fun i h1 h2=>?_)
  simp[Bits]
section
variable {B:Int} {P:List EX}
theorem qF (hB : B ≤ 400) {x : EX} (hx : 0 ≤ x.f0 ∧ 1 ≤ x.f1 ∧ x.f0 + x.f1 ≤ B) (i : Nat) (hi : i ≤ 1000) {r : List Bool} (h : Int → Bool) (hn : Ev (fun k => impl_Free_isFree.l0 k (Bits B.toNat (fun k => h k || decide (x.f0 ≤ k ∧ k < x.f0 + x.f1))) P (P.length : Int) (((i + 1 : Nat)) : Int)) r) :
    ∀ (f j:Nat),(j:Int)+f=x.f1→Ev (fun k=>impl_Free_isFree.l1 k (Bits B.toNat (fun k=>h k || decide (x.f0≤k∧k<x.f0 + (j:Int)))) P (P.length:Int) (i:Int) x.f1 (j:Int) x.f0 x.f1) r:=by
  intro f
  induction f with
  | zero=>
    intro j hj
    refine Ev.step (fun _=>impl_Free_isFree.l1.eq_2 ..) (bE (by omega) ?_)
    rw[w64 (x:=(i:Int)+1) (by omega) (by omega),show(i:Int)+1 = ((i+1:Nat):Int) by omega,show(j:Int)=x.f1 by omega]
    exact hn
  | succ f ih=>
    intro j hj
    refine Ev.step (fun _=>impl_Free_isFree.l1.eq_2 ..) (aX (by omega) ?_)
    rw[w64 (x:=x.f0 + (j:Int)) (by omega) (by omega),w64 (x:=(j:Int)+1) (by omega) (by omega)]
    refine aX (by omega) (aX (by rw[ky];omega) ?_)
    rw[kD (by omega),show(j:Int)+1 = ((j+1:Nat):Int) by omega]
    have e:Bits B.toNat (fun k=>if k=x.f0 + (j:Int) then true else (h k || decide (x.f0≤k∧k<x.f0 + (j:Int))))=Bits B.toNat (fun k=>h k || decide (x.f0≤k∧k<x.f0 + ((j+1:Nat):Int))):=fV (fun k k0 k1=>by
      by_cases e:k=x.f0 + (j:Int)
      · rw[if_pos e,decide_eq_true (by omega),Bool.or_true]
      · rw[if_neg e]
        congr 1
        rw[decide_eq_decide]
        omega)
    rw[e]
    exact ih (j+1) (by omega)
theorem oZ (hB : B ≤ 400) (hP : P.length ≤ 60) (hS : Sep B P) : ∀ (f i : Nat), i + f = P.length → Ev (fun k => impl_Free_isFree.l0 k (Bits B.toNat (cov (P.take i))) P (P.length : Int) (i : Int)) (Bits B.toNat (cov P)) := by
  intro f
  induction f with
  | zero=>
    intro i hi
    refine Ev.step (fun _=>impl_Free_isFree.l0.eq_2 ..) (bE (by omega) (bP ?_))
    rw[List.take_of_length_le (by omega)]
  | succ f ih=>
    intro i hi
    have hil:i<P.length:=by omega
    have er:ax P (i:Int)=P[i]:=by rw[ic,Int.toNat_natCast,List.getD_eq_getElem?_getD,List.getElem?_eq_getElem hil];rfl
    have hx:=hS.a _ (List.getElem_mem hil)
    refine Ev.step (fun _=>impl_Free_isFree.l0.eq_2 ..) (aX (by omega) (aX (by omega) (aX (by omega) ?_)))
    rw[er]
    have e0:Bits B.toNat (cov (P.take i))=Bits B.toNat (fun k=>cov (P.take i) k || decide (P[i].f0≤k∧k<P[i].f0 + ((0:Nat):Int))):=fV (fun k _ _=>by rw[decide_eq_false (by omega),Bool.or_false])
    rw[e0]
    have:=qF (P:=P) hB hx i (by omega) (cov (P.take i)) (r:=Bits B.toNat (cov P)) ?_ P[i].f1.toNat 0 (by omega)
    · exact this
    · have e1:Bits B.toNat (fun k=>cov (P.take i) k || decide (P[i].f0≤k∧k<P[i].f0+P[i].f1))=Bits B.toNat (cov (P.take (i+1))):=fV (fun k _ _=>by
        rw[List.take_succ_eq_append_getElem hil,dC]
        show _ = (cov (P.take i) k || (decide (P[i].f0≤k∧k<P[i].f0+P[i].f1) || false))
        rw[Bool.or_false])
      rw[e1]
      exact ih (i+1) (by omega)
theorem lL (hB:1≤B∧B≤400) (hP:P.length≤60) (hS:Sep B P) (S:List EX):Ev (fun k=>impl_Free_isFree.f k B P S) (Bits B.toNat (cov P)):=by
  unfold impl_Free_isFree.f
  refine aX (by omega) (aX (by omega) ?_)
  have:=oZ hB.2 hP hS P.length 0 (by omega)
  rw[qJ]
  exact this
end
end Go.Proofs.Ytelblhkbogljnaa.PFre
namespace Go.Proofs.Ytelblhkbogljnaa.PFre
open Go.RowKit Go.Proofs.YtelblhkbogljnaaW.PrintWords Go.Proofs.YtelblhkbogljnaaW.PrintLast Go.Proofs.YtelblhkbogljnaaW.PrintMore Go.Proofs.Ytelblhkbogljnaa.E
set_option linter.unusedSimpArgs false
set_option linter.unusedVariables false
theorem kG {h h':Int→Bool}:∀ (n:Nat),(∀ i:Int,0≤i→i<n→h i=h' i)→bv h n=bv h' n
 | 0,_=>rfl
 | n+1,e=>by rw[bv,bv,kG n (fun i h0 h1=>e i h0 (by omega)),e n (by omega) (by omega)]
def eZ (B:Int) (P S:List EX):List EX×Bool:=if cK B P S=true then (bv (fun i=>!cov P i) B.toNat,true) else ([],false)
set_option maxHeartbeats 8000000 in
set_option maxRecDepth 100000 in
theorem ja (B:Int) (A1:Option Addr) (c1:Nat) (P:List EX) (A2:Option Addr) (c2:Nat) (S:List EX) (w:World) (hr1:Kd.C k35 w A1 P.length P) (hc1:P.length≤c1) (hr2:Kd.C k35 w A2 S.length S) (hc2:S.length≤c2) :
  Calls Try.prog 19 #[.agg #[.int .i64 B,.slice A1 P.length c1,.slice A2 S.length c2]] w fun e w'=>∃ v0_:Value,e = .returned (.tuple #[v0_,.bool (eZ B P S).2])∧ES w' w.heap.size (fun _=>True) v0_ (eZ B P S).1∧Below w.heap.size w w':=by
 have hu:=Try.underlying24
 have hu3:=Try.underlying72
 have hu4:=Try.underlying22
 obtain⟨W1,hW1⟩:∃ W,w.alloc (.cells #[.int .i64 B,.slice A1 P.length c1,.slice A2 S.length c2] 24)=W:=⟨_,rfl⟩
 have hb1:Below w.heap.size w W1:=by rw[← hW1];exact ah (Below.refl _ _) _
 have F1:W1.heap[w.heap.size]? = some (.cells #[.int .i64 B,.slice A1 P.length c1,.slice A2 S.length c2] 24 (0,0)):=by rw[← hW1];exact heap_alloc_new w _
 have FF:=au F1
 have BB:=au hb1
 have R1:=au (Kd.aN hr1 hb1)
 have R2:=au (Kd.aN hr2 hb1)
 have HC1:=au hc1
 have HC2:=au hc2
 clear hb1 F1 hr1 hr2 hc1 hc2
 have d0:W1.cell? ⟨w.heap.size,0,none⟩=some (.int .i64 B):=(ak FF.out 0).trans rfl
 have d1:W1.cell? ⟨w.heap.size,1,none⟩=some (.slice A1 P.length c1):=(ak FF.out 1).trans rfl
 have d2:W1.cell? ⟨w.heap.size,2,none⟩=some (.slice A2 S.length c2):=(ak FF.out 2).trans rfl
 have TT:=au (fZ B A1 c1 P A2 c2 S W1 R1.out HC1.out R2.out HC2.out)
 cases hg:cK B P S with
 | false=>
  rw[hg] at TT
  have HU:=au (show eZ B P S = ([],false) by unfold eZ;rw[hg];rfl)
  clear hg
  go_enter Try.func19,Try.ntmps19
  go_wp2_with (go_at_call 17;refine TT.out.mono ?_;(rintro e w2 ⟨rfl,hb⟩);(have B2:=au (aA BB.out hb));clear hb TT d0 d1 d2)
  go_ret2
  rw[HU.out]
  exact⟨_,rfl,Kd.dn _ _ _ _ _,B2.out⟩
 | true=>
  rw[hg] at TT
  have HG:=au (dx.1 hg)
  obtain⟨ki,hki⟩:=lL HG.out.1 HG.out.2.1 HG.out.2.2.1 S
  have HKI:=au (hki ki (Nat.le_refl _))
  have HU:=au (show eZ B P S = (bv (fun i=>!cov P i) B.toNat,true) by unfold eZ;rw[hg];rfl)
  clear hg hki
  go_enter Try.func19,Try.ntmps19
  go_wp2_with (go_at_call 17;refine TT.out.mono ?_)
  (first|rintro e w2 rfl hb|rintro e w2 ⟨rfl,hb⟩)
  replace R1:=au (Kd.aN R1.out hb)
  replace R2:=au (Kd.aN R2.out hb)
  replace FF:=au (ay FF.out hb)
  replace BB:=au (aA BB.out hb)
  clear TT d0 d1 d2 hb hW1
  have d0:w2.cell? ⟨w.heap.size,0,none⟩=some (.int .i64 B):=(ak FF.out 0).trans rfl
  have d1:w2.cell? ⟨w.heap.size,1,none⟩=some (.slice A1 P.length c1):=(ak FF.out 1).trans rfl
  have d2:w2.cell? ⟨w.heap.size,2,none⟩=some (.slice A2 S.length c2):=(ak FF.out 2).trans rfl
  have HBS:=au (show(Bits B.toNat (cov P)).length=B.toNat∧bv (fun i=>!dO false (Bits B.toNat (cov P)) i) B.toNat=bv (fun i=>!cov P i) B.toNat from⟨ky _ _,kG _ (fun i h0 h1=>by rw[ji _ _ h0 h1])⟩)
  generalize Bits B.toNat (cov P)=bs at HKI HBS
  have TT:=au (impl_Free_isFree.calls ki B A1 c1 P A2 c2 S bs w2 R1.out HC1.out R2.out HC2.out HKI.out)
  go_wp2_with (go_at_call 53;refine TT.out.mono ?_)
  (first|rintro e w4 v0 rfl hr0 hb0|rintro e w4 ⟨v0,rfl,hr0,hb0⟩)
  replace FF:=au (ay FF.out hb0)
  replace BB:=au (aA BB.out hb0)
  clear TT d0 d1 d2 R1 R2
  generalize hgf:w.heap.size=gf at FF ⊢
  have GF:=au hgf
  clear hgf
  obtain⟨gb,cb,hv,_,_,_⟩:=Kd.iQ hr0 (by have:=HBS.out.1;have:=HG.out.1;omega)
  subst hv
  obtain⟨W5,hW5⟩:∃ W,w4.alloc (.cells #[.slice none 0 0] 72)=W:=⟨_,rfl⟩
  have hbA:Below w4.heap.size w4 W5:=by rw[← hW5];exact ah (Below.refl _ _) _
  have I5:W5.heap[w4.heap.size]? = some (.cells #[.slice none 0 0] 72 (0,0)):=by rw[← hW5];exact heap_alloc_new w4 _
  have i0:W5.cell? ⟨w4.heap.size,0,none⟩=some (.slice none 0 0):=(ak I5 0).trans rfl
  have i1:=av I5 0
  obtain⟨W6,hW6⟩:∃ W,W5.setCell ⟨w4.heap.size,0,none⟩ (.slice (some ⟨gb,0,none⟩) bs.length cb)=W:=⟨_,rfl⟩
  have hbB:Below w4.heap.size w4 W6:=by rw[← hW6];exact ae hbA (Nat.le_refl _)
  have I6:=au (show W6.heap[w4.heap.size]? = some (.cells #[.slice (some ⟨gb,0,none⟩) bs.length cb] 72 (0,0)) by rw[← hW6];exact aK I5 0 _ rfl)
  have RB:=au (Kd.aN (Kd.R_reads' hr0).2.2 hbB)
  replace FF:=au (ay FF.out hbB)
  replace BB:=au (aA BB.out hbB)
  have x0:W6.cell? ⟨gf,0,none⟩=some (.int .i64 B):=(ak FF.out 0).trans rfl
  have hm:=mr B.toNat (by have:=HG.out.1;omega) w4.heap.size gb cb bs (by have:=HBS.out.1;omega) W6 I6.out RB.out
  rw[show((B.toNat:Nat):Int)=B by have:=HG.out.1;omega,HBS.out.2] at hm
  have TT:=au hm
  clear hr0 hb0 hbA hbB I5 hm
  go_wp2_with (go_at_call 36;refine TT.out.mono ?_)
  (first|rintro e w7 v1 rfl hs hb|rintro e w7 ⟨v1,rfl,hs,hb⟩)
  have HS:=au (And.intro hs hb)
  clear TT hs hb x0 i0 i1 hW5 hW6
  go_wp2
  go_ret2
  rw[HU.out]
  exact⟨_,rfl,Kd.bz HS.out.1 BB.out.size,aA BB.out HS.out.2⟩
def fM (long:Int):List EX→Int→Int
 | [],_=>-1
 | x::r,i=>if x.f1≥long then i else fM long r (i+1)
def gD (a b:Int):Int:=if a - b<b - a then b - a else a - b
def df (long near:Int) (x:EX):Int:=if x.f0+x.f1 - long < (if near<x.f0 then x.f0 else near) then x.f0+x.f1 - long else (if near<x.f0 then x.f0 else near)
def gm (long near:Int):List EX→Int→Bool→Int×Bool
 | [],b,f=>(b,f)
 | x::r,b,f=>if x.f1≥long then (if f=false∨gD (df long near x) near<gD b near then gm long near r (df long near x) true else gm long near r b f) else gm long near r b f
def ib (P S:List EX) (long how near:Int):Int×Bool:=
 if how=4 then gm long near P 0 false
 else (fun l=>if fM long l 0<0 then (0,false) else ((ax l (fM long l 0)).f0,true)) (if how=3 then S.drop (S.length - 1) else if how=2 then S else P)
theorem ku (long:Int):∀ (l:List EX) (i:Int),0≤i→fM long l i = -1∨(i≤fM long l i∧fM long l i<i+l.length)
 | [],i,_=>.inl rfl
 | x::r,i,h=>by
  rw[fM]
  split
  ·exact .inr ⟨Int.le_refl _,by simp;omega⟩
  ·rcases ku long r (i+1) (by omega) with e|⟨e1,e2⟩
   ·exact .inl e
   ·exact .inr ⟨by omega,by rw[List.length_cons];omega⟩
attribute [local go_sem] bG bH bS bT
def impl_GoodFree.f (a0_0:Int) (l0_1 l0_2:List EX):Option Bool:=some (cK a0_0 l0_1 l0_2)
theorem impl_GoodFree.calls (a0_0:Int) (A0_1:Option Addr) (c0_1:Nat) (l0_1:List EX) (A0_2:Option Addr) (c0_2:Nat) (l0_2:List EX) (r:Bool) (w:World) (hr0_1:Kd.C k35 w A0_1 l0_1.length l0_1) (hc0_1:l0_1.length≤c0_1) (hr0_2:Kd.C k35 w A0_2 l0_2.length l0_2) (hc0_2:l0_2.length≤c0_2) (h:impl_GoodFree.f a0_0 l0_1 l0_2=some r) :
  Calls Try.prog 17 #[.agg #[.int .i64 a0_0,.slice A0_1 l0_1.length c0_1,.slice A0_2 l0_2.length c0_2]] w fun e w'=>e = .returned (.bool r)∧Below w.heap.size w w':=by
 obtain rfl:=Option.some.inj h
 exact fZ a0_0 A0_1 c0_1 l0_1 A0_2 c0_2 l0_2 w hr0_1 hc0_1 hr0_2 hc0_2
def pV (B:Int) (P:List EX) (a L:Int):Bool:=decide (1≤B∧B≤400) && (decide (P.length≤60) && (dG B none P&&decide (0≤a∧0≤L∧a+L≤B)))
theorem jy {B:Int} {P:List EX} {a L:Int}:pV B P a L=true↔(1≤B∧B≤400)∧P.length≤60∧Sep B P∧0≤a∧0≤L∧a+L≤B:=by
 unfold pV
 rw[Bool.and_eq_true,Bool.and_eq_true,Bool.and_eq_true,decide_eq_true_iff,decide_eq_true_iff,decide_eq_true_iff,jo]
def impl_Free_changed.f (a0_0:Int) (l0_1 l0_2:List EX) (a1_0 a1_1:Int) (a2:Bool):Option (Int×List EX×List EX×Bool):=
 if pV a0_0 l0_1 a1_0 a1_1=true then some (kY a0_0 (il a2 a1_0.toNat a1_1.toNat 0 (Bits a0_0.toNat (cov l0_1)))) else none
theorem impl_Free_changed.calls (a0_0:Int) (A0_1:Option Addr) (c0_1:Nat) (l0_1:List EX) (A0_2:Option Addr) (c0_2:Nat) (l0_2:List EX) (a1_0 a1_1:Int) (a2:Bool) (r1:Int) (r2 r3:List EX) (r4:Bool) (w:World) (hr0_1:Kd.C k35 w A0_1 l0_1.length l0_1) (hc0_1:l0_1.length≤c0_1) (hr0_2:Kd.C k35 w A0_2 l0_2.length l0_2) (hc0_2:l0_2.length≤c0_2) (h:impl_Free_changed.f a0_0 l0_1 l0_2 a1_0 a1_1 a2=some (r1,r2,r3,r4)) :
  Calls Try.prog 49 #[.agg #[.int .i64 a0_0,.slice A0_1 l0_1.length c0_1,.slice A0_2 l0_2.length c0_2],.agg #[.int .i64 a1_0,.int .i64 a1_1],.bool a2] w fun e w'=>∃ v1_ v2_:Value,e = .returned (.tuple #[.agg #[.int .i64 r1,v1_,v2_],.bool r4])∧Kd.R k35 35 w' w.heap.size (fun k_=>some k_≠(v2_:Value).ownBlock) v1_ r2∧Kd.R k35 35 w' w.heap.size (fun k_=>some k_≠(v1_:Value).ownBlock) v2_ r3∧Below w.heap.size w w':=by
 unfold impl_Free_changed.f at h
 split at h
 ·rename_i hk
  obtain⟨hB,hP,hS,h0,h1,h2⟩:=jy.1 hk
  obtain⟨ki,hki⟩:=lL hB hP hS l0_2
  obtain⟨a,rfl⟩:∃ a:Nat,a1_0 = (a:Int):=⟨a1_0.toNat,by omega⟩
  obtain⟨L,rfl⟩:∃ L:Nat,a1_1 = (L:Int):=⟨a1_1.toNat,by omega⟩
  have e:=Option.some.inj h
  rw[Int.toNat_natCast,Int.toNat_natCast] at e
  have key:=kX a0_0 A0_1 c0_1 l0_1 A0_2 c0_2 l0_2 a L a2 w hr0_1 hc0_1 hr0_2 hc0_2 hB _ (by rw[ky];omega) ki (hki ki (Nat.le_refl _)) (by omega)
  rw[e] at key
  exact key.mono fun e w' ⟨v1,v2,he,ht,hb⟩=>⟨v1,v2,he,ht.r1,ht.r2,hb⟩
 ·cases h
def impl_UsedExtents.f (a0_0:Int) (l0_1 l0_2:List EX):Option (List EX×Bool):=some (eZ a0_0 l0_1 l0_2)
theorem impl_UsedExtents.calls (a0_0:Int) (A0_1:Option Addr) (c0_1:Nat) (l0_1:List EX) (A0_2:Option Addr) (c0_2:Nat) (l0_2:List EX) (r1:List EX) (r2:Bool) (w:World) (hr0_1:Kd.C k35 w A0_1 l0_1.length l0_1) (hc0_1:l0_1.length≤c0_1) (hr0_2:Kd.C k35 w A0_2 l0_2.length l0_2) (hc0_2:l0_2.length≤c0_2) (h:impl_UsedExtents.f a0_0 l0_1 l0_2=some (r1,r2)) :
  Calls Try.prog 19 #[.agg #[.int .i64 a0_0,.slice A0_1 l0_1.length c0_1,.slice A0_2 l0_2.length c0_2]] w fun e w'=>∃ v0_:Value,e = .returned (.tuple #[v0_,.bool r2])∧Kd.R k35 35 w' w.heap.size (fun _=>True) v0_ r1∧Below w.heap.size w w':=by
 have e:=Option.some.inj h
 have key:=ja a0_0 A0_1 c0_1 l0_1 A0_2 c0_2 l0_2 w hr0_1 hc0_1 hr0_2 hc0_2
 rw[e] at key
 exact key
def impl_Free_placeFor.f (a0_0:Int) (l0_1 l0_2:List EX) (a1 a2 a3:Int):Option (Int×Bool):=
 if cK a0_0 l0_1 l0_2=true∧(1≤a1∧a1≤400)∧(0≤a3∧a3≤400) then some (ib l0_1 l0_2 a1 a2 a3) else none
open Go.RowKit Go.Proofs.YtelblhkbogljnaaW.PrintWords Go.Proofs.YtelblhkbogljnaaW.PrintLast Go.Proofs.YtelblhkbogljnaaW.PrintMore
attribute [local go_sem] bG bH bS bT bB bA bJ bI
set_option linter.unusedVariables false
set_option linter.unusedSimpArgs false
def spec_l5Less.f (a0_0:Int) (a0_1:Int) (a1_0:Int) (a1_1:Int):Option (Bool):=if a0_1<a1_1 then (some true) else (if a0_1=a1_1 then (some (decide (a0_0<a1_0))) else (some false))
set_option maxHeartbeats 8000000 in
set_option maxRecDepth 100000 in
theorem spec_l5Less.calls (a0_0:Int) (a0_1:Int) (a1_0:Int) (a1_1:Int) (r:Bool) (w:World) (h:spec_l5Less.f a0_0 a0_1 a1_0 a1_1=some r) :
  Calls Try.prog 79 #[.agg #[.int .i64 a0_0,.int .i64 a0_1],.agg #[.int .i64 a1_0,.int .i64 a1_1]] w fun e w'=>e = .returned (.bool r)∧Below w.heap.size w w':=by
 have hu35:=Try.underlying35
 have HB:=au (Below.refl w.heap.size w)
 have H:(if a0_1<a1_1 then (some true) else (if a0_1=a1_1 then (some (decide (a0_0<a1_0))) else (some false)))=some r:=h
 clear h
 by_cases c3:a0_1<a1_1
 ·rw[if_pos c3] at H
  have c3b0:decide (a0_1<a1_1)=true:=decide_eq_true c3
  clear c3
  obtain rfl:=Option.some.inj H
  go_enter Try.func79,Try.ntmps79
  go_wp2_with (first|((with_reducible refine aM (N:=2) rfl ?_);refine aJ ?hg (N:=2) ?hd (cs:=#[.int .i64 a0_0,.int .i64 a0_1]) (t:=35) ?hr ?_;(case hd=>rfl);(case hg=>rfl);(case hr=>first|(go_simp;done)|(go_simp;rfl));intro gb108 hg w4 hbox hb;have BK108:=au (hbox);have GW108:=au ((by rw[hg];exact(az (by with_reducible repeat(first|exact HB.out|apply ah|apply aa|apply ai))):w.heap.size≤gb108));have GE108:=au ((by rw[hg];exact(az (by with_reducible repeat(first|exact HB.out|apply ah|apply aa|apply ai))):w.heap.size≤gb108));replace HB:=au (aA (by with_reducible repeat(first|exact HB.out|apply ah|apply aa|apply ai)) hb);clear hb hbox hg)|((with_reducible refine aM (N:=3) rfl ?_);refine aJ ?hg (N:=3) ?hd (cs:=#[.int .i64 a1_0,.int .i64 a1_1]) (t:=35) ?hr ?_;(case hd=>rfl);(case hg=>rfl);(case hr=>first|(go_simp;done)|(go_simp;rfl));intro gb109 hg w5 hbox hb;have BK109:=au (hbox);have GW109:=au ((by rw[hg];exact(az (by with_reducible repeat(first|exact HB.out|apply ah|apply aa|apply ai|refine ae ?_ GE108.out))):w.heap.size≤gb109));have GE109:=au ((by rw[hg];exact(az (by with_reducible repeat(first|exact HB.out|apply ah|apply aa|apply ai|refine ae ?_ GE108.out))):w.heap.size≤gb109));replace HB:=au (aA (by with_reducible repeat(first|exact HB.out|apply ah|apply aa|apply ai|refine ae ?_ GE108.out)) hb);have NB108_109:=au ((by rw[hg];exact Nat.ne_of_lt (aH (g:=gb108) (o:=.cells #[.int .i64 a0_0,.int .i64 a0_1] 35 (0,0)) (by(with_reducible repeat(first|apply ag|apply aj|apply af));exact BK108.out)):gb108≠gb109));have NB109_108:=au ((by rw[hg];exact Nat.ne_of_gt (aH (g:=gb108) (o:=.cells #[.int .i64 a0_0,.int .i64 a0_1] 35 (0,0)) (by(with_reducible repeat(first|apply ag|apply aj|apply af));exact BK108.out)):gb109≠gb108));replace BK108:=au (ay (g:=gb108) (o:=.cells #[.int .i64 a0_0,.int .i64 a0_1] 35 (0,0)) (by(with_reducible repeat(first|apply ag|apply aj|apply af));exact BK108.out) hb);clear hb hbox hg;have hnb6:=NB108_109.out;have hnc6:=NB109_108.out;have hcz7_0:w5.cell? ⟨gb108,0,none⟩=some (.int .i64 a0_0):=(ak BK108.out 0).trans rfl;have hcz7_1:w5.cell? ⟨gb108,1,none⟩=some (.int .i64 a0_1):=(ak BK108.out 1).trans rfl;have hfz7_0:=av BK108.out 0;have hfz7_1:=av BK108.out 1;have hcz8_0:w5.cell? ⟨gb109,0,none⟩=some (.int .i64 a1_0):=(ak BK109.out 0).trans rfl;have hcz8_1:w5.cell? ⟨gb109,1,none⟩=some (.int .i64 a1_1):=(ak BK109.out 1).trans rfl;have hfz8_0:=av BK109.out 0;have hfz8_1:=av BK109.out 1))
  go_ret
  exact⟨by first|rfl|(simp <;> rfl)|(simp[*] <;> rfl),by with_reducible repeat(first|exact HB.out|apply ah|apply aa|apply ai|refine ae ?_ GE108.out|refine ae ?_ GE109.out)⟩
 ·rw[if_neg c3] at H
  have c3b0:decide (a0_1<a1_1)=false:=decide_eq_false c3
  clear c3
  by_cases c9:a0_1=a1_1
  ·rw[if_pos c9] at H
   have c9b0:(a0_1 == a1_1)=true:=beq_iff_eq.mpr c9
   have c9b1:(a0_1 != a1_1)=false:=bne_eq_false_iff_eq.mpr c9
   clear c9
   obtain rfl:=Option.some.inj H
   go_enter Try.func79,Try.ntmps79
   go_wp2_with (first|((with_reducible refine aM (N:=2) rfl ?_);refine aJ ?hg (N:=2) ?hd (cs:=#[.int .i64 a0_0,.int .i64 a0_1]) (t:=35) ?hr ?_;(case hd=>rfl);(case hg=>rfl);(case hr=>first|(go_simp;done)|(go_simp;rfl));intro gb108 hg w10 hbox hb;have BK108:=au (hbox);have GW108:=au ((by rw[hg];exact(az (by with_reducible repeat(first|exact HB.out|apply ah|apply aa|apply ai))):w.heap.size≤gb108));have GE108:=au ((by rw[hg];exact(az (by with_reducible repeat(first|exact HB.out|apply ah|apply aa|apply ai))):w.heap.size≤gb108));replace HB:=au (aA (by with_reducible repeat(first|exact HB.out|apply ah|apply aa|apply ai)) hb);clear hb hbox hg)|((with_reducible refine aM (N:=3) rfl ?_);refine aJ ?hg (N:=3) ?hd (cs:=#[.int .i64 a1_0,.int .i64 a1_1]) (t:=35) ?hr ?_;(case hd=>rfl);(case hg=>rfl);(case hr=>first|(go_simp;done)|(go_simp;rfl));intro gb109 hg w11 hbox hb;have BK109:=au (hbox);have GW109:=au ((by rw[hg];exact(az (by with_reducible repeat(first|exact HB.out|apply ah|apply aa|apply ai|refine ae ?_ GE108.out))):w.heap.size≤gb109));have GE109:=au ((by rw[hg];exact(az (by with_reducible repeat(first|exact HB.out|apply ah|apply aa|apply ai|refine ae ?_ GE108.out))):w.heap.size≤gb109));replace HB:=au (aA (by with_reducible repeat(first|exact HB.out|apply ah|apply aa|apply ai|refine ae ?_ GE108.out)) hb);have NB108_109:=au ((by rw[hg];exact Nat.ne_of_lt (aH (g:=gb108) (o:=.cells #[.int .i64 a0_0,.int .i64 a0_1] 35 (0,0)) (by(with_reducible repeat(first|apply ag|apply aj|apply af));exact BK108.out)):gb108≠gb109));have NB109_108:=au ((by rw[hg];exact Nat.ne_of_gt (aH (g:=gb108) (o:=.cells #[.int .i64 a0_0,.int .i64 a0_1] 35 (0,0)) (by(with_reducible repeat(first|apply ag|apply aj|apply af));exact BK108.out)):gb109≠gb108));replace BK108:=au (ay (g:=gb108) (o:=.cells #[.int .i64 a0_0,.int .i64 a0_1] 35 (0,0)) (by(with_reducible repeat(first|apply ag|apply aj|apply af));exact BK108.out) hb);clear hb hbox hg;have hnb12:=NB108_109.out;have hnc12:=NB109_108.out;have hcz13_0:w11.cell? ⟨gb108,0,none⟩=some (.int .i64 a0_0):=(ak BK108.out 0).trans rfl;have hcz13_1:w11.cell? ⟨gb108,1,none⟩=some (.int .i64 a0_1):=(ak BK108.out 1).trans rfl;have hfz13_0:=av BK108.out 0;have hfz13_1:=av BK108.out 1;have hcz14_0:w11.cell? ⟨gb109,0,none⟩=some (.int .i64 a1_0):=(ak BK109.out 0).trans rfl;have hcz14_1:w11.cell? ⟨gb109,1,none⟩=some (.int .i64 a1_1):=(ak BK109.out 1).trans rfl;have hfz14_0:=av BK109.out 0;have hfz14_1:=av BK109.out 1))
   go_ret
   exact⟨by first|rfl|(simp <;> rfl)|(simp[*] <;> rfl),by with_reducible repeat(first|exact HB.out|apply ah|apply aa|apply ai|refine ae ?_ GE108.out|refine ae ?_ GE109.out)⟩
  ·rw[if_neg c9] at H
   have c9b0:(a0_1 == a1_1)=false:=beq_eq_false_iff_ne.mpr c9
   have c9b1:(a0_1 != a1_1)=true:=bne_iff_ne.mpr c9
   obtain rfl:=Option.some.inj H
   go_enter Try.func79,Try.ntmps79
   go_wp2_with (first|((with_reducible refine aM (N:=2) rfl ?_);refine aJ ?hg (N:=2) ?hd (cs:=#[.int .i64 a0_0,.int .i64 a0_1]) (t:=35) ?hr ?_;(case hd=>rfl);(case hg=>rfl);(case hr=>first|(go_simp;done)|(go_simp;rfl));intro gb108 hg w15 hbox hb;have BK108:=au (hbox);have GW108:=au ((by rw[hg];exact(az (by with_reducible repeat(first|exact HB.out|apply ah|apply aa|apply ai))):w.heap.size≤gb108));have GE108:=au ((by rw[hg];exact(az (by with_reducible repeat(first|exact HB.out|apply ah|apply aa|apply ai))):w.heap.size≤gb108));replace HB:=au (aA (by with_reducible repeat(first|exact HB.out|apply ah|apply aa|apply ai)) hb);clear hb hbox hg)|((with_reducible refine aM (N:=3) rfl ?_);refine aJ ?hg (N:=3) ?hd (cs:=#[.int .i64 a1_0,.int .i64 a1_1]) (t:=35) ?hr ?_;(case hd=>rfl);(case hg=>rfl);(case hr=>first|(go_simp;done)|(go_simp;rfl));intro gb109 hg w16 hbox hb;have BK109:=au (hbox);have GW109:=au ((by rw[hg];exact(az (by with_reducible repeat(first|exact HB.out|apply ah|apply aa|apply ai|refine ae ?_ GE108.out))):w.heap.size≤gb109));have GE109:=au ((by rw[hg];exact(az (by with_reducible repeat(first|exact HB.out|apply ah|apply aa|apply ai|refine ae ?_ GE108.out))):w.heap.size≤gb109));replace HB:=au (aA (by with_reducible repeat(first|exact HB.out|apply ah|apply aa|apply ai|refine ae ?_ GE108.out)) hb);have NB108_109:=au ((by rw[hg];exact Nat.ne_of_lt (aH (g:=gb108) (o:=.cells #[.int .i64 a0_0,.int .i64 a0_1] 35 (0,0)) (by(with_reducible repeat(first|apply ag|apply aj|apply af));exact BK108.out)):gb108≠gb109));have NB109_108:=au ((by rw[hg];exact Nat.ne_of_gt (aH (g:=gb108) (o:=.cells #[.int .i64 a0_0,.int .i64 a0_1] 35 (0,0)) (by(with_reducible repeat(first|apply ag|apply aj|apply af));exact BK108.out)):gb109≠gb108));replace BK108:=au (ay (g:=gb108) (o:=.cells #[.int .i64 a0_0,.int .i64 a0_1] 35 (0,0)) (by(with_reducible repeat(first|apply ag|apply aj|apply af));exact BK108.out) hb);clear hb hbox hg;have hnb17:=NB108_109.out;have hnc17:=NB109_108.out;have hcz18_0:w16.cell? ⟨gb108,0,none⟩=some (.int .i64 a0_0):=(ak BK108.out 0).trans rfl;have hcz18_1:w16.cell? ⟨gb108,1,none⟩=some (.int .i64 a0_1):=(ak BK108.out 1).trans rfl;have hfz18_0:=av BK108.out 0;have hfz18_1:=av BK108.out 1;have hcz19_0:w16.cell? ⟨gb109,0,none⟩=some (.int .i64 a1_0):=(ak BK109.out 0).trans rfl;have hcz19_1:w16.cell? ⟨gb109,1,none⟩=some (.int .i64 a1_1):=(ak BK109.out 1).trans rfl;have hfz19_0:=av BK109.out 0;have hfz19_1:=av BK109.out 1))
   go_ret
   exact⟨by first|rfl|(simp <;> rfl)|(simp[*] <;> rfl),by with_reducible repeat(first|exact HB.out|apply ah|apply aa|apply ai|refine ae ?_ GE108.out|refine ae ?_ GE109.out)⟩
end Go.Proofs.Ytelblhkbogljnaa.PFre
