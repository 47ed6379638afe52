/- The law FnExactGoodSystem answers true at all its arguments, and leaves them as they were; no condition. -/
import Derived.Test.YtdghdjachbbdmaaDoorSGoo7
import Derived.Shelf.Strings.SlTrimAscii
import Derived.Test.YtdghdjachbbdmaaDoorProg
import Derived.Lib.SlTrimSet
import Derived.Test.YtdghdjachbbdmaaDoorRows
import Derived.Test.YtdghdjachbbdmaaDoorCards
import Derived.Test.YtdghdjachbbdmaaDoorTie
import Derived.WalkKit
import Derived.ProofKit
import Derived.OpenShut
import Derived.ShutString
import Derived.ChangeOld
import Derived.Below
import Derived.SizedLaws
import Derived.LaidMore
import Derived.Lay
import Derived.SevenTiedAt
import Derived.Stop.Joined
namespace Go.Proofs.YtdghdjachbbdmaaDoor.PFre
open Go.RowKit Go.Proofs.YtdghdjachbbdmaaDoorW.PrintWords Go.Proofs.YtdghdjachbbdmaaDoorW.PrintLast Go.Proofs.YtdghdjachbbdmaaDoorW.PrintMore Go.Proofs.YtdghdjachbbdmaaDoor.E
set_option linter.unusedSimpArgs false
set_option linter.unusedVariables false
theorem gW {g:Nat→PC} (f i:Nat):dE g (f+1) i = (gK g i&&dE g f (i+1)):=rfl
theorem add1 {i:Nat} {n:Nat} (h:i<n) (hn:n≤1000000000000000000):wrap64 ((i:Int)+1) = ((i+1:Nat):Int):=by rw[w64 (by omega) (by omega)];omega
theorem nQ {m:Nat} {n:Nat} (h:m+1<n) (hn:n≤1000000000000000000):wrap64 (((m+1:Nat):Int) - 1) = (m:Int):=by rw[w64 (by omega) (by omega)];omega
theorem kF {L : List PC} {g : Nat → PC} (hg : ∀ i : Nat, ax L (i : Int) = g i) (hL : L.length ≤ 1000000000000000000) {i : Nat} (hi : i < L.length) (hok : ∀ j, j ≤ i → okP (g j) = true) {R : Bool} (hbad : dC g i i = true → R = false) (hgo : dC g i i = false → Ev (fun K => spec_GoodMap.l0 K L (L.length : Int) (wrap64 ((i : Int) + 1)) L) R) :
    ∀ (e j:Nat),j+e=i→dC g i j=false→Ev (fun K=>spec_GoodMap.l1 K L (L.length:Int) (i:Int) (L.take i) ((L.take i).length:Int) (j:Int) L (g i).f0 (g i).f1 (g i).f2 (g i).f3) R:=by
  have hT:(L.take i).length=i:=by rw[List.length_take];omega
  intro e
  induction e with
  | zero=>
    intro j hj hm
    obtain rfl:j=i:=by omega
    exact Ev.step (fun _=>spec_GoodMap.l1.eq_2 ..) (bq (by omega) (hgo hm))
  | succ e ih=>
    intro j hj hm
    have hji:j<i:=by omega
    have er:ax (L.take i) (j:Int)=g j:=by
      have h1:j < (L.take i).length:=by omega
      rw[← hg j,show ax (L.take i) (j:Int)=gZ (L.take i) j from rfl,fZ h1,List.getElem_take,show ax L (j:Int)=gZ L j from rfl,fZ (by omega)]
    have h0:=dS.1 (hok j (by omega))
    have h1:=dS.1 (hok i (by omega))
    have e1:=w64 (x:=(g i).f2 + (g i).f1) (by omega) (by omega)
    have e2:=w64 (x:=(g j).f2 + (g j).f1) (by omega) (by omega)
    have hn:Ev (fun K=>spec_GoodMap.l1 K L (L.length:Int) (i:Int) (L.take i) ((L.take i).length:Int) (wrap64 ((j:Int)+1)) L (g i).f0 (g i).f1 (g i).f2 (g i).f3) R∨gT (g j) (g i)=true:=by
      cases hx:gT (g j) (g i) with
      | true=>exact .inr rfl
      | false=>
        refine .inl ?_
        rw[add1 hji (by omega)]
        exact ih (j+1) (by omega) (by rw[dC,hm,hx];rfl)
    have z0:(j:Int) < ((L.take i).length:Int):=by omega
    have z1:0≤(j:Int):=by omega
    refine Ev.step (fun _=>spec_GoodMap.l1.eq_2 ..) (aM z0 (aM z1 (aM z0 ?_)))
    rw[er,e1,e2]
    rcases hn with hn|hx
    · by_cases c1:(g j).f2 < (g i).f2 + (g i).f1
      · by_cases c2:(g i).f2 < (g j).f2 + (g j).f1
        · refine aM c1 (aM c2 (bv ?_))
          exact(hbad (dY.2 ⟨j,hji,by unfold gT;rw[decide_eq_true c1,decide_eq_true c2];rfl⟩)).symm
        · exact aM c1 (bq c2 hn)
      · exact bq c1 hn
    · have hx2:=hx
      unfold gT at hx2
      rw[Bool.and_eq_true,decide_eq_true_iff,decide_eq_true_iff] at hx2
      exact aM hx2.1 (aM hx2.2 (bv (hbad (dY.2 ⟨j,hji,hx⟩)).symm))
theorem jm {L : List PC} {g : Nat → PC} (hg : ∀ i : Nat, ax L (i : Int) = g i) (hL : L.length ≤ 1000000000000000000) : ∀ (f i : Nat), i + f = L.length → (∀ j, j < i → okP (g j) = true) →
    Ev (fun K=>spec_GoodMap.l0 K L (L.length:Int) (i:Int) L) (dE g f i&&decide (L.length≤40)):=by
  intro f
  induction f with
  | zero=>
    intro i hi _
    refine Ev.step (fun _=>spec_GoodMap.l0.eq_2 ..) (bq (by omega) (bv ?_))
    show _ = (true&&_)
    rw[Bool.true_and]
    exact decide_eq_decide.2 (by omega)
  | succ f ih=>
    intro i hi hok
    have hil:i<L.length:=by omega
    have z0:(i:Int) < (L.length:Int):=by omega
    have z1:0≤(i:Int):=by omega
    refine Ev.step (fun _=>spec_GoodMap.l0.eq_2 ..) (aM z0 (aM z1 (aM z0 ?_)))
    rw[hg i]
    refine bV (kJ (g i)) ?_
    rw[gW]
    unfold gK
    cases ho:okP (g i) with
    | false=>exact bq (by simp) (bv rfl)
    | true=>
      refine aM rfl ?_
      rw[Bool.true_and]
      have hok2:∀ j,j≤i→okP (g j)=true:=fun j hj=>by
        by_cases e:j=i
        · subst e;exact ho
        · exact hok j (by omega)
      have hj:∀ b:Bool,eZ g i=b→Ev (fun K=>spec_GoodMap.j1 K (i:Int) L (L.length:Int) (i:Int) b L (g i).f0 (g i).f1 (g i).f2 (g i).f3) (!eZ g i && !dC g i i&&dE g f (i+1)&&decide (L.length≤40)):=by
        intro b hb
        rw[hb]
        cases b with
        | true=>exact Ev.step (fun _=>spec_GoodMap.j1.eq_2 ..) (aM rfl (bv rfl))
        | false=>
          have z2:(i:Int)≤(L.length:Int):=by omega
          refine Ev.step (fun _=>spec_GoodMap.j1.eq_2 ..) (bq (by simp) (aM z1 (aM z2 (nJ ?_))))
          rw[Int.toNat_natCast]
          refine kF hg hL hil hok2 (fun h=>by rw[h];rfl) (fun h=>?_) i 0 (by omega) rfl
          rw[h,add1 hil hL]
          show Ev _ (dE g f (i+1)&&_)
          exact ih (i+1) (by omega) (fun j hj=>hok2 j (by omega))
      cases i with
      | zero=>exact bq (by omega) (hj false rfl)
      | succ m=>
        have h0:=dS.1 (hok m (by omega))
        have z3:((m+1:Nat):Int) > 0:=by omega
        have z4:0≤(m:Int):=by omega
        have z5:(m:Int) < (L.length:Int):=by omega
        refine aM z3 ?_
        rw[nQ hil hL]
        refine aM z4 (aM z5 ?_)
        rw[hg m]
        rw[w64 (x:=(g m).f0 + (g m).f1) (by omega) (by omega)]
        by_cases c:(g m).f0 + (g m).f1 > (g (m+1)).f0
        · exact aM c (hj true (by rw[eZ,decide_eq_true (show(g (m+1)).f0 < (g m).f0 + (g m).f1 from c)];rfl))
        · refine bq c (bV (l6 (hok m (by omega)) _) (hj _ ?_))
          rw[eZ,decide_eq_false (show ¬ (g (m+1)).f0 < (g m).f0 + (g m).f1 from c),Bool.false_or]
theorem kQ (L:List PC) (hL:L.length≤1000000000000000000):Ev (fun K=>spec_GoodMap.f K L) (dz L):=by
  have h:=jm (g:=gZ L) (fun _=>rfl) hL L.length 0 (by omega) (fun j hj=>by omega)
  rw[Bool.and_comm] at h
  exact h
def Cov (g:Nat→PC) (i:Nat) (b:Nat):Prop:=∃ j,j<i∧(g j).f2≤(b:Int)∧(b:Int) < (g j).f2 + (g j).f1
theorem kR {L : List PC} {g : Nat → PC} (hg : ∀ i : Nat, ax L (i : Int) = g i) (hL : L.length ≤ 1000000000000000000) {i a n : Nat} (hi : i < L.length) (hok : ∀ j, j ≤ i → okP (g j) = true) (ha : (g i).f2 = (a : Int)) (hn : (g i).f1 = (n : Int)) {R : Bool} (hbad : dC g i i = true → R = false)
    (hgo:dC g i i=false→∀ U:List Bool,U.length=400→(∀ b,U.getD b false=true↔Cov g (i+1) b)→Ev (fun K=>impl_GoodMap.l0 K U L (L.length:Int) (wrap64 ((i:Int)+1)) L) R) :
    ∀ (e k:Nat) (U:List Bool),k+e=n→U.length=400→(∀ b,U.getD b false=true↔Cov g i b∨(a≤b∧b<a+k))→(∀ b,a≤b→b<a+k→¬ Cov g i b)→Ev (fun K=>impl_GoodMap.l1 K U L (L.length:Int) (i:Int) (n:Int) (k:Int) L (g i).f0 (n:Int) (a:Int) (g i).f3) R:=by
  have h1:=dS.1 (hok i (by omega))
  intro e
  induction e with
  | zero=>
    intro k U hk hU hc hno
    obtain rfl:k=n:=by omega
    refine Ev.step (fun _=>impl_GoodMap.l1.eq_2 ..) (bq (by omega) (hgo ?_ U hU (fun b=>(hc b).trans ?_)))
    · cases hm:dC g i i with
      | false=>rfl
      | true=>
        obtain⟨j,hj,hx⟩:=dY.1 hm
        unfold gT at hx
        rw[Bool.and_eq_true,decide_eq_true_iff,decide_eq_true_iff] at hx
        have h0:=dS.1 (hok j (by omega))
        by_cases c:(g j).f2≤(a:Int)
        · exact absurd ⟨j,hj,c,by omega⟩ (hno a (by omega) (by omega))
        · exact absurd ⟨j,hj,by omega,by omega⟩ (hno (g j).f2.toNat (by omega) (by omega))
    · constructor
      · rintro(⟨j,h2,h3⟩|h)
        · exact⟨j,by omega,h3⟩
        · exact⟨i,by omega,by omega,by omega⟩
      · rintro⟨j,h2,h3,h4⟩
        by_cases e:j=i
        · subst e;exact .inr (by omega)
        · exact .inl ⟨j,by omega,h3,h4⟩
  | succ e ih=>
    intro k U hk hU hc hno
    have hkn:k<n:=by omega
    have z0:(k:Int) < (n:Int):=by omega
    have ea:=av (show wrap64 ((a:Int) + (k:Int)) = ((a+k:Nat):Int) by rw[w64 (by omega) (by omega)];omega)
    have z1:0≤((a+k:Nat):Int):=by omega
    have z2:((a+k:Nat):Int) < (U.length:Int):=by omega
    refine Ev.step (fun _=>impl_GoodMap.l1.eq_2 ..) (aM z0 ?_)
    rw[ea.out]
    clear ea
    refine aM z1 (aM z2 ?_)
    have er:iT false U ((a+k:Nat):Int)=U.getD (a+k) false:=by unfold iT;rw[Int.toNat_natCast]
    rw[er,Int.toNat_natCast]
    cases hu:U.getD (a+k) false with
    | true=>
      refine aM rfl (bv (Eq.symm (hbad (dY.2 ?_))))
      rcases(hc (a+k)).1 hu with⟨j,h2,h3,h4⟩|h
      · refine⟨j,h2,?_⟩
        unfold gT
        rw[Bool.and_eq_true,decide_eq_true_iff,decide_eq_true_iff]
        omega
      · omega
    | false =>
      have hnc:¬ Cov g i (a+k):=fun h=>by
        have:=(hc (a+k)).2 (.inl h)
        rw[hu] at this
        cases this
      refine bq (by simp) ?_
      rw[add1 hkn (by omega)]
      refine ih (k+1) _ (by omega) (by rw[List.length_set];exact hU) (fun b=>?_) (fun b h2 h3=>?_)
      · rw [List.getD_eq_getElem?_getD, List.getElem?_set]
        by_cases e:a+k=b
        · subst e
          rw[if_pos rfl,if_pos (by omega)]
          exact⟨fun _=>.inr (by omega),fun _=>rfl⟩
        · rw[if_neg e,← List.getD_eq_getElem?_getD,hc b]
          constructor
          · rintro(h|h)
            · exact .inl h
            · exact .inr (by omega)
          · rintro(h|h)
            · exact .inl h
            · exact .inr (by omega)
      · by_cases e:b=a+k
        · subst e;exact hnc
        · exact hno b h2 (by omega)
theorem jv {L : List PC} {g : Nat → PC} (hg : ∀ i : Nat, ax L (i : Int) = g i) (hL : L.length ≤ 1000000000000000000) : ∀ (f i : Nat) (U : List Bool), i + f = L.length → (∀ j, j < i → okP (g j) = true) → U.length = 400 → (∀ b, U.getD b false = true ↔ Cov g i b) →
    Ev (fun K=>impl_GoodMap.l0 K U L (L.length:Int) (i:Int) L) (dE g f i):=by
  intro f
  induction f with
  | zero=>
    intro i U hi _ _ _
    exact Ev.step (fun _=>impl_GoodMap.l0.eq_2 ..) (bq (by omega) (bv rfl))
  | succ f ih=>
    intro i U hi hok hU hc
    have hil:i<L.length:=by omega
    have z0:(i:Int) < (L.length:Int):=by omega
    have z1:0≤(i:Int):=by omega
    refine Ev.step (fun _=>impl_GoodMap.l0.eq_2 ..) (aM z0 (aM z1 (aM z0 ?_)))
    rw[hg i]
    refine bV (kH (g i)) ?_
    rw[gW]
    unfold gK
    cases ho:okP (g i) with
    | false=>exact bq (by simp) (bv rfl)
    | true=>
      refine aM rfl ?_
      rw[Bool.true_and]
      have hok2:∀ j,j≤i→okP (g j)=true:=fun j hj=>by
        by_cases e:j=i
        · subst e;exact ho
        · exact hok j (by omega)
      have hj:∀ b:Bool,eZ g i=b→Ev (fun K=>impl_GoodMap.j1 K U L (L.length:Int) (i:Int) b L (g i).f0 (g i).f1 (g i).f2 (g i).f3) (!eZ g i && !dC g i i&&dE g f (i+1)):=by
        intro b hb
        rw[hb]
        cases b with
        | true=>exact Ev.step (fun _=>impl_GoodMap.j1.eq_2 ..) (aM rfl (bv rfl))
        | false=>
          refine Ev.step (fun _=>impl_GoodMap.j1.eq_2 ..) (bq (by simp) ?_)
          have h1:=dS.1 ho
          obtain⟨a,ha⟩:∃ a:Nat,(g i).f2 = (a:Int):=⟨(g i).f2.toNat,by omega⟩
          obtain⟨n,hn⟩:∃ n:Nat,(g i).f1 = (n:Int):=⟨(g i).f1.toNat,by omega⟩
          have key:=kR hg hL hil hok2 ha hn (R:=!dC g i i&&dE g f (i+1)) (fun h=>by rw[h];rfl) (fun h V hV hcV=>?_) n 0 U (by omega) hU (fun b=>(hc b).trans ⟨.inl,fun h=>h.elim id (fun h=>by omega)⟩) (fun b h2 h3=>by omega)
          · rw[ha,hn]
            exact key
          · rw[h,add1 hil hL]
            show Ev _ (dE g f (i+1))
            exact ih (i+1) V (by omega) (fun j hj=>hok2 j (by omega)) hV hcV
      cases i with
      | zero=>exact bq (by omega) (hj false rfl)
      | succ m=>
        have h0:=dS.1 (hok m (by omega))
        have z3:((m+1:Nat):Int) > 0:=by omega
        have z4:0≤(m:Int):=by omega
        have z5:(m:Int) < (L.length:Int):=by omega
        refine aM z3 ?_
        rw[nQ hil hL]
        refine aM z4 (aM z5 ?_)
        rw[hg m]
        rw[w64 (x:=(g m).f0 + (g m).f1) (by omega) (by omega)]
        by_cases c:(g (m+1)).f0 < (g m).f0 + (g m).f1
        · exact aM c (hj true (by rw[eZ,decide_eq_true c];rfl))
        · refine bq c (bV (jA (hok m (by omega)) _) (hj _ ?_))
          rw[eZ,decide_eq_false c,Bool.false_or]
theorem kW (L:List PC):Ev (fun K=>impl_GoodMap.f K L) (dz L):=by
  unfold impl_GoodMap.f dz
  by_cases h:L.length≤40
  · rw[decide_eq_true h,Bool.true_and]
    refine bq (by omega) (aM (by omega) (jv (g:=gZ L) (fun _=>rfl) (by omega) L.length 0 _ (by omega) (fun j hj=>by omega) List.length_replicate (fun b=>?_)))
    constructor
    · intro hb
      rw[List.getD_eq_getElem?_getD,List.getElem?_replicate] at hb
      split at hb <;> cases hb
    · rintro⟨j,hj,_⟩
      omega
  · rw[decide_eq_false h]
    exact aM (by omega) (bv rfl)
end Go.Proofs.YtdghdjachbbdmaaDoor.PFre
namespace Go.Proofs
open Go.Shelf
def Tryd.lays160_ren:Go.Shelf.Ren:=⟨fun|160=>47|232=>60|231=>59|227=>61|234=>63|233=>62|236=>65|235=>64|228=>79|271=>82|151=>81|197=>80|120=>91|152=>90|260=>89|137=>93|119=>94|224=>95|225=>96|217=>97|266=>98|n=>n,fun|9=>9|4=>4|3=>3|5=>5|117=>98|116=>97|0=>0|124=>101|21=>21|105=>120|46=>92|119=>133|139=>136|138=>135|n=>n,fun|3=>0|4=>1|n=>n⟩
theorem Tryd.lays160:Go.Proofs.Lays.n160 Tryd.prog Tryd.lays160_ren:={
  mixed:=by kernel_rfl
  f119:=Tryd.func94.trans (congrArg some (by kernel_rfl))
  f120:=Tryd.func91.trans (congrArg some (by kernel_rfl))
  f137:=Tryd.func93.trans (congrArg some (by kernel_rfl))
  f151:=Tryd.func81.trans (congrArg some (by kernel_rfl))
  f152:=Tryd.func90.trans (congrArg some (by kernel_rfl))
  f160:=Tryd.func47.trans (congrArg some (by kernel_rfl))
  f197:=Tryd.func80.trans (congrArg some (by kernel_rfl))
  f217:=Tryd.func97.trans (congrArg some (by kernel_rfl))
  f224:=Tryd.func95.trans (congrArg some (by kernel_rfl))
  f225:=Tryd.func96.trans (congrArg some (by kernel_rfl))
  f227:=Tryd.func61.trans (congrArg some (by kernel_rfl))
  f228:=Tryd.func79.trans (congrArg some (by kernel_rfl))
  f231:=Tryd.func59.trans (congrArg some (by kernel_rfl))
  f232:=Tryd.func60.trans (congrArg some (by kernel_rfl))
  f233:=Tryd.func62.trans (congrArg some (by kernel_rfl))
  f234:=Tryd.func63.trans (congrArg some (by kernel_rfl))
  f235:=Tryd.func64.trans (congrArg some (by kernel_rfl))
  f236:=Tryd.func65.trans (congrArg some (by kernel_rfl))
  f260:=Tryd.func89.trans (congrArg some (by kernel_rfl))
  f266:=Tryd.func98.trans (congrArg some (by kernel_rfl))
  f271:=Tryd.func82.trans (congrArg some (by kernel_rfl))
  t0:=Tryd.underlying0
  a0:=Tryd.isAgg0
  z0:=Tryd.sizeOf0
  v0:=Tryd.zeroValue0
  t3:=Tryd.underlying3
  a3:=Tryd.isAgg3
  z3:=Tryd.sizeOf3
  v3:=Tryd.zeroValue3
  t4:=Tryd.underlying4
  a4:=Tryd.isAgg4
  z4:=Tryd.sizeOf4
  v4:=Tryd.zeroValue4
  t5:=Tryd.underlying5
  a5:=Tryd.isAgg5
  z5:=Tryd.sizeOf5
  v5:=Tryd.zeroValue5
  t9:=Tryd.underlying9
  a9:=Tryd.isAgg9
  z9:=Tryd.sizeOf9
  v9:=Tryd.zeroValue9
  t21:=Tryd.underlying21
  a21:=Tryd.isAgg21
  z21:=Tryd.sizeOf21
  v21:=Tryd.zeroValue21
  t46:=Tryd.underlying92
  a46:=Tryd.isAgg92
  z46:=Tryd.sizeOf92
  v46:=Tryd.zeroValue92
  t105:=Tryd.underlying120
  a105:=Tryd.isAgg120
  z105:=Tryd.sizeOf120
  v105:=Tryd.zeroValue120
  t116:=Tryd.underlying97
  a116:=Tryd.isAgg97
  z116:=Tryd.sizeOf97
  t117:=Tryd.underlying98
  a117:=Tryd.isAgg98
  z117:=Tryd.sizeOf98
  v117:=Tryd.zeroValue98
  t119:=Tryd.underlying133
  a119:=Tryd.isAgg133
  z119:=Tryd.sizeOf133
  t124:=Tryd.underlying101
  a124:=Tryd.isAgg101
  z124:=Tryd.sizeOf101
  v124:=Tryd.zeroValue101
  t138:=Tryd.underlying135
  a138:=Tryd.isAgg135
  z138:=Tryd.sizeOf135
  v138:=Tryd.zeroValue135
  t139:=Tryd.underlying136
  a139:=Tryd.isAgg136
  z139:=Tryd.sizeOf136
  v139:=Tryd.zeroValue136
  g3:=by kernel_rfl
  g4:=by kernel_rfl }
end Go.Proofs
namespace Go.Proofs.YtdghdjachbbdmaaDoor.PFre
open Go.RowKit Go.Shelf Go.Proofs.YtdghdjachbbdmaaDoorW.PrintWords Go.Proofs.YtdghdjachbbdmaaDoorW.PrintLast Go.Proofs.YtdghdjachbbdmaaDoorW.PrintMore Go.Proofs.YtdghdjachbbdmaaDoor.E Go.Proofs.YtdghdjachbbdmaaDoor.ZFre
set_option linter.unusedSimpArgs false
set_option linter.unusedVariables false
def dX:List UInt8:=[97,98,99,100,101,102,103,104,105,106,107,108,109,110,111,112,113,114,115,116,117,118,119,120,121,122,48,49,50,51,52,53,54,55,56,57,46,45]
def dZ (s:ByteArray):Bool:=decide (1≤s.size∧s.size≤12)&&s.data.toList.all (dX.contains ·)
def impl_isName.f (s:ByteArray):Option Bool:=some (dZ s)
set_option maxHeartbeats 4000000 in
set_option maxRecDepth 100000 in
theorem impl_isName.calls (s:ByteArray) (r:Bool) (w:World) (h:impl_isName.f s=some r) :
  Calls Tryd.prog 34 #[.string s] w fun e w'=>e = .returned (.bool r)∧Below w.heap.size w w':=by
 obtain rfl:=Option.some.inj h
 clear h
 have hwi:impl_within.f (s.size:Int) 1 12=some (decide (1≤s.size∧s.size≤12)):=by
  unfold impl_within.f
  by_cases h1:(s.size:Int)≥1
  ·rw[if_pos h1,Option.some.injEq,Bool.eq_iff_iff,decide_eq_true_iff,decide_eq_true_iff]
   omega
  ·rw[if_neg h1,Option.some.injEq,Bool.eq_iff_iff,decide_eq_true_iff]
   constructor
   ·intro h;cases h
   ·intro h;omega
 have HB:=av (Below.refl w.heap.size w)
 by_cases hl:1≤s.size∧s.size≤12
 ·have hcon:∀ W:World,Calls Tryd.prog 47 #[.string s,.string ⟨#[97,98,99,100,101,102,103,104,105,106,107,108,109,110,111,112,113,114,115,116,117,118,119,120,121,122,48,49,50,51,52,53,54,55,56,57,46,45]⟩] W (fun e w'=>e = .returned (.string ⟨(Lib.trimS s.data.toList dX).toArray⟩)∧Below W.heap.size W w'):=
   fun W=>Any.strings_Trim_laid Tryd.lays160 (by kernel_rfl) s ⟨#[97,98,99,100,101,102,103,104,105,106,107,108,109,110,111,112,113,114,115,116,117,118,119,120,121,122,48,49,50,51,52,53,54,55,56,57,46,45]⟩ W (by omega) (by decide) (ascii_of_all (by decide))
  have hq:dZ s=decide (Lib.trimS s.data.toList dX=[]):=by
   unfold dZ
   rw[decide_eq_true hl,Bool.true_and]
   cases ha:s.data.toList.all (dX.contains ·) with
   | true=>exact(decide_eq_true ((jZ _ _).2 ha)).symm
   | false=>exact(decide_eq_false (fun h_=>by rw[(jZ _ _).1 h_] at ha;cases ha)).symm
  have hq2:(⟨(Lib.trimS s.data.toList dX).toArray⟩:ByteArray).toList.isEmpty=dZ s:=by
   rw[hq,Lib.toList_data]
   cases Lib.trimS s.data.toList dX <;> rfl
  generalize (⟨(Lib.trimS s.data.toList dX).toArray⟩:ByteArray)=t at hcon hq2
  rw[decide_eq_true hl] at hwi
  have TW:=av (impl_within.calls (s.size:Int) 1 12 true w hwi)
  have TT:=av hcon
  have Q:=av hq2
  clear hcon hq hq2 hl hwi
  go_enter Tryd.func34,Tryd.ntmps34
  go_wp2_with (first|(go_at_call 18;refine TW.out.mono ?_;(rintro e w' ⟨rfl,hd⟩);(have hb:=hd.below);(replace HB:=av (aA HB.out hb));clear hd hb)|(go_at_call 47;refine(TT.out _).mono ?_;(rintro e w' ⟨rfl,hb⟩);(replace HB:=av (aA HB.out hb));clear hb))
  go_ret
  exact⟨by rw[← Q.out];rfl,HB.out⟩
 ·rw[decide_eq_false hl] at hwi
  have hr:dZ s=false:=by unfold dZ;rw[decide_eq_false hl,Bool.false_and]
  rw[hr]
  have TW:=av (impl_within.calls (s.size:Int) 1 12 false w hwi)
  clear hwi hl hr
  go_enter Tryd.func34,Tryd.ntmps34
  go_wp2_with (go_at_call 18;refine TW.out.mono ?_;(rintro e w' ⟨rfl,hd⟩);(have hb:=hd.below);(replace HB:=av (aA HB.out hb));clear hd hb)
  go_ret
  exact⟨rfl,HB.out⟩
open Go.RowKit Go.Proofs.YtdghdjachbbdmaaDoorW.PrintWords Go.Proofs.YtdghdjachbbdmaaDoorW.PrintLast Go.Proofs.YtdghdjachbbdmaaDoorW.PrintMore Go.Proofs.YtdghdjachbbdmaaDoor.E
def fK (size B:Int) (p:PC):Bool:=decide (size<p.f0+p.f1) || decide (B<p.f2+p.f1)
def iR (size B:Int):List PC→Int→Int
 | [],_=>-1
 | x::r,i=>if fK size B x=true then i else iR size B r (i+1)
theorem ko (size B:Int):∀ (l:List PC) (i:Int),0≤i→decide (iR size B l i≥0)=l.any (fK size B)
 | [],i,_=>rfl
 | x::l,i,h=>by
  rw[iR,List.any_cons]
  cases hx:fK size B x with
  | true=>rw[if_pos rfl,Bool.true_or];exact decide_eq_true h
  | false=>rw[if_neg (by simp),ko size B l (i+1) (by omega),Bool.false_or]
def iC (nm:ByteArray) (size:Int) (L:List PC) (B:Int):Bool:=dZ nm && (decide (0≤size∧size≤200) && (dz L && !L.any (fK size B)))
def impl_isHeld.f (nm:ByteArray) (size:Int) (L:List PC) (B:Int):Option Bool:=some (iC nm size L B)
theorem nV {L:List PC} {q:Nat} (h:q<L.length):L.drop q=gZ L q::L.drop (q+1):=by
 rw[List.drop_eq_getElem_cons h,fZ h]
set_option maxHeartbeats 8000000 in
set_option maxRecDepth 100000 in
theorem iG (A:Option Addr) (c:Nat) (l:List PC) (nm:ByteArray) (size B:Int) (fm:Value) (gx gb:Nat) (w:World) (hr:Kd.C k51 w A l.length l) (hl:l.length≤400) (hok:∀ j,j<l.length→okP (gZ l j)=true)
  (hx:w.heap[gx]? = some (.cells #[.string nm,.int .i64 size,fm] 47 (0,0))) (hb:w.heap[gb]? = some (.cells #[.int .i64 B] 3 (0,0))) :
  Calls Tryd.prog 50 #[.slice A l.length c,.func (.func 37) #[] #[.pointer (some ⟨gx,0,none⟩),.pointer (some ⟨gb,0,none⟩)]] w fun e w'=>e = .returned (.int .i64 (iR size B l 0))∧Below w.heap.size w w':=by
 have hu1:=Tryd.underlying47
 have hu2:=Tryd.underlying51
 have hu4:=Tryd.underlying43
 have HR:=av hr
 have HX:=av hx
 have HBB:=av hb
 have HL:=av hl
 have HOK:=av hok
 clear hr hx hb hok
 go_enter Tryd.func50,Tryd.ntmps50
 go_wp2
 go_loopw [8] (fun v wr=>∃ q:Nat,q≤l.length∧v = .int .i64 q∧Aside0 (iR size B (l.drop q) (q:Int)=iR size B l 0)∧Aside0 (Below w.heap.size w wr)) (fun v _=>l.length - (intOf v).toNat)
 case atStart=>exact⟨0,Nat.zero_le _,rfl,⟨rfl⟩,⟨Below.refl _ _⟩⟩
 case round=>
  obtain⟨q,hq,rfl,HI,HB⟩:=hrel
  by_cases hql:q<l.length
  ·have hqq:((q:Int) < (l.length:Int))=True:=eq_true (by omega)
   obtain⟨ad,ea,hx0,hx1,hx2,hx3⟩:=cK HR.out (q:Int) (by omega) (by omega)
   subst ea
   simp only[Int.toNat_natCast] at hx0 hx1 hx2 hx3
   replace hx0:=bD HB.out hx0
   replace hx1:=bD HB.out hx1
   replace hx2:=bD HB.out hx2
   replace hx3:=bD HB.out hx3
   have h1:=HI.out
   rw[nV hql,iR] at h1
   have ho:=dS.1 (HOK.out q hql)
   obtain⟨x,hx⟩:∃ x,gZ l q=x:=⟨_,rfl⟩
   have hx':ax l (q:Int)=x:=hx
   rw[hx'] at hx0 hx1 hx2 hx3
   rw[hx] at h1 ho
   obtain⟨W1,hW1⟩:∃ W,wr.alloc (.cells #[.int .i64 x.f0,.int .i64 x.f1,.int .i64 x.f2,.bool x.f3] 51)=W:=⟨_,rfl⟩
   have hba:Below wr.heap.size wr W1:=by rw[← hW1];exact af (Below.refl _ _) _
   have X1:W1.heap[wr.heap.size]? = some (.cells #[.int .i64 x.f0,.int .i64 x.f1,.int .i64 x.f2,.bool x.f3] 51 (0,0)):=by rw[← hW1];exact heap_alloc_new wr _
   have B1:=av (aA HB.out hba)
   have x0:W1.cell? ⟨wr.heap.size,0,none⟩=some (.int .i64 x.f0):=(ag X1 0).trans rfl
   have x1:W1.cell? ⟨wr.heap.size,1,none⟩=some (.int .i64 x.f1):=(ag X1 1).trans rfl
   have x2:W1.cell? ⟨wr.heap.size,2,none⟩=some (.int .i64 x.f2):=(ag X1 2).trans rfl
   have g1:W1.cell? ⟨gx,1,none⟩=some (.int .i64 size):=(ag (aG HX.out B1.out) 1).trans rfl
   have g2:W1.cell? ⟨gb,0,none⟩=some (.int .i64 B):=(ag (aG HBB.out B1.out) 0).trans rfl
   obtain⟨s1,hs1⟩:∃ s,wrap64 (x.f0+x.f1)=s:=⟨_,rfl⟩
   obtain⟨s2,hs2⟩:∃ s,wrap64 (x.f2+x.f1)=s:=⟨_,rfl⟩
   have e1:=w64 (x:=x.f0+x.f1) (by omega) (by omega)
   have e2:=w64 (x:=x.f2+x.f1) (by omega) (by omega)
   have hout:fK size B x = (decide (size<s1) || decide (B<s2)):=by rw[← hs1,← hs2,e1,e2];rfl
   clear hba X1 hx hx' ho e1 e2
   rw[hout] at h1
   by_cases c1:size<s1
   ·rw[decide_eq_true c1,Bool.true_or,if_pos rfl] at h1
    have HE:=av h1
    have q1:(size<s1)=True:=eq_true c1
    have q2:(s1 > size)=True:=eq_true c1
    have q3:decide (s1 > size)=true:=decide_eq_true c1
    have q4:decide (size<s1)=true:=decide_eq_true c1
    clear h1 c1 hout HI
    go_wp2
    go_ret
    exact⟨by rw[← HE.out];rfl,B1.out⟩
   ·have q1:(size<s1)=False:=eq_false c1
    have q2:(s1 > size)=False:=eq_false c1
    have q3:decide (s1 > size)=false:=decide_eq_false c1
    have q4:decide (size<s1)=false:=decide_eq_false c1
    rw[decide_eq_false c1,Bool.false_or] at h1
    by_cases c2:B<s2
    ·rw[decide_eq_true c2,if_pos rfl] at h1
     have HE:=av h1
     have q5:(B<s2)=True:=eq_true c2
     have q6:(s2 > B)=True:=eq_true c2
     have q7:decide (s2 > B)=true:=decide_eq_true c2
     have q8:decide (B<s2)=true:=decide_eq_true c2
     clear h1 c1 c2 hout HI
     go_wp2
     go_ret
     exact⟨by rw[← HE.out];rfl,B1.out⟩
    ·rw[decide_eq_false c2,if_neg (by simp)] at h1
     have HE:=av (show iR size B (l.drop (q+1)) ((q+1:Nat):Int)=iR size B l 0 by rw[← h1];rfl)
     have q5:(B<s2)=False:=eq_false c2
     have q6:(s2 > B)=False:=eq_false c2
     have q7:decide (s2 > B)=false:=decide_eq_false c2
     have q8:decide (B<s2)=false:=decide_eq_false c2
     clear h1 c1 c2 hout HI
     go_wp2
     go_roundw
     case rel=>exact⟨q+1,hql,by go_num,HE,B1⟩
     case measure=>simp[intOf];omega
  ·have hqq:((q:Int) < (l.length:Int))=False:=eq_false (by omega)
   have h1:=HI.out
   rw[List.drop_of_length_le (by omega)] at h1
   have HE:=av h1
   clear h1
   go_wp2
   go_ret
   exact⟨by rw[← HE.out];rfl,HB.out⟩
theorem jR (A:Option Addr) (c:Nat) (l:List PC) (nm:ByteArray) (size B:Int) (fm:Value) (gx gb:Nat) (w:World) (hr:Kd.C k51 w A l.length l) (hl:l.length≤400) (hok:∀ j,j<l.length→okP (gZ l j)=true)
  (hx:w.heap[gx]? = some (.cells #[.string nm,.int .i64 size,fm] 47 (0,0))) (hb:w.heap[gb]? = some (.cells #[.int .i64 B] 3 (0,0))) :
  Calls Tryd.prog 36 #[.slice A l.length c,.func (.func 37) #[] #[.pointer (some ⟨gx,0,none⟩),.pointer (some ⟨gb,0,none⟩)]] w fun e w'=>e = .returned (.bool (l.any (fK size B)))∧Below w.heap.size w w':=by
 have TT:=av (iG A c l nm size B fm gx gb w hr hl hok hx hb)
 have HQ:=av (ko size B l 0 (Int.le_refl _))
 generalize iR size B l 0=i at TT HQ
 clear hr hl hok hx hb
 go_enter Tryd.func36,Tryd.ntmps36
 go_wp2_with (go_at_call 50;refine TT.out.mono ?_;rintro e w' ⟨rfl,hB⟩)
 go_ret
 exact⟨by rw[← HQ.out];rfl,hB⟩
theorem iD {L:List PC} (h:dz L=true):L.length≤40∧∀ j,j<L.length→okP (gZ L j)=true:=by
 unfold dz at h
 rw[Bool.and_eq_true,decide_eq_true_iff,gP] at h
 refine⟨h.1,fun j hj=>?_⟩
 have:=h.2 j (Nat.zero_le _) (by omega)
 unfold gK at this
 exact(Bool.and_eq_true_iff.1 this).1
set_option maxHeartbeats 8000000 in
set_option maxRecDepth 100000 in
theorem impl_isHeld.calls (nm:ByteArray) (size:Int) (A:Option Addr) (c:Nat) (l:List PC) (B:Int) (r:Bool) (w:World) (hr:Kd.C k51 w A l.length l) (hc:l.length≤c) (h:impl_isHeld.f nm size l B=some r) :
  Calls Tryd.prog 19 #[.agg #[.string nm,.int .i64 size,.slice A l.length c],.int .i64 B] w fun e w'=>e = .returned (.bool r)∧Below w.heap.size w w':=by
 have hu1:=Tryd.underlying47
 have hu2:=Tryd.underlying45
 have HH:=av (Option.some.inj h)
 obtain⟨K,hK⟩:=kW l
 have HK:=hK K (Nat.le_refl _)
 clear hK h
 obtain⟨W1,hW1⟩:∃ W,w.alloc (.cells #[.string nm,.int .i64 size,.slice A l.length c] 47)=W:=⟨_,rfl⟩
 have b1:Below w.heap.size w W1:=by rw[← hW1];exact af (Below.refl _ _) _
 have X1:W1.heap[w.heap.size]? = some (.cells #[.string nm,.int .i64 size,.slice A l.length c] 47 (0,0)):=by rw[← hW1];exact heap_alloc_new w _
 obtain⟨W2,hW2⟩:∃ W,W1.alloc (.cells #[.int .i64 B] 3)=W:=⟨_,rfl⟩
 have b2:Below W1.heap.size W1 W2:=by rw[← hW2];exact af (Below.refl _ _) _
 have X2:=av (aG X1 b2)
 have G2:=av (show W2.heap[W1.heap.size]? = some (.cells #[.int .i64 B] 3 (0,0)) by rw[← hW2];exact heap_alloc_new W1 _)
 have B2:=av (aA b1 b2)
 have R2:=av (Kd.aQ hr B2.out)
 have HC:=av hc
 have x0:W2.cell? ⟨w.heap.size,0,none⟩=some (.string nm):=(ag X2.out 0).trans rfl
 have x1:W2.cell? ⟨w.heap.size,1,none⟩=some (.int .i64 size):=(ag X2.out 1).trans rfl
 have x2:W2.cell? ⟨w.heap.size,2,none⟩=some (.slice A l.length c):=(ag X2.out 2).trans rfl
 clear b1 b2 X1 hr hc
 cases hn:dZ nm with
 | false=>
  have TN:=av (impl_isName.calls nm false W2 (by unfold impl_isName.f;rw[hn]))
  have HR:=av (show r=false by rw[← HH.out];unfold iC;rw[hn];rfl)
  clear hn HK
  go_enter Tryd.func19,Tryd.ntmps19
  go_wp2_with (go_at_call 34;refine TN.out.mono ?_;(first|rintro e w3 rfl hb|rintro e w3 ⟨rfl,hb⟩);(have B3:=av (aA B2.out hb));clear hb TN)
  go_ret
  exact⟨by(rw[HR.out];rfl),B3.out⟩
 | true=>
  have TN:=av (impl_isName.calls nm true W2 (by unfold impl_isName.f;rw[hn]))
  by_cases hs:0≤size∧size≤200
  ·cases hg:dz l with
   | false=>
    rw[hg] at HK
    have HK2:=av HK
    have HWI:=av (show impl_within.f size 0 200=some true by rw[within_is',decide_eq_true hs])
    have HR:=av (show r=false by rw[← HH.out];unfold iC;rw[hg];cases dZ nm <;> cases decide (0≤size∧size≤200) <;> rfl)
    clear hn hg HK hs
    go_enter Tryd.func19,Tryd.ntmps19
    go_wp2_with (first
     | (go_at_call 34;refine TN.out.mono ?_;(first|rintro e w3 rfl hb|rintro e w3 ⟨rfl,hb⟩);(have B3:=av (aA B2.out hb));(have R3:=av (Kd.aQ R2.out hb));(have X3:=av (aG X2.out hb));clear hb TN x0 x1 x2;(have y1:w3.cell? ⟨w.heap.size,1,none⟩=some (.int .i64 size):=(ag X3.out 1).trans rfl);(have y2:w3.cell? ⟨w.heap.size,2,none⟩=some (.slice A l.length c):=(ag X3.out 2).trans rfl);(have TW:=av (impl_within.calls size 0 200 true w3 HWI.out)))
     | (go_at_call 18;refine TW.out.mono ?_;(first|rintro e w4 rfl hd|rintro e w4 ⟨rfl,hd⟩);have hb:=hd.below;(have B4:=av (aA B3.out hb));(have R4:=av (Kd.aQ R3.out hb));(have X4:=av (aG X3.out hb));clear hb hd TW y1 y2;(have u2:w4.cell? ⟨w.heap.size,2,none⟩=some (.slice A l.length c):=(ag X4.out 2).trans rfl);(have TG:=av (impl_GoodMap.calls K A c l false w4 R4.out HC.out HK2.out)))
     | (go_at_call 35;refine TG.out.mono ?_;(first|rintro e w5 rfl hb|rintro e w5 ⟨rfl,hb⟩);(have B5:=av (aA B4.out hb));clear hb TG u2))
    go_ret
    exact⟨by(rw[HR.out];rfl),B5.out⟩
   | true=>
    rw[hg] at HK
    have HK2:=av HK
    have HGM:=av (iD hg)
    have HWI:=av (show impl_within.f size 0 200=some true by rw[within_is',decide_eq_true hs])
    have HR:=av (show r = !l.any (fK size B) by rw[← HH.out];unfold iC;rw[hg,hn,decide_eq_true hs];rfl)
    clear hn hg HK hs
    go_enter Tryd.func19,Tryd.ntmps19
    go_wp2_with (first
     | (go_at_call 34;refine TN.out.mono ?_;(first|rintro e w3 rfl hb|rintro e w3 ⟨rfl,hb⟩);(have B3:=av (aA B2.out hb));(have R3:=av (Kd.aQ R2.out hb));(have X3:=av (aG X2.out hb));(have G3:=av (aG G2.out hb));clear hb TN x0 x1 x2;(have y1:w3.cell? ⟨w.heap.size,1,none⟩=some (.int .i64 size):=(ag X3.out 1).trans rfl);(have y2:w3.cell? ⟨w.heap.size,2,none⟩=some (.slice A l.length c):=(ag X3.out 2).trans rfl);(have TW:=av (impl_within.calls size 0 200 true w3 HWI.out)))
     | (go_at_call 18;refine TW.out.mono ?_;(first|rintro e w4 rfl hd|rintro e w4 ⟨rfl,hd⟩);have hb:=hd.below;(have B4:=av (aA B3.out hb));(have R4:=av (Kd.aQ R3.out hb));(have X4:=av (aG X3.out hb));(have G4:=av (aG G3.out hb));clear hb hd TW y1 y2;(have u2:w4.cell? ⟨w.heap.size,2,none⟩=some (.slice A l.length c):=(ag X4.out 2).trans rfl);(have TG:=av (impl_GoodMap.calls K A c l true w4 R4.out HC.out HK2.out)))
     | (go_at_call 35;refine TG.out.mono ?_;(first|rintro e w5 rfl hb|rintro e w5 ⟨rfl,hb⟩);(have B5:=av (aA B4.out hb));(have R5:=av (Kd.aQ R4.out hb));(have X5:=av (aG X4.out hb));(have G5:=av (aG G4.out hb));clear hb TG u2;(have v2:w5.cell? ⟨w.heap.size,2,none⟩=some (.slice A l.length c):=(ag X5.out 2).trans rfl);(have TA:=av (jR A c l nm size B (.slice A l.length c) w.heap.size W1.heap.size w5 R5.out (by have:=HGM.out.1;omega) HGM.out.2 X5.out G5.out)))
     | (go_at_call 36;refine TA.out.mono ?_;(first|rintro e w6 rfl hb|rintro e w6 ⟨rfl,hb⟩);(have B6:=av (aA B5.out hb));clear hb TA v2))
    go_ret
    exact⟨by(rw[HR.out];rfl),B6.out⟩
  ·have HWI:=av (show impl_within.f size 0 200=some false by rw[within_is',decide_eq_false hs])
   have HR:=av (show r=false by rw[← HH.out];unfold iC;rw[decide_eq_false hs];cases dZ nm <;> rfl)
   clear hn HK hs
   go_enter Tryd.func19,Tryd.ntmps19
   go_wp2_with (first
    | (go_at_call 34;refine TN.out.mono ?_;(first|rintro e w3 rfl hb|rintro e w3 ⟨rfl,hb⟩);(have B3:=av (aA B2.out hb));(have X3:=av (aG X2.out hb));clear hb TN x0 x1 x2;(have y1:w3.cell? ⟨w.heap.size,1,none⟩=some (.int .i64 size):=(ag X3.out 1).trans rfl);(have TW:=av (impl_within.calls size 0 200 false w3 HWI.out)))
    | (go_at_call 18;refine TW.out.mono ?_;(first|rintro e w4 rfl hd|rintro e w4 ⟨rfl,hd⟩);have hb:=hd.below;(have B4:=av (aA B3.out hb));clear hb hd TW y1))
   go_ret
   exact⟨by(rw[HR.out];rfl),B4.out⟩
open Go.RowKit Go.Proofs.YtdghdjachbbdmaaDoorW.PrintWords Go.Proofs.YtdghdjachbbdmaaDoorW.PrintLast Go.Proofs.YtdghdjachbbdmaaDoorW.PrintMore
attribute [local go_sem] bG bF bQ bR bB bC bH bE
set_option linter.unusedVariables false
set_option linter.unusedSimpArgs false
attribute [local go_sem high] E.lv E.lh E.lL
mutual
def impl_GoodSystem.j0:Nat→Bool→Int→Int→List (S72)→List (S72)→List (S47)→Option (Bool)
 | 0,_,_,_,_,_,_=>none
 | k+1,x23,x308000,x308001,x308002,x308003,x308004=>if x23=true then (some false) else (impl_GoodSystem.l0 k x308004 (x308004.length:Int) 0 x308000 x308001 x308002 x308003 x308004)
def impl_GoodSystem.l0:Nat→List (S47)→Int→Int→Int→Int→List (S72)→List (S72)→List (S47)→Option (Bool)
 | 0,_,_,_,_,_,_,_,_=>none
 | k+1,x25,x26,x27,x308000,x308001,x308002,x308003,x308004=>if x27<x26 then (if 0≤x27 then (if x27 < (x25.length:Int) then ((impl_isHeld.f ((az x25 x27).f0) ((az x25 x27).f1) ((az x25 x27).f2.f0) x308001).bind fun t312=>(if t312=true then (if x27 > 0 then (if 0≤(wrap64 (x27 - 1)) then (if (wrap64 (x27 - 1)) < (x308004.length:Int) then (if ((Op.bytesLess (((az x308004 (wrap64 (x27 - 1))).f0).toList) (((az x25 x27).f0).toList))=true) then (impl_GoodSystem.l0 k x25 x26 (wrap64 (x27+1)) x308000 x308001 x308002 x308003 x308004) else (some false)) else (none)) else (none)) else (impl_GoodSystem.l0 k x25 x26 (wrap64 (x27+1)) x308000 x308001 x308002 x308003 x308004)) else (some false))) else (none)) else (none)) else (some true)
end
def impl_GoodSystem.f (k:Nat) (a0_0:Int) (a0_1:Int) (l0_2:List (S72)) (l0_3:List (S72)) (l0_4:List (S47)):Option (Bool):=(impl_GoodFree.f a0_1 l0_2 l0_3).bind fun t308=>(if t308=true then ((impl_within.f a0_0 0 a0_1).bind fun t309=>(if t309=true then (impl_GoodSystem.j0 k (decide ((l0_4.length:Int) > 12)) a0_0 a0_1 l0_2 l0_3 l0_4) else (impl_GoodSystem.j0 k true a0_0 a0_1 l0_2 l0_3 l0_4))) else (impl_GoodSystem.j0 k true a0_0 a0_1 l0_2 l0_3 l0_4))
def impl_GoodSystem.T6:Bool×List (List Nat×List Nat):=(true,[([],[]),([],[]),([1],[1]),([2],[2]),([0,3],[0,3]),([4],[4]),([5,4],[5]),([6],[6]),([7,6],[6,7]),([8,6,6],[6,8]),([9],[9]),([10,9],[9,10]),([9],[9]),([12,9],[9,12]),([9],[9]),([14,9],[9,14]),([13,15,9],[9,13,15]),([16,9],[9,16]),([17,9],[9,17]),([11,18,9],[9,11,18]),([9,19,6],[6,9,19]),([6,20],[6,20])])
def impl_GoodSystem.B6:List Nat:=[0,0,2,6,15,31,63,127,255,511,1023,2047,1023,5119,1023,17407,62463,127999,259071,524287,1048575,2097151]
theorem impl_GoodSystem.tab6:dR .any (opsOf Tryd.f7 6)=impl_GoodSystem.T6:=by kernel_rfl
theorem impl_GoodSystem.bits6:dH impl_GoodSystem.T6.2 impl_GoodSystem.B6=true:=by kernel_rfl
set_option maxHeartbeats 8000000 in
set_option maxRecDepth 100000 in
theorem impl_GoodSystem.calls (k : Nat) (a0_0 : Int) (a0_1 : Int) (A0_2 : Option Addr) (c0_2 : Nat) (l0_2 : List (S72)) (A0_3 : Option Addr) (c0_3 : Nat) (l0_3 : List (S72)) (A0_4 : Option Addr) (c0_4 : Nat) (l0_4 : List (S47)) (r : Bool) (w : World) (hr0_2 : Kd.C k72 w A0_2 l0_2.length l0_2) (hc0_2 : l0_2.length ≤ c0_2) (hr0_3 : Kd.C k72 w A0_3 l0_3.length l0_3) (hc0_3 : l0_3.length ≤ c0_3) (hr0_4 : Kd.C k47 w A0_4 l0_4.length l0_4) (hc0_4 : l0_4.length ≤ c0_4) (h : impl_GoodSystem.f k a0_0 a0_1 l0_2 l0_3 l0_4 = some r) :
  Calls Tryd.prog 7 #[.agg #[.int .i64 a0_0,.int .i64 a0_1,.slice A0_2 l0_2.length c0_2,.slice A0_3 l0_3.length c0_3,.slice A0_4 l0_4.length c0_4]] w fun e w'=>e = .returned (.bool r)∧Below w.heap.size w w':=by
 have hu35:=Tryd.underlying35
 have hu32:=Tryd.underlying32
 have hu47:=Tryd.underlying47
 have HR0_2:=av hr0_2
 have HC0_2:=av hc0_2
 clear hr0_2 hc0_2
 have HR0_3:=av hr0_3
 have HC0_3:=av hc0_3
 clear hr0_3 hc0_3
 have HR0_4:=av hr0_4
 have HC0_4:=av hc0_4
 clear hr0_4 hc0_4
 have HB:=av (Below.refl w.heap.size w)
 have H:((impl_GoodFree.f a0_1 l0_2 l0_3).bind fun t308=>(if t308=true then ((impl_within.f a0_0 0 a0_1).bind fun t309=>(if t309=true then (impl_GoodSystem.j0 k (decide ((l0_4.length:Int) > 12)) a0_0 a0_1 l0_2 l0_3 l0_4) else (impl_GoodSystem.j0 k true a0_0 a0_1 l0_2 l0_3 l0_4))) else (impl_GoodSystem.j0 k true a0_0 a0_1 l0_2 l0_3 l0_4)))=some r:=h
 clear h
 have HC2:=av H
 clear H
 go_enter Tryd.func7,Tryd.ntmps7
 go_upto_region 1 with(first|((with_reducible refine aJ (N:=1) rfl ?_);(try(refine bu (by rfl) ?_;dsimp only));refine aI ?hg (N:=1) ?hd (cs:=#[.int .i64 a0_0,.int .i64 a0_1,.slice A0_2 l0_2.length c0_2,.slice A0_3 l0_3.length c0_3,.slice A0_4 l0_4.length c0_4]) (t:=35) ?hr ?_;(case hd=>rfl);(case hg=>rfl);(case hr=>first|(go_simp;done)|(go_simp;rfl));intro gb307 hg w3 hbox hb;have BK307:=av (hbox);have GW307:=av ((by rw[hg];exact(ay (by with_reducible repeat(first|exact HB.out|apply af|apply aa|apply ae))):w.heap.size≤gb307));have GE307:=av ((by rw[hg];exact(ay (by with_reducible repeat(first|exact HB.out|apply af|apply aa|apply ae))):w.heap.size≤gb307));replace HB:=av (aA (by with_reducible repeat(first|exact HB.out|apply af|apply aa|apply ae)) hb);clear hb hbox hg))
 (try simp only[apu_])
 go_cut [23] (fun v23 wc=>∃ (kq:Nat) (x23_1:Bool),v23 = .bool x23_1∧Aside0 (impl_GoodSystem.j0 kq x23_1 a0_0 a0_1 l0_2 l0_3 l0_4=some r)∧Aside0 (kq≤k)∧Aside0 (wc.heap[gb307]? = some (.cells #[.int .i64 a0_0,.int .i64 a0_1,(.slice A0_2 l0_2.length c0_2),(.slice A0_3 l0_3.length c0_3),(.slice A0_4 l0_4.length c0_4)] 35 (0,0)))∧Aside0 (Below w.heap.size w wc))
 case first=>
  have H:=HC2.out
  clear HC2
  replace H:=Option.bind_eq_some_iff.mp H
  obtain⟨t308,A40,H⟩:=H
  replace H:(if t308=true then ((impl_within.f a0_0 0 a0_1).bind fun t309=>(if t309=true then (impl_GoodSystem.j0 k (decide ((l0_4.length:Int) > 12)) a0_0 a0_1 l0_2 l0_3 l0_4) else (impl_GoodSystem.j0 k true a0_0 a0_1 l0_2 l0_3 l0_4))) else (impl_GoodSystem.j0 k true a0_0 a0_1 l0_2 l0_3 l0_4))=some r:=H
  have A4:=av A40
  clear A40
  by_cases c5:t308=true
  ·subst c5
   have H1:((impl_within.f a0_0 0 a0_1).bind fun t309=>(if t309=true then (impl_GoodSystem.j0 k (decide ((l0_4.length:Int) > 12)) a0_0 a0_1 l0_2 l0_3 l0_4) else (impl_GoodSystem.j0 k true a0_0 a0_1 l0_2 l0_3 l0_4)))=some r:=by rw[if_pos rfl] at H;exact H
   clear H
   have H:=H1
   clear H1
   replace H:=Option.bind_eq_some_iff.mp H
   obtain⟨t309,A60,H⟩:=H
   replace H:(if t309=true then (impl_GoodSystem.j0 k (decide ((l0_4.length:Int) > 12)) a0_0 a0_1 l0_2 l0_3 l0_4) else (impl_GoodSystem.j0 k true a0_0 a0_1 l0_2 l0_3 l0_4))=some r:=H
   have A6:=av A60
   clear A60
   by_cases c7:t309=true
   ·subst c7
    have H1:(impl_GoodSystem.j0 k (decide ((l0_4.length:Int) > 12)) a0_0 a0_1 l0_2 l0_3 l0_4)=some r:=by rw[if_pos rfl] at H;exact H
    clear H
    have H:=H1
    clear H1
    have H':=av H
    clear H
    have hcz8_0:w3.cell? ⟨gb307,0,none⟩=some (.int .i64 a0_0):=(ag BK307.out 0).trans rfl
    have hcz8_1:w3.cell? ⟨gb307,1,none⟩=some (.int .i64 a0_1):=(ag BK307.out 1).trans rfl
    have hcz8_2:w3.cell? ⟨gb307,2,none⟩=some (.slice A0_2 l0_2.length c0_2):=(ag BK307.out 2).trans rfl
    have hcz8_3:w3.cell? ⟨gb307,3,none⟩=some (.slice A0_3 l0_3.length c0_3):=(ag BK307.out 3).trans rfl
    have hcz8_4:w3.cell? ⟨gb307,4,none⟩=some (.slice A0_4 l0_4.length c0_4):=(ag BK307.out 4).trans rfl
    have hfz8_0:=ah BK307.out 0
    have hfz8_1:=ah BK307.out 1
    have hfz8_2:=ah BK307.out 2
    have hfz8_3:=ah BK307.out 3
    have hfz8_4:=ah BK307.out 4
    go_wp2_with (first|((with_reducible refine aK (f:=17) rfl ?_);refine bn (some 7) rfl rfl Tryd.func17 (by kernel_rfl) rfl #[.agg #[.int .i64 a0_1,.slice A0_2 l0_2.length c0_2,.slice A0_3 l0_3.length c0_3]] rfl (by(try simp only[amp_]);first|done|rfl|(simp only[ald_];rfl)) ?_;(with_reducible refine(impl_GoodFree.calls a0_1 _ _ l0_2 _ _ l0_3 true _ ?side1 ?side2 ?side3 ?side4 A4.out).mono ?_);(case side1=>repeat(first|exact(Kd.aQ HR0_2.out HB.out)|(with_reducible first|apply Kd.aW|apply Kd.aV|apply Kd.aY)));(case side2=>exact HC0_2.out);(case side3=>repeat(first|exact(Kd.aQ HR0_3.out HB.out)|(with_reducible first|apply Kd.aW|apply Kd.aV|apply Kd.aY)));(case side4=>exact HC0_3.out);rintro e w9 ⟨rfl,hb⟩;refine⟨_,rfl,?_⟩;replace BK307:=av (aG (g:=gb307) (o:=.cells #[.int .i64 a0_0,.int .i64 a0_1,.slice A0_2 l0_2.length c0_2,.slice A0_3 l0_3.length c0_3,.slice A0_4 l0_4.length c0_4] 35 (0,0)) (by(with_reducible repeat(first|apply aj|apply au|apply ak));exact BK307.out) hb);replace HB:=av (aA (by with_reducible repeat(first|exact HB.out|apply af|apply aa|apply ae|refine ai ?_ GE307.out)) hb);(try clear hb);(try clear hb2);(try clear hk);(try clear hi);have hcz10_0:w9.cell? ⟨gb307,0,none⟩=some (.int .i64 a0_0):=(ag BK307.out 0).trans rfl;have hcz10_1:w9.cell? ⟨gb307,1,none⟩=some (.int .i64 a0_1):=(ag BK307.out 1).trans rfl;have hcz10_2:w9.cell? ⟨gb307,2,none⟩=some (.slice A0_2 l0_2.length c0_2):=(ag BK307.out 2).trans rfl;have hcz10_3:w9.cell? ⟨gb307,3,none⟩=some (.slice A0_3 l0_3.length c0_3):=(ag BK307.out 3).trans rfl;have hcz10_4:w9.cell? ⟨gb307,4,none⟩=some (.slice A0_4 l0_4.length c0_4):=(ag BK307.out 4).trans rfl;have hfz10_0:=ah BK307.out 0;have hfz10_1:=ah BK307.out 1;have hfz10_2:=ah BK307.out 2;have hfz10_3:=ah BK307.out 3;have hfz10_4:=ah BK307.out 4)|(go_at_call 18;(with_reducible refine(impl_within.calls a0_0 0 a0_1 true _ A6.out).mono ?_);rintro e w' ⟨rfl,⟨nd,rfl⟩⟩))
    go_meet
    case rel=>exact⟨_,(decide ((l0_4.length:Int) > 12)),(by first|rfl|(simp;done)|(simp[*];done)),H',⟨by first|omega|exact Nat.le_refl _⟩,⟨by(with_reducible repeat(first|apply aj|apply au|apply ak));exact BK307.out⟩,⟨by with_reducible repeat(first|exact HB.out|apply af|apply aa|apply ae|refine ai ?_ GE307.out)⟩⟩
   ·replace c7:=Bool.eq_false_iff.mpr c7
    subst c7
    have H1:(impl_GoodSystem.j0 k true a0_0 a0_1 l0_2 l0_3 l0_4)=some r:=by rw[if_neg (show ¬ (false=true) by decide)] at H;exact H
    clear H
    have H:=H1
    clear H1
    have H':=av H
    clear H
    have hcz11_0:w3.cell? ⟨gb307,0,none⟩=some (.int .i64 a0_0):=(ag BK307.out 0).trans rfl
    have hcz11_1:w3.cell? ⟨gb307,1,none⟩=some (.int .i64 a0_1):=(ag BK307.out 1).trans rfl
    have hcz11_2:w3.cell? ⟨gb307,2,none⟩=some (.slice A0_2 l0_2.length c0_2):=(ag BK307.out 2).trans rfl
    have hcz11_3:w3.cell? ⟨gb307,3,none⟩=some (.slice A0_3 l0_3.length c0_3):=(ag BK307.out 3).trans rfl
    have hcz11_4:w3.cell? ⟨gb307,4,none⟩=some (.slice A0_4 l0_4.length c0_4):=(ag BK307.out 4).trans rfl
    have hfz11_0:=ah BK307.out 0
    have hfz11_1:=ah BK307.out 1
    have hfz11_2:=ah BK307.out 2
    have hfz11_3:=ah BK307.out 3
    have hfz11_4:=ah BK307.out 4
    go_wp2_with (first|((with_reducible refine aK (f:=17) rfl ?_);refine bn (some 7) rfl rfl Tryd.func17 (by kernel_rfl) rfl #[.agg #[.int .i64 a0_1,.slice A0_2 l0_2.length c0_2,.slice A0_3 l0_3.length c0_3]] rfl (by(try simp only[amp_]);first|done|rfl|(simp only[ald_];rfl)) ?_;(with_reducible refine(impl_GoodFree.calls a0_1 _ _ l0_2 _ _ l0_3 true _ ?side1 ?side2 ?side3 ?side4 A4.out).mono ?_);(case side1=>repeat(first|exact(Kd.aQ HR0_2.out HB.out)|(with_reducible first|apply Kd.aW|apply Kd.aV|apply Kd.aY)));(case side2=>exact HC0_2.out);(case side3=>repeat(first|exact(Kd.aQ HR0_3.out HB.out)|(with_reducible first|apply Kd.aW|apply Kd.aV|apply Kd.aY)));(case side4=>exact HC0_3.out);rintro e w12 ⟨rfl,hb⟩;refine⟨_,rfl,?_⟩;replace BK307:=av (aG (g:=gb307) (o:=.cells #[.int .i64 a0_0,.int .i64 a0_1,.slice A0_2 l0_2.length c0_2,.slice A0_3 l0_3.length c0_3,.slice A0_4 l0_4.length c0_4] 35 (0,0)) (by(with_reducible repeat(first|apply aj|apply au|apply ak));exact BK307.out) hb);replace HB:=av (aA (by with_reducible repeat(first|exact HB.out|apply af|apply aa|apply ae|refine ai ?_ GE307.out)) hb);(try clear hb);(try clear hb2);(try clear hk);(try clear hi);have hcz13_0:w12.cell? ⟨gb307,0,none⟩=some (.int .i64 a0_0):=(ag BK307.out 0).trans rfl;have hcz13_1:w12.cell? ⟨gb307,1,none⟩=some (.int .i64 a0_1):=(ag BK307.out 1).trans rfl;have hcz13_2:w12.cell? ⟨gb307,2,none⟩=some (.slice A0_2 l0_2.length c0_2):=(ag BK307.out 2).trans rfl;have hcz13_3:w12.cell? ⟨gb307,3,none⟩=some (.slice A0_3 l0_3.length c0_3):=(ag BK307.out 3).trans rfl;have hcz13_4:w12.cell? ⟨gb307,4,none⟩=some (.slice A0_4 l0_4.length c0_4):=(ag BK307.out 4).trans rfl;have hfz13_0:=ah BK307.out 0;have hfz13_1:=ah BK307.out 1;have hfz13_2:=ah BK307.out 2;have hfz13_3:=ah BK307.out 3;have hfz13_4:=ah BK307.out 4)|(go_at_call 18;(with_reducible refine(impl_within.calls a0_0 0 a0_1 false _ A6.out).mono ?_);rintro e w' ⟨rfl,⟨nd,rfl⟩⟩))
    go_meet
    case rel=>exact⟨_,(true),(by first|rfl|(simp;done)|(simp[*];done)),H',⟨by first|omega|exact Nat.le_refl _⟩,⟨by(with_reducible repeat(first|apply aj|apply au|apply ak));exact BK307.out⟩,⟨by with_reducible repeat(first|exact HB.out|apply af|apply aa|apply ae|refine ai ?_ GE307.out)⟩⟩
  ·replace c5:=Bool.eq_false_iff.mpr c5
   subst c5
   have H1:(impl_GoodSystem.j0 k true a0_0 a0_1 l0_2 l0_3 l0_4)=some r:=by rw[if_neg (show ¬ (false=true) by decide)] at H;exact H
   clear H
   have H:=H1
   clear H1
   have H':=av H
   clear H
   have hcz14_0:w3.cell? ⟨gb307,0,none⟩=some (.int .i64 a0_0):=(ag BK307.out 0).trans rfl
   have hcz14_1:w3.cell? ⟨gb307,1,none⟩=some (.int .i64 a0_1):=(ag BK307.out 1).trans rfl
   have hcz14_2:w3.cell? ⟨gb307,2,none⟩=some (.slice A0_2 l0_2.length c0_2):=(ag BK307.out 2).trans rfl
   have hcz14_3:w3.cell? ⟨gb307,3,none⟩=some (.slice A0_3 l0_3.length c0_3):=(ag BK307.out 3).trans rfl
   have hcz14_4:w3.cell? ⟨gb307,4,none⟩=some (.slice A0_4 l0_4.length c0_4):=(ag BK307.out 4).trans rfl
   have hfz14_0:=ah BK307.out 0
   have hfz14_1:=ah BK307.out 1
   have hfz14_2:=ah BK307.out 2
   have hfz14_3:=ah BK307.out 3
   have hfz14_4:=ah BK307.out 4
   go_wp2_with (first|((with_reducible refine aK (f:=17) rfl ?_);refine bn (some 7) rfl rfl Tryd.func17 (by kernel_rfl) rfl #[.agg #[.int .i64 a0_1,.slice A0_2 l0_2.length c0_2,.slice A0_3 l0_3.length c0_3]] rfl (by(try simp only[amp_]);first|done|rfl|(simp only[ald_];rfl)) ?_;(with_reducible refine(impl_GoodFree.calls a0_1 _ _ l0_2 _ _ l0_3 false _ ?side1 ?side2 ?side3 ?side4 A4.out).mono ?_);(case side1=>repeat(first|exact(Kd.aQ HR0_2.out HB.out)|(with_reducible first|apply Kd.aW|apply Kd.aV|apply Kd.aY)));(case side2=>exact HC0_2.out);(case side3=>repeat(first|exact(Kd.aQ HR0_3.out HB.out)|(with_reducible first|apply Kd.aW|apply Kd.aV|apply Kd.aY)));(case side4=>exact HC0_3.out);rintro e w15 ⟨rfl,hb⟩;refine⟨_,rfl,?_⟩;replace BK307:=av (aG (g:=gb307) (o:=.cells #[.int .i64 a0_0,.int .i64 a0_1,.slice A0_2 l0_2.length c0_2,.slice A0_3 l0_3.length c0_3,.slice A0_4 l0_4.length c0_4] 35 (0,0)) (by(with_reducible repeat(first|apply aj|apply au|apply ak));exact BK307.out) hb);replace HB:=av (aA (by with_reducible repeat(first|exact HB.out|apply af|apply aa|apply ae|refine ai ?_ GE307.out)) hb);(try clear hb);(try clear hb2);(try clear hk);(try clear hi)))
   go_meet
   case rel=>exact⟨_,(true),(by first|rfl|(simp;done)|(simp[*];done)),H',⟨by first|omega|exact Nat.le_refl _⟩,⟨by(with_reducible repeat(first|apply aj|apply au|apply ak));exact BK307.out⟩,⟨by with_reducible repeat(first|exact HB.out|apply af|apply aa|apply ae|refine ai ?_ GE307.out)⟩⟩
 case rest =>
  clear HC2
  try clear c1
  try clear p2
  try clear c5
  try clear c7
  try clear hcz10_0
  try clear hcz10_1
  try clear hcz10_2
  try clear hcz10_3
  try clear hcz10_4
  try clear hcz11_0
  try clear hcz11_1
  try clear hcz11_2
  try clear hcz11_3
  try clear hcz11_4
  try clear hcz13_0
  try clear hcz13_1
  try clear hcz13_2
  try clear hcz13_3
  try clear hcz13_4
  try clear hcz14_0
  try clear hcz14_1
  try clear hcz14_2
  try clear hcz14_3
  try clear hcz14_4
  try clear hcz8_0
  try clear hcz8_1
  try clear hcz8_2
  try clear hcz8_3
  try clear hcz8_4
  try clear hfz10_0
  try clear hfz10_1
  try clear hfz10_2
  try clear hfz10_3
  try clear hfz10_4
  try clear hfz11_0
  try clear hfz11_1
  try clear hfz11_2
  try clear hfz11_3
  try clear hfz11_4
  try clear hfz13_0
  try clear hfz13_1
  try clear hfz13_2
  try clear hfz13_3
  try clear hfz13_4
  try clear hfz14_0
  try clear hfz14_1
  try clear hfz14_2
  try clear hfz14_3
  try clear hfz14_4
  try clear hfz8_0
  try clear hfz8_1
  try clear hfz8_2
  try clear hfz8_3
  try clear hfz8_4
  obtain⟨kq,x23_1,rfl,HA,HJ1,BK307,HB⟩:=hcut
  cases kq with
  | zero=>exact absurd HA.out (by simp[impl_GoodSystem.j0])
  | succ kj1 =>
   have H:=HA.out
   clear HA
   simp only[impl_GoodSystem.j0] at H
   by_cases c16:x23_1=true
   ·subst c16
    have H1:(some false)=some r:=by rw[if_pos rfl] at H;exact H
    clear H
    have H:=H1
    clear H1
    obtain rfl:=Option.some.inj H
    go_wp2
    go_ret
    exact⟨by first|rfl|(simp <;> rfl)|(simp[*] <;> rfl),by with_reducible repeat(first|exact HB.out|apply af|apply aa|apply ae|refine ai ?_ GE307.out)⟩
   ·replace c16 := Bool.eq_false_iff.mpr c16
    subst c16
    have H1:(impl_GoodSystem.l0 kj1 l0_4 (l0_4.length:Int) 0 a0_0 a0_1 l0_2 l0_3 l0_4)=some r:=by rw[if_neg (show ¬ (false=true) by decide)] at H;exact H
    clear H
    have H:=H1
    clear H1
    have H':=av H
    clear H
    have hcz17_0:wc.cell? ⟨gb307,0,none⟩=some (.int .i64 a0_0):=(ag BK307.out 0).trans rfl
    have hcz17_1:wc.cell? ⟨gb307,1,none⟩=some (.int .i64 a0_1):=(ag BK307.out 1).trans rfl
    have hcz17_2:wc.cell? ⟨gb307,2,none⟩=some (.slice A0_2 l0_2.length c0_2):=(ag BK307.out 2).trans rfl
    have hcz17_3:wc.cell? ⟨gb307,3,none⟩=some (.slice A0_3 l0_3.length c0_3):=(ag BK307.out 3).trans rfl
    have hcz17_4:wc.cell? ⟨gb307,4,none⟩=some (.slice A0_4 l0_4.length c0_4):=(ag BK307.out 4).trans rfl
    have hfz17_0:=ah BK307.out 0
    have hfz17_1:=ah BK307.out 1
    have hfz17_2:=ah BK307.out 2
    have hfz17_3:=ah BK307.out 3
    have hfz17_4:=ah BK307.out 4
    go_wp2
    go_loopg [27] kj1 (fun kq v27 w'=>∃ (x27_2:Int),v27 = .int .i64 x27_2∧Aside0 (impl_GoodSystem.l0 kq l0_4 (l0_4.length:Int) x27_2 a0_0 a0_1 l0_2 l0_3 l0_4=some r)∧Aside0 (kq≤kj1)∧Aside0 (w'.heap[gb307]? = some (.cells #[.int .i64 a0_0,.int .i64 a0_1,(.slice A0_2 l0_2.length c0_2),(.slice A0_3 l0_3.length c0_3),(.slice A0_4 l0_4.length c0_4)] 35 (0,0)))∧Aside0 (Below w.heap.size w w'))
    case atStart=>exact⟨(0),(by first|rfl|(simp;done)|(simp[*];done)),H',⟨Nat.le_refl _⟩,⟨by(with_reducible repeat(first|apply aj|apply au|apply ak));exact BK307.out⟩,⟨by with_reducible repeat(first|exact HB.out|apply af|apply aa|apply ae|refine ai ?_ GE307.out)⟩⟩
    case round =>
     clear H'
     try clear c1
     try clear p2
     try clear c5
     try clear c7
     try clear c16
     try clear c17
     try clear hcz10_0
     try clear hcz10_1
     try clear hcz10_2
     try clear hcz10_3
     try clear hcz10_4
     try clear hcz11_0
     try clear hcz11_1
     try clear hcz11_2
     try clear hcz11_3
     try clear hcz11_4
     try clear hcz13_0
     try clear hcz13_1
     try clear hcz13_2
     try clear hcz13_3
     try clear hcz13_4
     try clear hcz14_0
     try clear hcz14_1
     try clear hcz14_2
     try clear hcz14_3
     try clear hcz14_4
     try clear hcz17_0
     try clear hcz17_1
     try clear hcz17_2
     try clear hcz17_3
     try clear hcz17_4
     try clear hcz8_0
     try clear hcz8_1
     try clear hcz8_2
     try clear hcz8_3
     try clear hcz8_4
     try clear hfz10_0
     try clear hfz10_1
     try clear hfz10_2
     try clear hfz10_3
     try clear hfz10_4
     try clear hfz11_0
     try clear hfz11_1
     try clear hfz11_2
     try clear hfz11_3
     try clear hfz11_4
     try clear hfz13_0
     try clear hfz13_1
     try clear hfz13_2
     try clear hfz13_3
     try clear hfz13_4
     try clear hfz14_0
     try clear hfz14_1
     try clear hfz14_2
     try clear hfz14_3
     try clear hfz14_4
     try clear hfz17_0
     try clear hfz17_1
     try clear hfz17_2
     try clear hfz17_3
     try clear hfz17_4
     try clear hfz8_0
     try clear hfz8_1
     try clear hfz8_2
     try clear hfz8_3
     try clear hfz8_4
     try clear p2
     obtain⟨x27_2,rfl,HA,HK2,BK307,HB⟩:=hrel
     cases gk with
     | zero=>exact absurd HA.out (by simp[impl_GoodSystem.l0])
     | succ k2 =>
      have H:=HA.out
      clear HA
      simp only[impl_GoodSystem.l0] at H
      by_cases c18:x27_2 < (l0_4.length:Int)
      ·rw [if_pos c18] at H
       have c18b0:decide (x27_2 < (l0_4.length:Int))=true:=decide_eq_true c18
       clear c18
       by_cases c19:0≤x27_2
       ·rw [if_pos c19] at H
        have c19b0:decide (0≤x27_2)=true:=decide_eq_true c19
        clear c19
        by_cases c20:x27_2 < (l0_4.length:Int)
        ·rw [if_pos c20] at H
         have c20b0:decide (x27_2 < (l0_4.length:Int))=true:=decide_eq_true c20
         clear c20
         replace H:=Option.bind_eq_some_iff.mp H
         obtain⟨t312,A210,H⟩:=H
         replace H:(if t312=true then (if x27_2 > 0 then (if 0≤(wrap64 (x27_2 - 1)) then (if (wrap64 (x27_2 - 1)) < (l0_4.length:Int) then (if ((Op.bytesLess (((az l0_4 (wrap64 (x27_2 - 1))).f0).toList) (((az l0_4 x27_2).f0).toList))=true) then (impl_GoodSystem.l0 k2 l0_4 (l0_4.length:Int) (wrap64 (x27_2+1)) a0_0 a0_1 l0_2 l0_3 l0_4) else (some false)) else (none)) else (none)) else (impl_GoodSystem.l0 k2 l0_4 (l0_4.length:Int) (wrap64 (x27_2+1)) a0_0 a0_1 l0_2 l0_3 l0_4)) else (some false))=some r:=H
         have A21:=av A210
         clear A210
         by_cases c22:t312=true
         ·subst c22
          have H1:(if x27_2 > 0 then (if 0≤(wrap64 (x27_2 - 1)) then (if (wrap64 (x27_2 - 1)) < (l0_4.length:Int) then (if ((Op.bytesLess (((az l0_4 (wrap64 (x27_2 - 1))).f0).toList) (((az l0_4 x27_2).f0).toList))=true) then (impl_GoodSystem.l0 k2 l0_4 (l0_4.length:Int) (wrap64 (x27_2+1)) a0_0 a0_1 l0_2 l0_3 l0_4) else (some false)) else (none)) else (none)) else (impl_GoodSystem.l0 k2 l0_4 (l0_4.length:Int) (wrap64 (x27_2+1)) a0_0 a0_1 l0_2 l0_3 l0_4))=some r:=by rw[if_pos rfl] at H;exact H
          clear H
          have H:=H1
          clear H1
          by_cases c23:x27_2 > 0
          ·rw [if_pos c23] at H
           have c23b0:decide (0<x27_2)=true:=decide_eq_true c23
           clear c23
           obtain⟨ji24,hji24⟩:∃ j_:Int,(wrap64 (x27_2 - 1))=j_:=⟨_,rfl⟩
           replace H:(if 0≤(ji24) then (if (ji24) < (l0_4.length:Int) then (if ((Op.bytesLess (((az l0_4 (ji24)).f0).toList) (((az l0_4 x27_2).f0).toList))=true) then (impl_GoodSystem.l0 k2 l0_4 (l0_4.length:Int) (wrap64 (x27_2+1)) a0_0 a0_1 l0_2 l0_3 l0_4) else (some false)) else (none)) else (none))=some r:=by first|(rw[hji24] at H;exact H)|(simp only[hji24] at H ⊢;exact H)
           (try rw[hji24] at A21)
           have hji24w:(IntKind.i64.wrap (x27_2 - 1))=ji24:=(fo _).trans hji24
           by_cases c25:0≤(ji24)
           ·rw [if_pos c25] at H
            have c25b0:decide (0≤(ji24))=true:=decide_eq_true c25
            clear c25
            by_cases c26:(ji24) < (l0_4.length:Int)
            ·rw[if_pos c26] at H
             have c26b0:decide ((ji24) < (l0_4.length:Int))=true:=decide_eq_true c26
             clear c26
             by_cases c27:((Op.bytesLess (((az l0_4 (ji24)).f0).toList) (((az l0_4 x27_2).f0).toList))=true)
             ·rw[if_pos c27] at H
              have c27b0:(Op.bytesLess (((az l0_4 (ji24)).f0).toList) (((az l0_4 x27_2).f0).toList))=true:=c27
              clear c27
              have H':=av H
              clear H
              have p310:0≤(x27_2:Int):=of_decide_eq_true (by assumption)
              have q310:x27_2 < (l0_4.length:Int):=of_decide_eq_true (by assumption)
              obtain⟨ad310,A310_2,c310_2,e310,hx310_0,hx310_1,hx310_2,hl310_2,hi310_2⟩:=dQ HR0_4.out x27_2 p310 q310
              cases e310
              replace hx310_0:=(HB.out.cell (World.block_lt_of_cell? w _ hx310_0)).trans hx310_0
              replace hx310_1:=(HB.out.cell (World.block_lt_of_cell? w _ hx310_1)).trans hx310_1
              replace hx310_2:=(HB.out.cell (World.block_lt_of_cell? w _ hx310_2)).trans hx310_2
              have HR310_2:=av hi310_2
              have HC310_2:=av hl310_2
              clear hi310_2 hl310_2
              replace p310:=eq_true p310
              replace q310:=eq_true q310
              try go_wp2_with (first|((with_reducible refine aJ (N:=4) rfl ?_);(try(refine bu (by rfl) ?_;dsimp only));refine aI ?hg (N:=4) ?hd (cs:=#[.string (⟨#[]⟩:ByteArray),.int .i64 0,.slice none 0 0]) (t:=47) ?hr ?_;(case hd=>rfl);(case hg=>rfl);(case hr=>first|(go_simp;done)|(go_simp;rfl));intro gb311 hg w28 hbox hb;have BK311:=av (hbox);have GW311:=av ((by rw[hg];exact(ay (by with_reducible repeat(first|exact HB.out|apply af|apply aa|apply ae|refine ai ?_ GE307.out))):w.heap.size≤gb311));have GE311:=av ((by rw[hg];exact(ay (by with_reducible repeat(first|exact HB.out|apply af|apply aa|apply ae|refine ai ?_ GE307.out))):w.heap.size≤gb311));replace HB:=av (aA (by with_reducible repeat(first|exact HB.out|apply af|apply aa|apply ae|refine ai ?_ GE307.out)) hb);have NB307_311:=av ((by rw[hg];exact Nat.ne_of_lt (aN (g:=gb307) (o:=.cells #[.int .i64 a0_0,.int .i64 a0_1,.slice A0_2 l0_2.length c0_2,.slice A0_3 l0_3.length c0_3,.slice (some ad310) l0_4.length c0_4] 35 (0,0)) (by(with_reducible repeat(first|apply aj|apply au|apply ak));exact BK307.out)):gb307≠gb311));have NB311_307:=av ((by rw[hg];exact Nat.ne_of_gt (aN (g:=gb307) (o:=.cells #[.int .i64 a0_0,.int .i64 a0_1,.slice A0_2 l0_2.length c0_2,.slice A0_3 l0_3.length c0_3,.slice (some ad310) l0_4.length c0_4] 35 (0,0)) (by(with_reducible repeat(first|apply aj|apply au|apply ak));exact BK307.out)):gb311≠gb307));replace BK307:=av (aG (g:=gb307) (o:=.cells #[.int .i64 a0_0,.int .i64 a0_1,.slice A0_2 l0_2.length c0_2,.slice A0_3 l0_3.length c0_3,.slice (some ad310) l0_4.length c0_4] 35 (0,0)) (by(with_reducible repeat(first|apply aj|apply au|apply ak));exact BK307.out) hb);clear hb hbox hg;have hnb29:=NB311_307.out;have hnc29:=NB307_311.out;have hcz30_0:w28.cell? ⟨gb311,0,none⟩=some (.string (⟨#[]⟩:ByteArray)):=(ag BK311.out 0).trans rfl;have hcz30_1:w28.cell? ⟨gb311,1,none⟩=some (.int .i64 0):=(ag BK311.out 1).trans rfl;have hcz30_2:w28.cell? ⟨gb311,2,none⟩=some (.slice none 0 0):=(ag BK311.out 2).trans rfl;have hfz30_0:=ah BK311.out 0;have hfz30_1:=ah BK311.out 1;have hfz30_2:=ah BK311.out 2))
              have n0_:Aside0 ((((w28.setCell ⟨gb311,0,none⟩ (.string ((az l0_4 x27_2).f0))).setCell ⟨gb311,1,none⟩ (.int .i64 ((az l0_4 x27_2).f1))).setCell ⟨gb311,2,none⟩ (.slice A310_2 ((az l0_4 x27_2).f2.f0).length c310_2)).heap[gb307]? = some (.cells #[.int .i64 a0_0,.int .i64 a0_1,.slice A0_2 l0_2.length c0_2,.slice A0_3 l0_3.length c0_3,.slice (some ad310) l0_4.length c0_4] 35 (0,0))):=⟨by(with_reducible repeat(first|apply aj|apply au|apply ak));refine aU ?_ NB307_311.out _;(with_reducible repeat(first|apply aj|apply au|apply ak));refine aU ?_ NB307_311.out _;(with_reducible repeat(first|apply aj|apply au|apply ak));refine aU ?_ NB307_311.out _;(with_reducible repeat(first|apply aj|apply au|apply ak));exact BK307.out⟩
              have n1_:Aside0 ((((w28.setCell ⟨gb311,0,none⟩ (.string ((az l0_4 x27_2).f0))).setCell ⟨gb311,1,none⟩ (.int .i64 ((az l0_4 x27_2).f1))).setCell ⟨gb311,2,none⟩ (.slice A310_2 ((az l0_4 x27_2).f2.f0).length c310_2)).heap[gb311]? = some (.cells #[.string ((az l0_4 x27_2).f0),.int .i64 ((az l0_4 x27_2).f1),.slice A310_2 ((az l0_4 x27_2).f2.f0).length c310_2] 47 (0,0))):=⟨by(with_reducible repeat(first|apply aj|apply au|apply ak));refine aX (cs:=#[.string ((az l0_4 x27_2).f0),.int .i64 ((az l0_4 x27_2).f1),.slice none 0 0]) ?_ 2 _ rfl;(with_reducible repeat(first|apply aj|apply au|apply ak));refine aX (cs:=#[.string ((az l0_4 x27_2).f0),.int .i64 0,.slice none 0 0]) ?_ 1 _ rfl;(with_reducible repeat(first|apply aj|apply au|apply ak));refine aX (cs:=#[.string (⟨#[]⟩:ByteArray),.int .i64 0,.slice none 0 0]) ?_ 0 _ rfl;(with_reducible repeat(first|apply aj|apply au|apply ak));exact BK311.out⟩
              have n2_:Aside0 (Below w.heap.size w (((w28.setCell ⟨gb311,0,none⟩ (.string ((az l0_4 x27_2).f0))).setCell ⟨gb311,1,none⟩ (.int .i64 ((az l0_4 x27_2).f1))).setCell ⟨gb311,2,none⟩ (.slice A310_2 ((az l0_4 x27_2).f2.f0).length c310_2))):=⟨by with_reducible repeat(first|exact HB.out|apply af|apply aa|apply ae|refine ai ?_ GE307.out|refine ai ?_ GE311.out)⟩
              (try clear BK307)
              (try clear BK311)
              (try clear HB)
              generalize (((w28.setCell ⟨gb311,0,none⟩ (.string ((az l0_4 x27_2).f0))).setCell ⟨gb311,1,none⟩ (.int .i64 ((az l0_4 x27_2).f1))).setCell ⟨gb311,2,none⟩ (.slice A310_2 ((az l0_4 x27_2).f2.f0).length c310_2))=w31 at n0_ n1_ n2_ ⊢
              have BK307:=n0_
              have BK311:=n1_
              have HB:=n2_
              clear n0_ n1_ n2_
              have n0_:=av (au BK307.out)
              have n1_:=av (au BK311.out)
              have n2_:=av (ae HB.out)
              clear BK307
              clear BK311
              clear HB
              have BK307:=n0_
              have BK311:=n1_
              have HB:=n2_
              clear n0_ n1_ n2_
              have p313:0≤((ji24):Int):=of_decide_eq_true (by assumption)
              have q313:(ji24) < (l0_4.length:Int):=of_decide_eq_true (by assumption)
              obtain⟨ad313,A313_2,c313_2,e313,hx313_0,hx313_1,hx313_2,hl313_2,hi313_2⟩:=dQ HR0_4.out (ji24) p313 q313
              have hw313_2:=hx313_2
              have hw313_1:=hx313_1
              have hw313_0:=hx313_0
              obtain rfl:ad310=ad313:=(by injection e313)
              replace hx313_0:=(HB.out.cell (World.block_lt_of_cell? w _ hx313_0)).trans hx313_0
              replace hx313_1:=(HB.out.cell (World.block_lt_of_cell? w _ hx313_1)).trans hx313_1
              replace hx313_2:=(HB.out.cell (World.block_lt_of_cell? w _ hx313_2)).trans hx313_2
              have HR313_2:=av hi313_2
              have HC313_2:=av hl313_2
              clear hi313_2 hl313_2
              replace p313:=eq_true p313
              replace q313:=eq_true q313
              refine bJ (n:=22) (S:=fun w'=>w'.cell? ⟨gb311,0,none⟩=some (.string ((az l0_4 x27_2).f0))∧w'.cell? ⟨gb311,1,none⟩=some (.int .i64 ((az l0_4 x27_2).f1))∧w'.cell? ⟨gb311,2,none⟩=some (.slice A310_2 ((az l0_4 x27_2).f2.f0).length c310_2)∧w'.cell? ⟨gb307,0,none⟩=some (.int .i64 a0_0)∧w'.cell? ⟨gb307,1,none⟩=some (.int .i64 a0_1)∧w'.cell? ⟨gb307,2,none⟩=some (.slice A0_2 l0_2.length c0_2)∧w'.cell? ⟨gb307,3,none⟩=some (.slice A0_3 l0_3.length c0_3)∧w'.cell? ⟨gb307,4,none⟩=some (.slice (some ad310) l0_4.length c0_4)∧w'.cell? (ad310.add (((ji24)).toNat*3))=some (.string ((az l0_4 (ji24)).f0))∧w'.cell? ⟨(ad310.add (((ji24)).toNat*3)).block,(ad310.add (((ji24)).toNat*3)).off+1,none⟩=some (.int .i64 ((az l0_4 (ji24)).f1))∧w'.cell? ⟨(ad310.add (((ji24)).toNat*3)).block,(ad310.add (((ji24)).toNat*3)).off+2,none⟩=some (.slice A313_2 ((az l0_4 (ji24)).f2.f0).length c313_2)) (ds:=[]) #[false,false,false,false,false,false,false,false,false,false,false,false,false,false,false,false,false,false,false,false,false,false] (by kernel_rfl) rfl rfl ⟨(ag BK311.out 0).trans rfl,(ag BK311.out 1).trans rfl,(ag BK311.out 2).trans rfl,(ag BK307.out 0).trans rfl,(ag BK307.out 1).trans rfl,(ag BK307.out 2).trans rfl,(ag BK307.out 3).trans rfl,(ag BK307.out 4).trans rfl,((HB.out.cell (World.block_lt_of_cell? w _ hw313_0)).trans hw313_0),((HB.out.cell (World.block_lt_of_cell? w _ hw313_1)).trans hw313_1),((HB.out.cell (World.block_lt_of_cell? w _ hw313_2)).trans hw313_2)⟩ (fun hHeld=>?_);refine bz impl_GoodSystem.tab6 impl_GoodSystem.bits6 (fun HT_ HW_=>?_)
              generalize w31.drew=w32 at BK307 BK311 HB HR313_2 hx313_0 hx313_1 hx313_2 hHeld ⊢
              refine aD (i:=1) (N:=some 33) (v:=?_) (a':=?_) #[false,true,false,false,false,false,false,false,false,false,false,false,false,false,false,false,false,false,false,false,false,false] rfl rfl (aC HT_.out (by kernel_rfl)) (fun _ _ _ h=>h) (Or.inl ⟨by rfl,?_⟩) ?_ ?_
              rotate_left
              ·intro w'
               go_simp
               with_reducible rfl
              rotate_left
              ·simp only[apu_]
               rfl
              refine aD (i:=2) (N:=some 34) (v:=?_) (a':=?_) #[false,true,true,false,false,false,false,false,false,false,false,false,false,false,false,false,false,false,false,false,false,false] rfl rfl (aC HT_.out (by kernel_rfl)) (fun _ _ _ h=>h) (Or.inl ⟨by rfl,?_⟩) ?_ ?_
              rotate_left
              ·intro w'
               go_simp
               with_reducible rfl
              rotate_left
              ·simp only[apu_]
               rfl
              refine aZ (i:=0) (N:=some 32) (v:=?_) (a':=?_) #[true,true,true,false,false,false,false,false,false,false,false,false,false,false,false,false,false,false,false,false,false,false] rfl rfl (aT HT_.out HW_.out (by kernel_rfl)) (fun _ _ _ h=>h) (Or.inl ⟨by rfl,?_⟩) hHeld ?_ ?_
              rotate_left
              ·rintro w' ⟨s0,s1,s2,s3,s4,s5,s6,s7,s8,s9,s10⟩
               go_simp
               with_reducible rfl
              rotate_left
              ·simp only[apu_]
               rfl
              refine aZ (i:=3) (N:=some 35) (v:=?_) (a':=?_) #[true,true,true,true,false,false,false,false,false,false,false,false,false,false,false,false,false,false,false,false,false,false] rfl rfl (aT HT_.out HW_.out (by kernel_rfl)) (fun _ _ _ h=>h) (Or.inl ⟨by rfl,?_⟩) hHeld ?_ ?_
              rotate_left
              ·rintro w' ⟨s0,s1,s2,s3,s4,s5,s6,s7,s8,s9,s10⟩
               go_simp
               with_reducible rfl
              rotate_left
              ·simp only[apu_]
               rfl
              refine di (i:=4) (N:=some 36) #[true,true,true,true,true,false,false,false,false,false,false,false,false,false,false,false,false,false,false,false,false,false] rfl rfl (bW HT_.out (by kernel_rfl)) (by decide) (fun K hK=>?_)
              refine bU Tryd.func19 (by kernel_rfl) rfl #[.agg #[.string ((az l0_4 x27_2).f0),.int .i64 ((az l0_4 x27_2).f1),.slice A310_2 ((az l0_4 x27_2).f2.f0).length c310_2],.int .i64 a0_1] (by rfl) rfl rfl (by(try simp only[amp_]);first|done|rfl|(simp only[ald_];rfl)) ?_
              with_reducible refine(impl_isHeld.calls ((az l0_4 x27_2).f0) ((az l0_4 x27_2).f1) _ _ ((az l0_4 x27_2).f2.f0) a0_1 true _ ?side1 ?side2 A21.out).mono ?_
              (case side1=>repeat(first|exact(Kd.aQ HR310_2.out HB.out)|(with_reducible first|apply Kd.aW|apply Kd.aV|apply Kd.aY)))
              (case side2=>exact HC310_2.out)
              rintro e w33 ⟨rfl,hb⟩
              refine⟨_,rfl,?_⟩
              have n0_:=av (aG (g:=gb307) (o:=.cells #[.int .i64 a0_0,.int .i64 a0_1,.slice A0_2 l0_2.length c0_2,.slice A0_3 l0_3.length c0_3,.slice (some ad310) l0_4.length c0_4] 35 (0,0)) (by(with_reducible repeat(first|apply aj|apply au|apply ak));exact BK307.out) hb)
              have n1_:=av (aG (g:=gb311) (o:=.cells #[.string ((az l0_4 x27_2).f0),.int .i64 ((az l0_4 x27_2).f1),.slice A310_2 ((az l0_4 x27_2).f2.f0).length c310_2] 47 (0,0)) (by(with_reducible repeat(first|apply aj|apply au|apply ak));exact BK311.out) hb)
              have n2_:=av (aA (by with_reducible repeat(first|exact HB.out|apply af|apply aa|apply ae|refine ai ?_ GE307.out|refine ai ?_ GE311.out)) hb)
              clear BK307
              clear BK311
              clear HB
              have BK307:=n0_
              have BK311:=n1_
              have HB:=n2_
              clear n0_ n1_ n2_
              (try clear hb)
              (try clear hb2)
              (try clear hk)
              (try clear hi)
              refine hK.out _ _ ⟨(ag BK311.out 0).trans rfl,(ag BK311.out 1).trans rfl,(ag BK311.out 2).trans rfl,(ag BK307.out 0).trans rfl,(ag BK307.out 1).trans rfl,(ag BK307.out 2).trans rfl,(ag BK307.out 3).trans rfl,(ag BK307.out 4).trans rfl,((HB.out.cell (World.block_lt_of_cell? w _ hw313_0)).trans hw313_0),((HB.out.cell (World.block_lt_of_cell? w _ hw313_1)).trans hw313_1),((HB.out.cell (World.block_lt_of_cell? w _ hw313_2)).trans hw313_2)⟩ (fun hHeld=>?_)
              clear hK K
              refine bS (a':=?_) ?_ ?_
              rotate_left
              ·show Act.put _ (some 36) _=_
               simp only[apu_]
               rfl
              refine aD (i:=5) (N:=some 37) (v:=?_) (a':=?_) #[true,true,true,true,true,true,false,false,false,false,false,false,false,false,false,false,false,false,false,false,false,false] rfl rfl (aC HT_.out (by kernel_rfl)) (fun _ _ _ h=>h) (Or.inl ⟨by rfl,?_⟩) ?_ ?_
              rotate_left
              ·intro w'
               go_simp
               with_reducible rfl
              rotate_left
              ·simp only[apu_]
               rfl
              refine aD (i:=6) (N:=some 38) (v:=?_) (a':=?_) #[true,true,true,true,true,true,true,false,false,false,false,false,false,false,false,false,false,false,false,false,false,false] rfl rfl (aC HT_.out (by kernel_rfl)) (fun _ _ _ h=>h) (Or.inl ⟨by rfl,?_⟩) ?_ ?_
              rotate_left
              ·intro w'
               go_simp
               with_reducible rfl
              rotate_left
              ·simp only[apu_]
               rfl
              refine aD (i:=7) (N:=some 39) (v:=?_) (a':=?_) #[true,true,true,true,true,true,true,true,false,false,false,false,false,false,false,false,false,false,false,false,false,false] rfl rfl (aC HT_.out (by kernel_rfl)) (fun _ _ _ h=>h) (Or.inl ⟨by rfl,?_⟩) ?_ ?_
              rotate_left
              ·intro w'
               go_simp
               with_reducible rfl
              rotate_left
              ·simp only[apu_]
               rfl
              refine aD (i:=8) (N:=some 40) (v:=?_) (a':=?_) #[true,true,true,true,true,true,true,true,true,false,false,false,false,false,false,false,false,false,false,false,false,false] rfl rfl (aC HT_.out (by kernel_rfl)) (fun _ _ _ h=>h) (Or.inl ⟨by rfl,?_⟩) ?_ ?_
              rotate_left
              ·intro w'
               go_simp
               with_reducible rfl
              rotate_left
              ·simp only[apu_]
               rfl
              refine aD (i:=9) (N:=some 41) (v:=?_) (a':=?_) #[true,true,true,true,true,true,true,true,true,true,false,false,false,false,false,false,false,false,false,false,false,false] rfl rfl (aC HT_.out (by kernel_rfl)) (fun _ _ _ h=>h) (Or.inl ⟨by rfl,?_⟩) ?_ ?_
              rotate_left
              ·intro w'
               go_simp
               with_reducible rfl
              rotate_left
              ·simp only[apu_]
               rfl
              refine aD (i:=10) (N:=some 42) (v:=?_) (a':=?_) #[true,true,true,true,true,true,true,true,true,true,true,false,false,false,false,false,false,false,false,false,false,false] rfl rfl (aC HT_.out (by kernel_rfl)) (fun _ _ _ h=>h) (Or.inl ⟨by rfl,?_⟩) ?_ ?_
              rotate_left
              ·intro w'
               go_simp
               with_reducible rfl
              rotate_left
              ·simp only[apu_]
               rfl
              refine aD (i:=12) (N:=some 44) (v:=?_) (a':=?_) #[true,true,true,true,true,true,true,true,true,true,true,false,true,false,false,false,false,false,false,false,false,false] rfl rfl (aC HT_.out (by kernel_rfl)) (fun _ _ _ h=>h) (Or.inl ⟨by rfl,?_⟩) ?_ ?_
              rotate_left
              ·intro w'
               go_simp
               with_reducible rfl
              rotate_left
              ·simp only[apu_]
               rfl
              refine aD (i:=14) (N:=some 46) (v:=?_) (a':=?_) #[true,true,true,true,true,true,true,true,true,true,true,false,true,false,true,false,false,false,false,false,false,false] rfl rfl (aC HT_.out (by kernel_rfl)) (fun _ _ _ h=>h) (Or.inl ⟨by rfl,?_⟩) ?_ ?_
              rotate_left
              ·intro w'
               go_simp
               with_reducible rfl
              rotate_left
              ·simp only[apu_]
               rfl
              refine aD (i:=15) (N:=some 47) (v:=?_) (a':=?_) #[true,true,true,true,true,true,true,true,true,true,true,false,true,false,true,true,false,false,false,false,false,false] rfl rfl (aC HT_.out (by kernel_rfl)) (fun _ _ _ h=>h) (Or.inl ⟨by rfl,?_⟩) ?_ ?_
              rotate_left
              ·intro w'
               go_simp
               with_reducible rfl
              rotate_left
              ·simp only[apu_]
               rfl
              refine aZ (i:=11) (N:=some 43) (v:=?_) (a':=?_) #[true,true,true,true,true,true,true,true,true,true,true,true,true,false,true,true,false,false,false,false,false,false] rfl rfl (aT HT_.out HW_.out (by kernel_rfl)) (fun _ _ _ h=>h) (Or.inl ⟨by rfl,?_⟩) hHeld ?_ ?_
              rotate_left
              ·rintro w' ⟨s0,s1,s2,s3,s4,s5,s6,s7,s8,s9,s10⟩
               go_simp
               with_reducible rfl
              rotate_left
              ·simp only[apu_]
               rfl
              refine aZ (i:=13) (N:=some 45) (v:=?_) (a':=?_) #[true,true,true,true,true,true,true,true,true,true,true,true,true,true,true,true,false,false,false,false,false,false] rfl rfl (aT HT_.out HW_.out (by kernel_rfl)) (fun _ _ _ h=>h) (Or.inl ⟨by rfl,?_⟩) hHeld ?_ ?_
              rotate_left
              ·rintro w' ⟨s0,s1,s2,s3,s4,s5,s6,s7,s8,s9,s10⟩
               go_simp
               with_reducible rfl
              rotate_left
              ·simp only[apu_]
               rfl
              refine aD (i:=16) (N:=some 48) (v:=?_) (a':=?_) #[true,true,true,true,true,true,true,true,true,true,true,true,true,true,true,true,true,false,false,false,false,false] rfl rfl (aC HT_.out (by kernel_rfl)) (fun _ _ _ h=>h) (Or.inl ⟨by rfl,?_⟩) ?_ ?_
              rotate_left
              ·intro w'
               go_simp
               with_reducible rfl
              rotate_left
              ·simp only[apu_]
               rfl
              refine aD (i:=17) (N:=some 49) (v:=?_) (a':=?_) #[true,true,true,true,true,true,true,true,true,true,true,true,true,true,true,true,true,true,false,false,false,false] rfl rfl (aC HT_.out (by kernel_rfl)) (fun _ _ _ h=>h) (Or.inl ⟨by rfl,?_⟩) ?_ ?_
              rotate_left
              ·intro w'
               go_simp
               with_reducible rfl
              rotate_left
              ·simp only[apu_]
               rfl
              refine aZ (i:=18) (N:=some 50) (v:=?_) (a':=?_) #[true,true,true,true,true,true,true,true,true,true,true,true,true,true,true,true,true,true,true,false,false,false] rfl rfl (aT HT_.out HW_.out (by kernel_rfl)) (fun _ _ _ h=>h) (Or.inl ⟨by rfl,?_⟩) hHeld ?_ ?_
              rotate_left
              ·rintro w' ⟨s0,s1,s2,s3,s4,s5,s6,s7,s8,s9,s10⟩
               go_simp
               with_reducible rfl
              rotate_left
              ·simp only[apu_]
               rfl
              refine aD (i:=19) (N:=some 51) (v:=?_) (a':=?_) #[true,true,true,true,true,true,true,true,true,true,true,true,true,true,true,true,true,true,true,true,false,false] rfl rfl (aC HT_.out (by kernel_rfl)) (fun _ _ _ h=>h) (Or.inl ⟨by rfl,?_⟩) ?_ ?_
              rotate_left
              ·intro w'
               go_simp
               with_reducible rfl
              rotate_left
              ·simp only[apu_]
               rfl
              refine aD (i:=20) (N:=some 52) (v:=?_) (a':=?_) #[true,true,true,true,true,true,true,true,true,true,true,true,true,true,true,true,true,true,true,true,true,false] rfl rfl (aC HT_.out (by kernel_rfl)) (fun _ _ _ h=>h) (Or.inl ⟨by rfl,?_⟩) ?_ ?_
              rotate_left
              ·intro w'
               go_simp
               with_reducible rfl
              rotate_left
              ·simp only[apu_]
               rfl
              refine aD (i:=21) (N:=some 53) (v:=?_) (a':=?_) #[true,true,true,true,true,true,true,true,true,true,true,true,true,true,true,true,true,true,true,true,true,true] rfl rfl (aC HT_.out (by kernel_rfl)) (fun _ _ _ h=>h) (Or.inl ⟨by rfl,?_⟩) ?_ ?_
              rotate_left
              ·intro w'
               go_simp
               with_reducible rfl
              rotate_left
              ·simp only[apu_]
               rfl
              refine cu (bK HT_.out (by kernel_rfl)) ?_
              try go_wp2
              go_roundg k2
              case measure=>have:=HJ1.out;have:=HK2.out;omega
              case rel=>exact⟨(wrap64 (x27_2+1)),(by first|rfl|(simp;done)|(simp[*];done)),H',⟨by have:=HJ1.out;have:=HK2.out;omega⟩,⟨by(with_reducible repeat(first|apply aj|apply au|apply ak));exact BK307.out⟩,⟨by with_reducible repeat(first|exact HB.out|apply af|apply aa|apply ae|refine ai ?_ GE307.out|refine ai ?_ GE311.out)⟩⟩
             ·rw[if_neg c27] at H
              have c27b0:(Op.bytesLess (((az l0_4 (ji24)).f0).toList) (((az l0_4 x27_2).f0).toList))=false:=by simpa using c27
              clear c27
              obtain rfl:=Option.some.inj H
              have p310:0≤(x27_2:Int):=of_decide_eq_true (by assumption)
              have q310:x27_2 < (l0_4.length:Int):=of_decide_eq_true (by assumption)
              obtain⟨ad310,A310_2,c310_2,e310,hx310_0,hx310_1,hx310_2,hl310_2,hi310_2⟩:=dQ HR0_4.out x27_2 p310 q310
              cases e310
              replace hx310_0:=(HB.out.cell (World.block_lt_of_cell? w _ hx310_0)).trans hx310_0
              replace hx310_1:=(HB.out.cell (World.block_lt_of_cell? w _ hx310_1)).trans hx310_1
              replace hx310_2:=(HB.out.cell (World.block_lt_of_cell? w _ hx310_2)).trans hx310_2
              have HR310_2:=av hi310_2
              have HC310_2:=av hl310_2
              clear hi310_2 hl310_2
              replace p310:=eq_true p310
              replace q310:=eq_true q310
              try go_wp2_with (first|((with_reducible refine aJ (N:=4) rfl ?_);(try(refine bu (by rfl) ?_;dsimp only));refine aI ?hg (N:=4) ?hd (cs:=#[.string (⟨#[]⟩:ByteArray),.int .i64 0,.slice none 0 0]) (t:=47) ?hr ?_;(case hd=>rfl);(case hg=>rfl);(case hr=>first|(go_simp;done)|(go_simp;rfl));intro gb311 hg w34 hbox hb;have BK311:=av (hbox);have GW311:=av ((by rw[hg];exact(ay (by with_reducible repeat(first|exact HB.out|apply af|apply aa|apply ae|refine ai ?_ GE307.out))):w.heap.size≤gb311));have GE311:=av ((by rw[hg];exact(ay (by with_reducible repeat(first|exact HB.out|apply af|apply aa|apply ae|refine ai ?_ GE307.out))):w.heap.size≤gb311));replace HB:=av (aA (by with_reducible repeat(first|exact HB.out|apply af|apply aa|apply ae|refine ai ?_ GE307.out)) hb);have NB307_311:=av ((by rw[hg];exact Nat.ne_of_lt (aN (g:=gb307) (o:=.cells #[.int .i64 a0_0,.int .i64 a0_1,.slice A0_2 l0_2.length c0_2,.slice A0_3 l0_3.length c0_3,.slice (some ad310) l0_4.length c0_4] 35 (0,0)) (by(with_reducible repeat(first|apply aj|apply au|apply ak));exact BK307.out)):gb307≠gb311));have NB311_307:=av ((by rw[hg];exact Nat.ne_of_gt (aN (g:=gb307) (o:=.cells #[.int .i64 a0_0,.int .i64 a0_1,.slice A0_2 l0_2.length c0_2,.slice A0_3 l0_3.length c0_3,.slice (some ad310) l0_4.length c0_4] 35 (0,0)) (by(with_reducible repeat(first|apply aj|apply au|apply ak));exact BK307.out)):gb311≠gb307));replace BK307:=av (aG (g:=gb307) (o:=.cells #[.int .i64 a0_0,.int .i64 a0_1,.slice A0_2 l0_2.length c0_2,.slice A0_3 l0_3.length c0_3,.slice (some ad310) l0_4.length c0_4] 35 (0,0)) (by(with_reducible repeat(first|apply aj|apply au|apply ak));exact BK307.out) hb);clear hb hbox hg;have hnb35:=NB311_307.out;have hnc35:=NB307_311.out;have hcz36_0:w34.cell? ⟨gb311,0,none⟩=some (.string (⟨#[]⟩:ByteArray)):=(ag BK311.out 0).trans rfl;have hcz36_1:w34.cell? ⟨gb311,1,none⟩=some (.int .i64 0):=(ag BK311.out 1).trans rfl;have hcz36_2:w34.cell? ⟨gb311,2,none⟩=some (.slice none 0 0):=(ag BK311.out 2).trans rfl;have hfz36_0:=ah BK311.out 0;have hfz36_1:=ah BK311.out 1;have hfz36_2:=ah BK311.out 2))
              have n0_:Aside0 ((((w34.setCell ⟨gb311,0,none⟩ (.string ((az l0_4 x27_2).f0))).setCell ⟨gb311,1,none⟩ (.int .i64 ((az l0_4 x27_2).f1))).setCell ⟨gb311,2,none⟩ (.slice A310_2 ((az l0_4 x27_2).f2.f0).length c310_2)).heap[gb307]? = some (.cells #[.int .i64 a0_0,.int .i64 a0_1,.slice A0_2 l0_2.length c0_2,.slice A0_3 l0_3.length c0_3,.slice (some ad310) l0_4.length c0_4] 35 (0,0))):=⟨by(with_reducible repeat(first|apply aj|apply au|apply ak));refine aU ?_ NB307_311.out _;(with_reducible repeat(first|apply aj|apply au|apply ak));refine aU ?_ NB307_311.out _;(with_reducible repeat(first|apply aj|apply au|apply ak));refine aU ?_ NB307_311.out _;(with_reducible repeat(first|apply aj|apply au|apply ak));exact BK307.out⟩
              have n1_:Aside0 ((((w34.setCell ⟨gb311,0,none⟩ (.string ((az l0_4 x27_2).f0))).setCell ⟨gb311,1,none⟩ (.int .i64 ((az l0_4 x27_2).f1))).setCell ⟨gb311,2,none⟩ (.slice A310_2 ((az l0_4 x27_2).f2.f0).length c310_2)).heap[gb311]? = some (.cells #[.string ((az l0_4 x27_2).f0),.int .i64 ((az l0_4 x27_2).f1),.slice A310_2 ((az l0_4 x27_2).f2.f0).length c310_2] 47 (0,0))):=⟨by(with_reducible repeat(first|apply aj|apply au|apply ak));refine aX (cs:=#[.string ((az l0_4 x27_2).f0),.int .i64 ((az l0_4 x27_2).f1),.slice none 0 0]) ?_ 2 _ rfl;(with_reducible repeat(first|apply aj|apply au|apply ak));refine aX (cs:=#[.string ((az l0_4 x27_2).f0),.int .i64 0,.slice none 0 0]) ?_ 1 _ rfl;(with_reducible repeat(first|apply aj|apply au|apply ak));refine aX (cs:=#[.string (⟨#[]⟩:ByteArray),.int .i64 0,.slice none 0 0]) ?_ 0 _ rfl;(with_reducible repeat(first|apply aj|apply au|apply ak));exact BK311.out⟩
              have n2_:Aside0 (Below w.heap.size w (((w34.setCell ⟨gb311,0,none⟩ (.string ((az l0_4 x27_2).f0))).setCell ⟨gb311,1,none⟩ (.int .i64 ((az l0_4 x27_2).f1))).setCell ⟨gb311,2,none⟩ (.slice A310_2 ((az l0_4 x27_2).f2.f0).length c310_2))):=⟨by with_reducible repeat(first|exact HB.out|apply af|apply aa|apply ae|refine ai ?_ GE307.out|refine ai ?_ GE311.out)⟩
              (try clear BK307)
              (try clear BK311)
              (try clear HB)
              generalize (((w34.setCell ⟨gb311,0,none⟩ (.string ((az l0_4 x27_2).f0))).setCell ⟨gb311,1,none⟩ (.int .i64 ((az l0_4 x27_2).f1))).setCell ⟨gb311,2,none⟩ (.slice A310_2 ((az l0_4 x27_2).f2.f0).length c310_2))=w37 at n0_ n1_ n2_ ⊢
              have BK307:=n0_
              have BK311:=n1_
              have HB:=n2_
              clear n0_ n1_ n2_
              have n0_:=av (au BK307.out)
              have n1_:=av (au BK311.out)
              have n2_:=av (ae HB.out)
              clear BK307
              clear BK311
              clear HB
              have BK307:=n0_
              have BK311:=n1_
              have HB:=n2_
              clear n0_ n1_ n2_
              have p313:0≤((ji24):Int):=of_decide_eq_true (by assumption)
              have q313:(ji24) < (l0_4.length:Int):=of_decide_eq_true (by assumption)
              obtain⟨ad313,A313_2,c313_2,e313,hx313_0,hx313_1,hx313_2,hl313_2,hi313_2⟩:=dQ HR0_4.out (ji24) p313 q313
              have hw313_2:=hx313_2
              have hw313_1:=hx313_1
              have hw313_0:=hx313_0
              obtain rfl:ad310=ad313:=(by injection e313)
              replace hx313_0:=(HB.out.cell (World.block_lt_of_cell? w _ hx313_0)).trans hx313_0
              replace hx313_1:=(HB.out.cell (World.block_lt_of_cell? w _ hx313_1)).trans hx313_1
              replace hx313_2:=(HB.out.cell (World.block_lt_of_cell? w _ hx313_2)).trans hx313_2
              have HR313_2:=av hi313_2
              have HC313_2:=av hl313_2
              clear hi313_2 hl313_2
              replace p313:=eq_true p313
              replace q313:=eq_true q313
              refine bJ (n:=22) (S:=fun w'=>w'.cell? ⟨gb311,0,none⟩=some (.string ((az l0_4 x27_2).f0))∧w'.cell? ⟨gb311,1,none⟩=some (.int .i64 ((az l0_4 x27_2).f1))∧w'.cell? ⟨gb311,2,none⟩=some (.slice A310_2 ((az l0_4 x27_2).f2.f0).length c310_2)∧w'.cell? ⟨gb307,0,none⟩=some (.int .i64 a0_0)∧w'.cell? ⟨gb307,1,none⟩=some (.int .i64 a0_1)∧w'.cell? ⟨gb307,2,none⟩=some (.slice A0_2 l0_2.length c0_2)∧w'.cell? ⟨gb307,3,none⟩=some (.slice A0_3 l0_3.length c0_3)∧w'.cell? ⟨gb307,4,none⟩=some (.slice (some ad310) l0_4.length c0_4)∧w'.cell? (ad310.add (((ji24)).toNat*3))=some (.string ((az l0_4 (ji24)).f0))∧w'.cell? ⟨(ad310.add (((ji24)).toNat*3)).block,(ad310.add (((ji24)).toNat*3)).off+1,none⟩=some (.int .i64 ((az l0_4 (ji24)).f1))∧w'.cell? ⟨(ad310.add (((ji24)).toNat*3)).block,(ad310.add (((ji24)).toNat*3)).off+2,none⟩=some (.slice A313_2 ((az l0_4 (ji24)).f2.f0).length c313_2)) (ds:=[]) #[false,false,false,false,false,false,false,false,false,false,false,false,false,false,false,false,false,false,false,false,false,false] (by kernel_rfl) rfl rfl ⟨(ag BK311.out 0).trans rfl,(ag BK311.out 1).trans rfl,(ag BK311.out 2).trans rfl,(ag BK307.out 0).trans rfl,(ag BK307.out 1).trans rfl,(ag BK307.out 2).trans rfl,(ag BK307.out 3).trans rfl,(ag BK307.out 4).trans rfl,((HB.out.cell (World.block_lt_of_cell? w _ hw313_0)).trans hw313_0),((HB.out.cell (World.block_lt_of_cell? w _ hw313_1)).trans hw313_1),((HB.out.cell (World.block_lt_of_cell? w _ hw313_2)).trans hw313_2)⟩ (fun hHeld=>?_);refine bz impl_GoodSystem.tab6 impl_GoodSystem.bits6 (fun HT_ HW_=>?_)
              generalize w37.drew=w38 at BK307 BK311 HB HR313_2 hx313_0 hx313_1 hx313_2 hHeld ⊢
              refine aD (i:=1) (N:=some 33) (v:=?_) (a':=?_) #[false,true,false,false,false,false,false,false,false,false,false,false,false,false,false,false,false,false,false,false,false,false] rfl rfl (aC HT_.out (by kernel_rfl)) (fun _ _ _ h=>h) (Or.inl ⟨by rfl,?_⟩) ?_ ?_
              rotate_left
              ·intro w'
               go_simp
               with_reducible rfl
              rotate_left
              ·simp only[apu_]
               rfl
              refine aD (i:=2) (N:=some 34) (v:=?_) (a':=?_) #[false,true,true,false,false,false,false,false,false,false,false,false,false,false,false,false,false,false,false,false,false,false] rfl rfl (aC HT_.out (by kernel_rfl)) (fun _ _ _ h=>h) (Or.inl ⟨by rfl,?_⟩) ?_ ?_
              rotate_left
              ·intro w'
               go_simp
               with_reducible rfl
              rotate_left
              ·simp only[apu_]
               rfl
              refine aZ (i:=0) (N:=some 32) (v:=?_) (a':=?_) #[true,true,true,false,false,false,false,false,false,false,false,false,false,false,false,false,false,false,false,false,false,false] rfl rfl (aT HT_.out HW_.out (by kernel_rfl)) (fun _ _ _ h=>h) (Or.inl ⟨by rfl,?_⟩) hHeld ?_ ?_
              rotate_left
              ·rintro w' ⟨s0,s1,s2,s3,s4,s5,s6,s7,s8,s9,s10⟩
               go_simp
               with_reducible rfl
              rotate_left
              ·simp only[apu_]
               rfl
              refine aZ (i:=3) (N:=some 35) (v:=?_) (a':=?_) #[true,true,true,true,false,false,false,false,false,false,false,false,false,false,false,false,false,false,false,false,false,false] rfl rfl (aT HT_.out HW_.out (by kernel_rfl)) (fun _ _ _ h=>h) (Or.inl ⟨by rfl,?_⟩) hHeld ?_ ?_
              rotate_left
              ·rintro w' ⟨s0,s1,s2,s3,s4,s5,s6,s7,s8,s9,s10⟩
               go_simp
               with_reducible rfl
              rotate_left
              ·simp only[apu_]
               rfl
              refine di (i:=4) (N:=some 36) #[true,true,true,true,true,false,false,false,false,false,false,false,false,false,false,false,false,false,false,false,false,false] rfl rfl (bW HT_.out (by kernel_rfl)) (by decide) (fun K hK=>?_)
              refine bU Tryd.func19 (by kernel_rfl) rfl #[.agg #[.string ((az l0_4 x27_2).f0),.int .i64 ((az l0_4 x27_2).f1),.slice A310_2 ((az l0_4 x27_2).f2.f0).length c310_2],.int .i64 a0_1] (by rfl) rfl rfl (by(try simp only[amp_]);first|done|rfl|(simp only[ald_];rfl)) ?_
              with_reducible refine(impl_isHeld.calls ((az l0_4 x27_2).f0) ((az l0_4 x27_2).f1) _ _ ((az l0_4 x27_2).f2.f0) a0_1 true _ ?side1 ?side2 A21.out).mono ?_
              (case side1=>repeat(first|exact(Kd.aQ HR310_2.out HB.out)|(with_reducible first|apply Kd.aW|apply Kd.aV|apply Kd.aY)))
              (case side2=>exact HC310_2.out)
              rintro e w39 ⟨rfl,hb⟩
              refine⟨_,rfl,?_⟩
              have n0_:=av (aG (g:=gb307) (o:=.cells #[.int .i64 a0_0,.int .i64 a0_1,.slice A0_2 l0_2.length c0_2,.slice A0_3 l0_3.length c0_3,.slice (some ad310) l0_4.length c0_4] 35 (0,0)) (by(with_reducible repeat(first|apply aj|apply au|apply ak));exact BK307.out) hb)
              have n1_:=av (aG (g:=gb311) (o:=.cells #[.string ((az l0_4 x27_2).f0),.int .i64 ((az l0_4 x27_2).f1),.slice A310_2 ((az l0_4 x27_2).f2.f0).length c310_2] 47 (0,0)) (by(with_reducible repeat(first|apply aj|apply au|apply ak));exact BK311.out) hb)
              have n2_:=av (aA (by with_reducible repeat(first|exact HB.out|apply af|apply aa|apply ae|refine ai ?_ GE307.out|refine ai ?_ GE311.out)) hb)
              clear BK307
              clear BK311
              clear HB
              have BK307:=n0_
              have BK311:=n1_
              have HB:=n2_
              clear n0_ n1_ n2_
              (try clear hb)
              (try clear hb2)
              (try clear hk)
              (try clear hi)
              refine hK.out _ _ ⟨(ag BK311.out 0).trans rfl,(ag BK311.out 1).trans rfl,(ag BK311.out 2).trans rfl,(ag BK307.out 0).trans rfl,(ag BK307.out 1).trans rfl,(ag BK307.out 2).trans rfl,(ag BK307.out 3).trans rfl,(ag BK307.out 4).trans rfl,((HB.out.cell (World.block_lt_of_cell? w _ hw313_0)).trans hw313_0),((HB.out.cell (World.block_lt_of_cell? w _ hw313_1)).trans hw313_1),((HB.out.cell (World.block_lt_of_cell? w _ hw313_2)).trans hw313_2)⟩ (fun hHeld=>?_)
              clear hK K
              refine bS (a':=?_) ?_ ?_
              rotate_left
              ·show Act.put _ (some 36) _=_
               simp only[apu_]
               rfl
              refine aD (i:=5) (N:=some 37) (v:=?_) (a':=?_) #[true,true,true,true,true,true,false,false,false,false,false,false,false,false,false,false,false,false,false,false,false,false] rfl rfl (aC HT_.out (by kernel_rfl)) (fun _ _ _ h=>h) (Or.inl ⟨by rfl,?_⟩) ?_ ?_
              rotate_left
              ·intro w'
               go_simp
               with_reducible rfl
              rotate_left
              ·simp only[apu_]
               rfl
              refine aD (i:=6) (N:=some 38) (v:=?_) (a':=?_) #[true,true,true,true,true,true,true,false,false,false,false,false,false,false,false,false,false,false,false,false,false,false] rfl rfl (aC HT_.out (by kernel_rfl)) (fun _ _ _ h=>h) (Or.inl ⟨by rfl,?_⟩) ?_ ?_
              rotate_left
              ·intro w'
               go_simp
               with_reducible rfl
              rotate_left
              ·simp only[apu_]
               rfl
              refine aD (i:=7) (N:=some 39) (v:=?_) (a':=?_) #[true,true,true,true,true,true,true,true,false,false,false,false,false,false,false,false,false,false,false,false,false,false] rfl rfl (aC HT_.out (by kernel_rfl)) (fun _ _ _ h=>h) (Or.inl ⟨by rfl,?_⟩) ?_ ?_
              rotate_left
              ·intro w'
               go_simp
               with_reducible rfl
              rotate_left
              ·simp only[apu_]
               rfl
              refine aD (i:=8) (N:=some 40) (v:=?_) (a':=?_) #[true,true,true,true,true,true,true,true,true,false,false,false,false,false,false,false,false,false,false,false,false,false] rfl rfl (aC HT_.out (by kernel_rfl)) (fun _ _ _ h=>h) (Or.inl ⟨by rfl,?_⟩) ?_ ?_
              rotate_left
              ·intro w'
               go_simp
               with_reducible rfl
              rotate_left
              ·simp only[apu_]
               rfl
              refine aD (i:=9) (N:=some 41) (v:=?_) (a':=?_) #[true,true,true,true,true,true,true,true,true,true,false,false,false,false,false,false,false,false,false,false,false,false] rfl rfl (aC HT_.out (by kernel_rfl)) (fun _ _ _ h=>h) (Or.inl ⟨by rfl,?_⟩) ?_ ?_
              rotate_left
              ·intro w'
               go_simp
               with_reducible rfl
              rotate_left
              ·simp only[apu_]
               rfl
              refine aD (i:=10) (N:=some 42) (v:=?_) (a':=?_) #[true,true,true,true,true,true,true,true,true,true,true,false,false,false,false,false,false,false,false,false,false,false] rfl rfl (aC HT_.out (by kernel_rfl)) (fun _ _ _ h=>h) (Or.inl ⟨by rfl,?_⟩) ?_ ?_
              rotate_left
              ·intro w'
               go_simp
               with_reducible rfl
              rotate_left
              ·simp only[apu_]
               rfl
              refine aD (i:=12) (N:=some 44) (v:=?_) (a':=?_) #[true,true,true,true,true,true,true,true,true,true,true,false,true,false,false,false,false,false,false,false,false,false] rfl rfl (aC HT_.out (by kernel_rfl)) (fun _ _ _ h=>h) (Or.inl ⟨by rfl,?_⟩) ?_ ?_
              rotate_left
              ·intro w'
               go_simp
               with_reducible rfl
              rotate_left
              ·simp only[apu_]
               rfl
              refine aD (i:=14) (N:=some 46) (v:=?_) (a':=?_) #[true,true,true,true,true,true,true,true,true,true,true,false,true,false,true,false,false,false,false,false,false,false] rfl rfl (aC HT_.out (by kernel_rfl)) (fun _ _ _ h=>h) (Or.inl ⟨by rfl,?_⟩) ?_ ?_
              rotate_left
              ·intro w'
               go_simp
               with_reducible rfl
              rotate_left
              ·simp only[apu_]
               rfl
              refine aD (i:=15) (N:=some 47) (v:=?_) (a':=?_) #[true,true,true,true,true,true,true,true,true,true,true,false,true,false,true,true,false,false,false,false,false,false] rfl rfl (aC HT_.out (by kernel_rfl)) (fun _ _ _ h=>h) (Or.inl ⟨by rfl,?_⟩) ?_ ?_
              rotate_left
              ·intro w'
               go_simp
               with_reducible rfl
              rotate_left
              ·simp only[apu_]
               rfl
              refine aZ (i:=11) (N:=some 43) (v:=?_) (a':=?_) #[true,true,true,true,true,true,true,true,true,true,true,true,true,false,true,true,false,false,false,false,false,false] rfl rfl (aT HT_.out HW_.out (by kernel_rfl)) (fun _ _ _ h=>h) (Or.inl ⟨by rfl,?_⟩) hHeld ?_ ?_
              rotate_left
              ·rintro w' ⟨s0,s1,s2,s3,s4,s5,s6,s7,s8,s9,s10⟩
               go_simp
               with_reducible rfl
              rotate_left
              ·simp only[apu_]
               rfl
              refine aZ (i:=13) (N:=some 45) (v:=?_) (a':=?_) #[true,true,true,true,true,true,true,true,true,true,true,true,true,true,true,true,false,false,false,false,false,false] rfl rfl (aT HT_.out HW_.out (by kernel_rfl)) (fun _ _ _ h=>h) (Or.inl ⟨by rfl,?_⟩) hHeld ?_ ?_
              rotate_left
              ·rintro w' ⟨s0,s1,s2,s3,s4,s5,s6,s7,s8,s9,s10⟩
               go_simp
               with_reducible rfl
              rotate_left
              ·simp only[apu_]
               rfl
              refine aD (i:=16) (N:=some 48) (v:=?_) (a':=?_) #[true,true,true,true,true,true,true,true,true,true,true,true,true,true,true,true,true,false,false,false,false,false] rfl rfl (aC HT_.out (by kernel_rfl)) (fun _ _ _ h=>h) (Or.inl ⟨by rfl,?_⟩) ?_ ?_
              rotate_left
              ·intro w'
               go_simp
               with_reducible rfl
              rotate_left
              ·simp only[apu_]
               rfl
              refine aD (i:=17) (N:=some 49) (v:=?_) (a':=?_) #[true,true,true,true,true,true,true,true,true,true,true,true,true,true,true,true,true,true,false,false,false,false] rfl rfl (aC HT_.out (by kernel_rfl)) (fun _ _ _ h=>h) (Or.inl ⟨by rfl,?_⟩) ?_ ?_
              rotate_left
              ·intro w'
               go_simp
               with_reducible rfl
              rotate_left
              ·simp only[apu_]
               rfl
              refine aZ (i:=18) (N:=some 50) (v:=?_) (a':=?_) #[true,true,true,true,true,true,true,true,true,true,true,true,true,true,true,true,true,true,true,false,false,false] rfl rfl (aT HT_.out HW_.out (by kernel_rfl)) (fun _ _ _ h=>h) (Or.inl ⟨by rfl,?_⟩) hHeld ?_ ?_
              rotate_left
              ·rintro w' ⟨s0,s1,s2,s3,s4,s5,s6,s7,s8,s9,s10⟩
               go_simp
               with_reducible rfl
              rotate_left
              ·simp only[apu_]
               rfl
              refine aD (i:=19) (N:=some 51) (v:=?_) (a':=?_) #[true,true,true,true,true,true,true,true,true,true,true,true,true,true,true,true,true,true,true,true,false,false] rfl rfl (aC HT_.out (by kernel_rfl)) (fun _ _ _ h=>h) (Or.inl ⟨by rfl,?_⟩) ?_ ?_
              rotate_left
              ·intro w'
               go_simp
               with_reducible rfl
              rotate_left
              ·simp only[apu_]
               rfl
              refine aD (i:=20) (N:=some 52) (v:=?_) (a':=?_) #[true,true,true,true,true,true,true,true,true,true,true,true,true,true,true,true,true,true,true,true,true,false] rfl rfl (aC HT_.out (by kernel_rfl)) (fun _ _ _ h=>h) (Or.inl ⟨by rfl,?_⟩) ?_ ?_
              rotate_left
              ·intro w'
               go_simp
               with_reducible rfl
              rotate_left
              ·simp only[apu_]
               rfl
              refine aD (i:=21) (N:=some 53) (v:=?_) (a':=?_) #[true,true,true,true,true,true,true,true,true,true,true,true,true,true,true,true,true,true,true,true,true,true] rfl rfl (aC HT_.out (by kernel_rfl)) (fun _ _ _ h=>h) (Or.inl ⟨by rfl,?_⟩) ?_ ?_
              rotate_left
              ·intro w'
               go_simp
               with_reducible rfl
              rotate_left
              ·simp only[apu_]
               rfl
              refine cu (bK HT_.out (by kernel_rfl)) ?_
              try go_wp2
              go_ret
              exact⟨by first|rfl|(simp[dD,dG] <;> rfl)|(simp only[← hji24];first|rfl|(simp[dD,dG] <;> rfl))|(simp[*,dD,dG] <;> rfl)|(simp[E.fu];done)|(rw[E.gI]),by with_reducible repeat(first|exact HB.out|apply af|apply aa|apply ae|refine ai ?_ GE307.out|refine ai ?_ GE311.out)⟩
            ·rw[if_neg c26] at H
             exact absurd H (by simp)
           ·rw[if_neg c25] at H
            exact absurd H (by simp)
          ·rw[if_neg c23] at H
           have c23b0:decide (0<x27_2)=false:=decide_eq_false c23
           clear c23
           have H':=av H
           clear H
           have p310:0≤(x27_2:Int):=of_decide_eq_true (by assumption)
           have q310:x27_2 < (l0_4.length:Int):=of_decide_eq_true (by assumption)
           obtain⟨ad310,A310_2,c310_2,e310,hx310_0,hx310_1,hx310_2,hl310_2,hi310_2⟩:=dQ HR0_4.out x27_2 p310 q310
           cases e310
           replace hx310_0:=(HB.out.cell (World.block_lt_of_cell? w _ hx310_0)).trans hx310_0
           replace hx310_1:=(HB.out.cell (World.block_lt_of_cell? w _ hx310_1)).trans hx310_1
           replace hx310_2:=(HB.out.cell (World.block_lt_of_cell? w _ hx310_2)).trans hx310_2
           have HR310_2:=av hi310_2
           have HC310_2:=av hl310_2
           clear hi310_2 hl310_2
           replace p310:=eq_true p310
           replace q310:=eq_true q310
           try go_wp2_with (first|((with_reducible refine aJ (N:=4) rfl ?_);(try(refine bu (by rfl) ?_;dsimp only));refine aI ?hg (N:=4) ?hd (cs:=#[.string (⟨#[]⟩:ByteArray),.int .i64 0,.slice none 0 0]) (t:=47) ?hr ?_;(case hd=>rfl);(case hg=>rfl);(case hr=>first|(go_simp;done)|(go_simp;rfl));intro gb311 hg w40 hbox hb;have BK311:=av (hbox);have GW311:=av ((by rw[hg];exact(ay (by with_reducible repeat(first|exact HB.out|apply af|apply aa|apply ae|refine ai ?_ GE307.out))):w.heap.size≤gb311));have GE311:=av ((by rw[hg];exact(ay (by with_reducible repeat(first|exact HB.out|apply af|apply aa|apply ae|refine ai ?_ GE307.out))):w.heap.size≤gb311));replace HB:=av (aA (by with_reducible repeat(first|exact HB.out|apply af|apply aa|apply ae|refine ai ?_ GE307.out)) hb);have NB307_311:=av ((by rw[hg];exact Nat.ne_of_lt (aN (g:=gb307) (o:=.cells #[.int .i64 a0_0,.int .i64 a0_1,.slice A0_2 l0_2.length c0_2,.slice A0_3 l0_3.length c0_3,.slice (some ad310) l0_4.length c0_4] 35 (0,0)) (by(with_reducible repeat(first|apply aj|apply au|apply ak));exact BK307.out)):gb307≠gb311));have NB311_307:=av ((by rw[hg];exact Nat.ne_of_gt (aN (g:=gb307) (o:=.cells #[.int .i64 a0_0,.int .i64 a0_1,.slice A0_2 l0_2.length c0_2,.slice A0_3 l0_3.length c0_3,.slice (some ad310) l0_4.length c0_4] 35 (0,0)) (by(with_reducible repeat(first|apply aj|apply au|apply ak));exact BK307.out)):gb311≠gb307));replace BK307:=av (aG (g:=gb307) (o:=.cells #[.int .i64 a0_0,.int .i64 a0_1,.slice A0_2 l0_2.length c0_2,.slice A0_3 l0_3.length c0_3,.slice (some ad310) l0_4.length c0_4] 35 (0,0)) (by(with_reducible repeat(first|apply aj|apply au|apply ak));exact BK307.out) hb);clear hb hbox hg;have hnb41:=NB311_307.out;have hnc41:=NB307_311.out;have hcz42_0:w40.cell? ⟨gb311,0,none⟩=some (.string (⟨#[]⟩:ByteArray)):=(ag BK311.out 0).trans rfl;have hcz42_1:w40.cell? ⟨gb311,1,none⟩=some (.int .i64 0):=(ag BK311.out 1).trans rfl;have hcz42_2:w40.cell? ⟨gb311,2,none⟩=some (.slice none 0 0):=(ag BK311.out 2).trans rfl;have hfz42_0:=ah BK311.out 0;have hfz42_1:=ah BK311.out 1;have hfz42_2:=ah BK311.out 2))
           have n0_:Aside0 ((((w40.setCell ⟨gb311,0,none⟩ (.string ((az l0_4 x27_2).f0))).setCell ⟨gb311,1,none⟩ (.int .i64 ((az l0_4 x27_2).f1))).setCell ⟨gb311,2,none⟩ (.slice A310_2 ((az l0_4 x27_2).f2.f0).length c310_2)).heap[gb307]? = some (.cells #[.int .i64 a0_0,.int .i64 a0_1,.slice A0_2 l0_2.length c0_2,.slice A0_3 l0_3.length c0_3,.slice (some ad310) l0_4.length c0_4] 35 (0,0))):=⟨by(with_reducible repeat(first|apply aj|apply au|apply ak));refine aU ?_ NB307_311.out _;(with_reducible repeat(first|apply aj|apply au|apply ak));refine aU ?_ NB307_311.out _;(with_reducible repeat(first|apply aj|apply au|apply ak));refine aU ?_ NB307_311.out _;(with_reducible repeat(first|apply aj|apply au|apply ak));exact BK307.out⟩
           have n1_:Aside0 ((((w40.setCell ⟨gb311,0,none⟩ (.string ((az l0_4 x27_2).f0))).setCell ⟨gb311,1,none⟩ (.int .i64 ((az l0_4 x27_2).f1))).setCell ⟨gb311,2,none⟩ (.slice A310_2 ((az l0_4 x27_2).f2.f0).length c310_2)).heap[gb311]? = some (.cells #[.string ((az l0_4 x27_2).f0),.int .i64 ((az l0_4 x27_2).f1),.slice A310_2 ((az l0_4 x27_2).f2.f0).length c310_2] 47 (0,0))):=⟨by(with_reducible repeat(first|apply aj|apply au|apply ak));refine aX (cs:=#[.string ((az l0_4 x27_2).f0),.int .i64 ((az l0_4 x27_2).f1),.slice none 0 0]) ?_ 2 _ rfl;(with_reducible repeat(first|apply aj|apply au|apply ak));refine aX (cs:=#[.string ((az l0_4 x27_2).f0),.int .i64 0,.slice none 0 0]) ?_ 1 _ rfl;(with_reducible repeat(first|apply aj|apply au|apply ak));refine aX (cs:=#[.string (⟨#[]⟩:ByteArray),.int .i64 0,.slice none 0 0]) ?_ 0 _ rfl;(with_reducible repeat(first|apply aj|apply au|apply ak));exact BK311.out⟩
           have n2_:Aside0 (Below w.heap.size w (((w40.setCell ⟨gb311,0,none⟩ (.string ((az l0_4 x27_2).f0))).setCell ⟨gb311,1,none⟩ (.int .i64 ((az l0_4 x27_2).f1))).setCell ⟨gb311,2,none⟩ (.slice A310_2 ((az l0_4 x27_2).f2.f0).length c310_2))):=⟨by with_reducible repeat(first|exact HB.out|apply af|apply aa|apply ae|refine ai ?_ GE307.out|refine ai ?_ GE311.out)⟩
           (try clear BK307)
           (try clear BK311)
           (try clear HB)
           generalize (((w40.setCell ⟨gb311,0,none⟩ (.string ((az l0_4 x27_2).f0))).setCell ⟨gb311,1,none⟩ (.int .i64 ((az l0_4 x27_2).f1))).setCell ⟨gb311,2,none⟩ (.slice A310_2 ((az l0_4 x27_2).f2.f0).length c310_2))=w43 at n0_ n1_ n2_ ⊢
           have BK307:=n0_
           have BK311:=n1_
           have HB:=n2_
           clear n0_ n1_ n2_
           have n0_:=av (au BK307.out)
           have n1_:=av (au BK311.out)
           have n2_:=av (ae HB.out)
           clear BK307
           clear BK311
           clear HB
           have BK307:=n0_
           have BK311:=n1_
           have HB:=n2_
           clear n0_ n1_ n2_
           refine bJ (n:=22) (S:=fun w'=>w'.cell? ⟨gb311,0,none⟩=some (.string ((az l0_4 x27_2).f0))∧w'.cell? ⟨gb311,1,none⟩=some (.int .i64 ((az l0_4 x27_2).f1))∧w'.cell? ⟨gb311,2,none⟩=some (.slice A310_2 ((az l0_4 x27_2).f2.f0).length c310_2)∧w'.cell? ⟨gb307,0,none⟩=some (.int .i64 a0_0)∧w'.cell? ⟨gb307,1,none⟩=some (.int .i64 a0_1)∧w'.cell? ⟨gb307,2,none⟩=some (.slice A0_2 l0_2.length c0_2)∧w'.cell? ⟨gb307,3,none⟩=some (.slice A0_3 l0_3.length c0_3)∧w'.cell? ⟨gb307,4,none⟩=some (.slice (some ad310) l0_4.length c0_4)) (ds:=[]) #[false,false,false,false,false,false,false,false,false,false,false,false,false,false,false,false,false,false,false,false,false,false] (by kernel_rfl) rfl rfl ⟨(ag BK311.out 0).trans rfl,(ag BK311.out 1).trans rfl,(ag BK311.out 2).trans rfl,(ag BK307.out 0).trans rfl,(ag BK307.out 1).trans rfl,(ag BK307.out 2).trans rfl,(ag BK307.out 3).trans rfl,(ag BK307.out 4).trans rfl⟩ (fun hHeld=>?_);refine bz impl_GoodSystem.tab6 impl_GoodSystem.bits6 (fun HT_ HW_=>?_)
           generalize w43.drew=w44 at BK307 BK311 HB hHeld ⊢
           refine aD (i:=1) (N:=some 33) (v:=?_) (a':=?_) #[false,true,false,false,false,false,false,false,false,false,false,false,false,false,false,false,false,false,false,false,false,false] rfl rfl (aC HT_.out (by kernel_rfl)) (fun _ _ _ h=>h) (Or.inl ⟨by rfl,?_⟩) ?_ ?_
           rotate_left
           ·intro w'
            go_simp
            with_reducible rfl
           rotate_left
           ·simp only[apu_]
            rfl
           refine aD (i:=2) (N:=some 34) (v:=?_) (a':=?_) #[false,true,true,false,false,false,false,false,false,false,false,false,false,false,false,false,false,false,false,false,false,false] rfl rfl (aC HT_.out (by kernel_rfl)) (fun _ _ _ h=>h) (Or.inl ⟨by rfl,?_⟩) ?_ ?_
           rotate_left
           ·intro w'
            go_simp
            with_reducible rfl
           rotate_left
           ·simp only[apu_]
            rfl
           refine aZ (i:=0) (N:=some 32) (v:=?_) (a':=?_) #[true,true,true,false,false,false,false,false,false,false,false,false,false,false,false,false,false,false,false,false,false,false] rfl rfl (aT HT_.out HW_.out (by kernel_rfl)) (fun _ _ _ h=>h) (Or.inl ⟨by rfl,?_⟩) hHeld ?_ ?_
           rotate_left
           ·rintro w' ⟨s0,s1,s2,s3,s4,s5,s6,s7⟩
            go_simp
            with_reducible rfl
           rotate_left
           ·simp only[apu_]
            rfl
           refine aZ (i:=3) (N:=some 35) (v:=?_) (a':=?_) #[true,true,true,true,false,false,false,false,false,false,false,false,false,false,false,false,false,false,false,false,false,false] rfl rfl (aT HT_.out HW_.out (by kernel_rfl)) (fun _ _ _ h=>h) (Or.inl ⟨by rfl,?_⟩) hHeld ?_ ?_
           rotate_left
           ·rintro w' ⟨s0,s1,s2,s3,s4,s5,s6,s7⟩
            go_simp
            with_reducible rfl
           rotate_left
           ·simp only[apu_]
            rfl
           refine di (i:=4) (N:=some 36) #[true,true,true,true,true,false,false,false,false,false,false,false,false,false,false,false,false,false,false,false,false,false] rfl rfl (bW HT_.out (by kernel_rfl)) (by decide) (fun K hK=>?_)
           refine bU Tryd.func19 (by kernel_rfl) rfl #[.agg #[.string ((az l0_4 x27_2).f0),.int .i64 ((az l0_4 x27_2).f1),.slice A310_2 ((az l0_4 x27_2).f2.f0).length c310_2],.int .i64 a0_1] (by rfl) rfl rfl (by(try simp only[amp_]);first|done|rfl|(simp only[ald_];rfl)) ?_
           with_reducible refine(impl_isHeld.calls ((az l0_4 x27_2).f0) ((az l0_4 x27_2).f1) _ _ ((az l0_4 x27_2).f2.f0) a0_1 true _ ?side1 ?side2 A21.out).mono ?_
           (case side1=>repeat(first|exact(Kd.aQ HR310_2.out HB.out)|(with_reducible first|apply Kd.aW|apply Kd.aV|apply Kd.aY)))
           (case side2=>exact HC310_2.out)
           rintro e w45 ⟨rfl,hb⟩
           refine⟨_,rfl,?_⟩
           have n0_:=av (aG (g:=gb307) (o:=.cells #[.int .i64 a0_0,.int .i64 a0_1,.slice A0_2 l0_2.length c0_2,.slice A0_3 l0_3.length c0_3,.slice (some ad310) l0_4.length c0_4] 35 (0,0)) (by(with_reducible repeat(first|apply aj|apply au|apply ak));exact BK307.out) hb)
           have n1_:=av (aG (g:=gb311) (o:=.cells #[.string ((az l0_4 x27_2).f0),.int .i64 ((az l0_4 x27_2).f1),.slice A310_2 ((az l0_4 x27_2).f2.f0).length c310_2] 47 (0,0)) (by(with_reducible repeat(first|apply aj|apply au|apply ak));exact BK311.out) hb)
           have n2_:=av (aA (by with_reducible repeat(first|exact HB.out|apply af|apply aa|apply ae|refine ai ?_ GE307.out|refine ai ?_ GE311.out)) hb)
           clear BK307
           clear BK311
           clear HB
           have BK307:=n0_
           have BK311:=n1_
           have HB:=n2_
           clear n0_ n1_ n2_
           (try clear hb)
           (try clear hb2)
           (try clear hk)
           (try clear hi)
           refine hK.out _ _ ⟨(ag BK311.out 0).trans rfl,(ag BK311.out 1).trans rfl,(ag BK311.out 2).trans rfl,(ag BK307.out 0).trans rfl,(ag BK307.out 1).trans rfl,(ag BK307.out 2).trans rfl,(ag BK307.out 3).trans rfl,(ag BK307.out 4).trans rfl⟩ (fun hHeld=>?_)
           clear hK K
           refine bS (a':=?_) ?_ ?_
           rotate_left
           ·show Act.put _ (some 36) _=_
            simp only[apu_]
            rfl
           refine aD (i:=5) (N:=some 37) (v:=?_) (a':=?_) #[true,true,true,true,true,true,false,false,false,false,false,false,false,false,false,false,false,false,false,false,false,false] rfl rfl (aC HT_.out (by kernel_rfl)) (fun _ _ _ h=>h) (Or.inl ⟨by rfl,?_⟩) ?_ ?_
           rotate_left
           ·intro w'
            go_simp
            with_reducible rfl
           rotate_left
           ·simp only[apu_]
            rfl
           refine aD (i:=6) (N:=some 38) (v:=?_) (a':=?_) #[true,true,true,true,true,true,true,false,false,false,false,false,false,false,false,false,false,false,false,false,false,false] rfl rfl (aC HT_.out (by kernel_rfl)) (fun _ _ _ h=>h) (Or.inl ⟨by rfl,?_⟩) ?_ ?_
           rotate_left
           ·intro w'
            go_simp
            with_reducible rfl
           rotate_left
           ·simp only[apu_]
            rfl
           refine aD (i:=7) (N:=some 39) (v:=?_) (a':=?_) #[true,true,true,true,true,true,true,true,false,false,false,false,false,false,false,false,false,false,false,false,false,false] rfl rfl (aC HT_.out (by kernel_rfl)) (fun _ _ _ h=>h) (Or.inl ⟨by rfl,?_⟩) ?_ ?_
           rotate_left
           ·intro w'
            go_simp
            with_reducible rfl
           rotate_left
           ·simp only[apu_]
            rfl
           refine aD (i:=8) (N:=some 40) (v:=?_) (a':=?_) #[true,true,true,true,true,true,true,true,true,false,false,false,false,false,false,false,false,false,false,false,false,false] rfl rfl (aC HT_.out (by kernel_rfl)) (fun _ _ _ h=>h) (Or.inl ⟨by rfl,?_⟩) ?_ ?_
           rotate_left
           ·intro w'
            go_simp
            with_reducible rfl
           rotate_left
           ·simp only[apu_]
            rfl
           refine aD (i:=9) (N:=some 41) (v:=?_) (a':=?_) #[true,true,true,true,true,true,true,true,true,true,false,false,false,false,false,false,false,false,false,false,false,false] rfl rfl (aC HT_.out (by kernel_rfl)) (fun _ _ _ h=>h) (Or.inl ⟨by rfl,?_⟩) ?_ ?_
           rotate_left
           ·intro w'
            go_simp
            with_reducible rfl
           rotate_left
           ·simp only[apu_]
            rfl
           refine aD (i:=10) (N:=some 42) (v:=undef) (a':=?_) #[true,true,true,true,true,true,true,true,true,true,true,false,false,false,false,false,false,false,false,false,false,false] rfl rfl (aC HT_.out (by kernel_rfl)) (fun _ _ _ h=>h) (Or.inr ⟨by rfl,rfl⟩) ?_ ?_
           rotate_left
           ·simp only[apu_]
            rfl
           refine aD (i:=11) (N:=some 43) (v:=undef) (a':=?_) #[true,true,true,true,true,true,true,true,true,true,true,true,false,false,false,false,false,false,false,false,false,false] rfl rfl (aC HT_.out (by kernel_rfl)) (fun _ _ _ h=>h) (Or.inr ⟨by rfl,rfl⟩) ?_ ?_
           rotate_left
           ·simp only[apu_]
            rfl
           refine aD (i:=12) (N:=some 44) (v:=undef) (a':=?_) #[true,true,true,true,true,true,true,true,true,true,true,true,true,false,false,false,false,false,false,false,false,false] rfl rfl (aC HT_.out (by kernel_rfl)) (fun _ _ _ h=>h) (Or.inr ⟨by rfl,rfl⟩) ?_ ?_
           rotate_left
           ·simp only[apu_]
            rfl
           refine aD (i:=13) (N:=some 45) (v:=undef) (a':=?_) #[true,true,true,true,true,true,true,true,true,true,true,true,true,true,false,false,false,false,false,false,false,false] rfl rfl (aC HT_.out (by kernel_rfl)) (fun _ _ _ h=>h) (Or.inr ⟨by rfl,rfl⟩) ?_ ?_
           rotate_left
           ·simp only[apu_]
            rfl
           refine aD (i:=14) (N:=some 46) (v:=undef) (a':=?_) #[true,true,true,true,true,true,true,true,true,true,true,true,true,true,true,false,false,false,false,false,false,false] rfl rfl (aC HT_.out (by kernel_rfl)) (fun _ _ _ h=>h) (Or.inr ⟨by rfl,rfl⟩) ?_ ?_
           rotate_left
           ·simp only[apu_]
            rfl
           refine aD (i:=15) (N:=some 47) (v:=undef) (a':=?_) #[true,true,true,true,true,true,true,true,true,true,true,true,true,true,true,true,false,false,false,false,false,false] rfl rfl (aC HT_.out (by kernel_rfl)) (fun _ _ _ h=>h) (Or.inr ⟨by rfl,rfl⟩) ?_ ?_
           rotate_left
           ·simp only[apu_]
            rfl
           refine aD (i:=16) (N:=some 48) (v:=undef) (a':=?_) #[true,true,true,true,true,true,true,true,true,true,true,true,true,true,true,true,true,false,false,false,false,false] rfl rfl (aC HT_.out (by kernel_rfl)) (fun _ _ _ h=>h) (Or.inr ⟨by rfl,rfl⟩) ?_ ?_
           rotate_left
           ·simp only[apu_]
            rfl
           refine aD (i:=17) (N:=some 49) (v:=undef) (a':=?_) #[true,true,true,true,true,true,true,true,true,true,true,true,true,true,true,true,true,true,false,false,false,false] rfl rfl (aC HT_.out (by kernel_rfl)) (fun _ _ _ h=>h) (Or.inr ⟨by rfl,rfl⟩) ?_ ?_
           rotate_left
           ·simp only[apu_]
            rfl
           refine aD (i:=18) (N:=some 50) (v:=undef) (a':=?_) #[true,true,true,true,true,true,true,true,true,true,true,true,true,true,true,true,true,true,true,false,false,false] rfl rfl (aC HT_.out (by kernel_rfl)) (fun _ _ _ h=>h) (Or.inr ⟨by rfl,rfl⟩) ?_ ?_
           rotate_left
           ·simp only[apu_]
            rfl
           refine aD (i:=19) (N:=some 51) (v:=undef) (a':=?_) #[true,true,true,true,true,true,true,true,true,true,true,true,true,true,true,true,true,true,true,true,false,false] rfl rfl (aC HT_.out (by kernel_rfl)) (fun _ _ _ h=>h) (Or.inr ⟨by rfl,rfl⟩) ?_ ?_
           rotate_left
           ·simp only[apu_]
            rfl
           refine aD (i:=20) (N:=some 52) (v:=?_) (a':=?_) #[true,true,true,true,true,true,true,true,true,true,true,true,true,true,true,true,true,true,true,true,true,false] rfl rfl (aC HT_.out (by kernel_rfl)) (fun _ _ _ h=>h) (Or.inl ⟨by rfl,?_⟩) ?_ ?_
           rotate_left
           ·intro w'
            go_simp
            with_reducible rfl
           rotate_left
           ·simp only[apu_]
            rfl
           refine aD (i:=21) (N:=some 53) (v:=?_) (a':=?_) #[true,true,true,true,true,true,true,true,true,true,true,true,true,true,true,true,true,true,true,true,true,true] rfl rfl (aC HT_.out (by kernel_rfl)) (fun _ _ _ h=>h) (Or.inl ⟨by rfl,?_⟩) ?_ ?_
           rotate_left
           ·intro w'
            go_simp
            with_reducible rfl
           rotate_left
           ·simp only[apu_]
            rfl
           refine cu (bK HT_.out (by kernel_rfl)) ?_
           try go_wp2
           go_roundg k2
           case measure=>have:=HJ1.out;have:=HK2.out;omega
           case rel=>exact⟨(wrap64 (x27_2+1)),(by first|rfl|(simp;done)|(simp[*];done)),H',⟨by have:=HJ1.out;have:=HK2.out;omega⟩,⟨by(with_reducible repeat(first|apply aj|apply au|apply ak));exact BK307.out⟩,⟨by with_reducible repeat(first|exact HB.out|apply af|apply aa|apply ae|refine ai ?_ GE307.out|refine ai ?_ GE311.out)⟩⟩
         ·replace c22:=Bool.eq_false_iff.mpr c22
          subst c22
          have H1:(some false)=some r:=by rw[if_neg (show ¬ (false=true) by decide)] at H;exact H
          clear H
          have H:=H1
          clear H1
          obtain rfl:=Option.some.inj H
          have p310:0≤(x27_2:Int):=of_decide_eq_true (by assumption)
          have q310:x27_2 < (l0_4.length:Int):=of_decide_eq_true (by assumption)
          obtain⟨ad310,A310_2,c310_2,e310,hx310_0,hx310_1,hx310_2,hl310_2,hi310_2⟩:=dQ HR0_4.out x27_2 p310 q310
          cases e310
          replace hx310_0:=(HB.out.cell (World.block_lt_of_cell? w _ hx310_0)).trans hx310_0
          replace hx310_1:=(HB.out.cell (World.block_lt_of_cell? w _ hx310_1)).trans hx310_1
          replace hx310_2:=(HB.out.cell (World.block_lt_of_cell? w _ hx310_2)).trans hx310_2
          have HR310_2:=av hi310_2
          have HC310_2:=av hl310_2
          clear hi310_2 hl310_2
          replace p310:=eq_true p310
          replace q310:=eq_true q310
          try go_wp2_with (first|((with_reducible refine aJ (N:=4) rfl ?_);(try(refine bu (by rfl) ?_;dsimp only));refine aI ?hg (N:=4) ?hd (cs:=#[.string (⟨#[]⟩:ByteArray),.int .i64 0,.slice none 0 0]) (t:=47) ?hr ?_;(case hd=>rfl);(case hg=>rfl);(case hr=>first|(go_simp;done)|(go_simp;rfl));intro gb311 hg w46 hbox hb;have BK311:=av (hbox);have GW311:=av ((by rw[hg];exact(ay (by with_reducible repeat(first|exact HB.out|apply af|apply aa|apply ae|refine ai ?_ GE307.out))):w.heap.size≤gb311));have GE311:=av ((by rw[hg];exact(ay (by with_reducible repeat(first|exact HB.out|apply af|apply aa|apply ae|refine ai ?_ GE307.out))):w.heap.size≤gb311));replace HB:=av (aA (by with_reducible repeat(first|exact HB.out|apply af|apply aa|apply ae|refine ai ?_ GE307.out)) hb);have NB307_311:=av ((by rw[hg];exact Nat.ne_of_lt (aN (g:=gb307) (o:=.cells #[.int .i64 a0_0,.int .i64 a0_1,.slice A0_2 l0_2.length c0_2,.slice A0_3 l0_3.length c0_3,.slice (some ad310) l0_4.length c0_4] 35 (0,0)) (by(with_reducible repeat(first|apply aj|apply au|apply ak));exact BK307.out)):gb307≠gb311));have NB311_307:=av ((by rw[hg];exact Nat.ne_of_gt (aN (g:=gb307) (o:=.cells #[.int .i64 a0_0,.int .i64 a0_1,.slice A0_2 l0_2.length c0_2,.slice A0_3 l0_3.length c0_3,.slice (some ad310) l0_4.length c0_4] 35 (0,0)) (by(with_reducible repeat(first|apply aj|apply au|apply ak));exact BK307.out)):gb311≠gb307));replace BK307:=av (aG (g:=gb307) (o:=.cells #[.int .i64 a0_0,.int .i64 a0_1,.slice A0_2 l0_2.length c0_2,.slice A0_3 l0_3.length c0_3,.slice (some ad310) l0_4.length c0_4] 35 (0,0)) (by(with_reducible repeat(first|apply aj|apply au|apply ak));exact BK307.out) hb);clear hb hbox hg;have hnb47:=NB311_307.out;have hnc47:=NB307_311.out;have hcz48_0:w46.cell? ⟨gb311,0,none⟩=some (.string (⟨#[]⟩:ByteArray)):=(ag BK311.out 0).trans rfl;have hcz48_1:w46.cell? ⟨gb311,1,none⟩=some (.int .i64 0):=(ag BK311.out 1).trans rfl;have hcz48_2:w46.cell? ⟨gb311,2,none⟩=some (.slice none 0 0):=(ag BK311.out 2).trans rfl;have hfz48_0:=ah BK311.out 0;have hfz48_1:=ah BK311.out 1;have hfz48_2:=ah BK311.out 2))
          have n0_:Aside0 ((((w46.setCell ⟨gb311,0,none⟩ (.string ((az l0_4 x27_2).f0))).setCell ⟨gb311,1,none⟩ (.int .i64 ((az l0_4 x27_2).f1))).setCell ⟨gb311,2,none⟩ (.slice A310_2 ((az l0_4 x27_2).f2.f0).length c310_2)).heap[gb307]? = some (.cells #[.int .i64 a0_0,.int .i64 a0_1,.slice A0_2 l0_2.length c0_2,.slice A0_3 l0_3.length c0_3,.slice (some ad310) l0_4.length c0_4] 35 (0,0))):=⟨by(with_reducible repeat(first|apply aj|apply au|apply ak));refine aU ?_ NB307_311.out _;(with_reducible repeat(first|apply aj|apply au|apply ak));refine aU ?_ NB307_311.out _;(with_reducible repeat(first|apply aj|apply au|apply ak));refine aU ?_ NB307_311.out _;(with_reducible repeat(first|apply aj|apply au|apply ak));exact BK307.out⟩
          have n1_:Aside0 ((((w46.setCell ⟨gb311,0,none⟩ (.string ((az l0_4 x27_2).f0))).setCell ⟨gb311,1,none⟩ (.int .i64 ((az l0_4 x27_2).f1))).setCell ⟨gb311,2,none⟩ (.slice A310_2 ((az l0_4 x27_2).f2.f0).length c310_2)).heap[gb311]? = some (.cells #[.string ((az l0_4 x27_2).f0),.int .i64 ((az l0_4 x27_2).f1),.slice A310_2 ((az l0_4 x27_2).f2.f0).length c310_2] 47 (0,0))):=⟨by(with_reducible repeat(first|apply aj|apply au|apply ak));refine aX (cs:=#[.string ((az l0_4 x27_2).f0),.int .i64 ((az l0_4 x27_2).f1),.slice none 0 0]) ?_ 2 _ rfl;(with_reducible repeat(first|apply aj|apply au|apply ak));refine aX (cs:=#[.string ((az l0_4 x27_2).f0),.int .i64 0,.slice none 0 0]) ?_ 1 _ rfl;(with_reducible repeat(first|apply aj|apply au|apply ak));refine aX (cs:=#[.string (⟨#[]⟩:ByteArray),.int .i64 0,.slice none 0 0]) ?_ 0 _ rfl;(with_reducible repeat(first|apply aj|apply au|apply ak));exact BK311.out⟩
          have n2_:Aside0 (Below w.heap.size w (((w46.setCell ⟨gb311,0,none⟩ (.string ((az l0_4 x27_2).f0))).setCell ⟨gb311,1,none⟩ (.int .i64 ((az l0_4 x27_2).f1))).setCell ⟨gb311,2,none⟩ (.slice A310_2 ((az l0_4 x27_2).f2.f0).length c310_2))):=⟨by with_reducible repeat(first|exact HB.out|apply af|apply aa|apply ae|refine ai ?_ GE307.out|refine ai ?_ GE311.out)⟩
          (try clear BK307)
          (try clear BK311)
          (try clear HB)
          generalize (((w46.setCell ⟨gb311,0,none⟩ (.string ((az l0_4 x27_2).f0))).setCell ⟨gb311,1,none⟩ (.int .i64 ((az l0_4 x27_2).f1))).setCell ⟨gb311,2,none⟩ (.slice A310_2 ((az l0_4 x27_2).f2.f0).length c310_2))=w49 at n0_ n1_ n2_ ⊢
          have BK307:=n0_
          have BK311:=n1_
          have HB:=n2_
          clear n0_ n1_ n2_
          have n0_:=av (au BK307.out)
          have n1_:=av (au BK311.out)
          have n2_:=av (ae HB.out)
          clear BK307
          clear BK311
          clear HB
          have BK307:=n0_
          have BK311:=n1_
          have HB:=n2_
          clear n0_ n1_ n2_
          refine bJ (n:=22) (S:=fun w'=>w'.cell? ⟨gb311,0,none⟩=some (.string ((az l0_4 x27_2).f0))∧w'.cell? ⟨gb311,1,none⟩=some (.int .i64 ((az l0_4 x27_2).f1))∧w'.cell? ⟨gb311,2,none⟩=some (.slice A310_2 ((az l0_4 x27_2).f2.f0).length c310_2)∧w'.cell? ⟨gb307,0,none⟩=some (.int .i64 a0_0)∧w'.cell? ⟨gb307,1,none⟩=some (.int .i64 a0_1)∧w'.cell? ⟨gb307,2,none⟩=some (.slice A0_2 l0_2.length c0_2)∧w'.cell? ⟨gb307,3,none⟩=some (.slice A0_3 l0_3.length c0_3)∧w'.cell? ⟨gb307,4,none⟩=some (.slice (some ad310) l0_4.length c0_4)) (ds:=[]) #[false,false,false,false,false,false,false,false,false,false,false,false,false,false,false,false,false,false,false,false,false,false] (by kernel_rfl) rfl rfl ⟨(ag BK311.out 0).trans rfl,(ag BK311.out 1).trans rfl,(ag BK311.out 2).trans rfl,(ag BK307.out 0).trans rfl,(ag BK307.out 1).trans rfl,(ag BK307.out 2).trans rfl,(ag BK307.out 3).trans rfl,(ag BK307.out 4).trans rfl⟩ (fun hHeld=>?_);refine bz impl_GoodSystem.tab6 impl_GoodSystem.bits6 (fun HT_ HW_=>?_)
          generalize w49.drew=w50 at BK307 BK311 HB hHeld ⊢
          refine aD (i:=1) (N:=some 33) (v:=?_) (a':=?_) #[false,true,false,false,false,false,false,false,false,false,false,false,false,false,false,false,false,false,false,false,false,false] rfl rfl (aC HT_.out (by kernel_rfl)) (fun _ _ _ h=>h) (Or.inl ⟨by rfl,?_⟩) ?_ ?_
          rotate_left
          ·intro w'
           go_simp
           with_reducible rfl
          rotate_left
          ·simp only[apu_]
           rfl
          refine aD (i:=2) (N:=some 34) (v:=?_) (a':=?_) #[false,true,true,false,false,false,false,false,false,false,false,false,false,false,false,false,false,false,false,false,false,false] rfl rfl (aC HT_.out (by kernel_rfl)) (fun _ _ _ h=>h) (Or.inl ⟨by rfl,?_⟩) ?_ ?_
          rotate_left
          ·intro w'
           go_simp
           with_reducible rfl
          rotate_left
          ·simp only[apu_]
           rfl
          refine aZ (i:=0) (N:=some 32) (v:=?_) (a':=?_) #[true,true,true,false,false,false,false,false,false,false,false,false,false,false,false,false,false,false,false,false,false,false] rfl rfl (aT HT_.out HW_.out (by kernel_rfl)) (fun _ _ _ h=>h) (Or.inl ⟨by rfl,?_⟩) hHeld ?_ ?_
          rotate_left
          ·rintro w' ⟨s0,s1,s2,s3,s4,s5,s6,s7⟩
           go_simp
           with_reducible rfl
          rotate_left
          ·simp only[apu_]
           rfl
          refine aZ (i:=3) (N:=some 35) (v:=?_) (a':=?_) #[true,true,true,true,false,false,false,false,false,false,false,false,false,false,false,false,false,false,false,false,false,false] rfl rfl (aT HT_.out HW_.out (by kernel_rfl)) (fun _ _ _ h=>h) (Or.inl ⟨by rfl,?_⟩) hHeld ?_ ?_
          rotate_left
          ·rintro w' ⟨s0,s1,s2,s3,s4,s5,s6,s7⟩
           go_simp
           with_reducible rfl
          rotate_left
          ·simp only[apu_]
           rfl
          refine di (i:=4) (N:=some 36) #[true,true,true,true,true,false,false,false,false,false,false,false,false,false,false,false,false,false,false,false,false,false] rfl rfl (bW HT_.out (by kernel_rfl)) (by decide) (fun K hK=>?_)
          refine bU Tryd.func19 (by kernel_rfl) rfl #[.agg #[.string ((az l0_4 x27_2).f0),.int .i64 ((az l0_4 x27_2).f1),.slice A310_2 ((az l0_4 x27_2).f2.f0).length c310_2],.int .i64 a0_1] (by rfl) rfl rfl (by(try simp only[amp_]);first|done|rfl|(simp only[ald_];rfl)) ?_
          with_reducible refine(impl_isHeld.calls ((az l0_4 x27_2).f0) ((az l0_4 x27_2).f1) _ _ ((az l0_4 x27_2).f2.f0) a0_1 false _ ?side1 ?side2 A21.out).mono ?_
          (case side1=>repeat(first|exact(Kd.aQ HR310_2.out HB.out)|(with_reducible first|apply Kd.aW|apply Kd.aV|apply Kd.aY)))
          (case side2=>exact HC310_2.out)
          rintro e w51 ⟨rfl,hb⟩
          refine⟨_,rfl,?_⟩
          have n0_:=av (aG (g:=gb307) (o:=.cells #[.int .i64 a0_0,.int .i64 a0_1,.slice A0_2 l0_2.length c0_2,.slice A0_3 l0_3.length c0_3,.slice (some ad310) l0_4.length c0_4] 35 (0,0)) (by(with_reducible repeat(first|apply aj|apply au|apply ak));exact BK307.out) hb)
          have n1_:=av (aG (g:=gb311) (o:=.cells #[.string ((az l0_4 x27_2).f0),.int .i64 ((az l0_4 x27_2).f1),.slice A310_2 ((az l0_4 x27_2).f2.f0).length c310_2] 47 (0,0)) (by(with_reducible repeat(first|apply aj|apply au|apply ak));exact BK311.out) hb)
          have n2_:=av (aA (by with_reducible repeat(first|exact HB.out|apply af|apply aa|apply ae|refine ai ?_ GE307.out|refine ai ?_ GE311.out)) hb)
          clear BK307
          clear BK311
          clear HB
          have BK307:=n0_
          have BK311:=n1_
          have HB:=n2_
          clear n0_ n1_ n2_
          (try clear hb)
          (try clear hb2)
          (try clear hk)
          (try clear hi)
          refine hK.out _ _ ⟨(ag BK311.out 0).trans rfl,(ag BK311.out 1).trans rfl,(ag BK311.out 2).trans rfl,(ag BK307.out 0).trans rfl,(ag BK307.out 1).trans rfl,(ag BK307.out 2).trans rfl,(ag BK307.out 3).trans rfl,(ag BK307.out 4).trans rfl⟩ (fun hHeld=>?_)
          clear hK K
          refine bS (a':=?_) ?_ ?_
          rotate_left
          ·show Act.put _ (some 36) _=_
           simp only[apu_]
           rfl
          refine aD (i:=5) (N:=some 37) (v:=?_) (a':=?_) #[true,true,true,true,true,true,false,false,false,false,false,false,false,false,false,false,false,false,false,false,false,false] rfl rfl (aC HT_.out (by kernel_rfl)) (fun _ _ _ h=>h) (Or.inl ⟨by rfl,?_⟩) ?_ ?_
          rotate_left
          ·intro w'
           go_simp
           with_reducible rfl
          rotate_left
          ·simp only[apu_]
           rfl
          refine aD (i:=6) (N:=some 38) (v:=?_) (a':=?_) #[true,true,true,true,true,true,true,false,false,false,false,false,false,false,false,false,false,false,false,false,false,false] rfl rfl (aC HT_.out (by kernel_rfl)) (fun _ _ _ h=>h) (Or.inl ⟨by rfl,?_⟩) ?_ ?_
          rotate_left
          ·intro w'
           go_simp
           with_reducible rfl
          rotate_left
          ·simp only[apu_]
           rfl
          refine aD (i:=7) (N:=some 39) (v:=undef) (a':=?_) #[true,true,true,true,true,true,true,true,false,false,false,false,false,false,false,false,false,false,false,false,false,false] rfl rfl (aC HT_.out (by kernel_rfl)) (fun _ _ _ h=>h) (Or.inr ⟨by rfl,rfl⟩) ?_ ?_
          rotate_left
          ·simp only[apu_]
           rfl
          refine aD (i:=8) (N:=some 40) (v:=undef) (a':=?_) #[true,true,true,true,true,true,true,true,true,false,false,false,false,false,false,false,false,false,false,false,false,false] rfl rfl (aC HT_.out (by kernel_rfl)) (fun _ _ _ h=>h) (Or.inr ⟨by rfl,rfl⟩) ?_ ?_
          rotate_left
          ·simp only[apu_]
           rfl
          refine aD (i:=9) (N:=some 41) (v:=undef) (a':=?_) #[true,true,true,true,true,true,true,true,true,true,false,false,false,false,false,false,false,false,false,false,false,false] rfl rfl (aC HT_.out (by kernel_rfl)) (fun _ _ _ h=>h) (Or.inr ⟨by rfl,rfl⟩) ?_ ?_
          rotate_left
          ·simp only[apu_]
           rfl
          refine aD (i:=10) (N:=some 42) (v:=undef) (a':=?_) #[true,true,true,true,true,true,true,true,true,true,true,false,false,false,false,false,false,false,false,false,false,false] rfl rfl (aC HT_.out (by kernel_rfl)) (fun _ _ _ h=>h) (Or.inr ⟨by rfl,rfl⟩) ?_ ?_
          rotate_left
          ·simp only[apu_]
           rfl
          refine aD (i:=11) (N:=some 43) (v:=undef) (a':=?_) #[true,true,true,true,true,true,true,true,true,true,true,true,false,false,false,false,false,false,false,false,false,false] rfl rfl (aC HT_.out (by kernel_rfl)) (fun _ _ _ h=>h) (Or.inr ⟨by rfl,rfl⟩) ?_ ?_
          rotate_left
          ·simp only[apu_]
           rfl
          refine aD (i:=12) (N:=some 44) (v:=undef) (a':=?_) #[true,true,true,true,true,true,true,true,true,true,true,true,true,false,false,false,false,false,false,false,false,false] rfl rfl (aC HT_.out (by kernel_rfl)) (fun _ _ _ h=>h) (Or.inr ⟨by rfl,rfl⟩) ?_ ?_
          rotate_left
          ·simp only[apu_]
           rfl
          refine aD (i:=13) (N:=some 45) (v:=undef) (a':=?_) #[true,true,true,true,true,true,true,true,true,true,true,true,true,true,false,false,false,false,false,false,false,false] rfl rfl (aC HT_.out (by kernel_rfl)) (fun _ _ _ h=>h) (Or.inr ⟨by rfl,rfl⟩) ?_ ?_
          rotate_left
          ·simp only[apu_]
           rfl
          refine aD (i:=14) (N:=some 46) (v:=undef) (a':=?_) #[true,true,true,true,true,true,true,true,true,true,true,true,true,true,true,false,false,false,false,false,false,false] rfl rfl (aC HT_.out (by kernel_rfl)) (fun _ _ _ h=>h) (Or.inr ⟨by rfl,rfl⟩) ?_ ?_
          rotate_left
          ·simp only[apu_]
           rfl
          refine aD (i:=15) (N:=some 47) (v:=undef) (a':=?_) #[true,true,true,true,true,true,true,true,true,true,true,true,true,true,true,true,false,false,false,false,false,false] rfl rfl (aC HT_.out (by kernel_rfl)) (fun _ _ _ h=>h) (Or.inr ⟨by rfl,rfl⟩) ?_ ?_
          rotate_left
          ·simp only[apu_]
           rfl
          refine aD (i:=16) (N:=some 48) (v:=undef) (a':=?_) #[true,true,true,true,true,true,true,true,true,true,true,true,true,true,true,true,true,false,false,false,false,false] rfl rfl (aC HT_.out (by kernel_rfl)) (fun _ _ _ h=>h) (Or.inr ⟨by rfl,rfl⟩) ?_ ?_
          rotate_left
          ·simp only[apu_]
           rfl
          refine aD (i:=17) (N:=some 49) (v:=undef) (a':=?_) #[true,true,true,true,true,true,true,true,true,true,true,true,true,true,true,true,true,true,false,false,false,false] rfl rfl (aC HT_.out (by kernel_rfl)) (fun _ _ _ h=>h) (Or.inr ⟨by rfl,rfl⟩) ?_ ?_
          rotate_left
          ·simp only[apu_]
           rfl
          refine aD (i:=18) (N:=some 50) (v:=undef) (a':=?_) #[true,true,true,true,true,true,true,true,true,true,true,true,true,true,true,true,true,true,true,false,false,false] rfl rfl (aC HT_.out (by kernel_rfl)) (fun _ _ _ h=>h) (Or.inr ⟨by rfl,rfl⟩) ?_ ?_
          rotate_left
          ·simp only[apu_]
           rfl
          refine aD (i:=19) (N:=some 51) (v:=undef) (a':=?_) #[true,true,true,true,true,true,true,true,true,true,true,true,true,true,true,true,true,true,true,true,false,false] rfl rfl (aC HT_.out (by kernel_rfl)) (fun _ _ _ h=>h) (Or.inr ⟨by rfl,rfl⟩) ?_ ?_
          rotate_left
          ·simp only[apu_]
           rfl
          refine aD (i:=20) (N:=some 52) (v:=undef) (a':=?_) #[true,true,true,true,true,true,true,true,true,true,true,true,true,true,true,true,true,true,true,true,true,false] rfl rfl (aC HT_.out (by kernel_rfl)) (fun _ _ _ h=>h) (Or.inr ⟨by rfl,rfl⟩) ?_ ?_
          rotate_left
          ·simp only[apu_]
           rfl
          refine aD (i:=21) (N:=some 53) (v:=?_) (a':=?_) #[true,true,true,true,true,true,true,true,true,true,true,true,true,true,true,true,true,true,true,true,true,true] rfl rfl (aC HT_.out (by kernel_rfl)) (fun _ _ _ h=>h) (Or.inl ⟨by rfl,?_⟩) ?_ ?_
          rotate_left
          ·intro w'
           go_simp
           with_reducible rfl
          rotate_left
          ·simp only[apu_]
           rfl
          refine cu (bK HT_.out (by kernel_rfl)) ?_
          try go_wp2
          go_ret
          exact⟨by first|rfl|(simp <;> rfl)|(simp[*] <;> rfl),by with_reducible repeat(first|exact HB.out|apply af|apply aa|apply ae|refine ai ?_ GE307.out|refine ai ?_ GE311.out)⟩
        ·rw[if_neg c20] at H
         exact absurd H (by simp)
       ·rw[if_neg c19] at H
        exact absurd H (by simp)
      ·rw[if_neg c18] at H
       have c18b0:decide (x27_2 < (l0_4.length:Int))=false:=decide_eq_false c18
       clear c18
       obtain rfl:=Option.some.inj H
       go_wp2
       go_ret
       exact⟨by first|rfl|(simp <;> rfl)|(simp[*] <;> rfl),by with_reducible repeat(first|exact HB.out|apply af|apply aa|apply ae|refine ai ?_ GE307.out)⟩
structure SyL (w:World) (A2:Option Addr) (c2:Nat) (l2:List S80) (A3:Option Addr) (c3:Nat) (l3:List S80) (A4:Option Addr) (c4:Nat) (l4:List S63):Prop where
 r2:Kd.C k80 w A2 l2.length l2
 h2:l2.length≤c2
 r3:Kd.C k80 w A3 l3.length l3
 h3:l3.length≤c3
 r4:Kd.C k63 w A4 l4.length l4
 h4:l4.length≤c4
structure SyI (w:World) (A2:Option Addr) (c2:Nat) (l2:List S72) (A3:Option Addr) (c3:Nat) (l3:List S72) (A4:Option Addr) (c4:Nat) (l4:List S47):Prop where
 r2:Kd.C k72 w A2 l2.length l2
 h2:l2.length≤c2
 r3:Kd.C k72 w A3 l3.length l3
 h3:l3.length≤c3
 r4:Kd.C k47 w A4 l4.length l4
 h4:l4.length≤c4
variable {w w1:World} {A2 A3 A4:Option Addr} {c2 c3 c4:Nat}
theorem SyL.below {l2 l3:List S80} {l4:List S63} (h:SyL w A2 c2 l2 A3 c3 l3 A4 c4 l4) (b:Below w.heap.size w w1):SyL w1 A2 c2 l2 A3 c3 l3 A4 c4 l4:=⟨Kd.aQ h.r2 b,h.h2,Kd.aQ h.r3 b,h.h3,Kd.aQ h.r4 b,h.h4⟩
theorem SyI.below {l2 l3:List S72} {l4:List S47} (h:SyI w A2 c2 l2 A3 c3 l3 A4 c4 l4) (b:Below w.heap.size w w1):SyI w1 A2 c2 l2 A3 c3 l3 A4 c4 l4:=⟨Kd.aQ h.r2 b,h.h2,Kd.aQ h.r3 b,h.h3,Kd.aQ h.r4 b,h.h4⟩
theorem SyI.drew {l2 l3:List S72} {l4:List S47} (h:SyI w A2 c2 l2 A3 c3 l3 A4 c4 l4):SyI w.drew A2 c2 l2 A3 c3 l3 A4 c4 l4:=⟨Kd.aY h.r2,h.h2,Kd.aY h.r3,h.h3,Kd.aY h.r4,h.h4⟩
theorem mX (k:Nat) {H B:Int} {l2 l3:List S80} {l4:List S63} {C2 C3:List S72} {C4:List S47} (h:SyL w A2 c2 l2 A3 c3 l3 A4 c4 l4) (e:laws_toSystem.f k H B l2 l3 l4=some (H,B,C2,C3,C4)) :
  Calls Tryd.prog 6 #[.agg #[.int .i64 H,.int .i64 B,.slice A2 l2.length c2,.slice A3 l3.length c3,.slice A4 l4.length c4]] w fun e w'=>∃ (x2:Option Addr) (xc2:Nat) (x3:Option Addr) (xc3:Nat) (x4:Option Addr) (xc4:Nat),e = .returned (.agg #[.int .i64 H,.int .i64 B,.slice x2 C2.length xc2,.slice x3 C3.length xc3,.slice x4 C4.length xc4])∧SyI w' x2 xc2 C2 x3 xc3 C3 x4 xc4 C4∧Below w.heap.size w w':=by
 refine(laws_toSystem.calls k H B A2 c2 l2 A3 c3 l3 A4 c4 l4 H B C2 C3 C4 w h.r2 h.h2 h.r3 h.h3 h.r4 h.h4 e).mono ?_
 rintro e w' ⟨v2,v3,v4,rfl,q2,q3,q4,hb⟩
 obtain⟨x2,xc2,rfl⟩:=Kd.cz q2
 obtain⟨x3,xc3,rfl⟩:=Kd.cz q3
 obtain⟨x4,xc4,rfl⟩:=Kd.lK q4
 exact⟨x2,xc2,x3,xc3,x4,xc4,rfl,⟨(Kd.R_reads' q2).2.2,(Kd.R_reads' q2).2.1,(Kd.R_reads' q3).2.2,(Kd.R_reads' q3).2.1,(Kd.S_reads' q4).2.2,(Kd.S_reads' q4).2.1⟩,hb⟩
def laws_FnExactGoodSystem.ok (k:Nat) (H B:Int) (l2 l3:List S80) (l4:List S63):Prop:=
 (∃ s,laws_szSystem.f k H B l2 l3 l4 1048576=some s∧s<0)∨
 ∃ s C2 C3 C4 b,laws_szSystem.f k H B l2 l3 l4 1048576=some s∧¬ s<0∧laws_toSystem.f k H B l2 l3 l4=some (H,B,C2,C3,C4)∧spec_GoodSystem.f k H B C2 C3 C4=some b∧impl_GoodSystem.f k H B C2 C3 C4=some b∧laws_eqSystem.f k H B C2 C3 C4 H B C2 C3 C4=some true
set_option maxHeartbeats 16000000 in
set_option maxRecDepth 100000 in
theorem laws_FnExactGoodSystem.calls (k:Nat) (H B:Int) (a2:Option Addr) (ac2:Nat) (al2:List S80) (a3:Option Addr) (ac3:Nat) (al3:List S80) (a4:Option Addr) (ac4:Nat) (al4:List S63) (_r:Bool) (w:World) (hr2:Kd.C k80 w a2 al2.length al2) (hc2:al2.length≤ac2) (hr3:Kd.C k80 w a3 al3.length al3) (hc3:al3.length≤ac3) (hr4:Kd.C k63 w a4 al4.length al4) (hc4:al4.length≤ac4) (h:laws_FnExactGoodSystem.ok k H B al2 al3 al4) :
  Calls Tryd.prog 3 #[.agg #[.int .i64 H,.int .i64 B,.slice a2 al2.length ac2,.slice a3 al3.length ac3,.slice a4 al4.length ac4]] w fun e w'=>e = .returned (.bool true)∧Below w.heap.size w w':=by
 have huL:=Tryd.underlying27
 have huI:=Tryd.underlying35
 have hb:Below w.heap.size w (w.alloc (.cells #[.int .i64 H,.int .i64 B,.slice a2 al2.length ac2,.slice a3 al3.length ac3,.slice a4 al4.length ac4] 27)):=af (Below.refl _ _) _
 have hx:(w.alloc (.cells #[.int .i64 H,.int .i64 B,.slice a2 al2.length ac2,.slice a3 al3.length ac3,.slice a4 al4.length ac4] 27)).heap[w.heap.size]? = some (.cells #[.int .i64 H,.int .i64 B,.slice a2 al2.length ac2,.slice a3 al3.length ac3,.slice a4 al4.length ac4] 27 (0,0)):=heap_alloc_new w _
 obtain⟨V1,hV1⟩:∃ W,w.alloc (.cells #[.int .i64 H,.int .i64 B,.slice a2 al2.length ac2,.slice a3 al3.length ac3,.slice a4 al4.length ac4] 27)=W:=⟨_,rfl⟩
 rw[hV1] at hb hx
 have R:=av (SyL.below ⟨hr2,hc2,hr3,hc3,hr4,hc4⟩ hb)
 have BB:=av hb
 have X0:=av hx
 clear hr2 hc2 hr3 hc3 hr4 hc4 hb hx
 rcases h with⟨s,h1,h2⟩|⟨s,C2,C3,C4,b,h1,h2,h3,h4,h5,h6⟩
 ·have H1:=av h1
  have c1:decide (s<0)=true:=decide_eq_true h2
  have c2:(s<0)=True:=eq_true h2
  clear h1 h2
  go_enter Tryd.func3,Tryd.ntmps3
  have dX0_0:V1.cell? ⟨w.heap.size,0,none⟩=some (.int .i64 H):=(ag X0.out 0).trans rfl
  have dX0_1:V1.cell? ⟨w.heap.size,1,none⟩=some (.int .i64 B):=(ag X0.out 1).trans rfl
  have dX0_2:V1.cell? ⟨w.heap.size,2,none⟩=some (.slice a2 al2.length ac2):=(ag X0.out 2).trans rfl
  have dX0_3:V1.cell? ⟨w.heap.size,3,none⟩=some (.slice a3 al3.length ac3):=(ag X0.out 3).trans rfl
  have dX0_4:V1.cell? ⟨w.heap.size,4,none⟩=some (.slice a4 al4.length ac4):=(ag X0.out 4).trans rfl
  have TT:=av (laws_szSystem.calls k H B a2 ac2 al2 a3 ac3 al3 a4 ac4 al4 1048576 s V1 R.out.r2 R.out.h2 R.out.r3 R.out.h3 R.out.r4 R.out.h4 H1.out)
  go_wp2_with (go_at_call 4;refine TT.out.mono ?_)
  (first|rintro e w2 rfl hb|rintro e w2 ⟨rfl,hb⟩)
  clear TT dX0_0 dX0_1 dX0_2 dX0_3 dX0_4 hV1
  replace BB:=av (aA BB.out hb)
  clear hb
  go_wp2
  go_ret
  exact⟨rfl,BB.out⟩
 ·have c1:decide (s<0)=false:=decide_eq_false h2
  have c2:(s<0)=False:=eq_false h2
  have H1:=av h1
  have H3:=av h3
  have H4:=av h4
  have H5:=av h5
  have H6:=av h6
  clear h1 h2 h3 h4 h5 h6
  go_enter Tryd.func3,Tryd.ntmps3
  have dX0_0:V1.cell? ⟨w.heap.size,0,none⟩=some (.int .i64 H):=(ag X0.out 0).trans rfl
  have dX0_1:V1.cell? ⟨w.heap.size,1,none⟩=some (.int .i64 B):=(ag X0.out 1).trans rfl
  have dX0_2:V1.cell? ⟨w.heap.size,2,none⟩=some (.slice a2 al2.length ac2):=(ag X0.out 2).trans rfl
  have dX0_3:V1.cell? ⟨w.heap.size,3,none⟩=some (.slice a3 al3.length ac3):=(ag X0.out 3).trans rfl
  have dX0_4:V1.cell? ⟨w.heap.size,4,none⟩=some (.slice a4 al4.length ac4):=(ag X0.out 4).trans rfl
  have TT:=av (laws_szSystem.calls k H B a2 ac2 al2 a3 ac3 al3 a4 ac4 al4 1048576 s V1 R.out.r2 R.out.h2 R.out.r3 R.out.h3 R.out.r4 R.out.h4 H1.out)
  go_wp2_with (go_at_call 4;refine TT.out.mono ?_)
  (first|rintro e w2 rfl hb|rintro e w2 ⟨rfl,hb⟩)
  clear TT dX0_0 dX0_1 dX0_2 dX0_3 dX0_4 hV1
  replace BB:=av (aA BB.out hb)
  replace X0:=av (aG X0.out hb)
  replace R:=av (R.out.below hb)
  clear hb
  have dX0_0:w2.cell? ⟨w.heap.size,0,none⟩=some (.int .i64 H):=(ag X0.out 0).trans rfl
  have dX0_1:w2.cell? ⟨w.heap.size,1,none⟩=some (.int .i64 B):=(ag X0.out 1).trans rfl
  have dX0_2:w2.cell? ⟨w.heap.size,2,none⟩=some (.slice a2 al2.length ac2):=(ag X0.out 2).trans rfl
  have dX0_3:w2.cell? ⟨w.heap.size,3,none⟩=some (.slice a3 al3.length ac3):=(ag X0.out 3).trans rfl
  have dX0_4:w2.cell? ⟨w.heap.size,4,none⟩=some (.slice a4 al4.length ac4):=(ag X0.out 4).trans rfl
  have TT:=av (mX k R.out H3.out)
  go_wp2_with (go_at_call 6;refine TT.out.mono ?_)
  rintro e w3 ⟨t2,tc2,t3,tc3,t4,tc4,rfl,hI,hb⟩
  clear TT dX0_0 dX0_1 dX0_2 dX0_3 dX0_4
  have I:=av hI
  clear hI
  replace BB:=av (aA BB.out hb)
  replace X0:=av (aG X0.out hb)
  replace R:=av (R.out.below hb)
  clear hb
  have TT:=av (spec_GoodSystem.calls k H B _ _ C2 _ _ C3 _ _ C4 b w3 I.out.r2 I.out.h2 I.out.r3 I.out.h3 I.out.r4 I.out.h4 H4.out)
  go_wp2_with (go_at_call 5;refine TT.out.mono ?_)
  (first|rintro e w4 rfl hb|rintro e w4 ⟨rfl,hb⟩)
  clear TT
  clear I
  replace BB:=av (aA BB.out hb)
  replace X0:=av (aG X0.out hb)
  replace R:=av (R.out.below hb)
  clear hb
  have dX0_0:w4.cell? ⟨w.heap.size,0,none⟩=some (.int .i64 H):=(ag X0.out 0).trans rfl
  have dX0_1:w4.cell? ⟨w.heap.size,1,none⟩=some (.int .i64 B):=(ag X0.out 1).trans rfl
  have dX0_2:w4.cell? ⟨w.heap.size,2,none⟩=some (.slice a2 al2.length ac2):=(ag X0.out 2).trans rfl
  have dX0_3:w4.cell? ⟨w.heap.size,3,none⟩=some (.slice a3 al3.length ac3):=(ag X0.out 3).trans rfl
  have dX0_4:w4.cell? ⟨w.heap.size,4,none⟩=some (.slice a4 al4.length ac4):=(ag X0.out 4).trans rfl
  have TT:=av (mX k R.out H3.out)
  go_wp2_with (go_at_call 6;refine TT.out.mono ?_)
  rintro e w5 ⟨x2,xc2,x3,xc3,x4,xc4,rfl,hI,hb⟩
  clear TT dX0_0 dX0_1 dX0_2 dX0_3 dX0_4
  have I:=av hI
  clear hI
  replace BB:=av (aA BB.out hb)
  replace X0:=av (aG X0.out hb)
  replace R:=av (R.out.below hb)
  clear hb
  have hb:Below w5.heap.size w5 (w5.alloc (.cells #[.int .i64 H,.int .i64 B,.slice x2 C2.length xc2,.slice x3 C3.length xc3,.slice x4 C4.length xc4] 35)):=af (Below.refl _ _) _
  have hx:(w5.alloc (.cells #[.int .i64 H,.int .i64 B,.slice x2 C2.length xc2,.slice x3 C3.length xc3,.slice x4 C4.length xc4] 35)).heap[w5.heap.size]? = some (.cells #[.int .i64 H,.int .i64 B,.slice x2 C2.length xc2,.slice x3 C3.length xc3,.slice x4 C4.length xc4] 35 (0,0)):=heap_alloc_new w5 _
  obtain⟨V2,hV2⟩:∃ W,w5.alloc (.cells #[.int .i64 H,.int .i64 B,.slice x2 C2.length xc2,.slice x3 C3.length xc3,.slice x4 C4.length xc4] 35 (0,0))=W:=⟨_,rfl⟩
  rw[hV2] at hb hx
  have X1:=av hx
  clear hx
  replace BB:=av (aA BB.out hb)
  replace X0:=av (aG X0.out hb)
  replace R:=av (R.out.below hb)
  replace I:=av (I.out.below hb)
  clear hb
  have dX1_0:V2.cell? ⟨w5.heap.size,0,none⟩=some (.int .i64 H):=(ag X1.out 0).trans rfl
  have dX1_1:V2.cell? ⟨w5.heap.size,1,none⟩=some (.int .i64 B):=(ag X1.out 1).trans rfl
  have dX1_2:V2.cell? ⟨w5.heap.size,2,none⟩=some (.slice x2 C2.length xc2):=(ag X1.out 2).trans rfl
  have dX1_3:V2.cell? ⟨w5.heap.size,3,none⟩=some (.slice x3 C3.length xc3):=(ag X1.out 3).trans rfl
  have dX1_4:V2.cell? ⟨w5.heap.size,4,none⟩=some (.slice x4 C4.length xc4):=(ag X1.out 4).trans rfl
  have TT:=av (impl_GoodSystem.calls k H B _ _ C2 _ _ C3 _ _ C4 b V2 I.out.r2 I.out.h2 I.out.r3 I.out.h3 I.out.r4 I.out.h4 H5.out)
  go_wp2_with (go_at_call 7;refine TT.out.mono ?_)
  (first|rintro e w6 rfl hb|rintro e w6 ⟨rfl,hb⟩)
  clear TT dX1_0 dX1_1 dX1_2 dX1_3 dX1_4
  clear hV2
  replace BB:=av (aA BB.out hb)
  replace X0:=av (aG X0.out hb)
  replace X1:=av (aG X1.out hb)
  replace R:=av (R.out.below hb)
  replace I:=av (I.out.below hb)
  clear hb
  have hww:(b == b)=true:=beq_self_eq_true b
  have hwn:(b != b)=false:=by simp
  have dX0_0:w6.cell? ⟨w.heap.size,0,none⟩=some (.int .i64 H):=(ag X0.out 0).trans rfl
  have dX0_1:w6.cell? ⟨w.heap.size,1,none⟩=some (.int .i64 B):=(ag X0.out 1).trans rfl
  have dX0_2:w6.cell? ⟨w.heap.size,2,none⟩=some (.slice a2 al2.length ac2):=(ag X0.out 2).trans rfl
  have dX0_3:w6.cell? ⟨w.heap.size,3,none⟩=some (.slice a3 al3.length ac3):=(ag X0.out 3).trans rfl
  have dX0_4:w6.cell? ⟨w.heap.size,4,none⟩=some (.slice a4 al4.length ac4):=(ag X0.out 4).trans rfl
  have dX1_0:w6.cell? ⟨w5.heap.size,0,none⟩=some (.int .i64 H):=(ag X1.out 0).trans rfl
  have dX1_1:w6.cell? ⟨w5.heap.size,1,none⟩=some (.int .i64 B):=(ag X1.out 1).trans rfl
  have dX1_2:w6.cell? ⟨w5.heap.size,2,none⟩=some (.slice x2 C2.length xc2):=(ag X1.out 2).trans rfl
  have dX1_3:w6.cell? ⟨w5.heap.size,3,none⟩=some (.slice x3 C3.length xc3):=(ag X1.out 3).trans rfl
  have dX1_4:w6.cell? ⟨w5.heap.size,4,none⟩=some (.slice x4 C4.length xc4):=(ag X1.out 4).trans rfl
  go_wp2
  clear dX0_0 dX0_1 dX0_2 dX0_3 dX0_4 dX1_0 dX1_1 dX1_2 dX1_3 dX1_4
  replace BB:=av (ae BB.out)
  replace X0:=av (au X0.out)
  replace X1:=av (au X1.out)
  replace R:=av (R.out.below (ae (Below.refl _ _)))
  replace I:=av I.out.drew
  refine bJ (n:=5) (S:=fun w'=>w'.cell? ⟨w5.heap.size,0,none⟩=some (.int .i64 H)∧w'.cell? ⟨w5.heap.size,1,none⟩=some (.int .i64 B)∧w'.cell? ⟨w5.heap.size,2,none⟩=some (.slice x2 C2.length xc2)∧w'.cell? ⟨w5.heap.size,3,none⟩=some (.slice x3 C3.length xc3)∧w'.cell? ⟨w5.heap.size,4,none⟩=some (.slice x4 C4.length xc4)∧w'.cell? ⟨w.heap.size,0,none⟩=some (.int .i64 H)∧w'.cell? ⟨w.heap.size,1,none⟩=some (.int .i64 B)∧w'.cell? ⟨w.heap.size,2,none⟩=some (.slice a2 al2.length ac2)∧w'.cell? ⟨w.heap.size,3,none⟩=some (.slice a3 al3.length ac3)∧w'.cell? ⟨w.heap.size,4,none⟩=some (.slice a4 al4.length ac4)) (ds:=[]) #[false,false,false,false,false] (by kernel_rfl) rfl rfl ⟨(ag X1.out 0).trans rfl,(ag X1.out 1).trans rfl,(ag X1.out 2).trans rfl,(ag X1.out 3).trans rfl,(ag X1.out 4).trans rfl,(ag X0.out 0).trans rfl,(ag X0.out 1).trans rfl,(ag X0.out 2).trans rfl,(ag X0.out 3).trans rfl,(ag X0.out 4).trans rfl⟩ (fun hHeld=>?_)
  generalize w6.drew=w8 at BB X0 X1 R I hHeld ⊢
  refine aZ (i:=0) (N:=some 22) (v:=?_) (a':=?_) #[true,false,false,false,false] rfl rfl (by kernel_rfl) (fun _ _ _ h=>h) (Or.inl ⟨by rfl,?_⟩) hHeld ?_ ?_
  rotate_left
  ·rintro w' ⟨s0,s1,s2,s3,s4,s5,s6,s7,s8,s9⟩
   go_simp
   with_reducible rfl
  rotate_left
  ·simp only[apu_]
   rfl
  refine aZ (i:=1) (N:=some 23) (v:=?_) (a':=?_) #[true,true,false,false,false] rfl rfl (by kernel_rfl) (fun _ _ _ h=>h) (Or.inl ⟨by rfl,?_⟩) hHeld ?_ ?_
  rotate_left
  ·rintro w' ⟨s0,s1,s2,s3,s4,s5,s6,s7,s8,s9⟩
   go_simp
   with_reducible rfl
  rotate_left
  ·simp only[apu_]
   rfl
  refine di (i:=2) (N:=some 24) #[true,true,true,false,false] rfl rfl (by kernel_rfl) (by decide) (fun K hK=>?_)
  refine bU Tryd.func6 (by kernel_rfl) rfl #[.agg #[.int .i64 H,.int .i64 B,.slice a2 al2.length ac2,.slice a3 al3.length ac3,.slice a4 al4.length ac4]] (by rfl) rfl rfl (by(try simp only[List.map_toArray,List.map_cons,List.map_nil]);first|done|rfl) ?_
  with_reducible refine(mX k R.out H3.out).mono ?_
  rintro e w9 ⟨y2,yc2,y3,yc3,y4,yc4,rfl,hJ,hb⟩
  refine⟨_,rfl,?_⟩
  have J:=av hJ
  clear hJ
  replace BB:=av (aA BB.out hb)
  replace X0:=av (aG X0.out hb)
  replace X1:=av (aG X1.out hb)
  replace R:=av (R.out.below hb)
  replace I:=av (I.out.below hb)
  clear hb
  refine hK.out _ _ ⟨(ag X1.out 0).trans rfl,(ag X1.out 1).trans rfl,(ag X1.out 2).trans rfl,(ag X1.out 3).trans rfl,(ag X1.out 4).trans rfl,(ag X0.out 0).trans rfl,(ag X0.out 1).trans rfl,(ag X0.out 2).trans rfl,(ag X0.out 3).trans rfl,(ag X0.out 4).trans rfl⟩ (fun hHeld=>?_)
  clear hK K
  refine bS (a':=?_) ?_ ?_
  rotate_left
  ·show Act.put _ (some 24) _=_
   simp only[apu_]
   rfl
  refine di (i:=3) (N:=some 25) #[true,true,true,true,false] rfl rfl (by kernel_rfl) (by decide) (fun K hK=>?_)
  refine bU Tryd.func8 (by kernel_rfl) rfl #[.agg #[.int .i64 H,.int .i64 B,.slice x2 C2.length xc2,.slice x3 C3.length xc3,.slice x4 C4.length xc4],.agg #[.int .i64 H,.int .i64 B,.slice y2 C2.length yc2,.slice y3 C3.length yc3,.slice y4 C4.length yc4]] (by rfl) rfl rfl (by(try simp only[List.map_toArray,List.map_cons,List.map_nil]);first|done|rfl) ?_
  with_reducible refine(laws_eqSystem.calls k H B _ _ C2 _ _ C3 _ _ C4 H B _ _ C2 _ _ C3 _ _ C4 true w9 I.out.r2 I.out.h2 I.out.r3 I.out.h3 I.out.r4 I.out.h4 J.out.r2 J.out.h2 J.out.r3 J.out.h3 J.out.r4 J.out.h4 H6.out).mono ?_
  rintro e w10 ⟨rfl,hb⟩
  refine⟨_,rfl,?_⟩
  clear J
  replace BB:=av (aA BB.out hb)
  replace X0:=av (aG X0.out hb)
  replace X1:=av (aG X1.out hb)
  clear hb
  refine hK.out _ _ ⟨(ag X1.out 0).trans rfl,(ag X1.out 1).trans rfl,(ag X1.out 2).trans rfl,(ag X1.out 3).trans rfl,(ag X1.out 4).trans rfl,(ag X0.out 0).trans rfl,(ag X0.out 1).trans rfl,(ag X0.out 2).trans rfl,(ag X0.out 3).trans rfl,(ag X0.out 4).trans rfl⟩ (fun hHeld=>?_)
  clear hK K
  refine bS (a':=?_) ?_ ?_
  rotate_left
  ·show Act.put _ (some 25) _=_
   simp only[apu_]
   rfl
  refine aD (i:=4) (N:=some 26) (v:=?_) (a':=?_) #[true,true,true,true,true] rfl rfl (by kernel_rfl) (fun _ _ _ h=>h) (Or.inl ⟨by rfl,?_⟩) ?_ ?_
  rotate_left
  ·intro w'
   go_simp
   with_reducible rfl
  rotate_left
  ·simp only[apu_]
   rfl
  refine cu (by kernel_rfl) ?_
  clear hHeld
  go_wp2
  go_ret
  exact⟨rfl,BB.out⟩
theorem lg {P:List EX} {i:Nat} (h:i<P.length):aH P (i:Int)=P[i]:=by
  rw[lF,Int.toNat_natCast,List.getD_eq_getElem?_getD,List.getElem?_eq_getElem h];rfl
theorem om (a b c:Int):spec_l1In.f a b c=some (decide (b≤a∧a≤c)):=by
  unfold spec_l1In.f
  by_cases h:a≥b
  · by_cases h2:a≤c
    · simp[h,h2] <;> omega
    · simp[h,h2]
  · simp[h] <;> omega
section
variable {B:Int} {P:List EX}
theorem lC {i:Nat} (hi:i+1<P.length+1):dO P (i+1)=some (aH P (i:Int)):=by
  unfold dO
  rw[if_neg (by omega),show((i+1:Nat):Int) - 1 = (i:Int) by omega]
theorem kY (hB : -9223372036854775808 ≤ B ∧ B ≤ 9223372036854775807) (hP : P.length ≤ 2000000) : ∀ (f i : Nat), i + f = P.length → (∀ m : Nat, i = m + 1 → okX B (aH P (m : Int)) = true) →
    Ev (fun k=>spec_l5Place.l0 k P B P (P.length:Int) (i:Int)) (dh B (dO P i) (P.drop i) && (decide (1≤B∧B≤400)&&decide (P.length≤60))):=by
  intro f
  induction f with
  | zero=>
    intro i hi _
    refine Ev.step (fun _=>spec_l5Place.l0.eq_2 ..) (bq (by omega) (bV (om B 1 400) ?_))
    rw[List.drop_of_length_le (by omega)]
    show Ev _ (true&&_)
    rw[Bool.true_and]
    by_cases h:1≤B∧B≤400
    · rw[decide_eq_true h,Bool.true_and]
      refine dK rfl (bv ?_)
      rw[decide_eq_decide];omega
    · rw[decide_eq_false h,Bool.false_and]
      exact iK rfl (bv rfl)
  | succ f ih =>
    intro i hi hpv
    have hil:i<P.length:=by omega
    have hd:=iJ (B:=B) hil
    obtain⟨x,hx⟩:∃ x,aH P (i:Int)=x:=⟨_,rfl⟩
    have key:∀ (b:Bool),okX B x=b→(b=true→mR (dO P i) x=true→Ev (fun k=>spec_l5Place.l0 k P B P (P.length:Int) (i:Int)) (dh B (dO P (i+1)) (P.drop (i+1)) && (decide (1≤B∧B≤400)&&decide (P.length≤60))))→((b=false∨mR (dO P i) x=false)→Ev (fun k=>spec_l5Place.l0 k P B P (P.length:Int) (i:Int)) false)→Ev (fun k=>spec_l5Place.l0 k P B P (P.length:Int) (i:Int)) (dh B (dO P i) (P.drop i) && (decide (1≤B∧B≤400)&&decide (P.length≤60))):=by
      intro b hb h1 h2
      rw[hd,hx,hb]
      cases b with
      | false=>rw[Bool.false_and,Bool.false_and,Bool.false_and];exact h2 (.inl rfl)
      | true=>
        cases hg:mR (dO P i) x with
        | false=>rw[Bool.true_and,Bool.false_and,Bool.false_and];exact h2 (.inr hg)
        | true=>rw[Bool.true_and,Bool.true_and];exact h1 rfl hg
    have hnext:okX B x=true→Ev (fun k=>spec_l5Place.l0 k P B P (P.length:Int) (wrap64 ((i:Int)+1))) (dh B (dO P (i+1)) (P.drop (i+1)) && (decide (1≤B∧B≤400)&&decide (P.length≤60))):=fun hok=>by
      rw[w64 (x:=(i:Int)+1) (by omega) (by omega),show(i:Int)+1 = ((i+1:Nat):Int) by omega]
      exact ih (i+1) (by omega) (fun m hm=>by obtain rfl:m=i:=(by omega);rw[hx];exact hok)
    have step:∀ {r:Bool},Ev (fun k=>if (aH P (i:Int)).f0<0 then some false else if (aH P (i:Int)).f1<1 then some false else if (aH P (i:Int)).f1 > B then some false else if (aH P (i:Int)).f0 > wrap64 (B - (aH P (i:Int)).f1) then some false else if (i:Int) > 0 then (if 0≤wrap64 ((i:Int) - 1) then (if wrap64 ((i:Int) - 1) < (P.length:Int) then (if wrap64 ((aH P (wrap64 ((i:Int) - 1))).f0 + (aH P (wrap64 ((i:Int) - 1))).f1)≥(aH P (i:Int)).f0 then some false else spec_l5Place.l0 k P B P (P.length:Int) (wrap64 ((i:Int)+1))) else none) else none) else spec_l5Place.l0 k P B P (P.length:Int) (wrap64 ((i:Int)+1))) r→Ev (fun k=>spec_l5Place.l0 k P B P (P.length:Int) (i:Int)) r:=fun h=>
      Ev.step (fun _=>spec_l5Place.l0.eq_2 ..) (aM (by omega) (aM (by omega) (aM (by omega) h)))
    rw[hx] at step
    refine key _ rfl (fun hok hg=>step ?_) (fun hno=>step ?_)
    · have h:=gp.1 hok
      refine bq (by omega) (bq (by omega) (bq (by omega) ?_))
      rw[w64 (x:=B - x.f1) (by omega) (by omega)]
      refine bq (by omega) ?_
      cases i with
      | zero=>exact bq (by omega) (hnext hok)
      | succ m=>
        have hp:=gp.1 (hpv m rfl)
        rw[lC (by omega)] at hg
        have hg2:(aH P (m:Int)).f0 + (aH P (m:Int)).f1<x.f0:=of_decide_eq_true hg
        have em:wrap64 (((m+1:Nat):Int) - 1) = (m:Int):=by rw[w64 (by omega) (by omega)];omega
        refine aM (by omega) ?_
        rw[em,w64 (x:=(aH P (m:Int)).f0 + (aH P (m:Int)).f1) (by omega) (by omega)]
        exact aM (by omega) (aM (by omega) (bq (by omega) (hnext hok)))
    · by_cases c0 : x.f0 < 0
      · exact aM c0 (bv rfl)
      · refine bq c0 ?_
        by_cases c1:x.f1<1
        · exact aM c1 (bv rfl)
        · refine bq c1 ?_
          by_cases c2:x.f1 > B
          · exact aM c2 (bv rfl)
          · refine bq c2 ?_
            rw[w64 (x:=B - x.f1) (by omega) (by omega)]
            by_cases c3:x.f0 > B - x.f1
            · exact aM c3 (bv rfl)
            · refine bq c3 ?_
              have hok:okX B x=true:=gp.2 (by omega)
              cases i with
              | zero=>
                rcases hno with e|e
                · rw[hok] at e;cases e
                · cases e
              | succ m=>
                have hp:=gp.1 (hpv m rfl)
                rcases hno with e|e
                · rw[hok] at e;cases e
                · rw[lC (by omega)] at e
                  have e2:¬ (aH P (m:Int)).f0 + (aH P (m:Int)).f1<x.f0:=of_decide_eq_false e
                  have em:wrap64 (((m+1:Nat):Int) - 1) = (m:Int):=by rw[w64 (by omega) (by omega)];omega
                  refine aM (by omega) ?_
                  rw[em,w64 (x:=(aH P (m:Int)).f0 + (aH P (m:Int)).f1) (by omega) (by omega)]
                  exact aM (by omega) (aM (by omega) (aM (by omega) (bv rfl)))
end
theorem jE (x:EX):∀ (l:List EX) (k:Nat),k≤l.length→(∀ (i:Nat) (hi:i<l.length),i<k→ltE l[i] x=true)→(∀ (hi:k<l.length),ltE l[k] x=false)→gu x l=l.take k++x::l.drop k
  | [],k,hk,_,_=>by
    obtain rfl:k=0:=by simpa using hk
    rfl
  | y::r,0,_,_,h=>by
    have:=h (by simp)
    unfold gu
    rw[if_neg (by simpa using this)]
    rfl
  | y::r,k+1,hk,h1,h2=>by
    have h0:=h1 0 (by simp) (by omega)
    unfold gu
    rw[if_pos (by simpa using h0),jE x r k (by simpa using hk) (fun i hi hik=>by have:=h1 (i+1) (by simp;omega) (by omega);simpa using this) (fun hi=>by have:=h2 (by simp;omega);simpa using this)]
    rfl
theorem nR (a b:EX):spec_l5Less.f a.f0 a.f1 b.f0 b.f1=some (ltE a b):=by
  unfold spec_l5Less.f ltE
  by_cases h1:a.f1<b.f1
  · rw[if_pos h1,decide_eq_true (by omega)]
  · rw[if_neg h1]
    by_cases h2:a.f1=b.f1
    · rw[if_pos h2]
      congr 1
      rw[decide_eq_decide]
      omega
    · rw[if_neg h2,decide_eq_false (by omega)]
theorem ou {P : List EX} {j : Nat} (hj : j < P.length) (hP : P.length ≤ 100000) {r : List EX} (out : List EX) (ho : out.length ≤ 100000) (hn : Ev (fun k => spec_l5BySize.l0 k (gu P[j] out) P (P.length : Int) (((j + 1 : Nat)) : Int)) r) :
    ∀ (f k:Nat),k+f=out.length→(∀ (i:Nat) (hi:i<out.length),i<k→ltE out[i] P[j]=true)→Ev (fun n=>spec_l5BySize.l1 n out (k:Int) P (P.length:Int) (j:Int) P[j].f0 P[j].f1) r:=by
  have fin:∀ k:Nat,k≤out.length→gu P[j] out=out.take k++P[j]::out.drop k→Ev (fun n=>if 0≤(k:Int) then (if (k:Int)≤(out.length:Int) then ((some (out.take (k:Int).toNat:List EX)).bind fun y114=>(if ([]:List EX).length+y114.length<8796093022208 then ((some (([]:List EX)++y114:List EX)).bind fun y118=>(if y118.length<8796093022208 then ((some (y118++[(⟨P[j].f0,P[j].f1⟩:EX)]:List EX)).bind fun y121=>((some (out.drop (k:Int).toNat:List EX)).bind fun y124=>(if y121.length+y124.length<8796093022208 then (spec_l5BySize.l0 n (y121++y124) P (P.length:Int) (wrap64 ((j:Int)+1))) else none))) else none)) else none)) else none) else none) r:=fun k hk he=>by
    refine aM (by omega) (aM (by omega) ?_)
    rw[Int.toNat_natCast]
    simp only[Option.bind_some,List.nil_append]
    refine aM (by simp;omega) (aM (by simp;omega) (aM (by simp;omega) ?_))
    rw[w64 (x:=(j:Int)+1) (by omega) (by omega),show(j:Int)+1 = ((j+1:Nat):Int) by omega,List.append_assoc]
    show Ev (fun n=>spec_l5BySize.l0 n (out.take k ++ (P[j]::out.drop k)) P _ _) r
    rw[← he]
    exact hn
  intro f
  induction f with
  | zero=>
    intro k hk hlt
    have h:=fin k (by omega) (jE P[j] out k (by omega) hlt (fun hi=>by omega))
    refine Ev.step (fun _=>spec_l5BySize.l1.eq_2 ..) (bq (by omega) ?_)
    exact h
  | succ f ih=>
    intro k hk hlt
    have hkl:k<out.length:=by omega
    refine Ev.step (fun _=>spec_l5BySize.l1.eq_2 ..) (aM (by omega) (aM (by omega) ?_))
    rw[lg hkl]
    refine bV (nR _ _) ?_
    cases hb:ltE out[k] P[j] with
    | true=>
      refine dK rfl ?_
      rw[w64 (x:=(k:Int)+1) (by omega) (by omega),show(k:Int)+1 = ((k+1:Nat):Int) by omega]
      exact ih (k+1) (by omega) (fun i hi hik=>by
        by_cases e:i=k
        · subst e;exact hb
        · exact hlt i hi (by omega))
    | false=>
      have h:=fin k (by omega) (jE P[j] out k (by omega) hlt (fun hi=>hb))
      refine iK rfl ?_
      obtain⟨k0,hk0⟩:=h
      exact⟨k0,fun n hn=>by
        have h_:=hk0 n hn
        dsimp only at h_ ⊢
        rw[if_pos (show(0:Int)≤(k:Int) by omega)] at h_
        exact h_⟩
theorem gM:∀ (l out:List EX) (x:EX),eX out (l++[x])=gu x (eX out l)
  | [],out,x=>rfl
  | y::r,out,x=>by
    show eX (gu y out) (r++[x])=_
    rw[gM r]
    rfl
theorem mg {P:List EX} (hP:P.length≤100000):∀ (f i:Nat),i+f=P.length→Ev (fun k=>spec_l5BySize.l0 k (dA (P.take i)) P (P.length:Int) (i:Int)) (dA P):=by
  intro f
  induction f with
  | zero=>
    intro i hi
    refine Ev.step (fun _=>spec_l5BySize.l0.eq_2 ..) (bq (by omega) (bv ?_))
    rw[List.take_of_length_le (by omega)]
  | succ f ih=>
    intro i hi
    have hil:i<P.length:=by omega
    refine Ev.step (fun _=>spec_l5BySize.l0.eq_2 ..) (aM (by omega) (aM (by omega) (aM (by omega) ?_)))
    rw[lg hil]
    have hn:=ih (i+1) (by omega)
    rw[List.take_succ_eq_append_getElem hil] at hn
    have e:dA (P.take i++[P[i]])=gu P[i] (dA (P.take i)):=gM _ _ _
    rw[e] at hn
    exact ou hil hP (dA (P.take i)) (by rw[fG];simp;omega) hn (dA (P.take i)).length 0 (by omega) (fun _ _ h=>by omega)
theorem lS (P:List EX) (hP:P.length≤100000):Ev (fun k=>spec_l5BySize.f k P) (dA P):=by
  unfold spec_l5BySize.f
  exact mg hP P.length 0 (by omega)
theorem nZ (a b : List EX) (hl : a.length ≤ 1048576) : Ev (fun k => spec_l5Same.f k a b) (decide (a = b)) := by
  unfold spec_l5Same.f
  by_cases h:(a.length:Int) = (b.length:Int)
  · refine aM h ?_
    have key:∀ (f i:Nat),i+f=a.length→a.take i=b.take i→Ev (fun k=>spec_l5Same.l0 k a b (a.length:Int) (i:Int)) (decide (a=b)):=by
      intro f
      induction f with
      | zero=>
        intro i hi ht
        refine Ev.step (fun _=>spec_l5Same.l0.eq_2 ..) (bq (by omega) (bv ?_))
        rw[List.take_of_length_le (by omega),List.take_of_length_le (by omega)] at ht
        rw[decide_eq_true ht]
      | succ f ih=>
        intro i hi ht
        have ha:i<a.length:=by omega
        have hb:i<b.length:=by omega
        have ea:=lg ha
        have eb:=lg hb
        have e1:wrap64 ((i:Int)+1) = ((i+1:Nat):Int):=by rw[w64 (by omega) (by omega)];omega
        by_cases hx:a[i]=b[i]
        · refine Ev.step (fun _=>spec_l5Same.l0.eq_2 ..) (aM (by omega) (aM (by omega) (aM (by omega) (aM (by omega) (bq (by rw[ea,eb,hx];simp) ?_)))))
          rw[e1]
          exact ih (i+1) (by omega) (by rw[List.take_succ_eq_append_getElem ha,List.take_succ_eq_append_getElem hb,ht,hx])
        · refine Ev.step (fun _=>spec_l5Same.l0.eq_2 ..) (aM (by omega) (aM (by omega) (aM (by omega) (aM (by omega) (aM ?_ (bv ?_))))))
          · rw[ea,eb]
            by_cases e0:a[i].f0=b[i].f0
            · have e1:a[i].f1≠b[i].f1:=fun e1=>hx (oC e0 e1)
              simp[e0,e1]
            · simp[e0]
          · rw[decide_eq_false (fun h=>hx (List.getElem_of_eq h ha))]
    have:=key a.length 0 (by omega) (by simp)
    simpa using this
  · exact bq h (bv (by rw[decide_eq_false (fun e=>h (by rw[e]))]))
theorem j3 (B:Int) (P S:List EX) (hB : -9223372036854775808≤B∧B≤9223372036854775807) (hP:P.length≤2000000):Ev (fun k=>spec_GoodFree.f k B P S) (dU B P S):=by
  unfold spec_GoodFree.f
  have h:=kY (P:=P) hB (by omega) P.length 0 (by omega) (fun m hm=>by omega)
  have h2:Ev (fun k=>spec_l5Place.f k P B) (dh B none P && (decide (1≤B∧B≤400)&&decide (P.length≤60))):=h
  have hg:dU B P S = ((dh B none P && (decide (1≤B∧B≤400)&&decide (P.length≤60)))&&decide (dA P=S)):=by
    unfold dU
    cases dh B none P <;> cases decide (1≤B∧B≤400) <;> cases decide (P.length≤60) <;> rfl
  rw[hg]
  refine Ev.bind h2 ?_
  cases hb:(dh B none P && (decide (1≤B∧B≤400)&&decide (P.length≤60))) with
  | false=>exact iK rfl (bv rfl)
  | true=>exact dK rfl (Ev.bind (lS P (by have h3:=of_decide_eq_true (Bool.and_eq_true_iff.1 (Bool.and_eq_true_iff.1 hb).2).2;omega)) (Ev.bind (nZ (dA P) S (by rw[fG];have h3:=of_decide_eq_true (Bool.and_eq_true_iff.1 (Bool.and_eq_true_iff.1 hb).2).2;omega)) (bv rfl)))
end Go.Proofs.YtdghdjachbbdmaaDoor.PFre
namespace Go.Proofs.YtdghdjachbbdmaaDoor.PFre
open Go.RowKit Go.Proofs.YtdghdjachbbdmaaDoorW.PrintWords Go.Proofs.YtdghdjachbbdmaaDoorW.PrintLast Go.Proofs.YtdghdjachbbdmaaDoorW.PrintMore Go.Proofs.YtdghdjachbbdmaaDoor.E Go.Proofs.YtdghdjachbbdmaaDoor.ZFre
set_option linter.unusedVariables false
set_option linter.unusedSimpArgs false
def okB (b:Int):Bool:=decide (97≤b∧b≤122∨48≤b∧b≤57∨b=46∨b=45)
set_option maxRecDepth 100000 in
theorem oV (b:UInt8):dX.contains b=okB (b.toNat:Int):=by
  have h:∀ n:Fin 256,dX.contains (UInt8.ofNat n.val)=okB ((UInt8.ofNat n.val).toNat:Int):=by decide
  have h2:=h ⟨b.toNat,b.toNat_lt⟩
  rwa [show UInt8.ofNat b.toNat=b from UInt8.ofNat_toNat] at h2
theorem mH (s:ByteArray) (hs:s.size≤9223372036854775807):∀ (f i:Nat),i+f=s.size→Ev (fun k=>spec_l8Name.l0 k s (i:Int)) (decide (1≤s.size∧s.size≤12) && (s.data.toList.drop i).all (dX.contains ·)):=by
  have hsz:s.data.toList.length=s.size:=Array.length_toList
  intro f
  induction f with
  | zero=>
    intro i hi
    refine Ev.step (fun _=>spec_l8Name.l0.eq_2 ..) (bq (by omega) ?_)
    rw[l1In_is',List.drop_of_length_le (by omega),List.all_nil,Bool.and_true]
    refine bv ?_
    exact decide_eq_decide.2 (by omega)
  | succ f ih=>
    intro i hi
    have hil:i<s.data.toList.length:=by omega
    have ei:wrap64 ((i:Int)+1) = ((i+1:Nat):Int):=by rw[w64 (by omega) (by omega)];omega
    have h1:=ih (i+1) (by omega)
    have hb:bt s (i:Int) = (((s.data.toList[i]).toNat:Nat):Int):=by
      unfold bt
      rw[dif_pos (by rw[Int.toNat_natCast];omega)]
      rfl
    refine Ev.step (fun _=>spec_l8Name.l0.eq_2 ..) (aM (by omega) (aM (by omega) ?_))
    rw[ei,List.drop_eq_getElem_cons hil,List.all_cons,oV,← hb]
    generalize bt s (i:Int)=b
    cases ho:okB b with
    | true=>
      rw[Bool.true_and]
      have hp:=of_decide_eq_true ho
      rcases Classical.propComplete (b≥97) with e1|e1 <;> rcases Classical.propComplete (b≤122) with e2|e2 <;> rcases Classical.propComplete (b≥48) with e3|e3 <;> rcases Classical.propComplete (b≤57) with e4|e4 <;> rcases Classical.propComplete (b=46) with e5|e5 <;> rcases Classical.propComplete (b=45) with e6|e6 <;> first|(simp only[e1,e2,e3,e4,e5,e6,if_true,if_false];exact h1)|(exfalso;simp only[eq_iff_iff,iff_true,iff_false] at e1 e2 e3 e4 e5 e6;omega)
    | false=>
      rw[Bool.false_and,Bool.and_false]
      have hp:=of_decide_eq_false ho
      rcases Classical.propComplete (b≥97) with e1|e1 <;> rcases Classical.propComplete (b≤122) with e2|e2 <;> rcases Classical.propComplete (b≥48) with e3|e3 <;> rcases Classical.propComplete (b≤57) with e4|e4 <;> rcases Classical.propComplete (b=46) with e5|e5 <;> rcases Classical.propComplete (b=45) with e6|e6 <;> first|(simp only[e1,e2,e3,e4,e5,e6,if_true,if_false];exact bv rfl)|(exfalso;simp only[eq_iff_iff,iff_true,iff_false] at e1 e2 e3 e4 e5 e6;omega)
theorem l7 (s:ByteArray) (hs:s.size≤9223372036854775807):Ev (fun k=>spec_l8Name.f k s) (dZ s):=mH s hs s.size 0 (by omega)
open Go.RowKit Go.Proofs.YtdghdjachbbdmaaDoorW.PrintWords Go.Proofs.YtdghdjachbbdmaaDoorW.PrintLast Go.Proofs.YtdghdjachbbdmaaDoorW.PrintMore Go.Proofs.YtdghdjachbbdmaaDoor.E
abbrev HD:=S47
def jO (B:Int) (x:HD):Bool:=iC x.f0 x.f1 x.f2.f0 B
def jN (g:Nat→HD):Nat→Bool
  | 0=>true
  | m+1=>Op.bytesLess (g m).f0.toList (g (m+1)).f0.toList
def ek (B:Int) (g:Nat→HD):Nat→Nat→Bool
  | 0,_=>true
  | f+1,i=>jO B (g i) && (jN g i&&ek B g f (i+1))
def fileAt (F:List HD) (i:Nat):HD:=az F (i:Int)
def nT (H B:Int) (P S:List EX) (F:List HD):Bool:=dU B P S && (decide (0≤H∧H≤B) && (decide (F.length≤12)&&ek B (fileAt F) F.length 0))
theorem jq {F : List HD} {g : Nat → HD} (hg : ∀ i : Nat, az F (i : Int) = g i) (hF : F.length ≤ 12) (H B : Int) (P S : List EX) : ∀ (f i : Nat), i + f = F.length →
    Ev (fun K=>impl_GoodSystem.l0 K F (F.length:Int) (i:Int) H B P S F) (ek B g f i):=by
  intro f
  induction f with
  | zero=>
    intro i hi
    exact Ev.step (fun _=>impl_GoodSystem.l0.eq_2 ..) (bq (by omega) (bv rfl))
  | succ f ih=>
    intro i hi
    have hil:i<F.length:=by omega
    have z0:(i:Int) < (F.length:Int):=by omega
    have z1:0≤(i:Int):=by omega
    have hh:impl_isHeld.f (g i).f0 (g i).f1 (g i).f2.f0 B=some (jO B (g i)):=rfl
    refine Ev.step (fun _=>impl_GoodSystem.l0.eq_2 ..) (aM z0 (aM z1 (aM z0 ?_)))
    rw[hg i]
    refine bV hh ?_
    rw[ek]
    cases ho:jO B (g i) with
    | false=>exact bq (by simp) (bv rfl)
    | true=>
      refine aM rfl ?_
      rw[Bool.true_and]
      have hn:∀ b:Bool,jN g i=b→b=true→Ev (fun K=>impl_GoodSystem.l0 K F (F.length:Int) (wrap64 ((i:Int)+1)) H B P S F) (jN g i&&ek B g f (i+1)):=by
        intro b hb h
        rw[hb,h,Bool.true_and,add1 hil (by omega)]
        exact ih (i+1) (by omega)
      cases i with
      | zero=>exact bq (by omega) (hn true rfl rfl)
      | succ m=>
        have z3:((m+1:Nat):Int) > 0:=by omega
        have z4:0≤(m:Int):=by omega
        have z5:(m:Int) < (F.length:Int):=by omega
        refine aM z3 ?_
        rw[nQ hil (by omega)]
        refine aM z4 (aM z5 ?_)
        rw[hg m]
        cases hb:Op.bytesLess (g m).f0.toList (g (m+1)).f0.toList with
        | true=>exact aM rfl (hn _ hb rfl)
        | false=>
          refine bq (by simp) (bv ?_)
          rw[jN,hb];rfl
theorem kT (H B : Int) (P S : List EX) (F : List HD) : Ev (fun K => impl_GoodSystem.f K H B P S F) (nT H B P S F) := by
  unfold impl_GoodSystem.f nT
  have hj:∀ b:Bool,(b=false→F.length≤12)→Ev (fun K=>impl_GoodSystem.j0 K b H B P S F) (!b&&ek B (fileAt F) F.length 0):=by
    intro b hb
    cases b with
    | true=>exact Ev.step (fun _=>impl_GoodSystem.j0.eq_2 ..) (aM rfl (bv rfl))
    | false=>exact Ev.step (fun _=>impl_GoodSystem.j0.eq_2 ..) (bq (by simp) (jq (g:=fileAt F) (fun _=>rfl) (hb rfl) H B P S F.length 0 (by omega)))
  refine bV (show impl_GoodFree.f B P S=some (dU B P S) from rfl) ?_
  cases dU B P S with
  | false=>exact bq (by simp) (hj true (fun h=>by cases h))
  | true=>
    refine aM rfl (bV (within_is' H 0 B) ?_)
    rw[Bool.true_and]
    cases decide (0≤H∧H≤B) with
    | false=>exact bq (by simp) (hj true (fun h=>by cases h))
    | true=>
      refine aM rfl ?_
      rw[Bool.true_and]
      have e:(decide (F.length≤12)) = !decide ((F.length:Int) > 12):=by
        by_cases h:F.length≤12
        · rw[decide_eq_true h,decide_eq_false (by omega)];rfl
        · rw[decide_eq_false h,decide_eq_true (by omega)];rfl
      rw[e]
      exact hj _ (fun h=>by have:=of_decide_eq_false h;omega)
theorem kX {F : List HD} (H B : Int) (P S : List EX) {size : Int} {nm : ByteArray} {L : List PC} (i : Int) {R : Bool} (hok : ∀ j, j < L.length → okP (gZ L j) = true) (hl : L.length ≤ 40) (hbad : L.any (fK size B) = true → R = false) (hgo : L.any (fK size B) = false → Ev (fun K => spec_GoodSystem.l0 K F (F.length : Int) (wrap64 (i + 1)) H B P S F) R) :
    ∀ (f j:Nat),j+f=L.length→(L.take j).any (fK size B)=false→Ev (fun K=>spec_GoodSystem.l1 K F (F.length:Int) i L (L.length:Int) (j:Int) H B P S F nm size L) R:=by
  intro f
  induction f with
  | zero=>
    intro j hj ha
    rw[List.take_of_length_le (by omega)] at ha
    exact Ev.step (fun _=>spec_GoodSystem.l1.eq_2 ..) (bq (by omega) (hgo ha))
  | succ f ih=>
    intro j hj ha
    have hjl:j<L.length:=by omega
    have ho:=dS.1 (hok j hjl)
    have hx:ax L (j:Int)=L[j]:=fZ hjl
    rw[fZ hjl] at ho
    have ht:L.take (j+1)=L.take j++[L[j]]:=List.take_succ_eq_append_getElem hjl
    have hm:L[j]∈L:=List.getElem_mem hjl
    have z0:(j:Int) < (L.length:Int):=by omega
    have z1:0≤(j:Int):=by omega
    refine Ev.step (fun _=>spec_GoodSystem.l1.eq_2 ..) (aM z0 (aM z1 (aM z0 ?_)))
    rw[hx]
    have hany:fK size B L[j]=true→R=false:=fun h=>hbad (List.any_eq_true.2 ⟨_,hm,h⟩)
    clear hx hm
    have hj1:=av (show wrap64 ((j:Int)+1) = ((j+1:Nat):Int) from add1 hjl (by omega))
    generalize L[j]=p at ho ht hany ⊢
    have e1:=w64 (x:=p.f0+p.f1) (by omega) (by omega)
    have e2:=w64 (x:=p.f2+p.f1) (by omega) (by omega)
    rw[e1,e2]
    clear e1 e2
    by_cases c1:p.f0+p.f1 > size
    · exact aM c1 (bv (hany (by unfold fK;rw[decide_eq_true (show size<p.f0+p.f1 from c1)];rfl)).symm)
    · refine bq c1 ?_
      by_cases c2:p.f2+p.f1 > B
      · exact aM c2 (bv (hany (by unfold fK;rw[decide_eq_true (show B<p.f2+p.f1 from c2),Bool.or_true])).symm)
      · refine bq c2 ?_
        rw[hj1.out]
        refine ih (j+1) (by omega) ?_
        rw[ht,List.any_append,ha,List.any_cons,List.any_nil,Bool.false_or,Bool.or_false]
        unfold fK
        rw[decide_eq_false (show ¬ size<p.f0+p.f1 from c1),decide_eq_false (show ¬ B<p.f2+p.f1 from c2)]
        rfl
theorem jB {F : List HD} {g : Nat → HD} (hg : ∀ i : Nat, az F (i : Int) = g i) (hz : ∀ i : Nat, i < F.length → (g i).f0.size ≤ 9223372036854775807 ∧ (g i).f2.f0.length ≤ 1000000000000000000) (hF : F.length ≤ 12) (H B : Int) (P S : List EX) : ∀ (f i : Nat), i + f = F.length →
    Ev (fun K=>spec_GoodSystem.l0 K F (F.length:Int) (i:Int) H B P S F) (ek B g f i):=by
  intro f
  induction f with
  | zero=>
    intro i hi
    exact Ev.step (fun _=>spec_GoodSystem.l0.eq_2 ..) (bq (by omega) (bv rfl))
  | succ f ih=>
    intro i hi
    have hil:i<F.length:=by omega
    have hzi:=hz i hil
    have z0:(i:Int) < (F.length:Int):=by omega
    have z1:0≤(i:Int):=by omega
    refine Ev.step (fun _=>spec_GoodSystem.l0.eq_2 ..) (aM z0 (aM z1 (aM z0 ?_)))
    rw[hg i]
    have j2t:∀ r:Bool,r=false→Ev (fun K=>spec_GoodSystem.j2 K F (F.length:Int) (i:Int) true H B P S F (g i).f0 (g i).f1 (g i).f2.f0) r:=fun r hr=>Ev.step (fun _=>spec_GoodSystem.j2.eq_2 ..) (aM rfl (bv hr.symm))
    refine Ev.bind (l7 (g i).f0 hzi.1) ?_
    rw[ek,jO,iC]
    cases hn:dZ (g i).f0 with
    | false=>exact bq (by simp) (j2t _ rfl)
    | true=>
      refine aM rfl ?_
      rw[Bool.true_and]
      have hgm:=av (kQ (g i).f2.f0 hzi.2)
      have hj2:∀ b:Bool,jN g i=true→(b=true→(decide (0≤(g i).f1∧(g i).f1≤200)&&dz (g i).f2.f0)=false)→(b=false→(decide (0≤(g i).f1∧(g i).f1≤200)&&dz (g i).f2.f0)=true)→
          Ev (fun K=>spec_GoodSystem.j2 K F (F.length:Int) (i:Int) b H B P S F (g i).f0 (g i).f1 (g i).f2.f0) (decide (0≤(g i).f1∧(g i).f1≤200) && (dz (g i).f2.f0 && !(g i).f2.f0.any (fK (g i).f1 B)) && (jN g i&&ek B g f (i+1))):=by
        intro b ho h1 h2
        rw[← Bool.and_assoc (decide _)]
        cases b with
        | true=>rw[h1 rfl,Bool.false_and,Bool.false_and];exact Ev.step (fun _=>spec_GoodSystem.j2.eq_2 ..) (aM rfl (bv rfl))
        | false=>
          have h3:=h2 rfl
          have h4:=iD (Bool.and_eq_true_iff.1 h3).2
          rw[h3,Bool.true_and,ho,Bool.true_and]
          refine Ev.step (fun _=>spec_GoodSystem.j2.eq_2 ..) (bq (by simp) ?_)
          refine kX H B P S (i:Int) h4.2 h4.1 (fun h=>by rw[h];rfl) (fun h=>?_) (g i).f2.f0.length 0 (by omega) rfl
          rw[h,add1 hil (by omega)]
          exact ih (i+1) (by omega)
      have hgo:jN g i=true→Ev (fun K=>(spec_l1In.f (g i).f1 0 200).bind fun t=>if t=true then (spec_GoodMap.f K (g i).f2.f0).bind fun u=>spec_GoodSystem.j2 K F (F.length:Int) (i:Int) (!u) H B P S F (g i).f0 (g i).f1 (g i).f2.f0 else spec_GoodSystem.j2 K F (F.length:Int) (i:Int) true H B P S F (g i).f0 (g i).f1 (g i).f2.f0)
          (decide (0≤(g i).f1∧(g i).f1≤200) && (dz (g i).f2.f0 && !(g i).f2.f0.any (fK (g i).f1 B)) && (jN g i&&ek B g f (i+1))):=by
        intro ho
        refine bV (l1In_is' _ _ _) ?_
        cases hd:decide (0≤(g i).f1∧(g i).f1≤200) with
        | false=>
          have:=hj2 true ho (fun _=>by rw[hd];rfl) (fun h=>by cases h)
          rw[hd] at this
          exact bq (by simp) this
        | true=>
          refine aM rfl (Ev.bind hgm.out ?_)
          have:=hj2 (!dz (g i).f2.f0) ho (fun h=>by rw[hd];simpa using h) (fun h=>by rw[hd];simpa using h)
          rw[hd] at this
          exact this
      cases i with
      | zero=>exact bq (by omega) (hgo rfl)
      | succ m=>
        have z3:((m+1:Nat):Int) > 0:=by omega
        have z4:0≤(m:Int):=by omega
        have z5:(m:Int) < (F.length:Int):=by omega
        refine aM z3 ?_
        rw[nQ hil (by omega)]
        refine aM z4 (aM z5 ?_)
        rw[hg m]
        cases hb:Op.bytesLess (g m).f0.toList (g (m+1)).f0.toList with
        | true=>exact aM rfl (hgo hb)
        | false=>
          refine bq (by simp) (j2t _ ?_)
          rw[jN,hb,Bool.false_and,Bool.and_false]
theorem kN (H B : Int) (P S : List EX) (F : List HD) (hB : -9223372036854775808 ≤ B ∧ B ≤ 9223372036854775807) (hP : P.length ≤ 2000000) (hz : ∀ x ∈ F, x.f0.size ≤ 9223372036854775807 ∧ x.f2.f0.length ≤ 1000000000000000000) : Ev (fun K => spec_GoodSystem.f K H B P S F) (nT H B P S F) := by
  unfold spec_GoodSystem.f nT
  have hz2:∀ i:Nat,i<F.length→(fileAt F i).f0.size≤9223372036854775807∧(fileAt F i).f2.f0.length≤1000000000000000000:=fun i hi=>by
    have e:fileAt F i=F[i]:=by
      unfold fileAt az
      rw[Int.toNat_natCast,List.getD_eq_getElem?_getD,List.getElem?_eq_getElem hi];rfl
    rw[e]
    exact hz _ (List.getElem_mem hi)
  have hj:∀ b:Bool,(b=false→F.length≤12)→Ev (fun K=>spec_GoodSystem.j0 K b H B P S F) (!b&&ek B (fileAt F) F.length 0):=by
    intro b hb
    cases b with
    | true=>exact Ev.step (fun _=>spec_GoodSystem.j0.eq_2 ..) (aM rfl (bv rfl))
    | false=>exact Ev.step (fun _=>spec_GoodSystem.j0.eq_2 ..) (bq (by simp) (jB (g:=fileAt F) (fun _=>rfl) hz2 (hb rfl) H B P S F.length 0 (by omega)))
  refine Ev.bind (j3 B P S hB hP) ?_
  cases dU B P S with
  | false=>exact bq (by simp) (hj true (fun h=>by cases h))
  | true=>
    refine aM rfl (bV (l1In_is' H 0 B) ?_)
    rw[Bool.true_and]
    cases decide (0≤H∧H≤B) with
    | false=>exact bq (by simp) (hj true (fun h=>by cases h))
    | true=>
      refine aM rfl ?_
      rw[Bool.true_and]
      have e:(decide (F.length≤12)) = !decide ((F.length:Int) > 12):=by
        by_cases h:F.length≤12
        · rw[decide_eq_true h,decide_eq_false (by omega)];rfl
        · rw[decide_eq_false h,decide_eq_true (by omega)];rfl
      rw[e]
      exact hj _ (fun h=>by have:=of_decide_eq_false h;omega)
abbrev LE:=S80
abbrev LP:=S104
abbrev LH:=S63
theorem szE (l:List LE) (a:Int) (h0:0≤a) (h1:a≤1048576) (hm:l.length≤9223372036854775807):∃ r,laws_szExtentS.f l a=some r∧(r<0∨(0≤r∧r≤1048576∧l.length≤1048576)):=by
  unfold laws_szExtentS.f
  rw[w64 (x:=a - (l.length:Int)) (by omega) (by omega)]
  by_cases h:a - (l.length:Int)<0
  · exact⟨-1,if_pos h,.inl (by omega)⟩
  · exact⟨_,if_neg h,.inr (by omega)⟩
theorem szP (l:List LP) (a:Int) (h0:0≤a) (h1:a≤1048576) (hm:l.length≤9223372036854775807):∃ r,laws_szPieceS.f l a=some r∧(r<0∨(0≤r∧r≤1048576∧l.length≤1048576)):=by
  unfold laws_szPieceS.f
  rw[w64 (x:=a - (l.length:Int)) (by omega) (by omega)]
  by_cases h:a - (l.length:Int)<0
  · exact⟨-1,if_pos h,.inl (by omega)⟩
  · exact⟨_,if_neg h,.inr (by omega)⟩
theorem szF (B:Int) (l m:List LE) (a:Int) (h0:0≤a) (h1:a≤1048576) (hl:l.length≤9223372036854775807) (hm:m.length≤9223372036854775807):∃ r,laws_szFree.f B l m a=some r∧(r<0∨(0≤r∧r≤1048576∧l.length≤1048576∧m.length≤1048576)):=by
  unfold laws_szFree.f
  obtain⟨r,e,hr⟩:=szE l a h0 h1 hl
  rw[e,Option.bind_some]
  by_cases h:r<0
  · exact⟨-1,if_pos h,.inl (by omega)⟩
  · obtain⟨a1,a2,a3⟩:=hr.resolve_left h
    rw[if_neg h]
    obtain⟨q,e2,hq⟩:=szE m r a1 a2 hm
    rw[e2,Option.bind_some]
    by_cases h2:q<0
    · exact⟨-1,if_pos h2,.inl (by omega)⟩
    · obtain⟨b1,b2,b3⟩:=hq.resolve_left h2
      exact⟨q,if_neg h2,.inr ⟨b1,b2,a3,b3⟩⟩
def SmH (x:LH):Prop:=x.f0.size≤1048576∧x.f2.f0.length≤1048576
theorem szH (x:LH) (a:Int) (h0:0≤a) (h1:a≤1048576) (hn:x.f0.size≤9223372036854775807) (hm:x.f2.f0.length≤9223372036854775807):∃ r,laws_szHeld.f x.f0 x.f1 x.f2.f0 a=some r∧(r<0∨(0≤r∧r≤1048576∧SmH x)):=by
  unfold laws_szHeld.f laws_szFileMap.f
  rw[w64 (x:=a - (x.f0.size:Int)) (by omega) (by omega)]
  by_cases h:a - (x.f0.size:Int)<0
  · exact⟨-1,if_pos h,.inl (by omega)⟩
  · rw[if_neg h]
    obtain⟨q,e2,hq⟩:=szP x.f2.f0 (a - (x.f0.size:Int)) (by omega) (by omega) hm
    rw[e2,Option.bind_some]
    by_cases h2:q<0
    · rw[if_pos h2,Option.bind_some]
      exact⟨-1,if_pos (by omega),.inl (by omega)⟩
    · obtain⟨b1,b2,b3⟩:=hq.resolve_left h2
      rw[if_neg h2,Option.bind_some]
      exact⟨q,if_neg h2,.inr ⟨b1,b2,by omega,b3⟩⟩
def SmF (l:List LH):Prop:=l.length≤1048576∧∀ x∈l,SmH x
theorem szHS (l : List LH) (a : Int) (h0 : 0 ≤ a) (h1 : a ≤ 1048576) (hm : l.length ≤ 9223372036854775807) (hw : ∀ x ∈ l, x.f0.size ≤ 9223372036854775807 ∧ x.f2.f0.length ≤ 9223372036854775807) :
    ∃ r,(r<0∨(0≤r∧r≤1048576∧SmF l))∧Ev (fun k=>laws_szHeldS.f k l a) r:=by
  unfold laws_szHeldS.f
  rw[w64 (x:=a - (l.length:Int)) (by omega) (by omega)]
  by_cases hn:a - (l.length:Int)<0
  · exact⟨-1,.inl (by omega),aM hn (bv rfl)⟩
  · obtain ⟨r, hp, hr⟩ := ow (fun k (a : Int) i => laws_szHeldS.l0 k l a i) l.length (fun i a => 0 ≤ a ∧ a ≤ 1048576 ∧ ∀ j : Nat, (j : Int) < i → ∀ x, l[j]? = some x → SmH x)
      (fun r=>r<0∨(0≤r∧r≤1048576∧SmF l))
      (fun s hs=>⟨s,.inr ⟨hs.1,hs.2.1,by omega,fun x hx=>by
        obtain⟨j,hj,rfl⟩:=List.getElem_of_mem hx
        exact hs.2.2 j (by omega) _ (List.getElem?_eq_getElem hj)⟩,Ev.step (fun _=>laws_szHeldS.l0.eq_2 ..) (bq (by omega) (bv rfl))⟩)
      (fun s i h2 h3 hs=>by
        have hi:i.toNat<l.length:=by omega
        have er:bP l i=l[i.toNat]:=getD_at l _ i hi
        have hx:=hw _ (List.getElem_mem hi)
        have ei:=av (show wrap64 (i+1)=i+1 from w64 (by omega) (by omega))
        obtain⟨q,e,hq⟩:=szH l[i.toNat] s hs.1 hs.2.1 hx.1 hx.2
        by_cases hn:q<0
        · refine .inl ⟨-1,.inl (by omega),Ev.step (fun _=>laws_szHeldS.l0.eq_2 ..) (aM (by omega) (aM h2 ?_))⟩
          rw[er]
          exact bV e (aM hn (bv rfl))
        · obtain⟨a1,a2,a3⟩:=hq.resolve_left hn
          refine .inr ⟨q,⟨a1,a2,fun j hj x hjx=>?_⟩,fun r hr=>Ev.step (fun _=>laws_szHeldS.l0.eq_2 ..) (aM (by omega) (aM h2 ?_))⟩
          · by_cases hji:j=i.toNat
            · subst hji
              rw[List.getElem?_eq_getElem hi] at hjx
              obtain rfl:=Option.some.inj hjx
              exact a3
            · exact hs.2.2 j (by omega) x hjx
          · rw[er]
            refine bV e (bq hn ?_)
            rw[ei.out]
            exact hr) (a - (l.length:Int)) ⟨by omega,by omega,fun j hj=>by omega⟩
    exact⟨r,hp,bq hn hr⟩
theorem szSys (H B:Int) (l m:List LE) (f:List LH) (hl:l.length≤9223372036854775807) (hm:m.length≤9223372036854775807) (hf:f.length≤9223372036854775807) (hw:∀ x∈f,x.f0.size≤9223372036854775807∧x.f2.f0.length≤9223372036854775807) :
    ∃ r,(r<0∨(0≤r∧l.length≤1048576∧m.length≤1048576∧SmF f))∧Ev (fun k=>laws_szSystem.f k H B l m f 1048576) r:=by
  unfold laws_szSystem.f
  obtain⟨r,e,hr⟩:=szF B l m 1048576 (by omega) (by omega) hl hm
  by_cases h:r<0
  · exact⟨-1,.inl (by omega),bV e (aM h (bv rfl))⟩
  · obtain⟨a1,a2,a3,a4⟩:=hr.resolve_left h
    obtain⟨q,hq,eq⟩:=szHS f r a1 a2 hf hw
    by_cases h2:q<0
    · exact⟨-1,.inl (by omega),bV e (bq h (Ev.bind eq (aM h2 (bv rfl))))⟩
    · obtain⟨b1,b2,b3⟩:=hq.resolve_left h2
      exact⟨q,.inr ⟨b1,a3,a4,b3⟩,bV e (bq h (Ev.bind eq (bq h2 (bv rfl))))⟩
def cE (x:LE):EX:=⟨x.f0,x.f1⟩
def cP (x:LP):PC:=⟨x.f0,x.f1,x.f2,x.f3⟩
def cH (x:LH):HD:=⟨x.f0,x.f1,⟨x.f2.f0.map cP⟩⟩
theorem toE (l:List LE) (hl:l.length≤1048576):Ev (fun k=>laws_toExtentS.f k l) (l.map cE):=by
  unfold laws_toExtentS.f
  refine aM (by omega) (aM (by omega) ?_)
  refine jK l cE (fun k x i=>laws_toExtentS.l0 k l x i) _ (by simp) (fun x i hi h0 h1 hx r hr=>?_) _ (Ev.step (fun _=>laws_toExtentS.l0.eq_2 ..) (bq (by omega) (bv rfl)))
  have er:eD l i=l[i.toNat]:=getD_at l _ i hi
  have ei:=av (show wrap64 (i+1)=i+1 from w64 (by omega) (by omega))
  refine Ev.step (fun _=>laws_toExtentS.l0.eq_2 ..) (aM (by omega) (aM h0 (bV (a:=((eD l i).f0,(eD l i).f1)) rfl (aM (by omega) ?_))))
  rw[ei.out,er]
  exact hr
theorem toP (l:List LP) (hl:l.length≤1048576):Ev (fun k=>laws_toPieceS.f k l) (l.map cP):=by
  unfold laws_toPieceS.f
  refine aM (by omega) (aM (by omega) ?_)
  refine jK l cP (fun k x i=>laws_toPieceS.l0 k l x i) _ (by simp) (fun x i hi h0 h1 hx r hr=>?_) _ (Ev.step (fun _=>laws_toPieceS.l0.eq_2 ..) (bq (by omega) (bv rfl)))
  have er:bY l i=l[i.toNat]:=getD_at l _ i hi
  have ei:=av (show wrap64 (i+1)=i+1 from w64 (by omega) (by omega))
  refine Ev.step (fun _=>laws_toPieceS.l0.eq_2 ..) (aM (by omega) (aM h0 (bV (a:=((bY l i).f0,(bY l i).f1,(bY l i).f2,(bY l i).f3)) rfl (aM (by omega) ?_))))
  rw[ei.out,er]
  exact hr
theorem toHS (l:List LH) (h:SmF l):Ev (fun k=>laws_toHeldS.f k l) (l.map cH):=by
  obtain⟨hl,hw⟩:=h
  unfold laws_toHeldS.f
  refine aM (by omega) (aM (by omega) ?_)
  refine jK l cH (fun k x i=>laws_toHeldS.l0 k l x i) _ (by simp) (fun x i hi h0 h1 hx r hr=>?_) _ (Ev.step (fun _=>laws_toHeldS.l0.eq_2 ..) (bq (by omega) (bv rfl)))
  have er:bP l i=l[i.toNat]:=getD_at l _ i hi
  have h2:=hw _ (List.getElem_mem hi)
  have ei:=av (show wrap64 (i+1)=i+1 from w64 (by omega) (by omega))
  have z1:i < (l.length:Int):=by omega
  have z2:i < (x.length:Int):=by omega
  refine Ev.step (fun _=>laws_toHeldS.l0.eq_2 ..) (aM z1 (aM h0 ?_))
  rw[er]
  have hT:Ev (fun k=>laws_toHeld.f k l[i.toNat].f0 l[i.toNat].f1 l[i.toNat].f2.f0) (l[i.toNat].f0,l[i.toNat].f1,l[i.toNat].f2.f0.map cP):=by
    unfold laws_toHeld.f laws_toFileMap.f
    exact Ev.bind (Ev.bind (toP _ h2.2) (bv rfl)) (bv rfl)
  refine Ev.bind hT (aM z2 ?_)
  rw[ei.out]
  exact hr
theorem toSys (H B:Int) (l m:List LE) (f:List LH) (hl:l.length≤1048576) (hm:m.length≤1048576) (hf:SmF f):Ev (fun k=>laws_toSystem.f k H B l m f) (H,B,l.map cE,m.map cE,f.map cH):=by
  unfold laws_toSystem.f laws_toFree.f
  exact Ev.bind (Ev.bind (toE l hl) (Ev.bind (toE m hm) (bv rfl))) (Ev.bind (toHS f hf) (bv rfl))
theorem eqE (l:List EX) (h:l.length≤1048576):Ev (fun k=>laws_eqExtentS.f k l l) true:=by
  unfold laws_eqExtentS.f
  refine aM rfl (jH (fun k i=>laws_eqExtentS.l0 k l l i) l.length true (Ev.step (fun _=>laws_eqExtentS.l0.eq_2 ..) (bq (by omega) (bv rfl))) (fun i h0 h1 hr=>?_))
  refine Ev.step (fun _=>laws_eqExtentS.l0.eq_2 ..) (aM (by omega) (aM h0 (aM (by omega) (bV (a:=true) ?_ (dK rfl ?_)))))
  · unfold laws_eqExtent.f
    rw[if_pos rfl,if_pos rfl]
  · rw[w64 (x:=i+1) (by omega) (by omega)]
    exact hr
theorem eqP (l:List PC) (h:l.length≤1048576):Ev (fun k=>laws_eqPieceS.f k l l) true:=by
  unfold laws_eqPieceS.f
  refine aM rfl (jH (fun k i=>laws_eqPieceS.l0 k l l i) l.length true (Ev.step (fun _=>laws_eqPieceS.l0.eq_2 ..) (bq (by omega) (bv rfl))) (fun i h0 h1 hr=>?_))
  refine Ev.step (fun _=>laws_eqPieceS.l0.eq_2 ..) (aM (by omega) (aM h0 (aM (by omega) (bV (a:=true) ?_ (dK rfl ?_)))))
  · unfold laws_eqPiece.f
    rw[if_pos rfl,if_pos rfl,if_pos rfl,if_neg (by simp)]
  · rw[w64 (x:=i+1) (by omega) (by omega)]
    exact hr
theorem eqHS (l:List HD) (h:l.length≤1048576) (hw:∀ x∈l,x.f2.f0.length≤1048576):Ev (fun k=>laws_eqHeldS.f k l l) true:=by
  unfold laws_eqHeldS.f
  refine aM rfl (jH (fun k i=>laws_eqHeldS.l0 k l l i) l.length true (Ev.step (fun _=>laws_eqHeldS.l0.eq_2 ..) (bq (by omega) (bv rfl))) (fun i h0 h1 hr=>?_))
  have hi:i.toNat<l.length:=by omega
  have er:az l i=l[i.toNat]:=getD_at l _ i hi
  have h2:=hw _ (List.getElem_mem hi)
  have ei:=av (show wrap64 (i+1)=i+1 from w64 (by omega) (by omega))
  have z1:i < (l.length:Int):=by omega
  refine Ev.step (fun _=>laws_eqHeldS.l0.eq_2 ..) (aM z1 (aM h0 (aM z1 ?_)))
  rw[er]
  refine Ev.bind (a:=true) ?_ (dK rfl ?_)
  · unfold laws_eqHeld.f laws_eqFileMap.f
    exact aM rfl (aM rfl (Ev.bind (Ev.bind (eqP _ h2) (dK rfl (bv rfl))) (dK rfl (bv rfl))))
  · rw[ei.out]
    exact hr
theorem eqSys (H B:Int) (l m:List EX) (f:List HD) (hl:l.length≤1048576) (hm:m.length≤1048576) (hf:f.length≤1048576) (hw:∀ x∈f,x.f2.f0.length≤1048576):Ev (fun k=>laws_eqSystem.f k H B l m f H B l m f) true:=by
  unfold laws_eqSystem.f laws_eqFree.f
  exact aM rfl (Ev.bind (aM rfl (Ev.bind (eqE l hl) (dK rfl (Ev.bind (eqE m hm) (dK rfl (bv rfl)))))) (dK rfl (Ev.bind (eqHS f hf hw) (dK rfl (bv rfl)))))
theorem iy (H B:Int) (l m:List LE) (f:List LH) (hB : -9223372036854775808≤B∧B≤9223372036854775807) (hl:l.length≤9223372036854775807) (hm:m.length≤9223372036854775807) (hf:f.length≤9223372036854775807) (hw:∀ x∈f,x.f0.size≤9223372036854775807∧x.f2.f0.length≤9223372036854775807) :
    ∃ k,laws_FnExactGoodSystem.ok k H B l m f:=by
  obtain⟨r,hr,⟨K1,er⟩⟩:=szSys H B l m f hl hm hf hw
  by_cases h:r<0
  · exact⟨K1,.inl ⟨r,er _ (Nat.le_refl _),h⟩⟩
  · obtain⟨a1,a2,a3,a4⟩:=hr.resolve_left h
    obtain⟨K2,ht⟩:=toSys H B l m f a2 a3 a4
    have hP:(l.map cE).length≤2000000:=by rw[List.length_map];omega
    have hz:∀ x∈f.map cH,x.f0.size≤9223372036854775807∧x.f2.f0.length≤1000000000000000000:=fun x hx=>by
      obtain⟨v,hv,rfl⟩:=List.mem_map.1 hx
      have:=a4.2 v hv
      refine⟨by have:=this.1;show v.f0.size≤_;omega,?_⟩
      show(v.f2.f0.map cP).length≤_
      rw[List.length_map]
      have:=this.2
      omega
    have hz2:∀ x∈f.map cH,x.f2.f0.length≤1048576:=fun x hx=>by
      obtain⟨v,hv,rfl⟩:=List.mem_map.1 hx
      show(v.f2.f0.map cP).length≤_
      rw[List.length_map]
      exact(a4.2 v hv).2
    obtain⟨K3,e1⟩:=kN H B (l.map cE) (m.map cE) (f.map cH) hB hP hz
    obtain⟨K4,e2⟩:=kT H B (l.map cE) (m.map cE) (f.map cH)
    obtain⟨K5,e3⟩:=eqSys H B (l.map cE) (m.map cE) (f.map cH) (by rw[List.length_map];exact a2) (by rw[List.length_map];exact a3) (by rw[List.length_map];exact a4.1) hz2
    exact⟨K1+K2+K3+K4+K5,.inr ⟨r,_,_,_,_,er _ (by omega),h,ht _ (by omega),e1 _ (by omega),e2 _ (by omega),e3 _ (by omega)⟩⟩
end Go.Proofs.YtdghdjachbbdmaaDoor.PFre
namespace Go.Proofs.YtdghdjachbbdmaaDoor
open Go.RowKit
theorem Pure.FnExactGoodSystem (H B:Int) (l m:List PFre.LE) (f:List PFre.LH) (hw:((Lit.int .i64 H).wf=true)∧(((Lit.int .i64 B).wf=true)∧(l.length≤9223372036854775807∧∀ y0∈l,((Lit.int .i64 y0.f0).wf=true)∧((Lit.int .i64 y0.f1).wf=true))∧(m.length≤9223372036854775807∧∀ y0∈m,((Lit.int .i64 y0.f0).wf=true)∧((Lit.int .i64 y0.f1).wf=true)))∧(f.length≤9223372036854775807∧∀ y0∈f,(y0.f0.size≤9223372036854775807)∧((Lit.int .i64 y0.f1).wf=true)∧((y0.f2.f0.length≤9223372036854775807∧∀ y1∈y0.f2.f0,((Lit.int .i64 y1.f0).wf=true)∧((Lit.int .i64 y1.f1).wf=true)∧((Lit.int .i64 y1.f2).wf=true)∧(True))))) :
    ∃ k,PFre.laws_FnExactGoodSystem.ok k H B l m f:=
  PFre.iy H B l m f (E.wf64 hw.2.1.1) hw.2.1.2.1.1 hw.2.1.2.2.1 hw.2.2.1 (fun x hx=>⟨(hw.2.2.2 x hx).1,(hw.2.2.2 x hx).2.2.1⟩)
end Go.Proofs.YtdghdjachbbdmaaDoor
namespace Go.Proofs.YtdghdjachbbdmaaDoor.fnExactGoodSystem
open Go.ChangeShapes Go.WideShapes Go.ChangeAt Go.RowKit
open Go.ChangeMaps (open_string shut_string)
open Go.Proofs.YtdghdjachbbdmaaDoor.PFre Go.Proofs.YtdghdjachbbdmaaDoorW.PrintWords Go.Proofs.YtdghdjachbbdmaaDoor.O
set_option linter.unusedVariables false
set_option linter.unusedSimpArgs false
theorem own:ownKnob Tryd.prog.godebug=none:=by kernel_rfl
theorem laidOut:laidOutB Tryd.prog=true:=by kernel_rfl
set_option maxRecDepth 100000 in
theorem iZ {H:Type} {enc:TypeId×Value→H} {w:World} {base:Nat} {spare:Nat→Bool} {held:Bool} :
    dP enc Tryd.prog w base spare held k80 80 (fun x=>((Lit.int .i64 x.f0).wf=true)∧((Lit.int .i64 x.f1).wf=true)):=by
  have h:dP enc Tryd.prog w base spare held (Kd.pair (Kd.int .i64) (Kd.int .i64)) 80 (fun x=>((Lit.int .i64 x.1).wf=true)∧((Lit.int .i64 x.2).wf=true)):=
    dF Tryd.underlying80 (by kernel_rfl) (cO rfl (by kernel_rfl) (dN Tryd.underlying3) (dV rfl (by kernel_rfl) (dN Tryd.underlying3)))
  exact fD (fun x:S80=>(x.f0,x.f1)) (fun a=>⟨a.1,a.2⟩) (fun _=>rfl) h
set_option maxRecDepth 100000 in
theorem kC {H:Type} {enc:TypeId×Value→H} {w:World} {base:Nat} {spare:Nat→Bool} {held:Bool} :
    dP enc Tryd.prog w base spare held gB 104 (fun x=>((Lit.int .i64 x.f0).wf=true)∧((Lit.int .i64 x.f1).wf=true)∧((Lit.int .i64 x.f2).wf=true)∧(True)):=by
  have h:dP enc Tryd.prog w base spare held (Kd.pair (Kd.int .i64) (Kd.pair (Kd.int .i64) (Kd.pair (Kd.int .i64) Kd.bool))) 104 (fun x=>((Lit.int .i64 x.1).wf=true)∧((Lit.int .i64 x.2.1).wf=true)∧((Lit.int .i64 x.2.2.1).wf=true)∧(True)):=
    dF Tryd.underlying104 (by kernel_rfl) (cO rfl (by kernel_rfl) (dN Tryd.underlying3) (cO rfl (by kernel_rfl) (dN Tryd.underlying3) (cO rfl (by kernel_rfl) (dN Tryd.underlying3) (dV rfl (by kernel_rfl) (kG Tryd.underlying4)))))
  exact fD (fun x:S104=>(x.f0,x.f1,x.f2,x.f3)) (fun a=>⟨a.1,a.2.1,a.2.2.1,a.2.2.2⟩) (fun _=>rfl) h
set_option maxRecDepth 100000 in
theorem mh {H:Type} {enc:TypeId×Value→H} {w:World} {base:Nat} {spare:Nat→Bool} {held:Bool} :
    dP enc Tryd.prog w base spare held k61 61 (fun x=>(x.f0.length≤9223372036854775807∧∀ y0∈x.f0,((Lit.int .i64 y0.f0).wf=true)∧((Lit.int .i64 y0.f1).wf=true)∧((Lit.int .i64 y0.f2).wf=true)∧(True))):=by
  have h:dP enc Tryd.prog w base spare held (Kd.slice 104 gB) 61 (fun x=>(x.length≤9223372036854775807∧∀ y0∈x,((Lit.int .i64 y0.f0).wf=true)∧((Lit.int .i64 y0.f1).wf=true)∧((Lit.int .i64 y0.f2).wf=true)∧(True))):=
    dF Tryd.underlying61 (by kernel_rfl) (dV rfl (by kernel_rfl) (eG 104 Tryd.underlying59 (by kernel_rfl) kC))
  exact fD (fun x:S61=>x.f0) (fun a=>⟨a⟩) (fun _=>rfl) h
set_option maxRecDepth 100000 in
theorem lV {H:Type} {enc:TypeId×Value→H} {w:World} {base:Nat} {spare:Nat→Bool} {held:Bool} :
    dP enc Tryd.prog w base spare held k63 63 (fun x=>(x.f0.size≤9223372036854775807)∧((Lit.int .i64 x.f1).wf=true)∧((x.f2.f0.length≤9223372036854775807∧∀ y0∈x.f2.f0,((Lit.int .i64 y0.f0).wf=true)∧((Lit.int .i64 y0.f1).wf=true)∧((Lit.int .i64 y0.f2).wf=true)∧(True)))):=by
  have h:dP enc Tryd.prog w base spare held (Kd.pair Kd.string (Kd.pair (Kd.int .i64) k61)) 63 (fun x=>(x.1.size≤9223372036854775807)∧((Lit.int .i64 x.2.1).wf=true)∧((x.2.2.f0.length≤9223372036854775807∧∀ y0∈x.2.2.f0,((Lit.int .i64 y0.f0).wf=true)∧((Lit.int .i64 y0.f1).wf=true)∧((Lit.int .i64 y0.f2).wf=true)∧(True)))):=
    dF Tryd.underlying63 (by kernel_rfl) (cO rfl (by kernel_rfl) (jL Tryd.underlying9) (cO rfl (by kernel_rfl) (dN Tryd.underlying3) (dV (wf:=fun x:S61=>(x.f0.length≤9223372036854775807∧∀ y7∈x.f0,((Lit.int .i64 y7.f0).wf=true)∧((Lit.int .i64 y7.f1).wf=true)∧((Lit.int .i64 y7.f2).wf=true)∧(True))) rfl (by kernel_rfl) mh)))
  exact fD (fun x:S63=>(x.f0,x.f1,x.f2)) (fun a=>⟨a.1,a.2.1,a.2.2⟩) (fun _=>rfl) h
set_option maxRecDepth 100000 in
theorem lifted (os:Os) (started:os.Started) (H:Type) (enc:TypeId×Value→H) :
    ReturnsInHanded {} Tryd.checked os 3 .any (fun w args=>(Rows.fnExactGoodSystemSpec.pre enc Tryd.prog Tryd.f3 Rows.fnExactGoodSystemRow.domain false w args∧laidMetH Tryd.prog Rows.fnExactGoodSystemRow.laid w)∧sizedMet enc Tryd.prog Tryd.f3 (OpenSpec.ofChange Rows.fnExactGoodSystemSpec) false w args)
      (Rows.fnExactGoodSystemSpec.post enc Tryd.prog Tryd.f3 false true false false):=by
  refine returnsInHanded_of_change_and (C:=Tryd.checked) (X:=fun w _=>laidMetH Tryd.prog Rows.fnExactGoodSystemRow.laid w) (fun _ _ _ hh h=>h.of_heap hh) own started (by kernel_rfl) Tryd.func3
    (ChangeSpec.witness_shaped (enc:=enc) (C:=Tryd.checked) (os:=os) (X:=fun w _=>laidMetH Tryd.prog Rows.fnExactGoodSystemRow.laid w) false (World.laidAll Tryd.prog os Rows.fnExactGoodSystemRow.laid) #[.agg #[.int .i64 0,.int .i64 0,.slice none 0 0,.slice none 0 0,.slice none 0 0]] 8 (World.laidAll_os _ _ _)
      (World.shaped_of_ZipB (by kernel_rfl) (by kernel_rfl)) (by kernel_rfl) (by kernel_rfl) (by kernel_rfl)
      (by rw[MakeChecks.laidMetH_plain _ _ _ (by kernel_rfl)];exact laidMet_laidAll _ (by kernel_rfl) (by kernel_rfl))) ?_
  intro W base args ds gs before hval0 hW hcnd hsz0 _ _
  have hsz:(DataW.weightsEach Tryd.prog (Tryd.f3.params.toList++Rows.fnExactGoodSystemSpec.plain.varTypes Tryd.prog) (ds++gs)).all (·≤reachBytes)=true:=hsz0
  have hval:∀ (j:Nat) t v,Tryd.f3.params[j]? = some t→args[j]? = some v→Value.okWide Tryd.prog W .any base t v:=hval0
  have hW':=hW
  obtain⟨p,q,hA0,hV,rfl,hfz,hnd⟩:=hW
  have hA:DataW.TrodAll enc Tryd.prog W 0 (fun _=>true) true Tryd.f3.params.toList args.toList ds p:=hA0
  rw[Tryd.params3] at hA hval hsz
  obtain⟨v0,vs0,d0,ds0,p0,q0,hargs,rfl,rfl,h0,r0⟩:=trodAll_cons hA
  obtain⟨rfl,rfl,rfl⟩:=trodAll_nil r0
  obtain rfl:args=#[v0]:=by cases args;simp_all
  obtain⟨rfl,rfl⟩:=trodVars_none hV
  have lt0:∀ x∈p0,x.block<W.heap.size:=by obtain⟨m,hm⟩:=h0;exact DataW.trod_lt m _ _ _ hm
  have H0:=h0
  obtain⟨cs0,rfl,hcs0⟩:=okWide_struct Tryd.underlying27 (hval 0 27 v0 rfl rfl)
  obtain⟨fu0,hf0⟩:=h0
  have hO0:dP enc Tryd.prog W 0 (fun _=>true) true (Kd.pair (Kd.int .i64) (Kd.pair (Kd.pair (Kd.int .i64) (Kd.pair (Kd.slice 80 k80) (Kd.slice 80 k80))) (Kd.slice 63 k63))) 27 (fun x=>((Lit.int .i64 x.1).wf=true)∧(((Lit.int .i64 (x.2.1).1).wf=true)∧((x.2.1).2.1.length≤9223372036854775807∧∀ y0∈(x.2.1).2.1,((Lit.int .i64 y0.f0).wf=true)∧((Lit.int .i64 y0.f1).wf=true))∧((x.2.1).2.2.length≤9223372036854775807∧∀ y0∈(x.2.1).2.2,((Lit.int .i64 y0.f0).wf=true)∧((Lit.int .i64 y0.f1).wf=true)))∧(x.2.2.length≤9223372036854775807∧∀ y0∈x.2.2,(y0.f0.size≤9223372036854775807)∧((Lit.int .i64 y0.f1).wf=true)∧((y0.f2.f0.length≤9223372036854775807∧∀ y1∈y0.f2.f0,((Lit.int .i64 y1.f0).wf=true)∧((Lit.int .i64 y1.f1).wf=true)∧((Lit.int .i64 y1.f2).wf=true)∧(True))))):=dF Tryd.underlying27 (by kernel_rfl) (cO rfl (by kernel_rfl) (dN Tryd.underlying3) (cO rfl (by kernel_rfl) (dF Tryd.underlying24 (by kernel_rfl) (cO rfl (by kernel_rfl) (dN Tryd.underlying3) (cO rfl (by kernel_rfl) (eG 80 Tryd.underlying22 (by kernel_rfl) iZ) (dV rfl (by kernel_rfl) (eG 80 Tryd.underlying22 (by kernel_rfl) iZ))))) (dV rfl (by kernel_rfl) (eG 63 Tryd.underlying25 (by kernel_rfl) lV))))
  obtain⟨x0,hK0,hw0⟩:=hO0 _ _ _ hf0
  obtain⟨l0_0,⟨l0_1,l0_2,l0_3⟩,l0_4⟩:=x0
  obtain⟨_,_,hcs0_0,rfl,⟨_,_,hcs0_1,⟨_,_,rfl,rfl,⟨_,_,rfl,⟨A0_2,c0_2,rfl,hc0_2,hC0_2⟩,⟨A0_3,c0_3,rfl,hc0_3,hC0_3⟩⟩⟩,⟨A0_4,c0_4,rfl,hc0_4,hC0_4⟩⟩⟩:=hK0
  obtain rfl:cs0=#[.int .i64 l0_0,.int .i64 l0_1,.slice A0_2 l0_2.length c0_2,.slice A0_3 l0_3.length c0_3,.slice A0_4 l0_4.length c0_4]:=by
    cases cs0 with|mk L=>simp only[Value.cells] at hcs0_0;subst hcs0_1;simpa using hcs0_0
  clear hA0 hval0 hsz0 hsz
  obtain⟨k,hk⟩:=Pure.FnExactGoodSystem l0_0 l0_1 l0_2 l0_3 l0_4 hw0
  refine(laws_FnExactGoodSystem.calls k l0_0 l0_1 A0_2 c0_2 l0_2 A0_3 c0_3 l0_3 A0_4 c0_4 l0_4 true W hC0_2 hc0_2 hC0_3 hc0_3 hC0_4 hc0_4 hk).mono fun e W' ⟨he,bel⟩=>?_
  subst he
  exact⟨_,rfl,_,_,_,[],_,[],hW',trodAll_mk1 (shut_bool Tryd.underlying4 _),(trodAll_cons_mk (Below.trod laidOut (by kernel_rfl) (of_decide_eq_true (by kernel_rfl)) H0 bel lt0) trodAll_mk0),rfl,bel.frame _,fun h=>by cases h⟩
theorem over:Rows.fnExactGoodSystemRow.holds Tryd.pinned (OpenSpec.ofChange Rows.fnExactGoodSystemSpec):=
  OpenClaim.holds_of_wide 3 Tryd.f3 rfl rfl rfl rfl rfl rfl rfl ⟨rfl,rfl,rfl,rfl,rfl⟩ rfl rfl rfl rfl rfl (by kernel_rfl) Tryd.func3 (by kernel_rfl)
    (of_decide_eq_true (by kernel_rfl)) (by unfold Func.isWrapper;first|(rw[if_pos (by decide +kernel)];kernel_rfl)|(rw[if_neg (by decide +kernel)];exact⟨rfl,rfl⟩))
    (fun os started H enc _=>lifted os started H enc)
theorem proved : Rows.FnExactGoodSystemCardSaid :=
  Claim7.holds_tied_plain_at .later [] [.data, .pinned] true (true, "abef4d8a17b8fba197b48e903ff06e0c258cabfcdafaeaa978eb24e4a2897846") false over (fun _ h => by cases h) (by kernel_rfl) (fun _ h => by cases h) fnExactGoodSystem_row_tie rfl ⟨rfl, rfl⟩ (by kernel_rfl) rfl
    (fun f fn hf hfn=>by
      obtain rfl : f = 3 := Option.some.inj ((show Tryd.prog.funcNamed "loop.example/g00261/laws.FnExactGoodSystem" = some 3 by kernel_rfl).symm.trans hf) |>.symm
      obtain rfl:fn=Tryd.f3:=(Option.some.inj (Tryd.func3.symm.trans hfn)).symm
      exact⟨by kernel_rfl,fun j t ht=>by
        rw[Tryd.params3] at ht
        have hm:t∈[27]:=by simpa using Array.mem_of_getElem? ht
        have hall:([27].all fun u=>!Tryd.prog.wantsStandIn u)=true:=by kernel_rfl
        exact(show Tryd.prog.wantsStandIn t=false by simpa using List.all_eq_true.1 hall t hm)⟩)
    (by kernel_rfl)
#print axioms proved
end Go.Proofs.YtdghdjachbbdmaaDoor.fnExactGoodSystem
namespace Go.Proofs.YtdghdjachbbdmaaDoor
theorem fnExactGoodSystem_holds:Rows.FnExactGoodSystemCardSaid:=fnExactGoodSystem.proved
end Go.Proofs.YtdghdjachbbdmaaDoor
