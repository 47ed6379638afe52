import Derived.Test.YtdghdjachbbdmaaDoorSGoo2
namespace Go.Proofs.YtdghdjachbbdmaaDoor.PFre
open Go.RowKit Go.Proofs.YtdghdjachbbdmaaDoorW.PrintWords Go.Proofs.YtdghdjachbbdmaaDoorW.PrintLast Go.Proofs.YtdghdjachbbdmaaDoorW.PrintMore
attribute [local go_sem] bG bF bQ bR bB bC bH bE
set_option linter.unusedVariables false
set_option linter.unusedSimpArgs false
def laws_eqExtent.f (a0_0:Int) (a0_1:Int) (a1_0:Int) (a1_1:Int):Option (Bool):=if a0_0=a1_0 then (if a0_1=a1_1 then (some true) else (some false)) else (some false)
set_option maxHeartbeats 8000000 in
set_option maxRecDepth 100000 in
theorem laws_eqExtent.calls (a0_0:Int) (a0_1:Int) (a1_0:Int) (a1_1:Int) (r:Bool) (w:World) (h:laws_eqExtent.f a0_0 a0_1 a1_0 a1_1=some r) :
  Calls Tryd.prog 51 #[.agg #[.int .i64 a0_0,.int .i64 a0_1],.agg #[.int .i64 a1_0,.int .i64 a1_1]] w fun e w'=>e = .returned (.bool r)∧Below w.heap.size w w':=by
 have hu72:=Tryd.underlying72
 have HB:=av (Below.refl w.heap.size w)
 have H:(if a0_0=a1_0 then (if a0_1=a1_1 then (some true) else (some false)) else (some false))=some r:=h
 clear h
 by_cases c3:a0_0=a1_0
 ·rw[if_pos c3] at H
  have c3b0:(a0_0 == a1_0)=true:=beq_iff_eq.mpr c3
  have c3b1:(a0_0 != a1_0)=false:=bne_eq_false_iff_eq.mpr c3
  clear c3
  by_cases c4:a0_1=a1_1
  ·rw[if_pos c4] at H
   have c4b0:(a0_1 == a1_1)=true:=beq_iff_eq.mpr c4
   have c4b1:(a0_1 != a1_1)=false:=bne_eq_false_iff_eq.mpr c4
   clear c4
   obtain rfl:=Option.some.inj H
   go_enter Tryd.func51,Tryd.ntmps51
   go_wp2_with (first|((with_reducible refine aJ (N:=2) rfl ?_);refine aI ?hg (N:=2) ?hd (cs:=#[.int .i64 a0_0,.int .i64 a0_1]) (t:=72) ?hr ?_;(case hd=>rfl);(case hg=>rfl);(case hr=>first|(go_simp;done)|(go_simp;rfl));intro gb314 hg w5 hbox hb;have BK314:=av (hbox);have GW314:=av ((by rw[hg];exact(ay (by with_reducible repeat(first|exact HB.out|apply af|apply aa|apply ae))):w.heap.size≤gb314));have GE314:=av ((by rw[hg];exact(ay (by with_reducible repeat(first|exact HB.out|apply af|apply aa|apply ae))):w.heap.size≤gb314));replace HB:=av (aA (by with_reducible repeat(first|exact HB.out|apply af|apply aa|apply ae)) hb);clear hb hbox hg)|((with_reducible refine aJ (N:=3) rfl ?_);refine aI ?hg (N:=3) ?hd (cs:=#[.int .i64 a1_0,.int .i64 a1_1]) (t:=72) ?hr ?_;(case hd=>rfl);(case hg=>rfl);(case hr=>first|(go_simp;done)|(go_simp;rfl));intro gb315 hg w6 hbox hb;have BK315:=av (hbox);have GW315:=av ((by rw[hg];exact(ay (by with_reducible repeat(first|exact HB.out|apply af|apply aa|apply ae|refine ai ?_ GE314.out))):w.heap.size≤gb315));have GE315:=av ((by rw[hg];exact(ay (by with_reducible repeat(first|exact HB.out|apply af|apply aa|apply ae|refine ai ?_ GE314.out))):w.heap.size≤gb315));replace HB:=av (aA (by with_reducible repeat(first|exact HB.out|apply af|apply aa|apply ae|refine ai ?_ GE314.out)) hb);have NB314_315:=av ((by rw[hg];exact Nat.ne_of_lt (aN (g:=gb314) (o:=.cells #[.int .i64 a0_0,.int .i64 a0_1] 72 (0,0)) (by(with_reducible repeat(first|apply aj|apply au|apply ak));exact BK314.out)):gb314≠gb315));have NB315_314:=av ((by rw[hg];exact Nat.ne_of_gt (aN (g:=gb314) (o:=.cells #[.int .i64 a0_0,.int .i64 a0_1] 72 (0,0)) (by(with_reducible repeat(first|apply aj|apply au|apply ak));exact BK314.out)):gb315≠gb314));replace BK314:=av (aG (g:=gb314) (o:=.cells #[.int .i64 a0_0,.int .i64 a0_1] 72 (0,0)) (by(with_reducible repeat(first|apply aj|apply au|apply ak));exact BK314.out) hb);clear hb hbox hg;have hnb7:=NB314_315.out;have hnc7:=NB315_314.out;have hcz8_0:w6.cell? ⟨gb314,0,none⟩=some (.int .i64 a0_0):=(ag BK314.out 0).trans rfl;have hcz8_1:w6.cell? ⟨gb314,1,none⟩=some (.int .i64 a0_1):=(ag BK314.out 1).trans rfl;have hfz8_0:=ah BK314.out 0;have hfz8_1:=ah BK314.out 1;have hcz9_0:w6.cell? ⟨gb315,0,none⟩=some (.int .i64 a1_0):=(ag BK315.out 0).trans rfl;have hcz9_1:w6.cell? ⟨gb315,1,none⟩=some (.int .i64 a1_1):=(ag BK315.out 1).trans rfl;have hfz9_0:=ah BK315.out 0;have hfz9_1:=ah BK315.out 1))
   go_ret
   exact⟨by first|rfl|(simp <;> rfl)|(simp[*] <;> rfl),by with_reducible repeat(first|exact HB.out|apply af|apply aa|apply ae|refine ai ?_ GE314.out|refine ai ?_ GE315.out)⟩
  ·rw[if_neg c4] at H
   have c4b0:(a0_1 == a1_1)=false:=beq_eq_false_iff_ne.mpr c4
   have c4b1:(a0_1 != a1_1)=true:=bne_iff_ne.mpr c4
   obtain rfl:=Option.some.inj H
   go_enter Tryd.func51,Tryd.ntmps51
   go_wp2_with (first|((with_reducible refine aJ (N:=2) rfl ?_);refine aI ?hg (N:=2) ?hd (cs:=#[.int .i64 a0_0,.int .i64 a0_1]) (t:=72) ?hr ?_;(case hd=>rfl);(case hg=>rfl);(case hr=>first|(go_simp;done)|(go_simp;rfl));intro gb314 hg w10 hbox hb;have BK314:=av (hbox);have GW314:=av ((by rw[hg];exact(ay (by with_reducible repeat(first|exact HB.out|apply af|apply aa|apply ae))):w.heap.size≤gb314));have GE314:=av ((by rw[hg];exact(ay (by with_reducible repeat(first|exact HB.out|apply af|apply aa|apply ae))):w.heap.size≤gb314));replace HB:=av (aA (by with_reducible repeat(first|exact HB.out|apply af|apply aa|apply ae)) hb);clear hb hbox hg)|((with_reducible refine aJ (N:=3) rfl ?_);refine aI ?hg (N:=3) ?hd (cs:=#[.int .i64 a1_0,.int .i64 a1_1]) (t:=72) ?hr ?_;(case hd=>rfl);(case hg=>rfl);(case hr=>first|(go_simp;done)|(go_simp;rfl));intro gb315 hg w11 hbox hb;have BK315:=av (hbox);have GW315:=av ((by rw[hg];exact(ay (by with_reducible repeat(first|exact HB.out|apply af|apply aa|apply ae|refine ai ?_ GE314.out))):w.heap.size≤gb315));have GE315:=av ((by rw[hg];exact(ay (by with_reducible repeat(first|exact HB.out|apply af|apply aa|apply ae|refine ai ?_ GE314.out))):w.heap.size≤gb315));replace HB:=av (aA (by with_reducible repeat(first|exact HB.out|apply af|apply aa|apply ae|refine ai ?_ GE314.out)) hb);have NB314_315:=av ((by rw[hg];exact Nat.ne_of_lt (aN (g:=gb314) (o:=.cells #[.int .i64 a0_0,.int .i64 a0_1] 72 (0,0)) (by(with_reducible repeat(first|apply aj|apply au|apply ak));exact BK314.out)):gb314≠gb315));have NB315_314:=av ((by rw[hg];exact Nat.ne_of_gt (aN (g:=gb314) (o:=.cells #[.int .i64 a0_0,.int .i64 a0_1] 72 (0,0)) (by(with_reducible repeat(first|apply aj|apply au|apply ak));exact BK314.out)):gb315≠gb314));replace BK314:=av (aG (g:=gb314) (o:=.cells #[.int .i64 a0_0,.int .i64 a0_1] 72 (0,0)) (by(with_reducible repeat(first|apply aj|apply au|apply ak));exact BK314.out) hb);clear hb hbox hg;have hnb12:=NB314_315.out;have hnc12:=NB315_314.out;have hcz13_0:w11.cell? ⟨gb314,0,none⟩=some (.int .i64 a0_0):=(ag BK314.out 0).trans rfl;have hcz13_1:w11.cell? ⟨gb314,1,none⟩=some (.int .i64 a0_1):=(ag BK314.out 1).trans rfl;have hfz13_0:=ah BK314.out 0;have hfz13_1:=ah BK314.out 1;have hcz14_0:w11.cell? ⟨gb315,0,none⟩=some (.int .i64 a1_0):=(ag BK315.out 0).trans rfl;have hcz14_1:w11.cell? ⟨gb315,1,none⟩=some (.int .i64 a1_1):=(ag BK315.out 1).trans rfl;have hfz14_0:=ah BK315.out 0;have hfz14_1:=ah BK315.out 1))
   go_ret
   exact⟨by first|rfl|(simp <;> rfl)|(simp[*] <;> rfl),by with_reducible repeat(first|exact HB.out|apply af|apply aa|apply ae|refine ai ?_ GE314.out|refine ai ?_ GE315.out)⟩
 ·rw[if_neg c3] at H
  have c3b0:(a0_0 == a1_0)=false:=beq_eq_false_iff_ne.mpr c3
  have c3b1:(a0_0 != a1_0)=true:=bne_iff_ne.mpr c3
  obtain rfl:=Option.some.inj H
  go_enter Tryd.func51,Tryd.ntmps51
  go_wp2_with (first|((with_reducible refine aJ (N:=2) rfl ?_);refine aI ?hg (N:=2) ?hd (cs:=#[.int .i64 a0_0,.int .i64 a0_1]) (t:=72) ?hr ?_;(case hd=>rfl);(case hg=>rfl);(case hr=>first|(go_simp;done)|(go_simp;rfl));intro gb314 hg w15 hbox hb;have BK314:=av (hbox);have GW314:=av ((by rw[hg];exact(ay (by with_reducible repeat(first|exact HB.out|apply af|apply aa|apply ae))):w.heap.size≤gb314));have GE314:=av ((by rw[hg];exact(ay (by with_reducible repeat(first|exact HB.out|apply af|apply aa|apply ae))):w.heap.size≤gb314));replace HB:=av (aA (by with_reducible repeat(first|exact HB.out|apply af|apply aa|apply ae)) hb);clear hb hbox hg)|((with_reducible refine aJ (N:=3) rfl ?_);refine aI ?hg (N:=3) ?hd (cs:=#[.int .i64 a1_0,.int .i64 a1_1]) (t:=72) ?hr ?_;(case hd=>rfl);(case hg=>rfl);(case hr=>first|(go_simp;done)|(go_simp;rfl));intro gb315 hg w16 hbox hb;have BK315:=av (hbox);have GW315:=av ((by rw[hg];exact(ay (by with_reducible repeat(first|exact HB.out|apply af|apply aa|apply ae|refine ai ?_ GE314.out))):w.heap.size≤gb315));have GE315:=av ((by rw[hg];exact(ay (by with_reducible repeat(first|exact HB.out|apply af|apply aa|apply ae|refine ai ?_ GE314.out))):w.heap.size≤gb315));replace HB:=av (aA (by with_reducible repeat(first|exact HB.out|apply af|apply aa|apply ae|refine ai ?_ GE314.out)) hb);have NB314_315:=av ((by rw[hg];exact Nat.ne_of_lt (aN (g:=gb314) (o:=.cells #[.int .i64 a0_0,.int .i64 a0_1] 72 (0,0)) (by(with_reducible repeat(first|apply aj|apply au|apply ak));exact BK314.out)):gb314≠gb315));have NB315_314:=av ((by rw[hg];exact Nat.ne_of_gt (aN (g:=gb314) (o:=.cells #[.int .i64 a0_0,.int .i64 a0_1] 72 (0,0)) (by(with_reducible repeat(first|apply aj|apply au|apply ak));exact BK314.out)):gb315≠gb314));replace BK314:=av (aG (g:=gb314) (o:=.cells #[.int .i64 a0_0,.int .i64 a0_1] 72 (0,0)) (by(with_reducible repeat(first|apply aj|apply au|apply ak));exact BK314.out) hb);clear hb hbox hg;have hnb17:=NB314_315.out;have hnc17:=NB315_314.out;have hcz18_0:w16.cell? ⟨gb314,0,none⟩=some (.int .i64 a0_0):=(ag BK314.out 0).trans rfl;have hcz18_1:w16.cell? ⟨gb314,1,none⟩=some (.int .i64 a0_1):=(ag BK314.out 1).trans rfl;have hfz18_0:=ah BK314.out 0;have hfz18_1:=ah BK314.out 1;have hcz19_0:w16.cell? ⟨gb315,0,none⟩=some (.int .i64 a1_0):=(ag BK315.out 0).trans rfl;have hcz19_1:w16.cell? ⟨gb315,1,none⟩=some (.int .i64 a1_1):=(ag BK315.out 1).trans rfl;have hfz19_0:=ah BK315.out 0;have hfz19_1:=ah BK315.out 1))
  go_ret
  exact⟨by first|rfl|(simp <;> rfl)|(simp[*] <;> rfl),by with_reducible repeat(first|exact HB.out|apply af|apply aa|apply ae|refine ai ?_ GE314.out|refine ai ?_ GE315.out)⟩
def laws_eqExtentS.l0:Nat→List (S72)→List (S72)→Int→Option (Bool)
 | 0,_,_,_=>none
 | k+1,x0,x1,x5=>if x5 < (x0.length:Int) then (if 0≤x5 then (if x5 < (x1.length:Int) then ((laws_eqExtent.f ((aH x0 x5).f0) ((aH x0 x5).f1) ((aH x1 x5).f0) ((aH x1 x5).f1)).bind fun t318=>(if t318=true then (laws_eqExtentS.l0 k x0 x1 (wrap64 (x5+1))) else (some false))) else (none)) else (none)) else (some true)
def laws_eqExtentS.f (k:Nat) (l0:List (S72)) (l1:List (S72)):Option (Bool):=if (l0.length:Int) = (l1.length:Int) then (laws_eqExtentS.l0 k l0 l1 0) else (some false)
def laws_eqExtentS.T6:Bool×List (List Nat×List Nat):=(true,[([],[]),([],[]),([0,1],[0,1]),([2],[2]),([],[]),([],[]),([4,5],[4,5]),([6],[6]),([3,7],[3,7]),([8],[8])])
def laws_eqExtentS.B6:List Nat:=[0,0,3,7,0,0,48,112,255,511]
theorem laws_eqExtentS.tab6:dR .any (opsOf Tryd.f38 6)=laws_eqExtentS.T6:=by kernel_rfl
theorem laws_eqExtentS.bits6:dH laws_eqExtentS.T6.2 laws_eqExtentS.B6=true:=by kernel_rfl
set_option maxHeartbeats 8000000 in
set_option maxRecDepth 100000 in
theorem laws_eqExtentS.calls (k : Nat) (A0 : Option Addr) (c0 : Nat) (l0 : List (S72)) (A1 : Option Addr) (c1 : Nat) (l1 : List (S72)) (r : Bool) (w : World) (hr0 : Kd.C k72 w A0 l0.length l0) (hc0 : l0.length ≤ c0) (hr1 : Kd.C k72 w A1 l1.length l1) (hc1 : l1.length ≤ c1) (h : laws_eqExtentS.f k l0 l1 = some r) :
  Calls Tryd.prog 38 #[.slice A0 l0.length c0,.slice A1 l1.length c1] w fun e w'=>e = .returned (.bool r)∧Below w.heap.size w w':=by
 have hu72:=Tryd.underlying72
 have HR0:=av hr0
 have HC0:=av hc0
 clear hr0 hc0
 have HR1:=av hr1
 have HC1:=av hc1
 clear hr1 hc1
 have HB:=av (Below.refl w.heap.size w)
 have H:(if (l0.length:Int) = (l1.length:Int) then (laws_eqExtentS.l0 k l0 l1 0) else (some false))=some r:=h
 clear h
 by_cases c3:(l0.length:Int) = (l1.length:Int)
 ·rw [if_pos c3] at H
  have c3b0:((l0.length:Int) == (l1.length:Int))=true:=beq_iff_eq.mpr c3
  have c3b1:((l0.length:Int) != (l1.length:Int))=false:=bne_eq_false_iff_eq.mpr c3
  have c3b2:(l0.length == l1.length)=true:=by first|simpa using c3|(simp at c3 ⊢;omega)
  clear c3
  have H':=av H
  clear H
  go_enter Tryd.func38,Tryd.ntmps38
  go_wp2
  go_loopg [5] k (fun kq v5 w'=>∃ (x5_1:Int),v5 = .int .i64 x5_1∧Aside0 (laws_eqExtentS.l0 kq l0 l1 x5_1=some r)∧Aside0 (kq≤k)∧Aside0 (Below w.heap.size w w'))
  case atStart=>exact⟨(0),(by first|rfl|(simp;done)|(simp[*];done)),H',⟨Nat.le_refl _⟩,⟨by with_reducible repeat(first|exact HB.out|apply af|apply aa|apply ae)⟩⟩
  case round =>
   clear H'
   try clear c1
   try clear p2
   try clear c3
   try clear c3b0
   try clear c3b1
   try clear c3b2
   obtain⟨x5_1,rfl,HA,HK1,HB⟩:=hrel
   cases gk with
   | zero=>exact absurd HA.out (by simp[laws_eqExtentS.l0])
   | succ k1=>
    have H:=HA.out
    clear HA
    simp only[laws_eqExtentS.l0] at H
    by_cases c4:x5_1 < (l0.length:Int)
    ·rw [if_pos c4] at H
     have c4b0:decide (x5_1 < (l0.length:Int))=true:=decide_eq_true c4
     clear c4
     by_cases c5:0≤x5_1
     ·rw [if_pos c5] at H
      have c5b0:decide (0≤x5_1)=true:=decide_eq_true c5
      clear c5
      by_cases c6:x5_1 < (l1.length:Int)
      ·rw[if_pos c6] at H
       have c6b0:decide (x5_1 < (l1.length:Int))=true:=decide_eq_true c6
       clear c6
       replace H:=Option.bind_eq_some_iff.mp H
       obtain⟨t318,A70,H⟩:=H
       replace H:(if t318=true then (laws_eqExtentS.l0 k1 l0 l1 (wrap64 (x5_1+1))) else (some false))=some r:=H
       have A7:=av A70
       clear A70
       by_cases c8:t318=true
       ·subst c8
        have H1:(laws_eqExtentS.l0 k1 l0 l1 (wrap64 (x5_1+1)))=some r:=by rw[if_pos rfl] at H;exact H
        clear H
        have H:=H1
        clear H1
        have H':=av H
        clear H
        try go_wp2
        have n0_:=av (ae HB.out)
        clear HB
        have HB:=n0_
        clear n0_
        have p316:0≤(x5_1:Int):=of_decide_eq_true (by assumption)
        have q316:x5_1 < (l0.length:Int):=of_decide_eq_true (by assumption)
        obtain⟨ad316,e316,hx316_0,hx316_1⟩:=bI HR0.out x5_1 p316 q316
        have hw316_1:=hx316_1
        have hw316_0:=hx316_0
        cases e316
        replace hx316_0:=(HB.out.cell (World.block_lt_of_cell? w _ hx316_0)).trans hx316_0
        replace hx316_1:=(HB.out.cell (World.block_lt_of_cell? w _ hx316_1)).trans hx316_1
        replace p316:=eq_true p316
        replace q316:=eq_true q316
        have p317:0≤(x5_1:Int):=of_decide_eq_true (by assumption)
        have q317:x5_1 < (l1.length:Int):=of_decide_eq_true (by assumption)
        obtain⟨ad317,e317,hx317_0,hx317_1⟩:=bI HR1.out x5_1 p317 q317
        have hw317_1:=hx317_1
        have hw317_0:=hx317_0
        cases e317
        replace hx317_0:=(HB.out.cell (World.block_lt_of_cell? w _ hx317_0)).trans hx317_0
        replace hx317_1:=(HB.out.cell (World.block_lt_of_cell? w _ hx317_1)).trans hx317_1
        replace p317:=eq_true p317
        replace q317:=eq_true q317
        refine bJ (n:=10) (S:=fun w'=>w'.cell? (ad316.add ((x5_1).toNat*2))=some (.int .i64 ((aH l0 x5_1).f0))∧w'.cell? ⟨(ad316.add ((x5_1).toNat*2)).block,(ad316.add ((x5_1).toNat*2)).off+1,none⟩=some (.int .i64 ((aH l0 x5_1).f1))∧w'.cell? (ad317.add ((x5_1).toNat*2))=some (.int .i64 ((aH l1 x5_1).f0))∧w'.cell? ⟨(ad317.add ((x5_1).toNat*2)).block,(ad317.add ((x5_1).toNat*2)).off+1,none⟩=some (.int .i64 ((aH l1 x5_1).f1))) (ds:=[]) #[false,false,false,false,false,false,false,false,false,false] (by kernel_rfl) rfl rfl ⟨((HB.out.cell (World.block_lt_of_cell? w _ hw316_0)).trans hw316_0),((HB.out.cell (World.block_lt_of_cell? w _ hw316_1)).trans hw316_1),((HB.out.cell (World.block_lt_of_cell? w _ hw317_0)).trans hw317_0),((HB.out.cell (World.block_lt_of_cell? w _ hw317_1)).trans hw317_1)⟩ (fun hHeld=>?_);refine bz laws_eqExtentS.tab6 laws_eqExtentS.bits6 (fun HT_ HW_=>?_)
        generalize wr.drew=w9 at HB hx316_0 hx316_1 hx317_0 hx317_1 hHeld ⊢
        refine aD (i:=0) (N:=some 17) (v:=?_) (a':=?_) #[true,false,false,false,false,false,false,false,false,false] rfl rfl (aC HT_.out (by kernel_rfl)) (fun _ _ _ h=>h) (Or.inl ⟨by rfl,?_⟩) ?_ ?_
        rotate_left
        ·intro w'
         go_simp
         with_reducible rfl
        rotate_left
        ·simp only[apu_]
         rfl
        refine aD (i:=1) (N:=some 18) (v:=?_) (a':=?_) #[true,true,false,false,false,false,false,false,false,false] rfl rfl (aC HT_.out (by kernel_rfl)) (fun _ _ _ h=>h) (Or.inl ⟨by rfl,?_⟩) ?_ ?_
        rotate_left
        ·intro w'
         go_simp
         with_reducible rfl
        rotate_left
        ·simp only[apu_]
         rfl
        refine aD (i:=2) (N:=some 19) (v:=?_) (a':=?_) #[true,true,true,false,false,false,false,false,false,false] rfl rfl (aC HT_.out (by kernel_rfl)) (fun _ _ _ h=>h) (Or.inl ⟨by rfl,?_⟩) ?_ ?_
        rotate_left
        ·intro w'
         go_simp
         with_reducible rfl
        rotate_left
        ·simp only[apu_]
         rfl
        refine aD (i:=4) (N:=some 21) (v:=?_) (a':=?_) #[true,true,true,false,true,false,false,false,false,false] rfl rfl (aC HT_.out (by kernel_rfl)) (fun _ _ _ h=>h) (Or.inl ⟨by rfl,?_⟩) ?_ ?_
        rotate_left
        ·intro w'
         go_simp
         with_reducible rfl
        rotate_left
        ·simp only[apu_]
         rfl
        refine aD (i:=5) (N:=some 22) (v:=?_) (a':=?_) #[true,true,true,false,true,true,false,false,false,false] rfl rfl (aC HT_.out (by kernel_rfl)) (fun _ _ _ h=>h) (Or.inl ⟨by rfl,?_⟩) ?_ ?_
        rotate_left
        ·intro w'
         go_simp
         with_reducible rfl
        rotate_left
        ·simp only[apu_]
         rfl
        refine aD (i:=6) (N:=some 23) (v:=?_) (a':=?_) #[true,true,true,false,true,true,true,false,false,false] rfl rfl (aC HT_.out (by kernel_rfl)) (fun _ _ _ h=>h) (Or.inl ⟨by rfl,?_⟩) ?_ ?_
        rotate_left
        ·intro w'
         go_simp
         with_reducible rfl
        rotate_left
        ·simp only[apu_]
         rfl
        refine aZ (i:=3) (N:=some 20) (v:=?_) (a':=?_) #[true,true,true,true,true,true,true,false,false,false] rfl rfl (aT HT_.out HW_.out (by kernel_rfl)) (fun _ _ _ h=>h) (Or.inl ⟨by rfl,?_⟩) hHeld ?_ ?_
        rotate_left
        ·rintro w' ⟨s0,s1,s2,s3⟩
         go_simp
         with_reducible rfl
        rotate_left
        ·simp only[apu_]
         rfl
        refine aZ (i:=7) (N:=some 24) (v:=?_) (a':=?_) #[true,true,true,true,true,true,true,true,false,false] rfl rfl (aT HT_.out HW_.out (by kernel_rfl)) (fun _ _ _ h=>h) (Or.inl ⟨by rfl,?_⟩) hHeld ?_ ?_
        rotate_left
        ·rintro w' ⟨s0,s1,s2,s3⟩
         go_simp
         with_reducible rfl
        rotate_left
        ·simp only[apu_]
         rfl
        refine di (i:=8) (N:=some 25) #[true,true,true,true,true,true,true,true,true,false] rfl rfl (bW HT_.out (by kernel_rfl)) (by decide) (fun K hK=>?_)
        refine bU Tryd.func51 (by kernel_rfl) rfl #[.agg #[.int .i64 ((aH l0 x5_1).f0),.int .i64 ((aH l0 x5_1).f1)],.agg #[.int .i64 ((aH l1 x5_1).f0),.int .i64 ((aH l1 x5_1).f1)]] (by rfl) rfl rfl (by(try simp only[amp_]);first|done|rfl|(simp only[ald_];rfl)) ?_
        with_reducible refine(laws_eqExtent.calls ((aH l0 x5_1).f0) ((aH l0 x5_1).f1) ((aH l1 x5_1).f0) ((aH l1 x5_1).f1) true _ A7.out).mono ?_
        rintro e w10 ⟨rfl,hb⟩
        refine⟨_,rfl,?_⟩
        have n0_:=av (aA (by with_reducible repeat(first|exact HB.out|apply af|apply aa|apply ae)) hb)
        clear HB
        have HB:=n0_
        clear n0_
        (try clear hb)
        (try clear hb2)
        (try clear hk)
        (try clear hi)
        refine hK.out _ _ ⟨((HB.out.cell (World.block_lt_of_cell? w _ hw316_0)).trans hw316_0),((HB.out.cell (World.block_lt_of_cell? w _ hw316_1)).trans hw316_1),((HB.out.cell (World.block_lt_of_cell? w _ hw317_0)).trans hw317_0),((HB.out.cell (World.block_lt_of_cell? w _ hw317_1)).trans hw317_1)⟩ (fun hHeld=>?_)
        clear hK K
        refine bS (a':=?_) ?_ ?_
        rotate_left
        ·show Act.put _ (some 25) _=_
         simp only[apu_]
         rfl
        refine aD (i:=9) (N:=some 26) (v:=?_) (a':=?_) #[true,true,true,true,true,true,true,true,true,true] rfl rfl (aC HT_.out (by kernel_rfl)) (fun _ _ _ h=>h) (Or.inl ⟨by rfl,?_⟩) ?_ ?_
        rotate_left
        ·intro w'
         go_simp
         with_reducible rfl
        rotate_left
        ·simp only[apu_]
         rfl
        refine cu (bK HT_.out (by kernel_rfl)) ?_
        try go_wp2
        go_roundg k1
        case measure=>have:=HK1.out;omega
        case rel=>exact⟨(wrap64 (x5_1+1)),(by first|rfl|(simp;done)|(simp[*];done)),H',⟨by have:=HK1.out;omega⟩,⟨by with_reducible repeat(first|exact HB.out|apply af|apply aa|apply ae)⟩⟩
       ·replace c8:=Bool.eq_false_iff.mpr c8
        subst c8
        have H1:(some false)=some r:=by rw[if_neg (show ¬ (false=true) by decide)] at H;exact H
        clear H
        have H:=H1
        clear H1
        obtain rfl:=Option.some.inj H
        try go_wp2
        have n0_:=av (ae HB.out)
        clear HB
        have HB:=n0_
        clear n0_
        have p316:0≤(x5_1:Int):=of_decide_eq_true (by assumption)
        have q316:x5_1 < (l0.length:Int):=of_decide_eq_true (by assumption)
        obtain⟨ad316,e316,hx316_0,hx316_1⟩:=bI HR0.out x5_1 p316 q316
        have hw316_1:=hx316_1
        have hw316_0:=hx316_0
        cases e316
        replace hx316_0:=(HB.out.cell (World.block_lt_of_cell? w _ hx316_0)).trans hx316_0
        replace hx316_1:=(HB.out.cell (World.block_lt_of_cell? w _ hx316_1)).trans hx316_1
        replace p316:=eq_true p316
        replace q316:=eq_true q316
        have p317:0≤(x5_1:Int):=of_decide_eq_true (by assumption)
        have q317:x5_1 < (l1.length:Int):=of_decide_eq_true (by assumption)
        obtain⟨ad317,e317,hx317_0,hx317_1⟩:=bI HR1.out x5_1 p317 q317
        have hw317_1:=hx317_1
        have hw317_0:=hx317_0
        cases e317
        replace hx317_0:=(HB.out.cell (World.block_lt_of_cell? w _ hx317_0)).trans hx317_0
        replace hx317_1:=(HB.out.cell (World.block_lt_of_cell? w _ hx317_1)).trans hx317_1
        replace p317:=eq_true p317
        replace q317:=eq_true q317
        refine bJ (n:=10) (S:=fun w'=>w'.cell? (ad316.add ((x5_1).toNat*2))=some (.int .i64 ((aH l0 x5_1).f0))∧w'.cell? ⟨(ad316.add ((x5_1).toNat*2)).block,(ad316.add ((x5_1).toNat*2)).off+1,none⟩=some (.int .i64 ((aH l0 x5_1).f1))∧w'.cell? (ad317.add ((x5_1).toNat*2))=some (.int .i64 ((aH l1 x5_1).f0))∧w'.cell? ⟨(ad317.add ((x5_1).toNat*2)).block,(ad317.add ((x5_1).toNat*2)).off+1,none⟩=some (.int .i64 ((aH l1 x5_1).f1))) (ds:=[]) #[false,false,false,false,false,false,false,false,false,false] (by kernel_rfl) rfl rfl ⟨((HB.out.cell (World.block_lt_of_cell? w _ hw316_0)).trans hw316_0),((HB.out.cell (World.block_lt_of_cell? w _ hw316_1)).trans hw316_1),((HB.out.cell (World.block_lt_of_cell? w _ hw317_0)).trans hw317_0),((HB.out.cell (World.block_lt_of_cell? w _ hw317_1)).trans hw317_1)⟩ (fun hHeld=>?_);refine bz laws_eqExtentS.tab6 laws_eqExtentS.bits6 (fun HT_ HW_=>?_)
        generalize wr.drew=w11 at HB hx316_0 hx316_1 hx317_0 hx317_1 hHeld ⊢
        refine aD (i:=0) (N:=some 17) (v:=?_) (a':=?_) #[true,false,false,false,false,false,false,false,false,false] rfl rfl (aC HT_.out (by kernel_rfl)) (fun _ _ _ h=>h) (Or.inl ⟨by rfl,?_⟩) ?_ ?_
        rotate_left
        ·intro w'
         go_simp
         with_reducible rfl
        rotate_left
        ·simp only[apu_]
         rfl
        refine aD (i:=1) (N:=some 18) (v:=?_) (a':=?_) #[true,true,false,false,false,false,false,false,false,false] rfl rfl (aC HT_.out (by kernel_rfl)) (fun _ _ _ h=>h) (Or.inl ⟨by rfl,?_⟩) ?_ ?_
        rotate_left
        ·intro w'
         go_simp
         with_reducible rfl
        rotate_left
        ·simp only[apu_]
         rfl
        refine aD (i:=2) (N:=some 19) (v:=?_) (a':=?_) #[true,true,true,false,false,false,false,false,false,false] rfl rfl (aC HT_.out (by kernel_rfl)) (fun _ _ _ h=>h) (Or.inl ⟨by rfl,?_⟩) ?_ ?_
        rotate_left
        ·intro w'
         go_simp
         with_reducible rfl
        rotate_left
        ·simp only[apu_]
         rfl
        refine aD (i:=4) (N:=some 21) (v:=?_) (a':=?_) #[true,true,true,false,true,false,false,false,false,false] rfl rfl (aC HT_.out (by kernel_rfl)) (fun _ _ _ h=>h) (Or.inl ⟨by rfl,?_⟩) ?_ ?_
        rotate_left
        ·intro w'
         go_simp
         with_reducible rfl
        rotate_left
        ·simp only[apu_]
         rfl
        refine aD (i:=5) (N:=some 22) (v:=?_) (a':=?_) #[true,true,true,false,true,true,false,false,false,false] rfl rfl (aC HT_.out (by kernel_rfl)) (fun _ _ _ h=>h) (Or.inl ⟨by rfl,?_⟩) ?_ ?_
        rotate_left
        ·intro w'
         go_simp
         with_reducible rfl
        rotate_left
        ·simp only[apu_]
         rfl
        refine aD (i:=6) (N:=some 23) (v:=?_) (a':=?_) #[true,true,true,false,true,true,true,false,false,false] rfl rfl (aC HT_.out (by kernel_rfl)) (fun _ _ _ h=>h) (Or.inl ⟨by rfl,?_⟩) ?_ ?_
        rotate_left
        ·intro w'
         go_simp
         with_reducible rfl
        rotate_left
        ·simp only[apu_]
         rfl
        refine aZ (i:=3) (N:=some 20) (v:=?_) (a':=?_) #[true,true,true,true,true,true,true,false,false,false] rfl rfl (aT HT_.out HW_.out (by kernel_rfl)) (fun _ _ _ h=>h) (Or.inl ⟨by rfl,?_⟩) hHeld ?_ ?_
        rotate_left
        ·rintro w' ⟨s0,s1,s2,s3⟩
         go_simp
         with_reducible rfl
        rotate_left
        ·simp only[apu_]
         rfl
        refine aZ (i:=7) (N:=some 24) (v:=?_) (a':=?_) #[true,true,true,true,true,true,true,true,false,false] rfl rfl (aT HT_.out HW_.out (by kernel_rfl)) (fun _ _ _ h=>h) (Or.inl ⟨by rfl,?_⟩) hHeld ?_ ?_
        rotate_left
        ·rintro w' ⟨s0,s1,s2,s3⟩
         go_simp
         with_reducible rfl
        rotate_left
        ·simp only[apu_]
         rfl
        refine di (i:=8) (N:=some 25) #[true,true,true,true,true,true,true,true,true,false] rfl rfl (bW HT_.out (by kernel_rfl)) (by decide) (fun K hK=>?_)
        refine bU Tryd.func51 (by kernel_rfl) rfl #[.agg #[.int .i64 ((aH l0 x5_1).f0),.int .i64 ((aH l0 x5_1).f1)],.agg #[.int .i64 ((aH l1 x5_1).f0),.int .i64 ((aH l1 x5_1).f1)]] (by rfl) rfl rfl (by(try simp only[amp_]);first|done|rfl|(simp only[ald_];rfl)) ?_
        with_reducible refine(laws_eqExtent.calls ((aH l0 x5_1).f0) ((aH l0 x5_1).f1) ((aH l1 x5_1).f0) ((aH l1 x5_1).f1) false _ A7.out).mono ?_
        rintro e w12 ⟨rfl,hb⟩
        refine⟨_,rfl,?_⟩
        have n0_:=av (aA (by with_reducible repeat(first|exact HB.out|apply af|apply aa|apply ae)) hb)
        clear HB
        have HB:=n0_
        clear n0_
        (try clear hb)
        (try clear hb2)
        (try clear hk)
        (try clear hi)
        refine hK.out _ _ ⟨((HB.out.cell (World.block_lt_of_cell? w _ hw316_0)).trans hw316_0),((HB.out.cell (World.block_lt_of_cell? w _ hw316_1)).trans hw316_1),((HB.out.cell (World.block_lt_of_cell? w _ hw317_0)).trans hw317_0),((HB.out.cell (World.block_lt_of_cell? w _ hw317_1)).trans hw317_1)⟩ (fun hHeld=>?_)
        clear hK K
        refine bS (a':=?_) ?_ ?_
        rotate_left
        ·show Act.put _ (some 25) _=_
         simp only[apu_]
         rfl
        refine aD (i:=9) (N:=some 26) (v:=?_) (a':=?_) #[true,true,true,true,true,true,true,true,true,true] rfl rfl (aC HT_.out (by kernel_rfl)) (fun _ _ _ h=>h) (Or.inl ⟨by rfl,?_⟩) ?_ ?_
        rotate_left
        ·intro w'
         go_simp
         with_reducible rfl
        rotate_left
        ·simp only[apu_]
         rfl
        refine cu (bK HT_.out (by kernel_rfl)) ?_
        try go_wp2
        go_ret
        exact⟨by first|rfl|(simp <;> rfl)|(simp[*] <;> rfl),by with_reducible repeat(first|exact HB.out|apply af|apply aa|apply ae)⟩
      ·rw[if_neg c6] at H
       exact absurd H (by simp)
     ·rw[if_neg c5] at H
      exact absurd H (by simp)
    ·rw[if_neg c4] at H
     have c4b0:decide (x5_1 < (l0.length:Int))=false:=decide_eq_false c4
     clear c4
     obtain rfl:=Option.some.inj H
     go_wp2
     go_ret
     exact⟨by first|rfl|(simp <;> rfl)|(simp[*] <;> rfl),by with_reducible repeat(first|exact HB.out|apply af|apply aa|apply ae)⟩
 ·rw[if_neg c3] at H
  have c3b0:((l0.length:Int) == (l1.length:Int))=false:=beq_eq_false_iff_ne.mpr c3
  have c3b1:((l0.length:Int) != (l1.length:Int))=true:=bne_iff_ne.mpr c3
  have c3b2:(l0.length == l1.length)=false:=by first|simpa using c3|(simp at c3 ⊢;omega)
  obtain rfl:=Option.some.inj H
  go_enter Tryd.func38,Tryd.ntmps38
  go_wp2
  go_ret
  exact⟨by first|rfl|(simp <;> rfl)|(simp[*] <;> rfl),by with_reducible repeat(first|exact HB.out|apply af|apply aa|apply ae)⟩
def laws_eqFree.f (k:Nat) (a0_0:Int) (l0_1:List (S72)) (l0_2:List (S72)) (a1_0:Int) (l1_1:List (S72)) (l1_2:List (S72)):Option (Bool):=if a0_0=a1_0 then ((laws_eqExtentS.f k l0_1 l1_1).bind fun t321=>(if t321=true then ((laws_eqExtentS.f k l0_2 l1_2).bind fun t322=>(if t322=true then (some true) else (some false))) else (some false))) else (some false)
set_option maxHeartbeats 8000000 in
set_option maxRecDepth 100000 in
theorem laws_eqFree.calls (k:Nat) (a0_0:Int) (A0_1:Option Addr) (c0_1:Nat) (l0_1:List (S72)) (A0_2:Option Addr) (c0_2:Nat) (l0_2:List (S72)) (a1_0:Int) (A1_1:Option Addr) (c1_1:Nat) (l1_1:List (S72)) (A1_2:Option Addr) (c1_2:Nat) (l1_2:List (S72)) (r:Bool) (w:World) (hr0_1:Kd.C k72 w A0_1 l0_1.length l0_1) (hc0_1:l0_1.length≤c0_1) (hr0_2:Kd.C k72 w A0_2 l0_2.length l0_2) (hc0_2:l0_2.length≤c0_2) (hr1_1:Kd.C k72 w A1_1 l1_1.length l1_1) (hc1_1:l1_1.length≤c1_1) (hr1_2:Kd.C k72 w A1_2 l1_2.length l1_2) (hc1_2:l1_2.length≤c1_2) (h:laws_eqFree.f k a0_0 l0_1 l0_2 a1_0 l1_1 l1_2=some r) :
  Calls Tryd.prog 20 #[.agg #[.int .i64 a0_0,.slice A0_1 l0_1.length c0_1,.slice A0_2 l0_2.length c0_2],.agg #[.int .i64 a1_0,.slice A1_1 l1_1.length c1_1,.slice A1_2 l1_2.length c1_2]] w fun e w'=>e = .returned (.bool r)∧Below w.heap.size w w':=by
 have hu32:=Tryd.underlying32
 have HR0_1:=av hr0_1
 have HC0_1:=av hc0_1
 clear hr0_1 hc0_1
 have HR0_2:=av hr0_2
 have HC0_2:=av hc0_2
 clear hr0_2 hc0_2
 have HR1_1:=av hr1_1
 have HC1_1:=av hc1_1
 clear hr1_1 hc1_1
 have HR1_2:=av hr1_2
 have HC1_2:=av hc1_2
 clear hr1_2 hc1_2
 have HB:=av (Below.refl w.heap.size w)
 have H:(if a0_0=a1_0 then ((laws_eqExtentS.f k l0_1 l1_1).bind fun t321=>(if t321=true then ((laws_eqExtentS.f k l0_2 l1_2).bind fun t322=>(if t322=true then (some true) else (some false))) else (some false))) else (some false))=some r:=h
 clear h
 by_cases c3:a0_0=a1_0
 ·rw[if_pos c3] at H
  have c3b0:(a0_0 == a1_0)=true:=beq_iff_eq.mpr c3
  have c3b1:(a0_0 != a1_0)=false:=bne_eq_false_iff_eq.mpr c3
  clear c3
  replace H:=Option.bind_eq_some_iff.mp H
  obtain⟨t321,A40,H⟩:=H
  replace H:(if t321=true then ((laws_eqExtentS.f k l0_2 l1_2).bind fun t322=>(if t322=true then (some true) else (some false))) else (some false))=some r:=H
  have A4:=av A40
  clear A40
  by_cases c5:t321=true
  ·subst c5
   have H1:((laws_eqExtentS.f k l0_2 l1_2).bind fun t322=>(if t322=true then (some true) else (some false)))=some r:=by rw[if_pos rfl] at H;exact H
   clear H
   have H:=H1
   clear H1
   replace H:=Option.bind_eq_some_iff.mp H
   obtain⟨t322,A60,H⟩:=H
   replace H:(if t322=true then (some true) else (some false))=some r:=H
   have A6:=av A60
   clear A60
   by_cases c7:t322=true
   ·subst c7
    have H1:(some true)=some r:=by rw[if_pos rfl] at H;exact H
    clear H
    have H:=H1
    clear H1
    obtain rfl:=Option.some.inj H
    go_enter Tryd.func20,Tryd.ntmps20
    go_wp2_with (first|((with_reducible refine aJ (N:=2) rfl ?_);refine aI ?hg (N:=2) ?hd (cs:=#[.int .i64 a0_0,.slice A0_1 l0_1.length c0_1,.slice A0_2 l0_2.length c0_2]) (t:=32) ?hr ?_;(case hd=>rfl);(case hg=>rfl);(case hr=>first|(go_simp;done)|(go_simp;rfl));intro gb319 hg w8 hbox hb;have BK319:=av (hbox);have GW319:=av ((by rw[hg];exact(ay (by with_reducible repeat(first|exact HB.out|apply af|apply aa|apply ae))):w.heap.size≤gb319));have GE319:=av ((by rw[hg];exact(ay (by with_reducible repeat(first|exact HB.out|apply af|apply aa|apply ae))):w.heap.size≤gb319));replace HB:=av (aA (by with_reducible repeat(first|exact HB.out|apply af|apply aa|apply ae)) hb);clear hb hbox hg)|((with_reducible refine aJ (N:=3) rfl ?_);refine aI ?hg (N:=3) ?hd (cs:=#[.int .i64 a1_0,.slice A1_1 l1_1.length c1_1,.slice A1_2 l1_2.length c1_2]) (t:=32) ?hr ?_;(case hd=>rfl);(case hg=>rfl);(case hr=>first|(go_simp;done)|(go_simp;rfl));intro gb320 hg w9 hbox hb;have BK320:=av (hbox);have GW320:=av ((by rw[hg];exact(ay (by with_reducible repeat(first|exact HB.out|apply af|apply aa|apply ae|refine ai ?_ GE319.out))):w.heap.size≤gb320));have GE320:=av ((by rw[hg];exact(ay (by with_reducible repeat(first|exact HB.out|apply af|apply aa|apply ae|refine ai ?_ GE319.out))):w.heap.size≤gb320));replace HB:=av (aA (by with_reducible repeat(first|exact HB.out|apply af|apply aa|apply ae|refine ai ?_ GE319.out)) hb);have NB319_320:=av ((by rw[hg];exact Nat.ne_of_lt (aN (g:=gb319) (o:=.cells #[.int .i64 a0_0,.slice A0_1 l0_1.length c0_1,.slice A0_2 l0_2.length c0_2] 32 (0,0)) (by(with_reducible repeat(first|apply aj|apply au|apply ak));exact BK319.out)):gb319≠gb320));have NB320_319:=av ((by rw[hg];exact Nat.ne_of_gt (aN (g:=gb319) (o:=.cells #[.int .i64 a0_0,.slice A0_1 l0_1.length c0_1,.slice A0_2 l0_2.length c0_2] 32 (0,0)) (by(with_reducible repeat(first|apply aj|apply au|apply ak));exact BK319.out)):gb320≠gb319));replace BK319:=av (aG (g:=gb319) (o:=.cells #[.int .i64 a0_0,.slice A0_1 l0_1.length c0_1,.slice A0_2 l0_2.length c0_2] 32 (0,0)) (by(with_reducible repeat(first|apply aj|apply au|apply ak));exact BK319.out) hb);clear hb hbox hg;have hnb10:=NB319_320.out;have hnc10:=NB320_319.out;have hcz11_0:w9.cell? ⟨gb319,0,none⟩=some (.int .i64 a0_0):=(ag BK319.out 0).trans rfl;have hcz11_1:w9.cell? ⟨gb319,1,none⟩=some (.slice A0_1 l0_1.length c0_1):=(ag BK319.out 1).trans rfl;have hcz11_2:w9.cell? ⟨gb319,2,none⟩=some (.slice A0_2 l0_2.length c0_2):=(ag BK319.out 2).trans rfl;have hfz11_0:=ah BK319.out 0;have hfz11_1:=ah BK319.out 1;have hfz11_2:=ah BK319.out 2;have hcz12_0:w9.cell? ⟨gb320,0,none⟩=some (.int .i64 a1_0):=(ag BK320.out 0).trans rfl;have hcz12_1:w9.cell? ⟨gb320,1,none⟩=some (.slice A1_1 l1_1.length c1_1):=(ag BK320.out 1).trans rfl;have hcz12_2:w9.cell? ⟨gb320,2,none⟩=some (.slice A1_2 l1_2.length c1_2):=(ag BK320.out 2).trans rfl;have hfz12_0:=ah BK320.out 0;have hfz12_1:=ah BK320.out 1;have hfz12_2:=ah BK320.out 2)|((with_reducible refine aK (f:=38) rfl ?_);refine bn (some 14) rfl rfl Tryd.func38 (by kernel_rfl) rfl #[.slice A0_1 l0_1.length c0_1,.slice A1_1 l1_1.length c1_1] rfl (by(try simp only[amp_]);first|done|rfl|(simp only[ald_];rfl)) ?_;(with_reducible refine(laws_eqExtentS.calls k _ _ l0_1 _ _ l1_1 true _ ?side1 ?side2 ?side3 ?side4 A4.out).mono ?_);(case side1=>repeat(first|exact(Kd.aQ HR0_1.out HB.out)|(with_reducible first|apply Kd.aW|apply Kd.aV|apply Kd.aY)));(case side2=>exact HC0_1.out);(case side3=>repeat(first|exact(Kd.aQ HR1_1.out HB.out)|(with_reducible first|apply Kd.aW|apply Kd.aV|apply Kd.aY)));(case side4=>exact HC1_1.out);rintro e w13 ⟨rfl,hb⟩;refine⟨_,rfl,?_⟩;replace BK319:=av (aG (g:=gb319) (o:=.cells #[.int .i64 a0_0,.slice A0_1 l0_1.length c0_1,.slice A0_2 l0_2.length c0_2] 32 (0,0)) (by(with_reducible repeat(first|apply aj|apply au|apply ak));exact BK319.out) hb);replace BK320:=av (aG (g:=gb320) (o:=.cells #[.int .i64 a1_0,.slice A1_1 l1_1.length c1_1,.slice A1_2 l1_2.length c1_2] 32 (0,0)) (by(with_reducible repeat(first|apply aj|apply au|apply ak));exact BK320.out) hb);replace HB:=av (aA (by with_reducible repeat(first|exact HB.out|apply af|apply aa|apply ae|refine ai ?_ GE319.out|refine ai ?_ GE320.out)) hb);(try clear hb);(try clear hb2);(try clear hk);(try clear hi);have hcz14_0:w13.cell? ⟨gb319,0,none⟩=some (.int .i64 a0_0):=(ag BK319.out 0).trans rfl;have hcz14_1:w13.cell? ⟨gb319,1,none⟩=some (.slice A0_1 l0_1.length c0_1):=(ag BK319.out 1).trans rfl;have hcz14_2:w13.cell? ⟨gb319,2,none⟩=some (.slice A0_2 l0_2.length c0_2):=(ag BK319.out 2).trans rfl;have hfz14_0:=ah BK319.out 0;have hfz14_1:=ah BK319.out 1;have hfz14_2:=ah BK319.out 2;have hcz15_0:w13.cell? ⟨gb320,0,none⟩=some (.int .i64 a1_0):=(ag BK320.out 0).trans rfl;have hcz15_1:w13.cell? ⟨gb320,1,none⟩=some (.slice A1_1 l1_1.length c1_1):=(ag BK320.out 1).trans rfl;have hcz15_2:w13.cell? ⟨gb320,2,none⟩=some (.slice A1_2 l1_2.length c1_2):=(ag BK320.out 2).trans rfl;have hfz15_0:=ah BK320.out 0;have hfz15_1:=ah BK320.out 1;have hfz15_2:=ah BK320.out 2)|((with_reducible refine aK (f:=38) rfl ?_);refine bn (some 20) rfl rfl Tryd.func38 (by kernel_rfl) rfl #[.slice A0_2 l0_2.length c0_2,.slice A1_2 l1_2.length c1_2] rfl (by(try simp only[amp_]);first|done|rfl|(simp only[ald_];rfl)) ?_;(with_reducible refine(laws_eqExtentS.calls k _ _ l0_2 _ _ l1_2 true _ ?side1 ?side2 ?side3 ?side4 A6.out).mono ?_);(case side1=>repeat(first|exact(Kd.aQ HR0_2.out HB.out)|(with_reducible first|apply Kd.aW|apply Kd.aV|apply Kd.aY)));(case side2=>exact HC0_2.out);(case side3=>repeat(first|exact(Kd.aQ HR1_2.out HB.out)|(with_reducible first|apply Kd.aW|apply Kd.aV|apply Kd.aY)));(case side4=>exact HC1_2.out);rintro e w16 ⟨rfl,hb⟩;refine⟨_,rfl,?_⟩;replace BK319:=av (aG (g:=gb319) (o:=.cells #[.int .i64 a0_0,.slice A0_1 l0_1.length c0_1,.slice A0_2 l0_2.length c0_2] 32 (0,0)) (by(with_reducible repeat(first|apply aj|apply au|apply ak));exact BK319.out) hb);replace BK320:=av (aG (g:=gb320) (o:=.cells #[.int .i64 a1_0,.slice A1_1 l1_1.length c1_1,.slice A1_2 l1_2.length c1_2] 32 (0,0)) (by(with_reducible repeat(first|apply aj|apply au|apply ak));exact BK320.out) hb);replace HB:=av (aA (by with_reducible repeat(first|exact HB.out|apply af|apply aa|apply ae|refine ai ?_ GE319.out|refine ai ?_ GE320.out)) hb);(try clear hb);(try clear hb2);(try clear hk);(try clear hi)))
    go_ret
    exact⟨by first|rfl|(simp <;> rfl)|(simp[*] <;> rfl),by with_reducible repeat(first|exact HB.out|apply af|apply aa|apply ae|refine ai ?_ GE319.out|refine ai ?_ GE320.out)⟩
   ·replace c7:=Bool.eq_false_iff.mpr c7
    subst c7
    have H1:(some false)=some r:=by rw[if_neg (show ¬ (false=true) by decide)] at H;exact H
    clear H
    have H:=H1
    clear H1
    obtain rfl:=Option.some.inj H
    go_enter Tryd.func20,Tryd.ntmps20
    go_wp2_with (first|((with_reducible refine aJ (N:=2) rfl ?_);refine aI ?hg (N:=2) ?hd (cs:=#[.int .i64 a0_0,.slice A0_1 l0_1.length c0_1,.slice A0_2 l0_2.length c0_2]) (t:=32) ?hr ?_;(case hd=>rfl);(case hg=>rfl);(case hr=>first|(go_simp;done)|(go_simp;rfl));intro gb319 hg w17 hbox hb;have BK319:=av (hbox);have GW319:=av ((by rw[hg];exact(ay (by with_reducible repeat(first|exact HB.out|apply af|apply aa|apply ae))):w.heap.size≤gb319));have GE319:=av ((by rw[hg];exact(ay (by with_reducible repeat(first|exact HB.out|apply af|apply aa|apply ae))):w.heap.size≤gb319));replace HB:=av (aA (by with_reducible repeat(first|exact HB.out|apply af|apply aa|apply ae)) hb);clear hb hbox hg)|((with_reducible refine aJ (N:=3) rfl ?_);refine aI ?hg (N:=3) ?hd (cs:=#[.int .i64 a1_0,.slice A1_1 l1_1.length c1_1,.slice A1_2 l1_2.length c1_2]) (t:=32) ?hr ?_;(case hd=>rfl);(case hg=>rfl);(case hr=>first|(go_simp;done)|(go_simp;rfl));intro gb320 hg w18 hbox hb;have BK320:=av (hbox);have GW320:=av ((by rw[hg];exact(ay (by with_reducible repeat(first|exact HB.out|apply af|apply aa|apply ae|refine ai ?_ GE319.out))):w.heap.size≤gb320));have GE320:=av ((by rw[hg];exact(ay (by with_reducible repeat(first|exact HB.out|apply af|apply aa|apply ae|refine ai ?_ GE319.out))):w.heap.size≤gb320));replace HB:=av (aA (by with_reducible repeat(first|exact HB.out|apply af|apply aa|apply ae|refine ai ?_ GE319.out)) hb);have NB319_320:=av ((by rw[hg];exact Nat.ne_of_lt (aN (g:=gb319) (o:=.cells #[.int .i64 a0_0,.slice A0_1 l0_1.length c0_1,.slice A0_2 l0_2.length c0_2] 32 (0,0)) (by(with_reducible repeat(first|apply aj|apply au|apply ak));exact BK319.out)):gb319≠gb320));have NB320_319:=av ((by rw[hg];exact Nat.ne_of_gt (aN (g:=gb319) (o:=.cells #[.int .i64 a0_0,.slice A0_1 l0_1.length c0_1,.slice A0_2 l0_2.length c0_2] 32 (0,0)) (by(with_reducible repeat(first|apply aj|apply au|apply ak));exact BK319.out)):gb320≠gb319));replace BK319:=av (aG (g:=gb319) (o:=.cells #[.int .i64 a0_0,.slice A0_1 l0_1.length c0_1,.slice A0_2 l0_2.length c0_2] 32 (0,0)) (by(with_reducible repeat(first|apply aj|apply au|apply ak));exact BK319.out) hb);clear hb hbox hg;have hnb19:=NB319_320.out;have hnc19:=NB320_319.out;have hcz20_0:w18.cell? ⟨gb319,0,none⟩=some (.int .i64 a0_0):=(ag BK319.out 0).trans rfl;have hcz20_1:w18.cell? ⟨gb319,1,none⟩=some (.slice A0_1 l0_1.length c0_1):=(ag BK319.out 1).trans rfl;have hcz20_2:w18.cell? ⟨gb319,2,none⟩=some (.slice A0_2 l0_2.length c0_2):=(ag BK319.out 2).trans rfl;have hfz20_0:=ah BK319.out 0;have hfz20_1:=ah BK319.out 1;have hfz20_2:=ah BK319.out 2;have hcz21_0:w18.cell? ⟨gb320,0,none⟩=some (.int .i64 a1_0):=(ag BK320.out 0).trans rfl;have hcz21_1:w18.cell? ⟨gb320,1,none⟩=some (.slice A1_1 l1_1.length c1_1):=(ag BK320.out 1).trans rfl;have hcz21_2:w18.cell? ⟨gb320,2,none⟩=some (.slice A1_2 l1_2.length c1_2):=(ag BK320.out 2).trans rfl;have hfz21_0:=ah BK320.out 0;have hfz21_1:=ah BK320.out 1;have hfz21_2:=ah BK320.out 2)|((with_reducible refine aK (f:=38) rfl ?_);refine bn (some 14) rfl rfl Tryd.func38 (by kernel_rfl) rfl #[.slice A0_1 l0_1.length c0_1,.slice A1_1 l1_1.length c1_1] rfl (by(try simp only[amp_]);first|done|rfl|(simp only[ald_];rfl)) ?_;(with_reducible refine(laws_eqExtentS.calls k _ _ l0_1 _ _ l1_1 true _ ?side1 ?side2 ?side3 ?side4 A4.out).mono ?_);(case side1=>repeat(first|exact(Kd.aQ HR0_1.out HB.out)|(with_reducible first|apply Kd.aW|apply Kd.aV|apply Kd.aY)));(case side2=>exact HC0_1.out);(case side3=>repeat(first|exact(Kd.aQ HR1_1.out HB.out)|(with_reducible first|apply Kd.aW|apply Kd.aV|apply Kd.aY)));(case side4=>exact HC1_1.out);rintro e w22 ⟨rfl,hb⟩;refine⟨_,rfl,?_⟩;replace BK319:=av (aG (g:=gb319) (o:=.cells #[.int .i64 a0_0,.slice A0_1 l0_1.length c0_1,.slice A0_2 l0_2.length c0_2] 32 (0,0)) (by(with_reducible repeat(first|apply aj|apply au|apply ak));exact BK319.out) hb);replace BK320:=av (aG (g:=gb320) (o:=.cells #[.int .i64 a1_0,.slice A1_1 l1_1.length c1_1,.slice A1_2 l1_2.length c1_2] 32 (0,0)) (by(with_reducible repeat(first|apply aj|apply au|apply ak));exact BK320.out) hb);replace HB:=av (aA (by with_reducible repeat(first|exact HB.out|apply af|apply aa|apply ae|refine ai ?_ GE319.out|refine ai ?_ GE320.out)) hb);(try clear hb);(try clear hb2);(try clear hk);(try clear hi);have hcz23_0:w22.cell? ⟨gb319,0,none⟩=some (.int .i64 a0_0):=(ag BK319.out 0).trans rfl;have hcz23_1:w22.cell? ⟨gb319,1,none⟩=some (.slice A0_1 l0_1.length c0_1):=(ag BK319.out 1).trans rfl;have hcz23_2:w22.cell? ⟨gb319,2,none⟩=some (.slice A0_2 l0_2.length c0_2):=(ag BK319.out 2).trans rfl;have hfz23_0:=ah BK319.out 0;have hfz23_1:=ah BK319.out 1;have hfz23_2:=ah BK319.out 2;have hcz24_0:w22.cell? ⟨gb320,0,none⟩=some (.int .i64 a1_0):=(ag BK320.out 0).trans rfl;have hcz24_1:w22.cell? ⟨gb320,1,none⟩=some (.slice A1_1 l1_1.length c1_1):=(ag BK320.out 1).trans rfl;have hcz24_2:w22.cell? ⟨gb320,2,none⟩=some (.slice A1_2 l1_2.length c1_2):=(ag BK320.out 2).trans rfl;have hfz24_0:=ah BK320.out 0;have hfz24_1:=ah BK320.out 1;have hfz24_2:=ah BK320.out 2)|((with_reducible refine aK (f:=38) rfl ?_);refine bn (some 20) rfl rfl Tryd.func38 (by kernel_rfl) rfl #[.slice A0_2 l0_2.length c0_2,.slice A1_2 l1_2.length c1_2] rfl (by(try simp only[amp_]);first|done|rfl|(simp only[ald_];rfl)) ?_;(with_reducible refine(laws_eqExtentS.calls k _ _ l0_2 _ _ l1_2 false _ ?side1 ?side2 ?side3 ?side4 A6.out).mono ?_);(case side1=>repeat(first|exact(Kd.aQ HR0_2.out HB.out)|(with_reducible first|apply Kd.aW|apply Kd.aV|apply Kd.aY)));(case side2=>exact HC0_2.out);(case side3=>repeat(first|exact(Kd.aQ HR1_2.out HB.out)|(with_reducible first|apply Kd.aW|apply Kd.aV|apply Kd.aY)));(case side4=>exact HC1_2.out);rintro e w25 ⟨rfl,hb⟩;refine⟨_,rfl,?_⟩;replace BK319:=av (aG (g:=gb319) (o:=.cells #[.int .i64 a0_0,.slice A0_1 l0_1.length c0_1,.slice A0_2 l0_2.length c0_2] 32 (0,0)) (by(with_reducible repeat(first|apply aj|apply au|apply ak));exact BK319.out) hb);replace BK320:=av (aG (g:=gb320) (o:=.cells #[.int .i64 a1_0,.slice A1_1 l1_1.length c1_1,.slice A1_2 l1_2.length c1_2] 32 (0,0)) (by(with_reducible repeat(first|apply aj|apply au|apply ak));exact BK320.out) hb);replace HB:=av (aA (by with_reducible repeat(first|exact HB.out|apply af|apply aa|apply ae|refine ai ?_ GE319.out|refine ai ?_ GE320.out)) hb);(try clear hb);(try clear hb2);(try clear hk);(try clear hi)))
    go_ret
    exact⟨by first|rfl|(simp <;> rfl)|(simp[*] <;> rfl),by with_reducible repeat(first|exact HB.out|apply af|apply aa|apply ae|refine ai ?_ GE319.out|refine ai ?_ GE320.out)⟩
  ·replace c5:=Bool.eq_false_iff.mpr c5
   subst c5
   have H1:(some false)=some r:=by rw[if_neg (show ¬ (false=true) by decide)] at H;exact H
   clear H
   have H:=H1
   clear H1
   obtain rfl:=Option.some.inj H
   go_enter Tryd.func20,Tryd.ntmps20
   go_wp2_with (first|((with_reducible refine aJ (N:=2) rfl ?_);refine aI ?hg (N:=2) ?hd (cs:=#[.int .i64 a0_0,.slice A0_1 l0_1.length c0_1,.slice A0_2 l0_2.length c0_2]) (t:=32) ?hr ?_;(case hd=>rfl);(case hg=>rfl);(case hr=>first|(go_simp;done)|(go_simp;rfl));intro gb319 hg w26 hbox hb;have BK319:=av (hbox);have GW319:=av ((by rw[hg];exact(ay (by with_reducible repeat(first|exact HB.out|apply af|apply aa|apply ae))):w.heap.size≤gb319));have GE319:=av ((by rw[hg];exact(ay (by with_reducible repeat(first|exact HB.out|apply af|apply aa|apply ae))):w.heap.size≤gb319));replace HB:=av (aA (by with_reducible repeat(first|exact HB.out|apply af|apply aa|apply ae)) hb);clear hb hbox hg)|((with_reducible refine aJ (N:=3) rfl ?_);refine aI ?hg (N:=3) ?hd (cs:=#[.int .i64 a1_0,.slice A1_1 l1_1.length c1_1,.slice A1_2 l1_2.length c1_2]) (t:=32) ?hr ?_;(case hd=>rfl);(case hg=>rfl);(case hr=>first|(go_simp;done)|(go_simp;rfl));intro gb320 hg w27 hbox hb;have BK320:=av (hbox);have GW320:=av ((by rw[hg];exact(ay (by with_reducible repeat(first|exact HB.out|apply af|apply aa|apply ae|refine ai ?_ GE319.out))):w.heap.size≤gb320));have GE320:=av ((by rw[hg];exact(ay (by with_reducible repeat(first|exact HB.out|apply af|apply aa|apply ae|refine ai ?_ GE319.out))):w.heap.size≤gb320));replace HB:=av (aA (by with_reducible repeat(first|exact HB.out|apply af|apply aa|apply ae|refine ai ?_ GE319.out)) hb);have NB319_320:=av ((by rw[hg];exact Nat.ne_of_lt (aN (g:=gb319) (o:=.cells #[.int .i64 a0_0,.slice A0_1 l0_1.length c0_1,.slice A0_2 l0_2.length c0_2] 32 (0,0)) (by(with_reducible repeat(first|apply aj|apply au|apply ak));exact BK319.out)):gb319≠gb320));have NB320_319:=av ((by rw[hg];exact Nat.ne_of_gt (aN (g:=gb319) (o:=.cells #[.int .i64 a0_0,.slice A0_1 l0_1.length c0_1,.slice A0_2 l0_2.length c0_2] 32 (0,0)) (by(with_reducible repeat(first|apply aj|apply au|apply ak));exact BK319.out)):gb320≠gb319));replace BK319:=av (aG (g:=gb319) (o:=.cells #[.int .i64 a0_0,.slice A0_1 l0_1.length c0_1,.slice A0_2 l0_2.length c0_2] 32 (0,0)) (by(with_reducible repeat(first|apply aj|apply au|apply ak));exact BK319.out) hb);clear hb hbox hg;have hnb28:=NB319_320.out;have hnc28:=NB320_319.out;have hcz29_0:w27.cell? ⟨gb319,0,none⟩=some (.int .i64 a0_0):=(ag BK319.out 0).trans rfl;have hcz29_1:w27.cell? ⟨gb319,1,none⟩=some (.slice A0_1 l0_1.length c0_1):=(ag BK319.out 1).trans rfl;have hcz29_2:w27.cell? ⟨gb319,2,none⟩=some (.slice A0_2 l0_2.length c0_2):=(ag BK319.out 2).trans rfl;have hfz29_0:=ah BK319.out 0;have hfz29_1:=ah BK319.out 1;have hfz29_2:=ah BK319.out 2;have hcz30_0:w27.cell? ⟨gb320,0,none⟩=some (.int .i64 a1_0):=(ag BK320.out 0).trans rfl;have hcz30_1:w27.cell? ⟨gb320,1,none⟩=some (.slice A1_1 l1_1.length c1_1):=(ag BK320.out 1).trans rfl;have hcz30_2:w27.cell? ⟨gb320,2,none⟩=some (.slice A1_2 l1_2.length c1_2):=(ag BK320.out 2).trans rfl;have hfz30_0:=ah BK320.out 0;have hfz30_1:=ah BK320.out 1;have hfz30_2:=ah BK320.out 2)|((with_reducible refine aK (f:=38) rfl ?_);refine bn (some 14) rfl rfl Tryd.func38 (by kernel_rfl) rfl #[.slice A0_1 l0_1.length c0_1,.slice A1_1 l1_1.length c1_1] rfl (by(try simp only[amp_]);first|done|rfl|(simp only[ald_];rfl)) ?_;(with_reducible refine(laws_eqExtentS.calls k _ _ l0_1 _ _ l1_1 false _ ?side1 ?side2 ?side3 ?side4 A4.out).mono ?_);(case side1=>repeat(first|exact(Kd.aQ HR0_1.out HB.out)|(with_reducible first|apply Kd.aW|apply Kd.aV|apply Kd.aY)));(case side2=>exact HC0_1.out);(case side3=>repeat(first|exact(Kd.aQ HR1_1.out HB.out)|(with_reducible first|apply Kd.aW|apply Kd.aV|apply Kd.aY)));(case side4=>exact HC1_1.out);rintro e w31 ⟨rfl,hb⟩;refine⟨_,rfl,?_⟩;replace BK319:=av (aG (g:=gb319) (o:=.cells #[.int .i64 a0_0,.slice A0_1 l0_1.length c0_1,.slice A0_2 l0_2.length c0_2] 32 (0,0)) (by(with_reducible repeat(first|apply aj|apply au|apply ak));exact BK319.out) hb);replace BK320:=av (aG (g:=gb320) (o:=.cells #[.int .i64 a1_0,.slice A1_1 l1_1.length c1_1,.slice A1_2 l1_2.length c1_2] 32 (0,0)) (by(with_reducible repeat(first|apply aj|apply au|apply ak));exact BK320.out) hb);replace HB:=av (aA (by with_reducible repeat(first|exact HB.out|apply af|apply aa|apply ae|refine ai ?_ GE319.out|refine ai ?_ GE320.out)) hb);(try clear hb);(try clear hb2);(try clear hk);(try clear hi)))
   go_ret
   exact⟨by first|rfl|(simp <;> rfl)|(simp[*] <;> rfl),by with_reducible repeat(first|exact HB.out|apply af|apply aa|apply ae|refine ai ?_ GE319.out|refine ai ?_ GE320.out)⟩
 ·rw[if_neg c3] at H
  have c3b0:(a0_0 == a1_0)=false:=beq_eq_false_iff_ne.mpr c3
  have c3b1:(a0_0 != a1_0)=true:=bne_iff_ne.mpr c3
  obtain rfl:=Option.some.inj H
  go_enter Tryd.func20,Tryd.ntmps20
  go_wp2_with (first|((with_reducible refine aJ (N:=2) rfl ?_);refine aI ?hg (N:=2) ?hd (cs:=#[.int .i64 a0_0,.slice A0_1 l0_1.length c0_1,.slice A0_2 l0_2.length c0_2]) (t:=32) ?hr ?_;(case hd=>rfl);(case hg=>rfl);(case hr=>first|(go_simp;done)|(go_simp;rfl));intro gb319 hg w32 hbox hb;have BK319:=av (hbox);have GW319:=av ((by rw[hg];exact(ay (by with_reducible repeat(first|exact HB.out|apply af|apply aa|apply ae))):w.heap.size≤gb319));have GE319:=av ((by rw[hg];exact(ay (by with_reducible repeat(first|exact HB.out|apply af|apply aa|apply ae))):w.heap.size≤gb319));replace HB:=av (aA (by with_reducible repeat(first|exact HB.out|apply af|apply aa|apply ae)) hb);clear hb hbox hg)|((with_reducible refine aJ (N:=3) rfl ?_);refine aI ?hg (N:=3) ?hd (cs:=#[.int .i64 a1_0,.slice A1_1 l1_1.length c1_1,.slice A1_2 l1_2.length c1_2]) (t:=32) ?hr ?_;(case hd=>rfl);(case hg=>rfl);(case hr=>first|(go_simp;done)|(go_simp;rfl));intro gb320 hg w33 hbox hb;have BK320:=av (hbox);have GW320:=av ((by rw[hg];exact(ay (by with_reducible repeat(first|exact HB.out|apply af|apply aa|apply ae|refine ai ?_ GE319.out))):w.heap.size≤gb320));have GE320:=av ((by rw[hg];exact(ay (by with_reducible repeat(first|exact HB.out|apply af|apply aa|apply ae|refine ai ?_ GE319.out))):w.heap.size≤gb320));replace HB:=av (aA (by with_reducible repeat(first|exact HB.out|apply af|apply aa|apply ae|refine ai ?_ GE319.out)) hb);have NB319_320:=av ((by rw[hg];exact Nat.ne_of_lt (aN (g:=gb319) (o:=.cells #[.int .i64 a0_0,.slice A0_1 l0_1.length c0_1,.slice A0_2 l0_2.length c0_2] 32 (0,0)) (by(with_reducible repeat(first|apply aj|apply au|apply ak));exact BK319.out)):gb319≠gb320));have NB320_319:=av ((by rw[hg];exact Nat.ne_of_gt (aN (g:=gb319) (o:=.cells #[.int .i64 a0_0,.slice A0_1 l0_1.length c0_1,.slice A0_2 l0_2.length c0_2] 32 (0,0)) (by(with_reducible repeat(first|apply aj|apply au|apply ak));exact BK319.out)):gb320≠gb319));replace BK319:=av (aG (g:=gb319) (o:=.cells #[.int .i64 a0_0,.slice A0_1 l0_1.length c0_1,.slice A0_2 l0_2.length c0_2] 32 (0,0)) (by(with_reducible repeat(first|apply aj|apply au|apply ak));exact BK319.out) hb);clear hb hbox hg;have hnb34:=NB319_320.out;have hnc34:=NB320_319.out;have hcz35_0:w33.cell? ⟨gb319,0,none⟩=some (.int .i64 a0_0):=(ag BK319.out 0).trans rfl;have hcz35_1:w33.cell? ⟨gb319,1,none⟩=some (.slice A0_1 l0_1.length c0_1):=(ag BK319.out 1).trans rfl;have hcz35_2:w33.cell? ⟨gb319,2,none⟩=some (.slice A0_2 l0_2.length c0_2):=(ag BK319.out 2).trans rfl;have hfz35_0:=ah BK319.out 0;have hfz35_1:=ah BK319.out 1;have hfz35_2:=ah BK319.out 2;have hcz36_0:w33.cell? ⟨gb320,0,none⟩=some (.int .i64 a1_0):=(ag BK320.out 0).trans rfl;have hcz36_1:w33.cell? ⟨gb320,1,none⟩=some (.slice A1_1 l1_1.length c1_1):=(ag BK320.out 1).trans rfl;have hcz36_2:w33.cell? ⟨gb320,2,none⟩=some (.slice A1_2 l1_2.length c1_2):=(ag BK320.out 2).trans rfl;have hfz36_0:=ah BK320.out 0;have hfz36_1:=ah BK320.out 1;have hfz36_2:=ah BK320.out 2))
  go_ret
  exact⟨by first|rfl|(simp <;> rfl)|(simp[*] <;> rfl),by with_reducible repeat(first|exact HB.out|apply af|apply aa|apply ae|refine ai ?_ GE319.out|refine ai ?_ GE320.out)⟩
def laws_eqPiece.f (a0_0:Int) (a0_1:Int) (a0_2:Int) (a0_3:Bool) (a1_0:Int) (a1_1:Int) (a1_2:Int) (a1_3:Bool):Option (Bool):=if a0_0=a1_0 then (if a0_1=a1_1 then (if a0_2=a1_2 then (if (a0_3 != a1_3)=true then (some false) else (some true)) else (some false)) else (some false)) else (some false)
set_option maxHeartbeats 8000000 in
set_option maxRecDepth 100000 in
theorem laws_eqPiece.calls (a0_0:Int) (a0_1:Int) (a0_2:Int) (a0_3:Bool) (a1_0:Int) (a1_1:Int) (a1_2:Int) (a1_3:Bool) (r:Bool) (w:World) (h:laws_eqPiece.f a0_0 a0_1 a0_2 a0_3 a1_0 a1_1 a1_2 a1_3=some r) :
  Calls Tryd.prog 83 #[.agg #[.int .i64 a0_0,.int .i64 a0_1,.int .i64 a0_2,.bool a0_3],.agg #[.int .i64 a1_0,.int .i64 a1_1,.int .i64 a1_2,.bool a1_3]] w fun e w'=>e = .returned (.bool r)∧Below w.heap.size w w':=by
 have hu51:=Tryd.underlying51
 have HB:=av (Below.refl w.heap.size w)
 have H:(if a0_0=a1_0 then (if a0_1=a1_1 then (if a0_2=a1_2 then (if (a0_3 != a1_3)=true then (some false) else (some true)) else (some false)) else (some false)) else (some false))=some r:=h
 clear h
 by_cases c3:a0_0=a1_0
 ·rw [if_pos c3] at H
  have c3b0:(a0_0 == a1_0)=true:=beq_iff_eq.mpr c3
  have c3b1:(a0_0 != a1_0)=false:=bne_eq_false_iff_eq.mpr c3
  clear c3
  by_cases c4:a0_1=a1_1
  ·rw[if_pos c4] at H
   have c4b0:(a0_1 == a1_1)=true:=beq_iff_eq.mpr c4
   have c4b1:(a0_1 != a1_1)=false:=bne_eq_false_iff_eq.mpr c4
   clear c4
   by_cases c5:a0_2=a1_2
   ·rw[if_pos c5] at H
    have c5b0:(a0_2 == a1_2)=true:=beq_iff_eq.mpr c5
    have c5b1:(a0_2 != a1_2)=false:=bne_eq_false_iff_eq.mpr c5
    clear c5
    by_cases c6:(a0_3 != a1_3)=true
    ·rw[if_pos c6] at H
     have c6b0:(a0_3 != a1_3)=true:=c6
     (try(have c6b1:decide (a0_3=a1_3)=false:=by simpa using c6))
     (try(have c6b2:(a0_3 == a1_3)=false:=by simpa using c6))
     (try(have c6b3:¬ (a0_3=a1_3):=by simpa using c6))
     clear c6
     obtain rfl:=Option.some.inj H
     go_enter Tryd.func83,Tryd.ntmps83
     go_wp2_with (first|((with_reducible refine aJ (N:=2) rfl ?_);refine aI ?hg (N:=2) ?hd (cs:=#[.int .i64 a0_0,.int .i64 a0_1,.int .i64 a0_2,.bool a0_3]) (t:=51) ?hr ?_;(case hd=>rfl);(case hg=>rfl);(case hr=>first|(go_simp;done)|(go_simp;rfl));intro gb323 hg w7 hbox hb;have BK323:=av (hbox);have GW323:=av ((by rw[hg];exact(ay (by with_reducible repeat(first|exact HB.out|apply af|apply aa|apply ae))):w.heap.size≤gb323));have GE323:=av ((by rw[hg];exact(ay (by with_reducible repeat(first|exact HB.out|apply af|apply aa|apply ae))):w.heap.size≤gb323));replace HB:=av (aA (by with_reducible repeat(first|exact HB.out|apply af|apply aa|apply ae)) hb);clear hb hbox hg)|((with_reducible refine aJ (N:=3) rfl ?_);refine aI ?hg (N:=3) ?hd (cs:=#[.int .i64 a1_0,.int .i64 a1_1,.int .i64 a1_2,.bool a1_3]) (t:=51) ?hr ?_;(case hd=>rfl);(case hg=>rfl);(case hr=>first|(go_simp;done)|(go_simp;rfl));intro gb324 hg w8 hbox hb;have BK324:=av (hbox);have GW324:=av ((by rw[hg];exact(ay (by with_reducible repeat(first|exact HB.out|apply af|apply aa|apply ae|refine ai ?_ GE323.out))):w.heap.size≤gb324));have GE324:=av ((by rw[hg];exact(ay (by with_reducible repeat(first|exact HB.out|apply af|apply aa|apply ae|refine ai ?_ GE323.out))):w.heap.size≤gb324));replace HB:=av (aA (by with_reducible repeat(first|exact HB.out|apply af|apply aa|apply ae|refine ai ?_ GE323.out)) hb);have NB323_324:=av ((by rw[hg];exact Nat.ne_of_lt (aN (g:=gb323) (o:=.cells #[.int .i64 a0_0,.int .i64 a0_1,.int .i64 a0_2,.bool a0_3] 51 (0,0)) (by(with_reducible repeat(first|apply aj|apply au|apply ak));exact BK323.out)):gb323≠gb324));have NB324_323:=av ((by rw[hg];exact Nat.ne_of_gt (aN (g:=gb323) (o:=.cells #[.int .i64 a0_0,.int .i64 a0_1,.int .i64 a0_2,.bool a0_3] 51 (0,0)) (by(with_reducible repeat(first|apply aj|apply au|apply ak));exact BK323.out)):gb324≠gb323));replace BK323:=av (aG (g:=gb323) (o:=.cells #[.int .i64 a0_0,.int .i64 a0_1,.int .i64 a0_2,.bool a0_3] 51 (0,0)) (by(with_reducible repeat(first|apply aj|apply au|apply ak));exact BK323.out) hb);clear hb hbox hg;have hnb9:=NB323_324.out;have hnc9:=NB324_323.out;have hcz10_0:w8.cell? ⟨gb323,0,none⟩=some (.int .i64 a0_0):=(ag BK323.out 0).trans rfl;have hcz10_1:w8.cell? ⟨gb323,1,none⟩=some (.int .i64 a0_1):=(ag BK323.out 1).trans rfl;have hcz10_2:w8.cell? ⟨gb323,2,none⟩=some (.int .i64 a0_2):=(ag BK323.out 2).trans rfl;have hcz10_3:w8.cell? ⟨gb323,3,none⟩=some (.bool a0_3):=(ag BK323.out 3).trans rfl;have hfz10_0:=ah BK323.out 0;have hfz10_1:=ah BK323.out 1;have hfz10_2:=ah BK323.out 2;have hfz10_3:=ah BK323.out 3;have hcz11_0:w8.cell? ⟨gb324,0,none⟩=some (.int .i64 a1_0):=(ag BK324.out 0).trans rfl;have hcz11_1:w8.cell? ⟨gb324,1,none⟩=some (.int .i64 a1_1):=(ag BK324.out 1).trans rfl;have hcz11_2:w8.cell? ⟨gb324,2,none⟩=some (.int .i64 a1_2):=(ag BK324.out 2).trans rfl;have hcz11_3:w8.cell? ⟨gb324,3,none⟩=some (.bool a1_3):=(ag BK324.out 3).trans rfl;have hfz11_0:=ah BK324.out 0;have hfz11_1:=ah BK324.out 1;have hfz11_2:=ah BK324.out 2;have hfz11_3:=ah BK324.out 3))
     go_ret
     exact⟨by first|rfl|(simp <;> rfl)|(simp[*] <;> rfl),by with_reducible repeat(first|exact HB.out|apply af|apply aa|apply ae|refine ai ?_ GE323.out|refine ai ?_ GE324.out)⟩
    ·rw[if_neg c6] at H
     have c6b0:(a0_3 != a1_3)=false:=by simpa using c6
     (try(have c6b1:decide (a0_3=a1_3)=true:=by simpa using c6))
     (try(have c6b2:(a0_3 == a1_3)=true:=by simpa using c6))
     clear c6
     obtain rfl:=Option.some.inj H
     go_enter Tryd.func83,Tryd.ntmps83
     go_wp2_with (first|((with_reducible refine aJ (N:=2) rfl ?_);refine aI ?hg (N:=2) ?hd (cs:=#[.int .i64 a0_0,.int .i64 a0_1,.int .i64 a0_2,.bool a0_3]) (t:=51) ?hr ?_;(case hd=>rfl);(case hg=>rfl);(case hr=>first|(go_simp;done)|(go_simp;rfl));intro gb323 hg w12 hbox hb;have BK323:=av (hbox);have GW323:=av ((by rw[hg];exact(ay (by with_reducible repeat(first|exact HB.out|apply af|apply aa|apply ae))):w.heap.size≤gb323));have GE323:=av ((by rw[hg];exact(ay (by with_reducible repeat(first|exact HB.out|apply af|apply aa|apply ae))):w.heap.size≤gb323));replace HB:=av (aA (by with_reducible repeat(first|exact HB.out|apply af|apply aa|apply ae)) hb);clear hb hbox hg)|((with_reducible refine aJ (N:=3) rfl ?_);refine aI ?hg (N:=3) ?hd (cs:=#[.int .i64 a1_0,.int .i64 a1_1,.int .i64 a1_2,.bool a1_3]) (t:=51) ?hr ?_;(case hd=>rfl);(case hg=>rfl);(case hr=>first|(go_simp;done)|(go_simp;rfl));intro gb324 hg w13 hbox hb;have BK324:=av (hbox);have GW324:=av ((by rw[hg];exact(ay (by with_reducible repeat(first|exact HB.out|apply af|apply aa|apply ae|refine ai ?_ GE323.out))):w.heap.size≤gb324));have GE324:=av ((by rw[hg];exact(ay (by with_reducible repeat(first|exact HB.out|apply af|apply aa|apply ae|refine ai ?_ GE323.out))):w.heap.size≤gb324));replace HB:=av (aA (by with_reducible repeat(first|exact HB.out|apply af|apply aa|apply ae|refine ai ?_ GE323.out)) hb);have NB323_324:=av ((by rw[hg];exact Nat.ne_of_lt (aN (g:=gb323) (o:=.cells #[.int .i64 a0_0,.int .i64 a0_1,.int .i64 a0_2,.bool a0_3] 51 (0,0)) (by(with_reducible repeat(first|apply aj|apply au|apply ak));exact BK323.out)):gb323≠gb324));have NB324_323:=av ((by rw[hg];exact Nat.ne_of_gt (aN (g:=gb323) (o:=.cells #[.int .i64 a0_0,.int .i64 a0_1,.int .i64 a0_2,.bool a0_3] 51 (0,0)) (by(with_reducible repeat(first|apply aj|apply au|apply ak));exact BK323.out)):gb324≠gb323));replace BK323:=av (aG (g:=gb323) (o:=.cells #[.int .i64 a0_0,.int .i64 a0_1,.int .i64 a0_2,.bool a0_3] 51 (0,0)) (by(with_reducible repeat(first|apply aj|apply au|apply ak));exact BK323.out) hb);clear hb hbox hg;have hnb14:=NB323_324.out;have hnc14:=NB324_323.out;have hcz15_0:w13.cell? ⟨gb323,0,none⟩=some (.int .i64 a0_0):=(ag BK323.out 0).trans rfl;have hcz15_1:w13.cell? ⟨gb323,1,none⟩=some (.int .i64 a0_1):=(ag BK323.out 1).trans rfl;have hcz15_2:w13.cell? ⟨gb323,2,none⟩=some (.int .i64 a0_2):=(ag BK323.out 2).trans rfl;have hcz15_3:w13.cell? ⟨gb323,3,none⟩=some (.bool a0_3):=(ag BK323.out 3).trans rfl;have hfz15_0:=ah BK323.out 0;have hfz15_1:=ah BK323.out 1;have hfz15_2:=ah BK323.out 2;have hfz15_3:=ah BK323.out 3;have hcz16_0:w13.cell? ⟨gb324,0,none⟩=some (.int .i64 a1_0):=(ag BK324.out 0).trans rfl;have hcz16_1:w13.cell? ⟨gb324,1,none⟩=some (.int .i64 a1_1):=(ag BK324.out 1).trans rfl;have hcz16_2:w13.cell? ⟨gb324,2,none⟩=some (.int .i64 a1_2):=(ag BK324.out 2).trans rfl;have hcz16_3:w13.cell? ⟨gb324,3,none⟩=some (.bool a1_3):=(ag BK324.out 3).trans rfl;have hfz16_0:=ah BK324.out 0;have hfz16_1:=ah BK324.out 1;have hfz16_2:=ah BK324.out 2;have hfz16_3:=ah BK324.out 3))
     go_ret
     exact⟨by first|rfl|(simp <;> rfl)|(simp[*] <;> rfl),by with_reducible repeat(first|exact HB.out|apply af|apply aa|apply ae|refine ai ?_ GE323.out|refine ai ?_ GE324.out)⟩
   ·rw[if_neg c5] at H
    have c5b0:(a0_2 == a1_2)=false:=beq_eq_false_iff_ne.mpr c5
    have c5b1:(a0_2 != a1_2)=true:=bne_iff_ne.mpr c5
    obtain rfl:=Option.some.inj H
    go_enter Tryd.func83,Tryd.ntmps83
    go_wp2_with (first|((with_reducible refine aJ (N:=2) rfl ?_);refine aI ?hg (N:=2) ?hd (cs:=#[.int .i64 a0_0,.int .i64 a0_1,.int .i64 a0_2,.bool a0_3]) (t:=51) ?hr ?_;(case hd=>rfl);(case hg=>rfl);(case hr=>first|(go_simp;done)|(go_simp;rfl));intro gb323 hg w17 hbox hb;have BK323:=av (hbox);have GW323:=av ((by rw[hg];exact(ay (by with_reducible repeat(first|exact HB.out|apply af|apply aa|apply ae))):w.heap.size≤gb323));have GE323:=av ((by rw[hg];exact(ay (by with_reducible repeat(first|exact HB.out|apply af|apply aa|apply ae))):w.heap.size≤gb323));replace HB:=av (aA (by with_reducible repeat(first|exact HB.out|apply af|apply aa|apply ae)) hb);clear hb hbox hg)|((with_reducible refine aJ (N:=3) rfl ?_);refine aI ?hg (N:=3) ?hd (cs:=#[.int .i64 a1_0,.int .i64 a1_1,.int .i64 a1_2,.bool a1_3]) (t:=51) ?hr ?_;(case hd=>rfl);(case hg=>rfl);(case hr=>first|(go_simp;done)|(go_simp;rfl));intro gb324 hg w18 hbox hb;have BK324:=av (hbox);have GW324:=av ((by rw[hg];exact(ay (by with_reducible repeat(first|exact HB.out|apply af|apply aa|apply ae|refine ai ?_ GE323.out))):w.heap.size≤gb324));have GE324:=av ((by rw[hg];exact(ay (by with_reducible repeat(first|exact HB.out|apply af|apply aa|apply ae|refine ai ?_ GE323.out))):w.heap.size≤gb324));replace HB:=av (aA (by with_reducible repeat(first|exact HB.out|apply af|apply aa|apply ae|refine ai ?_ GE323.out)) hb);have NB323_324:=av ((by rw[hg];exact Nat.ne_of_lt (aN (g:=gb323) (o:=.cells #[.int .i64 a0_0,.int .i64 a0_1,.int .i64 a0_2,.bool a0_3] 51 (0,0)) (by(with_reducible repeat(first|apply aj|apply au|apply ak));exact BK323.out)):gb323≠gb324));have NB324_323:=av ((by rw[hg];exact Nat.ne_of_gt (aN (g:=gb323) (o:=.cells #[.int .i64 a0_0,.int .i64 a0_1,.int .i64 a0_2,.bool a0_3] 51 (0,0)) (by(with_reducible repeat(first|apply aj|apply au|apply ak));exact BK323.out)):gb324≠gb323));replace BK323:=av (aG (g:=gb323) (o:=.cells #[.int .i64 a0_0,.int .i64 a0_1,.int .i64 a0_2,.bool a0_3] 51 (0,0)) (by(with_reducible repeat(first|apply aj|apply au|apply ak));exact BK323.out) hb);clear hb hbox hg;have hnb19:=NB323_324.out;have hnc19:=NB324_323.out;have hcz20_0:w18.cell? ⟨gb323,0,none⟩=some (.int .i64 a0_0):=(ag BK323.out 0).trans rfl;have hcz20_1:w18.cell? ⟨gb323,1,none⟩=some (.int .i64 a0_1):=(ag BK323.out 1).trans rfl;have hcz20_2:w18.cell? ⟨gb323,2,none⟩=some (.int .i64 a0_2):=(ag BK323.out 2).trans rfl;have hcz20_3:w18.cell? ⟨gb323,3,none⟩=some (.bool a0_3):=(ag BK323.out 3).trans rfl;have hfz20_0:=ah BK323.out 0;have hfz20_1:=ah BK323.out 1;have hfz20_2:=ah BK323.out 2;have hfz20_3:=ah BK323.out 3;have hcz21_0:w18.cell? ⟨gb324,0,none⟩=some (.int .i64 a1_0):=(ag BK324.out 0).trans rfl;have hcz21_1:w18.cell? ⟨gb324,1,none⟩=some (.int .i64 a1_1):=(ag BK324.out 1).trans rfl;have hcz21_2:w18.cell? ⟨gb324,2,none⟩=some (.int .i64 a1_2):=(ag BK324.out 2).trans rfl;have hcz21_3:w18.cell? ⟨gb324,3,none⟩=some (.bool a1_3):=(ag BK324.out 3).trans rfl;have hfz21_0:=ah BK324.out 0;have hfz21_1:=ah BK324.out 1;have hfz21_2:=ah BK324.out 2;have hfz21_3:=ah BK324.out 3))
    go_ret
    exact⟨by first|rfl|(simp <;> rfl)|(simp[*] <;> rfl),by with_reducible repeat(first|exact HB.out|apply af|apply aa|apply ae|refine ai ?_ GE323.out|refine ai ?_ GE324.out)⟩
  ·rw[if_neg c4] at H
   have c4b0:(a0_1 == a1_1)=false:=beq_eq_false_iff_ne.mpr c4
   have c4b1:(a0_1 != a1_1)=true:=bne_iff_ne.mpr c4
   obtain rfl:=Option.some.inj H
   go_enter Tryd.func83,Tryd.ntmps83
   go_wp2_with (first|((with_reducible refine aJ (N:=2) rfl ?_);refine aI ?hg (N:=2) ?hd (cs:=#[.int .i64 a0_0,.int .i64 a0_1,.int .i64 a0_2,.bool a0_3]) (t:=51) ?hr ?_;(case hd=>rfl);(case hg=>rfl);(case hr=>first|(go_simp;done)|(go_simp;rfl));intro gb323 hg w22 hbox hb;have BK323:=av (hbox);have GW323:=av ((by rw[hg];exact(ay (by with_reducible repeat(first|exact HB.out|apply af|apply aa|apply ae))):w.heap.size≤gb323));have GE323:=av ((by rw[hg];exact(ay (by with_reducible repeat(first|exact HB.out|apply af|apply aa|apply ae))):w.heap.size≤gb323));replace HB:=av (aA (by with_reducible repeat(first|exact HB.out|apply af|apply aa|apply ae)) hb);clear hb hbox hg)|((with_reducible refine aJ (N:=3) rfl ?_);refine aI ?hg (N:=3) ?hd (cs:=#[.int .i64 a1_0,.int .i64 a1_1,.int .i64 a1_2,.bool a1_3]) (t:=51) ?hr ?_;(case hd=>rfl);(case hg=>rfl);(case hr=>first|(go_simp;done)|(go_simp;rfl));intro gb324 hg w23 hbox hb;have BK324:=av (hbox);have GW324:=av ((by rw[hg];exact(ay (by with_reducible repeat(first|exact HB.out|apply af|apply aa|apply ae|refine ai ?_ GE323.out))):w.heap.size≤gb324));have GE324:=av ((by rw[hg];exact(ay (by with_reducible repeat(first|exact HB.out|apply af|apply aa|apply ae|refine ai ?_ GE323.out))):w.heap.size≤gb324));replace HB:=av (aA (by with_reducible repeat(first|exact HB.out|apply af|apply aa|apply ae|refine ai ?_ GE323.out)) hb);have NB323_324:=av ((by rw[hg];exact Nat.ne_of_lt (aN (g:=gb323) (o:=.cells #[.int .i64 a0_0,.int .i64 a0_1,.int .i64 a0_2,.bool a0_3] 51 (0,0)) (by(with_reducible repeat(first|apply aj|apply au|apply ak));exact BK323.out)):gb323≠gb324));have NB324_323:=av ((by rw[hg];exact Nat.ne_of_gt (aN (g:=gb323) (o:=.cells #[.int .i64 a0_0,.int .i64 a0_1,.int .i64 a0_2,.bool a0_3] 51 (0,0)) (by(with_reducible repeat(first|apply aj|apply au|apply ak));exact BK323.out)):gb324≠gb323));replace BK323:=av (aG (g:=gb323) (o:=.cells #[.int .i64 a0_0,.int .i64 a0_1,.int .i64 a0_2,.bool a0_3] 51 (0,0)) (by(with_reducible repeat(first|apply aj|apply au|apply ak));exact BK323.out) hb);clear hb hbox hg;have hnb24:=NB323_324.out;have hnc24:=NB324_323.out;have hcz25_0:w23.cell? ⟨gb323,0,none⟩=some (.int .i64 a0_0):=(ag BK323.out 0).trans rfl;have hcz25_1:w23.cell? ⟨gb323,1,none⟩=some (.int .i64 a0_1):=(ag BK323.out 1).trans rfl;have hcz25_2:w23.cell? ⟨gb323,2,none⟩=some (.int .i64 a0_2):=(ag BK323.out 2).trans rfl;have hcz25_3:w23.cell? ⟨gb323,3,none⟩=some (.bool a0_3):=(ag BK323.out 3).trans rfl;have hfz25_0:=ah BK323.out 0;have hfz25_1:=ah BK323.out 1;have hfz25_2:=ah BK323.out 2;have hfz25_3:=ah BK323.out 3;have hcz26_0:w23.cell? ⟨gb324,0,none⟩=some (.int .i64 a1_0):=(ag BK324.out 0).trans rfl;have hcz26_1:w23.cell? ⟨gb324,1,none⟩=some (.int .i64 a1_1):=(ag BK324.out 1).trans rfl;have hcz26_2:w23.cell? ⟨gb324,2,none⟩=some (.int .i64 a1_2):=(ag BK324.out 2).trans rfl;have hcz26_3:w23.cell? ⟨gb324,3,none⟩=some (.bool a1_3):=(ag BK324.out 3).trans rfl;have hfz26_0:=ah BK324.out 0;have hfz26_1:=ah BK324.out 1;have hfz26_2:=ah BK324.out 2;have hfz26_3:=ah BK324.out 3))
   go_ret
   exact⟨by first|rfl|(simp <;> rfl)|(simp[*] <;> rfl),by with_reducible repeat(first|exact HB.out|apply af|apply aa|apply ae|refine ai ?_ GE323.out|refine ai ?_ GE324.out)⟩
 ·rw[if_neg c3] at H
  have c3b0:(a0_0 == a1_0)=false:=beq_eq_false_iff_ne.mpr c3
  have c3b1:(a0_0 != a1_0)=true:=bne_iff_ne.mpr c3
  obtain rfl:=Option.some.inj H
  go_enter Tryd.func83,Tryd.ntmps83
  go_wp2_with (first|((with_reducible refine aJ (N:=2) rfl ?_);refine aI ?hg (N:=2) ?hd (cs:=#[.int .i64 a0_0,.int .i64 a0_1,.int .i64 a0_2,.bool a0_3]) (t:=51) ?hr ?_;(case hd=>rfl);(case hg=>rfl);(case hr=>first|(go_simp;done)|(go_simp;rfl));intro gb323 hg w27 hbox hb;have BK323:=av (hbox);have GW323:=av ((by rw[hg];exact(ay (by with_reducible repeat(first|exact HB.out|apply af|apply aa|apply ae))):w.heap.size≤gb323));have GE323:=av ((by rw[hg];exact(ay (by with_reducible repeat(first|exact HB.out|apply af|apply aa|apply ae))):w.heap.size≤gb323));replace HB:=av (aA (by with_reducible repeat(first|exact HB.out|apply af|apply aa|apply ae)) hb);clear hb hbox hg)|((with_reducible refine aJ (N:=3) rfl ?_);refine aI ?hg (N:=3) ?hd (cs:=#[.int .i64 a1_0,.int .i64 a1_1,.int .i64 a1_2,.bool a1_3]) (t:=51) ?hr ?_;(case hd=>rfl);(case hg=>rfl);(case hr=>first|(go_simp;done)|(go_simp;rfl));intro gb324 hg w28 hbox hb;have BK324:=av (hbox);have GW324:=av ((by rw[hg];exact(ay (by with_reducible repeat(first|exact HB.out|apply af|apply aa|apply ae|refine ai ?_ GE323.out))):w.heap.size≤gb324));have GE324:=av ((by rw[hg];exact(ay (by with_reducible repeat(first|exact HB.out|apply af|apply aa|apply ae|refine ai ?_ GE323.out))):w.heap.size≤gb324));replace HB:=av (aA (by with_reducible repeat(first|exact HB.out|apply af|apply aa|apply ae|refine ai ?_ GE323.out)) hb);have NB323_324:=av ((by rw[hg];exact Nat.ne_of_lt (aN (g:=gb323) (o:=.cells #[.int .i64 a0_0,.int .i64 a0_1,.int .i64 a0_2,.bool a0_3] 51 (0,0)) (by(with_reducible repeat(first|apply aj|apply au|apply ak));exact BK323.out)):gb323≠gb324));have NB324_323:=av ((by rw[hg];exact Nat.ne_of_gt (aN (g:=gb323) (o:=.cells #[.int .i64 a0_0,.int .i64 a0_1,.int .i64 a0_2,.bool a0_3] 51 (0,0)) (by(with_reducible repeat(first|apply aj|apply au|apply ak));exact BK323.out)):gb324≠gb323));replace BK323:=av (aG (g:=gb323) (o:=.cells #[.int .i64 a0_0,.int .i64 a0_1,.int .i64 a0_2,.bool a0_3] 51 (0,0)) (by(with_reducible repeat(first|apply aj|apply au|apply ak));exact BK323.out) hb);clear hb hbox hg;have hnb29:=NB323_324.out;have hnc29:=NB324_323.out;have hcz30_0:w28.cell? ⟨gb323,0,none⟩=some (.int .i64 a0_0):=(ag BK323.out 0).trans rfl;have hcz30_1:w28.cell? ⟨gb323,1,none⟩=some (.int .i64 a0_1):=(ag BK323.out 1).trans rfl;have hcz30_2:w28.cell? ⟨gb323,2,none⟩=some (.int .i64 a0_2):=(ag BK323.out 2).trans rfl;have hcz30_3:w28.cell? ⟨gb323,3,none⟩=some (.bool a0_3):=(ag BK323.out 3).trans rfl;have hfz30_0:=ah BK323.out 0;have hfz30_1:=ah BK323.out 1;have hfz30_2:=ah BK323.out 2;have hfz30_3:=ah BK323.out 3;have hcz31_0:w28.cell? ⟨gb324,0,none⟩=some (.int .i64 a1_0):=(ag BK324.out 0).trans rfl;have hcz31_1:w28.cell? ⟨gb324,1,none⟩=some (.int .i64 a1_1):=(ag BK324.out 1).trans rfl;have hcz31_2:w28.cell? ⟨gb324,2,none⟩=some (.int .i64 a1_2):=(ag BK324.out 2).trans rfl;have hcz31_3:w28.cell? ⟨gb324,3,none⟩=some (.bool a1_3):=(ag BK324.out 3).trans rfl;have hfz31_0:=ah BK324.out 0;have hfz31_1:=ah BK324.out 1;have hfz31_2:=ah BK324.out 2;have hfz31_3:=ah BK324.out 3))
  go_ret
  exact⟨by first|rfl|(simp <;> rfl)|(simp[*] <;> rfl),by with_reducible repeat(first|exact HB.out|apply af|apply aa|apply ae|refine ai ?_ GE323.out|refine ai ?_ GE324.out)⟩
def laws_eqPieceS.l0:Nat→List (S51)→List (S51)→Int→Option (Bool)
 | 0,_,_,_=>none
 | k+1,x0,x1,x5=>if x5 < (x0.length:Int) then (if 0≤x5 then (if x5 < (x1.length:Int) then ((laws_eqPiece.f ((ax x0 x5).f0) ((ax x0 x5).f1) ((ax x0 x5).f2) ((ax x0 x5).f3) ((ax x1 x5).f0) ((ax x1 x5).f1) ((ax x1 x5).f2) ((ax x1 x5).f3)).bind fun t327=>(if t327=true then (laws_eqPieceS.l0 k x0 x1 (wrap64 (x5+1))) else (some false))) else (none)) else (none)) else (some true)
def laws_eqPieceS.f (k:Nat) (l0:List (S51)) (l1:List (S51)):Option (Bool):=if (l0.length:Int) = (l1.length:Int) then (laws_eqPieceS.l0 k l0 l1 0) else (some false)
def laws_eqPieceS.T6:Bool×List (List Nat×List Nat):=(true,[([],[]),([],[]),([0,1],[0,1]),([2],[2]),([],[]),([],[]),([4,5],[4,5]),([6],[6]),([3,7],[3,7]),([8],[8])])
def laws_eqPieceS.B6:List Nat:=[0,0,3,7,0,0,48,112,255,511]
theorem laws_eqPieceS.tab6:dR .any (opsOf Tryd.f66 6)=laws_eqPieceS.T6:=by kernel_rfl
theorem laws_eqPieceS.bits6:dH laws_eqPieceS.T6.2 laws_eqPieceS.B6=true:=by kernel_rfl
set_option maxHeartbeats 8000000 in
set_option maxRecDepth 100000 in
theorem laws_eqPieceS.calls (k : Nat) (A0 : Option Addr) (c0 : Nat) (l0 : List (S51)) (A1 : Option Addr) (c1 : Nat) (l1 : List (S51)) (r : Bool) (w : World) (hr0 : Kd.C k51 w A0 l0.length l0) (hc0 : l0.length ≤ c0) (hr1 : Kd.C k51 w A1 l1.length l1) (hc1 : l1.length ≤ c1) (h : laws_eqPieceS.f k l0 l1 = some r) :
  Calls Tryd.prog 66 #[.slice A0 l0.length c0,.slice A1 l1.length c1] w fun e w'=>e = .returned (.bool r)∧Below w.heap.size w w':=by
 have hu51:=Tryd.underlying51
 have HR0:=av hr0
 have HC0:=av hc0
 clear hr0 hc0
 have HR1:=av hr1
 have HC1:=av hc1
 clear hr1 hc1
 have HB:=av (Below.refl w.heap.size w)
 have H:(if (l0.length:Int) = (l1.length:Int) then (laws_eqPieceS.l0 k l0 l1 0) else (some false))=some r:=h
 clear h
 by_cases c3:(l0.length:Int) = (l1.length:Int)
 ·rw [if_pos c3] at H
  have c3b0:((l0.length:Int) == (l1.length:Int))=true:=beq_iff_eq.mpr c3
  have c3b1:((l0.length:Int) != (l1.length:Int))=false:=bne_eq_false_iff_eq.mpr c3
  have c3b2:(l0.length == l1.length)=true:=by first|simpa using c3|(simp at c3 ⊢;omega)
  clear c3
  have H':=av H
  clear H
  go_enter Tryd.func66,Tryd.ntmps66
  go_wp2
  go_loopg [5] k (fun kq v5 w'=>∃ (x5_1:Int),v5 = .int .i64 x5_1∧Aside0 (laws_eqPieceS.l0 kq l0 l1 x5_1=some r)∧Aside0 (kq≤k)∧Aside0 (Below w.heap.size w w'))
  case atStart=>exact⟨(0),(by first|rfl|(simp;done)|(simp[*];done)),H',⟨Nat.le_refl _⟩,⟨by with_reducible repeat(first|exact HB.out|apply af|apply aa|apply ae)⟩⟩
  case round =>
   clear H'
   try clear c1
   try clear p2
   try clear c3
   try clear c3b0
   try clear c3b1
   try clear c3b2
   obtain⟨x5_1,rfl,HA,HK1,HB⟩:=hrel
   cases gk with
   | zero=>exact absurd HA.out (by simp[laws_eqPieceS.l0])
   | succ k1=>
    have H:=HA.out
    clear HA
    simp only[laws_eqPieceS.l0] at H
    by_cases c4:x5_1 < (l0.length:Int)
    ·rw [if_pos c4] at H
     have c4b0:decide (x5_1 < (l0.length:Int))=true:=decide_eq_true c4
     clear c4
     by_cases c5:0≤x5_1
     ·rw [if_pos c5] at H
      have c5b0:decide (0≤x5_1)=true:=decide_eq_true c5
      clear c5
      by_cases c6:x5_1 < (l1.length:Int)
      ·rw[if_pos c6] at H
       have c6b0:decide (x5_1 < (l1.length:Int))=true:=decide_eq_true c6
       clear c6
       replace H:=Option.bind_eq_some_iff.mp H
       obtain⟨t327,A70,H⟩:=H
       replace H:(if t327=true then (laws_eqPieceS.l0 k1 l0 l1 (wrap64 (x5_1+1))) else (some false))=some r:=H
       have A7:=av A70
       clear A70
       by_cases c8:t327=true
       ·subst c8
        have H1:(laws_eqPieceS.l0 k1 l0 l1 (wrap64 (x5_1+1)))=some r:=by rw[if_pos rfl] at H;exact H
        clear H
        have H:=H1
        clear H1
        have H':=av H
        clear H
        try go_wp2
        have n0_:=av (ae HB.out)
        clear HB
        have HB:=n0_
        clear n0_
        have p325:0≤(x5_1:Int):=of_decide_eq_true (by assumption)
        have q325:x5_1 < (l0.length:Int):=of_decide_eq_true (by assumption)
        obtain⟨ad325,e325,hx325_0,hx325_1,hx325_2,hx325_3⟩:=cK HR0.out x5_1 p325 q325
        have hw325_3:=hx325_3
        have hw325_2:=hx325_2
        have hw325_1:=hx325_1
        have hw325_0:=hx325_0
        cases e325
        replace hx325_0:=(HB.out.cell (World.block_lt_of_cell? w _ hx325_0)).trans hx325_0
        replace hx325_1:=(HB.out.cell (World.block_lt_of_cell? w _ hx325_1)).trans hx325_1
        replace hx325_2:=(HB.out.cell (World.block_lt_of_cell? w _ hx325_2)).trans hx325_2
        replace hx325_3:=(HB.out.cell (World.block_lt_of_cell? w _ hx325_3)).trans hx325_3
        replace p325:=eq_true p325
        replace q325:=eq_true q325
        have p326:0≤(x5_1:Int):=of_decide_eq_true (by assumption)
        have q326:x5_1 < (l1.length:Int):=of_decide_eq_true (by assumption)
        obtain⟨ad326,e326,hx326_0,hx326_1,hx326_2,hx326_3⟩:=cK HR1.out x5_1 p326 q326
        have hw326_3:=hx326_3
        have hw326_2:=hx326_2
        have hw326_1:=hx326_1
        have hw326_0:=hx326_0
        cases e326
        replace hx326_0:=(HB.out.cell (World.block_lt_of_cell? w _ hx326_0)).trans hx326_0
        replace hx326_1:=(HB.out.cell (World.block_lt_of_cell? w _ hx326_1)).trans hx326_1
        replace hx326_2:=(HB.out.cell (World.block_lt_of_cell? w _ hx326_2)).trans hx326_2
        replace hx326_3:=(HB.out.cell (World.block_lt_of_cell? w _ hx326_3)).trans hx326_3
        replace p326:=eq_true p326
        replace q326:=eq_true q326
        refine bJ (n:=10) (S:=fun w'=>w'.cell? (ad325.add ((x5_1).toNat*4))=some (.int .i64 ((ax l0 x5_1).f0))∧w'.cell? ⟨(ad325.add ((x5_1).toNat*4)).block,(ad325.add ((x5_1).toNat*4)).off+1,none⟩=some (.int .i64 ((ax l0 x5_1).f1))∧w'.cell? ⟨(ad325.add ((x5_1).toNat*4)).block,(ad325.add ((x5_1).toNat*4)).off+2,none⟩=some (.int .i64 ((ax l0 x5_1).f2))∧w'.cell? ⟨(ad325.add ((x5_1).toNat*4)).block,(ad325.add ((x5_1).toNat*4)).off+3,none⟩=some (.bool ((ax l0 x5_1).f3))∧w'.cell? (ad326.add ((x5_1).toNat*4))=some (.int .i64 ((ax l1 x5_1).f0))∧w'.cell? ⟨(ad326.add ((x5_1).toNat*4)).block,(ad326.add ((x5_1).toNat*4)).off+1,none⟩=some (.int .i64 ((ax l1 x5_1).f1))∧w'.cell? ⟨(ad326.add ((x5_1).toNat*4)).block,(ad326.add ((x5_1).toNat*4)).off+2,none⟩=some (.int .i64 ((ax l1 x5_1).f2))∧w'.cell? ⟨(ad326.add ((x5_1).toNat*4)).block,(ad326.add ((x5_1).toNat*4)).off+3,none⟩=some (.bool ((ax l1 x5_1).f3))) (ds:=[]) #[false,false,false,false,false,false,false,false,false,false] (by kernel_rfl) rfl rfl ⟨((HB.out.cell (World.block_lt_of_cell? w _ hw325_0)).trans hw325_0),((HB.out.cell (World.block_lt_of_cell? w _ hw325_1)).trans hw325_1),((HB.out.cell (World.block_lt_of_cell? w _ hw325_2)).trans hw325_2),((HB.out.cell (World.block_lt_of_cell? w _ hw325_3)).trans hw325_3),((HB.out.cell (World.block_lt_of_cell? w _ hw326_0)).trans hw326_0),((HB.out.cell (World.block_lt_of_cell? w _ hw326_1)).trans hw326_1),((HB.out.cell (World.block_lt_of_cell? w _ hw326_2)).trans hw326_2),((HB.out.cell (World.block_lt_of_cell? w _ hw326_3)).trans hw326_3)⟩ (fun hHeld=>?_);refine bz laws_eqPieceS.tab6 laws_eqPieceS.bits6 (fun HT_ HW_=>?_)
        generalize wr.drew=w9 at HB hx325_0 hx325_1 hx325_2 hx325_3 hx326_0 hx326_1 hx326_2 hx326_3 hHeld ⊢
        refine aD (i:=0) (N:=some 17) (v:=?_) (a':=?_) #[true,false,false,false,false,false,false,false,false,false] rfl rfl (aC HT_.out (by kernel_rfl)) (fun _ _ _ h=>h) (Or.inl ⟨by rfl,?_⟩) ?_ ?_
        rotate_left
        ·intro w'
         go_simp
         with_reducible rfl
        rotate_left
        ·simp only[apu_]
         rfl
        refine aD (i:=1) (N:=some 18) (v:=?_) (a':=?_) #[true,true,false,false,false,false,false,false,false,false] rfl rfl (aC HT_.out (by kernel_rfl)) (fun _ _ _ h=>h) (Or.inl ⟨by rfl,?_⟩) ?_ ?_
        rotate_left
        ·intro w'
         go_simp
         with_reducible rfl
        rotate_left
        ·simp only[apu_]
         rfl
        refine aD (i:=2) (N:=some 19) (v:=?_) (a':=?_) #[true,true,true,false,false,false,false,false,false,false] rfl rfl (aC HT_.out (by kernel_rfl)) (fun _ _ _ h=>h) (Or.inl ⟨by rfl,?_⟩) ?_ ?_
        rotate_left
        ·intro w'
         go_simp
         with_reducible rfl
        rotate_left
        ·simp only[apu_]
         rfl
        refine aD (i:=4) (N:=some 21) (v:=?_) (a':=?_) #[true,true,true,false,true,false,false,false,false,false] rfl rfl (aC HT_.out (by kernel_rfl)) (fun _ _ _ h=>h) (Or.inl ⟨by rfl,?_⟩) ?_ ?_
        rotate_left
        ·intro w'
         go_simp
         with_reducible rfl
        rotate_left
        ·simp only[apu_]
         rfl
        refine aD (i:=5) (N:=some 22) (v:=?_) (a':=?_) #[true,true,true,false,true,true,false,false,false,false] rfl rfl (aC HT_.out (by kernel_rfl)) (fun _ _ _ h=>h) (Or.inl ⟨by rfl,?_⟩) ?_ ?_
        rotate_left
        ·intro w'
         go_simp
         with_reducible rfl
        rotate_left
        ·simp only[apu_]
         rfl
        refine aD (i:=6) (N:=some 23) (v:=?_) (a':=?_) #[true,true,true,false,true,true,true,false,false,false] rfl rfl (aC HT_.out (by kernel_rfl)) (fun _ _ _ h=>h) (Or.inl ⟨by rfl,?_⟩) ?_ ?_
        rotate_left
        ·intro w'
         go_simp
         with_reducible rfl
        rotate_left
        ·simp only[apu_]
         rfl
        refine aZ (i:=3) (N:=some 20) (v:=?_) (a':=?_) #[true,true,true,true,true,true,true,false,false,false] rfl rfl (aT HT_.out HW_.out (by kernel_rfl)) (fun _ _ _ h=>h) (Or.inl ⟨by rfl,?_⟩) hHeld ?_ ?_
        rotate_left
        ·rintro w' ⟨s0,s1,s2,s3,s4,s5,s6,s7⟩
         go_simp
         with_reducible rfl
        rotate_left
        ·simp only[apu_]
         rfl
        refine aZ (i:=7) (N:=some 24) (v:=?_) (a':=?_) #[true,true,true,true,true,true,true,true,false,false] rfl rfl (aT HT_.out HW_.out (by kernel_rfl)) (fun _ _ _ h=>h) (Or.inl ⟨by rfl,?_⟩) hHeld ?_ ?_
        rotate_left
        ·rintro w' ⟨s0,s1,s2,s3,s4,s5,s6,s7⟩
         go_simp
         with_reducible rfl
        rotate_left
        ·simp only[apu_]
         rfl
        refine di (i:=8) (N:=some 25) #[true,true,true,true,true,true,true,true,true,false] rfl rfl (bW HT_.out (by kernel_rfl)) (by decide) (fun K hK=>?_)
        refine bU Tryd.func83 (by kernel_rfl) rfl #[.agg #[.int .i64 ((ax l0 x5_1).f0),.int .i64 ((ax l0 x5_1).f1),.int .i64 ((ax l0 x5_1).f2),.bool ((ax l0 x5_1).f3)],.agg #[.int .i64 ((ax l1 x5_1).f0),.int .i64 ((ax l1 x5_1).f1),.int .i64 ((ax l1 x5_1).f2),.bool ((ax l1 x5_1).f3)]] (by rfl) rfl rfl (by(try simp only[amp_]);first|done|rfl|(simp only[ald_];rfl)) ?_
        with_reducible refine(laws_eqPiece.calls ((ax l0 x5_1).f0) ((ax l0 x5_1).f1) ((ax l0 x5_1).f2) ((ax l0 x5_1).f3) ((ax l1 x5_1).f0) ((ax l1 x5_1).f1) ((ax l1 x5_1).f2) ((ax l1 x5_1).f3) true _ A7.out).mono ?_
        rintro e w10 ⟨rfl,hb⟩
        refine⟨_,rfl,?_⟩
        have n0_:=av (aA (by with_reducible repeat(first|exact HB.out|apply af|apply aa|apply ae)) hb)
        clear HB
        have HB:=n0_
        clear n0_
        (try clear hb)
        (try clear hb2)
        (try clear hk)
        (try clear hi)
        refine hK.out _ _ ⟨((HB.out.cell (World.block_lt_of_cell? w _ hw325_0)).trans hw325_0),((HB.out.cell (World.block_lt_of_cell? w _ hw325_1)).trans hw325_1),((HB.out.cell (World.block_lt_of_cell? w _ hw325_2)).trans hw325_2),((HB.out.cell (World.block_lt_of_cell? w _ hw325_3)).trans hw325_3),((HB.out.cell (World.block_lt_of_cell? w _ hw326_0)).trans hw326_0),((HB.out.cell (World.block_lt_of_cell? w _ hw326_1)).trans hw326_1),((HB.out.cell (World.block_lt_of_cell? w _ hw326_2)).trans hw326_2),((HB.out.cell (World.block_lt_of_cell? w _ hw326_3)).trans hw326_3)⟩ (fun hHeld=>?_)
        clear hK K
        refine bS (a':=?_) ?_ ?_
        rotate_left
        ·show Act.put _ (some 25) _=_
         simp only[apu_]
         rfl
        refine aD (i:=9) (N:=some 26) (v:=?_) (a':=?_) #[true,true,true,true,true,true,true,true,true,true] rfl rfl (aC HT_.out (by kernel_rfl)) (fun _ _ _ h=>h) (Or.inl ⟨by rfl,?_⟩) ?_ ?_
        rotate_left
        ·intro w'
         go_simp
         with_reducible rfl
        rotate_left
        ·simp only[apu_]
         rfl
        refine cu (bK HT_.out (by kernel_rfl)) ?_
        try go_wp2
        go_roundg k1
        case measure=>have:=HK1.out;omega
        case rel=>exact⟨(wrap64 (x5_1+1)),(by first|rfl|(simp;done)|(simp[*];done)),H',⟨by have:=HK1.out;omega⟩,⟨by with_reducible repeat(first|exact HB.out|apply af|apply aa|apply ae)⟩⟩
       ·replace c8:=Bool.eq_false_iff.mpr c8
        subst c8
        have H1:(some false)=some r:=by rw[if_neg (show ¬ (false=true) by decide)] at H;exact H
        clear H
        have H:=H1
        clear H1
        obtain rfl:=Option.some.inj H
        try go_wp2
        have n0_:=av (ae HB.out)
        clear HB
        have HB:=n0_
        clear n0_
        have p325:0≤(x5_1:Int):=of_decide_eq_true (by assumption)
        have q325:x5_1 < (l0.length:Int):=of_decide_eq_true (by assumption)
        obtain⟨ad325,e325,hx325_0,hx325_1,hx325_2,hx325_3⟩:=cK HR0.out x5_1 p325 q325
        have hw325_3:=hx325_3
        have hw325_2:=hx325_2
        have hw325_1:=hx325_1
        have hw325_0:=hx325_0
        cases e325
        replace hx325_0:=(HB.out.cell (World.block_lt_of_cell? w _ hx325_0)).trans hx325_0
        replace hx325_1:=(HB.out.cell (World.block_lt_of_cell? w _ hx325_1)).trans hx325_1
        replace hx325_2:=(HB.out.cell (World.block_lt_of_cell? w _ hx325_2)).trans hx325_2
        replace hx325_3:=(HB.out.cell (World.block_lt_of_cell? w _ hx325_3)).trans hx325_3
        replace p325:=eq_true p325
        replace q325:=eq_true q325
        have p326:0≤(x5_1:Int):=of_decide_eq_true (by assumption)
        have q326:x5_1 < (l1.length:Int):=of_decide_eq_true (by assumption)
        obtain⟨ad326,e326,hx326_0,hx326_1,hx326_2,hx326_3⟩:=cK HR1.out x5_1 p326 q326
        have hw326_3:=hx326_3
        have hw326_2:=hx326_2
        have hw326_1:=hx326_1
        have hw326_0:=hx326_0
        cases e326
        replace hx326_0:=(HB.out.cell (World.block_lt_of_cell? w _ hx326_0)).trans hx326_0
        replace hx326_1:=(HB.out.cell (World.block_lt_of_cell? w _ hx326_1)).trans hx326_1
        replace hx326_2:=(HB.out.cell (World.block_lt_of_cell? w _ hx326_2)).trans hx326_2
        replace hx326_3:=(HB.out.cell (World.block_lt_of_cell? w _ hx326_3)).trans hx326_3
        replace p326:=eq_true p326
        replace q326:=eq_true q326
        refine bJ (n:=10) (S:=fun w'=>w'.cell? (ad325.add ((x5_1).toNat*4))=some (.int .i64 ((ax l0 x5_1).f0))∧w'.cell? ⟨(ad325.add ((x5_1).toNat*4)).block,(ad325.add ((x5_1).toNat*4)).off+1,none⟩=some (.int .i64 ((ax l0 x5_1).f1))∧w'.cell? ⟨(ad325.add ((x5_1).toNat*4)).block,(ad325.add ((x5_1).toNat*4)).off+2,none⟩=some (.int .i64 ((ax l0 x5_1).f2))∧w'.cell? ⟨(ad325.add ((x5_1).toNat*4)).block,(ad325.add ((x5_1).toNat*4)).off+3,none⟩=some (.bool ((ax l0 x5_1).f3))∧w'.cell? (ad326.add ((x5_1).toNat*4))=some (.int .i64 ((ax l1 x5_1).f0))∧w'.cell? ⟨(ad326.add ((x5_1).toNat*4)).block,(ad326.add ((x5_1).toNat*4)).off+1,none⟩=some (.int .i64 ((ax l1 x5_1).f1))∧w'.cell? ⟨(ad326.add ((x5_1).toNat*4)).block,(ad326.add ((x5_1).toNat*4)).off+2,none⟩=some (.int .i64 ((ax l1 x5_1).f2))∧w'.cell? ⟨(ad326.add ((x5_1).toNat*4)).block,(ad326.add ((x5_1).toNat*4)).off+3,none⟩=some (.bool ((ax l1 x5_1).f3))) (ds:=[]) #[false,false,false,false,false,false,false,false,false,false] (by kernel_rfl) rfl rfl ⟨((HB.out.cell (World.block_lt_of_cell? w _ hw325_0)).trans hw325_0),((HB.out.cell (World.block_lt_of_cell? w _ hw325_1)).trans hw325_1),((HB.out.cell (World.block_lt_of_cell? w _ hw325_2)).trans hw325_2),((HB.out.cell (World.block_lt_of_cell? w _ hw325_3)).trans hw325_3),((HB.out.cell (World.block_lt_of_cell? w _ hw326_0)).trans hw326_0),((HB.out.cell (World.block_lt_of_cell? w _ hw326_1)).trans hw326_1),((HB.out.cell (World.block_lt_of_cell? w _ hw326_2)).trans hw326_2),((HB.out.cell (World.block_lt_of_cell? w _ hw326_3)).trans hw326_3)⟩ (fun hHeld=>?_);refine bz laws_eqPieceS.tab6 laws_eqPieceS.bits6 (fun HT_ HW_=>?_)
        generalize wr.drew=w11 at HB hx325_0 hx325_1 hx325_2 hx325_3 hx326_0 hx326_1 hx326_2 hx326_3 hHeld ⊢
        refine aD (i:=0) (N:=some 17) (v:=?_) (a':=?_) #[true,false,false,false,false,false,false,false,false,false] rfl rfl (aC HT_.out (by kernel_rfl)) (fun _ _ _ h=>h) (Or.inl ⟨by rfl,?_⟩) ?_ ?_
        rotate_left
        ·intro w'
         go_simp
         with_reducible rfl
        rotate_left
        ·simp only[apu_]
         rfl
        refine aD (i:=1) (N:=some 18) (v:=?_) (a':=?_) #[true,true,false,false,false,false,false,false,false,false] rfl rfl (aC HT_.out (by kernel_rfl)) (fun _ _ _ h=>h) (Or.inl ⟨by rfl,?_⟩) ?_ ?_
        rotate_left
        ·intro w'
         go_simp
         with_reducible rfl
        rotate_left
        ·simp only[apu_]
         rfl
        refine aD (i:=2) (N:=some 19) (v:=?_) (a':=?_) #[true,true,true,false,false,false,false,false,false,false] rfl rfl (aC HT_.out (by kernel_rfl)) (fun _ _ _ h=>h) (Or.inl ⟨by rfl,?_⟩) ?_ ?_
        rotate_left
        ·intro w'
         go_simp
         with_reducible rfl
        rotate_left
        ·simp only[apu_]
         rfl
        refine aD (i:=4) (N:=some 21) (v:=?_) (a':=?_) #[true,true,true,false,true,false,false,false,false,false] rfl rfl (aC HT_.out (by kernel_rfl)) (fun _ _ _ h=>h) (Or.inl ⟨by rfl,?_⟩) ?_ ?_
        rotate_left
        ·intro w'
         go_simp
         with_reducible rfl
        rotate_left
        ·simp only[apu_]
         rfl
        refine aD (i:=5) (N:=some 22) (v:=?_) (a':=?_) #[true,true,true,false,true,true,false,false,false,false] rfl rfl (aC HT_.out (by kernel_rfl)) (fun _ _ _ h=>h) (Or.inl ⟨by rfl,?_⟩) ?_ ?_
        rotate_left
        ·intro w'
         go_simp
         with_reducible rfl
        rotate_left
        ·simp only[apu_]
         rfl
        refine aD (i:=6) (N:=some 23) (v:=?_) (a':=?_) #[true,true,true,false,true,true,true,false,false,false] rfl rfl (aC HT_.out (by kernel_rfl)) (fun _ _ _ h=>h) (Or.inl ⟨by rfl,?_⟩) ?_ ?_
        rotate_left
        ·intro w'
         go_simp
         with_reducible rfl
        rotate_left
        ·simp only[apu_]
         rfl
        refine aZ (i:=3) (N:=some 20) (v:=?_) (a':=?_) #[true,true,true,true,true,true,true,false,false,false] rfl rfl (aT HT_.out HW_.out (by kernel_rfl)) (fun _ _ _ h=>h) (Or.inl ⟨by rfl,?_⟩) hHeld ?_ ?_
        rotate_left
        ·rintro w' ⟨s0,s1,s2,s3,s4,s5,s6,s7⟩
         go_simp
         with_reducible rfl
        rotate_left
        ·simp only[apu_]
         rfl
        refine aZ (i:=7) (N:=some 24) (v:=?_) (a':=?_) #[true,true,true,true,true,true,true,true,false,false] rfl rfl (aT HT_.out HW_.out (by kernel_rfl)) (fun _ _ _ h=>h) (Or.inl ⟨by rfl,?_⟩) hHeld ?_ ?_
        rotate_left
        ·rintro w' ⟨s0,s1,s2,s3,s4,s5,s6,s7⟩
         go_simp
         with_reducible rfl
        rotate_left
        ·simp only[apu_]
         rfl
        refine di (i:=8) (N:=some 25) #[true,true,true,true,true,true,true,true,true,false] rfl rfl (bW HT_.out (by kernel_rfl)) (by decide) (fun K hK=>?_)
        refine bU Tryd.func83 (by kernel_rfl) rfl #[.agg #[.int .i64 ((ax l0 x5_1).f0),.int .i64 ((ax l0 x5_1).f1),.int .i64 ((ax l0 x5_1).f2),.bool ((ax l0 x5_1).f3)],.agg #[.int .i64 ((ax l1 x5_1).f0),.int .i64 ((ax l1 x5_1).f1),.int .i64 ((ax l1 x5_1).f2),.bool ((ax l1 x5_1).f3)]] (by rfl) rfl rfl (by(try simp only[amp_]);first|done|rfl|(simp only[ald_];rfl)) ?_
        with_reducible refine(laws_eqPiece.calls ((ax l0 x5_1).f0) ((ax l0 x5_1).f1) ((ax l0 x5_1).f2) ((ax l0 x5_1).f3) ((ax l1 x5_1).f0) ((ax l1 x5_1).f1) ((ax l1 x5_1).f2) ((ax l1 x5_1).f3) false _ A7.out).mono ?_
        rintro e w12 ⟨rfl,hb⟩
        refine⟨_,rfl,?_⟩
        have n0_:=av (aA (by with_reducible repeat(first|exact HB.out|apply af|apply aa|apply ae)) hb)
        clear HB
        have HB:=n0_
        clear n0_
        (try clear hb)
        (try clear hb2)
        (try clear hk)
        (try clear hi)
        refine hK.out _ _ ⟨((HB.out.cell (World.block_lt_of_cell? w _ hw325_0)).trans hw325_0),((HB.out.cell (World.block_lt_of_cell? w _ hw325_1)).trans hw325_1),((HB.out.cell (World.block_lt_of_cell? w _ hw325_2)).trans hw325_2),((HB.out.cell (World.block_lt_of_cell? w _ hw325_3)).trans hw325_3),((HB.out.cell (World.block_lt_of_cell? w _ hw326_0)).trans hw326_0),((HB.out.cell (World.block_lt_of_cell? w _ hw326_1)).trans hw326_1),((HB.out.cell (World.block_lt_of_cell? w _ hw326_2)).trans hw326_2),((HB.out.cell (World.block_lt_of_cell? w _ hw326_3)).trans hw326_3)⟩ (fun hHeld=>?_)
        clear hK K
        refine bS (a':=?_) ?_ ?_
        rotate_left
        ·show Act.put _ (some 25) _=_
         simp only[apu_]
         rfl
        refine aD (i:=9) (N:=some 26) (v:=?_) (a':=?_) #[true,true,true,true,true,true,true,true,true,true] rfl rfl (aC HT_.out (by kernel_rfl)) (fun _ _ _ h=>h) (Or.inl ⟨by rfl,?_⟩) ?_ ?_
        rotate_left
        ·intro w'
         go_simp
         with_reducible rfl
        rotate_left
        ·simp only[apu_]
         rfl
        refine cu (bK HT_.out (by kernel_rfl)) ?_
        try go_wp2
        go_ret
        exact⟨by first|rfl|(simp <;> rfl)|(simp[*] <;> rfl),by with_reducible repeat(first|exact HB.out|apply af|apply aa|apply ae)⟩
      ·rw[if_neg c6] at H
       exact absurd H (by simp)
     ·rw[if_neg c5] at H
      exact absurd H (by simp)
    ·rw[if_neg c4] at H
     have c4b0:decide (x5_1 < (l0.length:Int))=false:=decide_eq_false c4
     clear c4
     obtain rfl:=Option.some.inj H
     go_wp2
     go_ret
     exact⟨by first|rfl|(simp <;> rfl)|(simp[*] <;> rfl),by with_reducible repeat(first|exact HB.out|apply af|apply aa|apply ae)⟩
 ·rw[if_neg c3] at H
  have c3b0:((l0.length:Int) == (l1.length:Int))=false:=beq_eq_false_iff_ne.mpr c3
  have c3b1:((l0.length:Int) != (l1.length:Int))=true:=bne_iff_ne.mpr c3
  have c3b2:(l0.length == l1.length)=false:=by first|simpa using c3|(simp at c3 ⊢;omega)
  obtain rfl:=Option.some.inj H
  go_enter Tryd.func66,Tryd.ntmps66
  go_wp2
  go_ret
  exact⟨by first|rfl|(simp <;> rfl)|(simp[*] <;> rfl),by with_reducible repeat(first|exact HB.out|apply af|apply aa|apply ae)⟩
def laws_eqFileMap.f (k:Nat) (l0_0:List (S51)) (l1_0:List (S51)):Option (Bool):=(laws_eqPieceS.f k l0_0 l1_0).bind fun t330=>(if t330=true then (some true) else (some false))
set_option maxHeartbeats 8000000 in
set_option maxRecDepth 100000 in
theorem laws_eqFileMap.calls (k:Nat) (A0_0:Option Addr) (c0_0:Nat) (l0_0:List (S51)) (A1_0:Option Addr) (c1_0:Nat) (l1_0:List (S51)) (r:Bool) (w:World) (hr0_0:Kd.C k51 w A0_0 l0_0.length l0_0) (hc0_0:l0_0.length≤c0_0) (hr1_0:Kd.C k51 w A1_0 l1_0.length l1_0) (hc1_0:l1_0.length≤c1_0) (h:laws_eqFileMap.f k l0_0 l1_0=some r) :
  Calls Tryd.prog 52 #[.agg #[.slice A0_0 l0_0.length c0_0],.agg #[.slice A1_0 l1_0.length c1_0]] w fun e w'=>e = .returned (.bool r)∧Below w.heap.size w w':=by
 have hu45:=Tryd.underlying45
 have HR0_0:=av hr0_0
 have HC0_0:=av hc0_0
 clear hr0_0 hc0_0
 have HR1_0:=av hr1_0
 have HC1_0:=av hc1_0
 clear hr1_0 hc1_0
 have HB:=av (Below.refl w.heap.size w)
 have H:((laws_eqPieceS.f k l0_0 l1_0).bind fun t330=>(if t330=true then (some true) else (some false)))=some r:=h
 clear h
 replace H:=Option.bind_eq_some_iff.mp H
 obtain⟨t330,A30,H⟩:=H
 replace H:(if t330=true then (some true) else (some false))=some r:=H
 have A3:=av A30
 clear A30
 by_cases c4:t330=true
 ·subst c4
  have H1:(some true)=some r:=by rw[if_pos rfl] at H;exact H
  clear H
  have H:=H1
  clear H1
  obtain rfl:=Option.some.inj H
  go_enter Tryd.func52,Tryd.ntmps52
  go_wp2_with (first|((with_reducible refine aJ (N:=2) rfl ?_);refine aI ?hg (N:=2) ?hd (cs:=#[.slice A0_0 l0_0.length c0_0]) (t:=45) ?hr ?_;(case hd=>rfl);(case hg=>rfl);(case hr=>first|(go_simp;done)|(go_simp;rfl));intro gb328 hg w5 hbox hb;have BK328:=av (hbox);have GW328:=av ((by rw[hg];exact(ay (by with_reducible repeat(first|exact HB.out|apply af|apply aa|apply ae))):w.heap.size≤gb328));have GE328:=av ((by rw[hg];exact(ay (by with_reducible repeat(first|exact HB.out|apply af|apply aa|apply ae))):w.heap.size≤gb328));replace HB:=av (aA (by with_reducible repeat(first|exact HB.out|apply af|apply aa|apply ae)) hb);clear hb hbox hg)|((with_reducible refine aJ (N:=3) rfl ?_);refine aI ?hg (N:=3) ?hd (cs:=#[.slice A1_0 l1_0.length c1_0]) (t:=45) ?hr ?_;(case hd=>rfl);(case hg=>rfl);(case hr=>first|(go_simp;done)|(go_simp;rfl));intro gb329 hg w6 hbox hb;have BK329:=av (hbox);have GW329:=av ((by rw[hg];exact(ay (by with_reducible repeat(first|exact HB.out|apply af|apply aa|apply ae|refine ai ?_ GE328.out))):w.heap.size≤gb329));have GE329:=av ((by rw[hg];exact(ay (by with_reducible repeat(first|exact HB.out|apply af|apply aa|apply ae|refine ai ?_ GE328.out))):w.heap.size≤gb329));replace HB:=av (aA (by with_reducible repeat(first|exact HB.out|apply af|apply aa|apply ae|refine ai ?_ GE328.out)) hb);have NB328_329:=av ((by rw[hg];exact Nat.ne_of_lt (aN (g:=gb328) (o:=.cells #[.slice A0_0 l0_0.length c0_0] 45 (0,0)) (by(with_reducible repeat(first|apply aj|apply au|apply ak));exact BK328.out)):gb328≠gb329));have NB329_328:=av ((by rw[hg];exact Nat.ne_of_gt (aN (g:=gb328) (o:=.cells #[.slice A0_0 l0_0.length c0_0] 45 (0,0)) (by(with_reducible repeat(first|apply aj|apply au|apply ak));exact BK328.out)):gb329≠gb328));replace BK328:=av (aG (g:=gb328) (o:=.cells #[.slice A0_0 l0_0.length c0_0] 45 (0,0)) (by(with_reducible repeat(first|apply aj|apply au|apply ak));exact BK328.out) hb);clear hb hbox hg;have hnb7:=NB328_329.out;have hnc7:=NB329_328.out;have hcz8_0:w6.cell? ⟨gb328,0,none⟩=some (.slice A0_0 l0_0.length c0_0):=(ag BK328.out 0).trans rfl;have hfz8_0:=ah BK328.out 0;have hcz9_0:w6.cell? ⟨gb329,0,none⟩=some (.slice A1_0 l1_0.length c1_0):=(ag BK329.out 0).trans rfl;have hfz9_0:=ah BK329.out 0)|((with_reducible refine aK (f:=66) rfl ?_);refine bn (some 9) rfl rfl Tryd.func66 (by kernel_rfl) rfl #[.slice A0_0 l0_0.length c0_0,.slice A1_0 l1_0.length c1_0] rfl (by(try simp only[amp_]);first|done|rfl|(simp only[ald_];rfl)) ?_;(with_reducible refine(laws_eqPieceS.calls k _ _ l0_0 _ _ l1_0 true _ ?side1 ?side2 ?side3 ?side4 A3.out).mono ?_);(case side1=>repeat(first|exact(Kd.aQ HR0_0.out HB.out)|(with_reducible first|apply Kd.aW|apply Kd.aV|apply Kd.aY)));(case side2=>exact HC0_0.out);(case side3=>repeat(first|exact(Kd.aQ HR1_0.out HB.out)|(with_reducible first|apply Kd.aW|apply Kd.aV|apply Kd.aY)));(case side4=>exact HC1_0.out);rintro e w10 ⟨rfl,hb⟩;refine⟨_,rfl,?_⟩;replace BK328:=av (aG (g:=gb328) (o:=.cells #[.slice A0_0 l0_0.length c0_0] 45 (0,0)) (by(with_reducible repeat(first|apply aj|apply au|apply ak));exact BK328.out) hb);replace BK329:=av (aG (g:=gb329) (o:=.cells #[.slice A1_0 l1_0.length c1_0] 45 (0,0)) (by(with_reducible repeat(first|apply aj|apply au|apply ak));exact BK329.out) hb);replace HB:=av (aA (by with_reducible repeat(first|exact HB.out|apply af|apply aa|apply ae|refine ai ?_ GE328.out|refine ai ?_ GE329.out)) hb);(try clear hb);(try clear hb2);(try clear hk);(try clear hi)))
  go_ret
  exact⟨by first|rfl|(simp <;> rfl)|(simp[*] <;> rfl),by with_reducible repeat(first|exact HB.out|apply af|apply aa|apply ae|refine ai ?_ GE328.out|refine ai ?_ GE329.out)⟩
 ·replace c4:=Bool.eq_false_iff.mpr c4
  subst c4
  have H1:(some false)=some r:=by rw[if_neg (show ¬ (false=true) by decide)] at H;exact H
  clear H
  have H:=H1
  clear H1
  obtain rfl:=Option.some.inj H
  go_enter Tryd.func52,Tryd.ntmps52
  go_wp2_with (first|((with_reducible refine aJ (N:=2) rfl ?_);refine aI ?hg (N:=2) ?hd (cs:=#[.slice A0_0 l0_0.length c0_0]) (t:=45) ?hr ?_;(case hd=>rfl);(case hg=>rfl);(case hr=>first|(go_simp;done)|(go_simp;rfl));intro gb328 hg w11 hbox hb;have BK328:=av (hbox);have GW328:=av ((by rw[hg];exact(ay (by with_reducible repeat(first|exact HB.out|apply af|apply aa|apply ae))):w.heap.size≤gb328));have GE328:=av ((by rw[hg];exact(ay (by with_reducible repeat(first|exact HB.out|apply af|apply aa|apply ae))):w.heap.size≤gb328));replace HB:=av (aA (by with_reducible repeat(first|exact HB.out|apply af|apply aa|apply ae)) hb);clear hb hbox hg)|((with_reducible refine aJ (N:=3) rfl ?_);refine aI ?hg (N:=3) ?hd (cs:=#[.slice A1_0 l1_0.length c1_0]) (t:=45) ?hr ?_;(case hd=>rfl);(case hg=>rfl);(case hr=>first|(go_simp;done)|(go_simp;rfl));intro gb329 hg w12 hbox hb;have BK329:=av (hbox);have GW329:=av ((by rw[hg];exact(ay (by with_reducible repeat(first|exact HB.out|apply af|apply aa|apply ae|refine ai ?_ GE328.out))):w.heap.size≤gb329));have GE329:=av ((by rw[hg];exact(ay (by with_reducible repeat(first|exact HB.out|apply af|apply aa|apply ae|refine ai ?_ GE328.out))):w.heap.size≤gb329));replace HB:=av (aA (by with_reducible repeat(first|exact HB.out|apply af|apply aa|apply ae|refine ai ?_ GE328.out)) hb);have NB328_329:=av ((by rw[hg];exact Nat.ne_of_lt (aN (g:=gb328) (o:=.cells #[.slice A0_0 l0_0.length c0_0] 45 (0,0)) (by(with_reducible repeat(first|apply aj|apply au|apply ak));exact BK328.out)):gb328≠gb329));have NB329_328:=av ((by rw[hg];exact Nat.ne_of_gt (aN (g:=gb328) (o:=.cells #[.slice A0_0 l0_0.length c0_0] 45 (0,0)) (by(with_reducible repeat(first|apply aj|apply au|apply ak));exact BK328.out)):gb329≠gb328));replace BK328:=av (aG (g:=gb328) (o:=.cells #[.slice A0_0 l0_0.length c0_0] 45 (0,0)) (by(with_reducible repeat(first|apply aj|apply au|apply ak));exact BK328.out) hb);clear hb hbox hg;have hnb13:=NB328_329.out;have hnc13:=NB329_328.out;have hcz14_0:w12.cell? ⟨gb328,0,none⟩=some (.slice A0_0 l0_0.length c0_0):=(ag BK328.out 0).trans rfl;have hfz14_0:=ah BK328.out 0;have hcz15_0:w12.cell? ⟨gb329,0,none⟩=some (.slice A1_0 l1_0.length c1_0):=(ag BK329.out 0).trans rfl;have hfz15_0:=ah BK329.out 0)|((with_reducible refine aK (f:=66) rfl ?_);refine bn (some 9) rfl rfl Tryd.func66 (by kernel_rfl) rfl #[.slice A0_0 l0_0.length c0_0,.slice A1_0 l1_0.length c1_0] rfl (by(try simp only[amp_]);first|done|rfl|(simp only[ald_];rfl)) ?_;(with_reducible refine(laws_eqPieceS.calls k _ _ l0_0 _ _ l1_0 false _ ?side1 ?side2 ?side3 ?side4 A3.out).mono ?_);(case side1=>repeat(first|exact(Kd.aQ HR0_0.out HB.out)|(with_reducible first|apply Kd.aW|apply Kd.aV|apply Kd.aY)));(case side2=>exact HC0_0.out);(case side3=>repeat(first|exact(Kd.aQ HR1_0.out HB.out)|(with_reducible first|apply Kd.aW|apply Kd.aV|apply Kd.aY)));(case side4=>exact HC1_0.out);rintro e w16 ⟨rfl,hb⟩;refine⟨_,rfl,?_⟩;replace BK328:=av (aG (g:=gb328) (o:=.cells #[.slice A0_0 l0_0.length c0_0] 45 (0,0)) (by(with_reducible repeat(first|apply aj|apply au|apply ak));exact BK328.out) hb);replace BK329:=av (aG (g:=gb329) (o:=.cells #[.slice A1_0 l1_0.length c1_0] 45 (0,0)) (by(with_reducible repeat(first|apply aj|apply au|apply ak));exact BK329.out) hb);replace HB:=av (aA (by with_reducible repeat(first|exact HB.out|apply af|apply aa|apply ae|refine ai ?_ GE328.out|refine ai ?_ GE329.out)) hb);(try clear hb);(try clear hb2);(try clear hk);(try clear hi)))
  go_ret
  exact⟨by first|rfl|(simp <;> rfl)|(simp[*] <;> rfl),by with_reducible repeat(first|exact HB.out|apply af|apply aa|apply ae|refine ai ?_ GE328.out|refine ai ?_ GE329.out)⟩
def laws_eqHeld.f (k:Nat) (a0_0:ByteArray) (a0_1:Int) (l0_2:List (S51)) (a1_0:ByteArray) (a1_1:Int) (l1_2:List (S51)):Option (Bool):=if a0_0.toList=a1_0.toList then (if a0_1=a1_1 then ((laws_eqFileMap.f k l0_2 l1_2).bind fun t333=>(if t333=true then (some true) else (some false))) else (some false)) else (some false)
set_option maxHeartbeats 8000000 in
set_option maxRecDepth 100000 in
theorem laws_eqHeld.calls (k:Nat) (a0_0:ByteArray) (a0_1:Int) (A0_2:Option Addr) (c0_2:Nat) (l0_2:List (S51)) (a1_0:ByteArray) (a1_1:Int) (A1_2:Option Addr) (c1_2:Nat) (l1_2:List (S51)) (r:Bool) (w:World) (hr0_2:Kd.C k51 w A0_2 l0_2.length l0_2) (hc0_2:l0_2.length≤c0_2) (hr1_2:Kd.C k51 w A1_2 l1_2.length l1_2) (hc1_2:l1_2.length≤c1_2) (h:laws_eqHeld.f k a0_0 a0_1 l0_2 a1_0 a1_1 l1_2=some r) :
  Calls Tryd.prog 39 #[.agg #[.string a0_0,.int .i64 a0_1,.slice A0_2 l0_2.length c0_2],.agg #[.string a1_0,.int .i64 a1_1,.slice A1_2 l1_2.length c1_2]] w fun e w'=>e = .returned (.bool r)∧Below w.heap.size w w':=by
 have hu47:=Tryd.underlying47
 have hu45:=Tryd.underlying45
 have HR0_2:=av hr0_2
 have HC0_2:=av hc0_2
 clear hr0_2 hc0_2
 have HR1_2:=av hr1_2
 have HC1_2:=av hc1_2
 clear hr1_2 hc1_2
 have HB:=av (Below.refl w.heap.size w)
 have H:(if a0_0.toList=a1_0.toList then (if a0_1=a1_1 then ((laws_eqFileMap.f k l0_2 l1_2).bind fun t333=>(if t333=true then (some true) else (some false))) else (some false)) else (some false))=some r:=h
 clear h
 by_cases c3:a0_0.toList=a1_0.toList
 ·rw[if_pos c3] at H
  have c3b0:(a0_0.toList == a1_0.toList)=true:=beq_iff_eq.mpr c3
  have c3b1:(a0_0.toList != a1_0.toList)=false:=bne_eq_false_iff_eq.mpr c3
  clear c3
  by_cases c4:a0_1=a1_1
  ·rw[if_pos c4] at H
   have c4b0:(a0_1 == a1_1)=true:=beq_iff_eq.mpr c4
   have c4b1:(a0_1 != a1_1)=false:=bne_eq_false_iff_eq.mpr c4
   clear c4
   replace H:=Option.bind_eq_some_iff.mp H
   obtain⟨t333,A50,H⟩:=H
   replace H:(if t333=true then (some true) else (some false))=some r:=H
   have A5:=av A50
   clear A50
   by_cases c6:t333=true
   ·subst c6
    have H1:(some true)=some r:=by rw[if_pos rfl] at H;exact H
    clear H
    have H:=H1
    clear H1
    obtain rfl:=Option.some.inj H
    go_enter Tryd.func39,Tryd.ntmps39
    go_wp2_with (first|((with_reducible refine aJ (N:=2) rfl ?_);refine aI ?hg (N:=2) ?hd (cs:=#[.string a0_0,.int .i64 a0_1,.slice A0_2 l0_2.length c0_2]) (t:=47) ?hr ?_;(case hd=>rfl);(case hg=>rfl);(case hr=>first|(go_simp;done)|(go_simp;rfl));intro gb331 hg w7 hbox hb;have BK331:=av (hbox);have GW331:=av ((by rw[hg];exact(ay (by with_reducible repeat(first|exact HB.out|apply af|apply aa|apply ae))):w.heap.size≤gb331));have GE331:=av ((by rw[hg];exact(ay (by with_reducible repeat(first|exact HB.out|apply af|apply aa|apply ae))):w.heap.size≤gb331));replace HB:=av (aA (by with_reducible repeat(first|exact HB.out|apply af|apply aa|apply ae)) hb);clear hb hbox hg)|((with_reducible refine aJ (N:=3) rfl ?_);refine aI ?hg (N:=3) ?hd (cs:=#[.string a1_0,.int .i64 a1_1,.slice A1_2 l1_2.length c1_2]) (t:=47) ?hr ?_;(case hd=>rfl);(case hg=>rfl);(case hr=>first|(go_simp;done)|(go_simp;rfl));intro gb332 hg w8 hbox hb;have BK332:=av (hbox);have GW332:=av ((by rw[hg];exact(ay (by with_reducible repeat(first|exact HB.out|apply af|apply aa|apply ae|refine ai ?_ GE331.out))):w.heap.size≤gb332));have GE332:=av ((by rw[hg];exact(ay (by with_reducible repeat(first|exact HB.out|apply af|apply aa|apply ae|refine ai ?_ GE331.out))):w.heap.size≤gb332));replace HB:=av (aA (by with_reducible repeat(first|exact HB.out|apply af|apply aa|apply ae|refine ai ?_ GE331.out)) hb);have NB331_332:=av ((by rw[hg];exact Nat.ne_of_lt (aN (g:=gb331) (o:=.cells #[.string a0_0,.int .i64 a0_1,.slice A0_2 l0_2.length c0_2] 47 (0,0)) (by(with_reducible repeat(first|apply aj|apply au|apply ak));exact BK331.out)):gb331≠gb332));have NB332_331:=av ((by rw[hg];exact Nat.ne_of_gt (aN (g:=gb331) (o:=.cells #[.string a0_0,.int .i64 a0_1,.slice A0_2 l0_2.length c0_2] 47 (0,0)) (by(with_reducible repeat(first|apply aj|apply au|apply ak));exact BK331.out)):gb332≠gb331));replace BK331:=av (aG (g:=gb331) (o:=.cells #[.string a0_0,.int .i64 a0_1,.slice A0_2 l0_2.length c0_2] 47 (0,0)) (by(with_reducible repeat(first|apply aj|apply au|apply ak));exact BK331.out) hb);clear hb hbox hg;have hnb9:=NB331_332.out;have hnc9:=NB332_331.out;have hcz10_0:w8.cell? ⟨gb331,0,none⟩=some (.string a0_0):=(ag BK331.out 0).trans rfl;have hcz10_1:w8.cell? ⟨gb331,1,none⟩=some (.int .i64 a0_1):=(ag BK331.out 1).trans rfl;have hcz10_2:w8.cell? ⟨gb331,2,none⟩=some (.slice A0_2 l0_2.length c0_2):=(ag BK331.out 2).trans rfl;have hfz10_0:=ah BK331.out 0;have hfz10_1:=ah BK331.out 1;have hfz10_2:=ah BK331.out 2;have hcz11_0:w8.cell? ⟨gb332,0,none⟩=some (.string a1_0):=(ag BK332.out 0).trans rfl;have hcz11_1:w8.cell? ⟨gb332,1,none⟩=some (.int .i64 a1_1):=(ag BK332.out 1).trans rfl;have hcz11_2:w8.cell? ⟨gb332,2,none⟩=some (.slice A1_2 l1_2.length c1_2):=(ag BK332.out 2).trans rfl;have hfz11_0:=ah BK332.out 0;have hfz11_1:=ah BK332.out 1;have hfz11_2:=ah BK332.out 2)|((with_reducible refine aK (f:=52) rfl ?_);refine bn (some 19) rfl rfl Tryd.func52 (by kernel_rfl) rfl #[.agg #[.slice A0_2 l0_2.length c0_2],.agg #[.slice A1_2 l1_2.length c1_2]] rfl (by(try simp only[amp_]);first|done|rfl|(simp only[ald_];rfl)) ?_;(with_reducible refine(laws_eqFileMap.calls k _ _ l0_2 _ _ l1_2 true _ ?side1 ?side2 ?side3 ?side4 A5.out).mono ?_);(case side1=>repeat(first|exact(Kd.aQ HR0_2.out HB.out)|(with_reducible first|apply Kd.aW|apply Kd.aV|apply Kd.aY)));(case side2=>exact HC0_2.out);(case side3=>repeat(first|exact(Kd.aQ HR1_2.out HB.out)|(with_reducible first|apply Kd.aW|apply Kd.aV|apply Kd.aY)));(case side4=>exact HC1_2.out);rintro e w12 ⟨rfl,hb⟩;refine⟨_,rfl,?_⟩;replace BK331:=av (aG (g:=gb331) (o:=.cells #[.string a0_0,.int .i64 a0_1,.slice A0_2 l0_2.length c0_2] 47 (0,0)) (by(with_reducible repeat(first|apply aj|apply au|apply ak));exact BK331.out) hb);replace BK332:=av (aG (g:=gb332) (o:=.cells #[.string a1_0,.int .i64 a1_1,.slice A1_2 l1_2.length c1_2] 47 (0,0)) (by(with_reducible repeat(first|apply aj|apply au|apply ak));exact BK332.out) hb);replace HB:=av (aA (by with_reducible repeat(first|exact HB.out|apply af|apply aa|apply ae|refine ai ?_ GE331.out|refine ai ?_ GE332.out)) hb);(try clear hb);(try clear hb2);(try clear hk);(try clear hi)))
    go_ret
    exact⟨by first|rfl|(simp <;> rfl)|(simp[*] <;> rfl),by with_reducible repeat(first|exact HB.out|apply af|apply aa|apply ae|refine ai ?_ GE331.out|refine ai ?_ GE332.out)⟩
   ·replace c6:=Bool.eq_false_iff.mpr c6
    subst c6
    have H1:(some false)=some r:=by rw[if_neg (show ¬ (false=true) by decide)] at H;exact H
    clear H
    have H:=H1
    clear H1
    obtain rfl:=Option.some.inj H
    go_enter Tryd.func39,Tryd.ntmps39
    go_wp2_with (first|((with_reducible refine aJ (N:=2) rfl ?_);refine aI ?hg (N:=2) ?hd (cs:=#[.string a0_0,.int .i64 a0_1,.slice A0_2 l0_2.length c0_2]) (t:=47) ?hr ?_;(case hd=>rfl);(case hg=>rfl);(case hr=>first|(go_simp;done)|(go_simp;rfl));intro gb331 hg w13 hbox hb;have BK331:=av (hbox);have GW331:=av ((by rw[hg];exact(ay (by with_reducible repeat(first|exact HB.out|apply af|apply aa|apply ae))):w.heap.size≤gb331));have GE331:=av ((by rw[hg];exact(ay (by with_reducible repeat(first|exact HB.out|apply af|apply aa|apply ae))):w.heap.size≤gb331));replace HB:=av (aA (by with_reducible repeat(first|exact HB.out|apply af|apply aa|apply ae)) hb);clear hb hbox hg)|((with_reducible refine aJ (N:=3) rfl ?_);refine aI ?hg (N:=3) ?hd (cs:=#[.string a1_0,.int .i64 a1_1,.slice A1_2 l1_2.length c1_2]) (t:=47) ?hr ?_;(case hd=>rfl);(case hg=>rfl);(case hr=>first|(go_simp;done)|(go_simp;rfl));intro gb332 hg w14 hbox hb;have BK332:=av (hbox);have GW332:=av ((by rw[hg];exact(ay (by with_reducible repeat(first|exact HB.out|apply af|apply aa|apply ae|refine ai ?_ GE331.out))):w.heap.size≤gb332));have GE332:=av ((by rw[hg];exact(ay (by with_reducible repeat(first|exact HB.out|apply af|apply aa|apply ae|refine ai ?_ GE331.out))):w.heap.size≤gb332));replace HB:=av (aA (by with_reducible repeat(first|exact HB.out|apply af|apply aa|apply ae|refine ai ?_ GE331.out)) hb);have NB331_332:=av ((by rw[hg];exact Nat.ne_of_lt (aN (g:=gb331) (o:=.cells #[.string a0_0,.int .i64 a0_1,.slice A0_2 l0_2.length c0_2] 47 (0,0)) (by(with_reducible repeat(first|apply aj|apply au|apply ak));exact BK331.out)):gb331≠gb332));have NB332_331:=av ((by rw[hg];exact Nat.ne_of_gt (aN (g:=gb331) (o:=.cells #[.string a0_0,.int .i64 a0_1,.slice A0_2 l0_2.length c0_2] 47 (0,0)) (by(with_reducible repeat(first|apply aj|apply au|apply ak));exact BK331.out)):gb332≠gb331));replace BK331:=av (aG (g:=gb331) (o:=.cells #[.string a0_0,.int .i64 a0_1,.slice A0_2 l0_2.length c0_2] 47 (0,0)) (by(with_reducible repeat(first|apply aj|apply au|apply ak));exact BK331.out) hb);clear hb hbox hg;have hnb15:=NB331_332.out;have hnc15:=NB332_331.out;have hcz16_0:w14.cell? ⟨gb331,0,none⟩=some (.string a0_0):=(ag BK331.out 0).trans rfl;have hcz16_1:w14.cell? ⟨gb331,1,none⟩=some (.int .i64 a0_1):=(ag BK331.out 1).trans rfl;have hcz16_2:w14.cell? ⟨gb331,2,none⟩=some (.slice A0_2 l0_2.length c0_2):=(ag BK331.out 2).trans rfl;have hfz16_0:=ah BK331.out 0;have hfz16_1:=ah BK331.out 1;have hfz16_2:=ah BK331.out 2;have hcz17_0:w14.cell? ⟨gb332,0,none⟩=some (.string a1_0):=(ag BK332.out 0).trans rfl;have hcz17_1:w14.cell? ⟨gb332,1,none⟩=some (.int .i64 a1_1):=(ag BK332.out 1).trans rfl;have hcz17_2:w14.cell? ⟨gb332,2,none⟩=some (.slice A1_2 l1_2.length c1_2):=(ag BK332.out 2).trans rfl;have hfz17_0:=ah BK332.out 0;have hfz17_1:=ah BK332.out 1;have hfz17_2:=ah BK332.out 2)|((with_reducible refine aK (f:=52) rfl ?_);refine bn (some 19) rfl rfl Tryd.func52 (by kernel_rfl) rfl #[.agg #[.slice A0_2 l0_2.length c0_2],.agg #[.slice A1_2 l1_2.length c1_2]] rfl (by(try simp only[amp_]);first|done|rfl|(simp only[ald_];rfl)) ?_;(with_reducible refine(laws_eqFileMap.calls k _ _ l0_2 _ _ l1_2 false _ ?side1 ?side2 ?side3 ?side4 A5.out).mono ?_);(case side1=>repeat(first|exact(Kd.aQ HR0_2.out HB.out)|(with_reducible first|apply Kd.aW|apply Kd.aV|apply Kd.aY)));(case side2=>exact HC0_2.out);(case side3=>repeat(first|exact(Kd.aQ HR1_2.out HB.out)|(with_reducible first|apply Kd.aW|apply Kd.aV|apply Kd.aY)));(case side4=>exact HC1_2.out);rintro e w18 ⟨rfl,hb⟩;refine⟨_,rfl,?_⟩;replace BK331:=av (aG (g:=gb331) (o:=.cells #[.string a0_0,.int .i64 a0_1,.slice A0_2 l0_2.length c0_2] 47 (0,0)) (by(with_reducible repeat(first|apply aj|apply au|apply ak));exact BK331.out) hb);replace BK332:=av (aG (g:=gb332) (o:=.cells #[.string a1_0,.int .i64 a1_1,.slice A1_2 l1_2.length c1_2] 47 (0,0)) (by(with_reducible repeat(first|apply aj|apply au|apply ak));exact BK332.out) hb);replace HB:=av (aA (by with_reducible repeat(first|exact HB.out|apply af|apply aa|apply ae|refine ai ?_ GE331.out|refine ai ?_ GE332.out)) hb);(try clear hb);(try clear hb2);(try clear hk);(try clear hi)))
    go_ret
    exact⟨by first|rfl|(simp <;> rfl)|(simp[*] <;> rfl),by with_reducible repeat(first|exact HB.out|apply af|apply aa|apply ae|refine ai ?_ GE331.out|refine ai ?_ GE332.out)⟩
  ·rw[if_neg c4] at H
   have c4b0:(a0_1 == a1_1)=false:=beq_eq_false_iff_ne.mpr c4
   have c4b1:(a0_1 != a1_1)=true:=bne_iff_ne.mpr c4
   obtain rfl:=Option.some.inj H
   go_enter Tryd.func39,Tryd.ntmps39
   go_wp2_with (first|((with_reducible refine aJ (N:=2) rfl ?_);refine aI ?hg (N:=2) ?hd (cs:=#[.string a0_0,.int .i64 a0_1,.slice A0_2 l0_2.length c0_2]) (t:=47) ?hr ?_;(case hd=>rfl);(case hg=>rfl);(case hr=>first|(go_simp;done)|(go_simp;rfl));intro gb331 hg w19 hbox hb;have BK331:=av (hbox);have GW331:=av ((by rw[hg];exact(ay (by with_reducible repeat(first|exact HB.out|apply af|apply aa|apply ae))):w.heap.size≤gb331));have GE331:=av ((by rw[hg];exact(ay (by with_reducible repeat(first|exact HB.out|apply af|apply aa|apply ae))):w.heap.size≤gb331));replace HB:=av (aA (by with_reducible repeat(first|exact HB.out|apply af|apply aa|apply ae)) hb);clear hb hbox hg)|((with_reducible refine aJ (N:=3) rfl ?_);refine aI ?hg (N:=3) ?hd (cs:=#[.string a1_0,.int .i64 a1_1,.slice A1_2 l1_2.length c1_2]) (t:=47) ?hr ?_;(case hd=>rfl);(case hg=>rfl);(case hr=>first|(go_simp;done)|(go_simp;rfl));intro gb332 hg w20 hbox hb;have BK332:=av (hbox);have GW332:=av ((by rw[hg];exact(ay (by with_reducible repeat(first|exact HB.out|apply af|apply aa|apply ae|refine ai ?_ GE331.out))):w.heap.size≤gb332));have GE332:=av ((by rw[hg];exact(ay (by with_reducible repeat(first|exact HB.out|apply af|apply aa|apply ae|refine ai ?_ GE331.out))):w.heap.size≤gb332));replace HB:=av (aA (by with_reducible repeat(first|exact HB.out|apply af|apply aa|apply ae|refine ai ?_ GE331.out)) hb);have NB331_332:=av ((by rw[hg];exact Nat.ne_of_lt (aN (g:=gb331) (o:=.cells #[.string a0_0,.int .i64 a0_1,.slice A0_2 l0_2.length c0_2] 47 (0,0)) (by(with_reducible repeat(first|apply aj|apply au|apply ak));exact BK331.out)):gb331≠gb332));have NB332_331:=av ((by rw[hg];exact Nat.ne_of_gt (aN (g:=gb331) (o:=.cells #[.string a0_0,.int .i64 a0_1,.slice A0_2 l0_2.length c0_2] 47 (0,0)) (by(with_reducible repeat(first|apply aj|apply au|apply ak));exact BK331.out)):gb332≠gb331));replace BK331:=av (aG (g:=gb331) (o:=.cells #[.string a0_0,.int .i64 a0_1,.slice A0_2 l0_2.length c0_2] 47 (0,0)) (by(with_reducible repeat(first|apply aj|apply au|apply ak));exact BK331.out) hb);clear hb hbox hg;have hnb21:=NB331_332.out;have hnc21:=NB332_331.out;have hcz22_0:w20.cell? ⟨gb331,0,none⟩=some (.string a0_0):=(ag BK331.out 0).trans rfl;have hcz22_1:w20.cell? ⟨gb331,1,none⟩=some (.int .i64 a0_1):=(ag BK331.out 1).trans rfl;have hcz22_2:w20.cell? ⟨gb331,2,none⟩=some (.slice A0_2 l0_2.length c0_2):=(ag BK331.out 2).trans rfl;have hfz22_0:=ah BK331.out 0;have hfz22_1:=ah BK331.out 1;have hfz22_2:=ah BK331.out 2;have hcz23_0:w20.cell? ⟨gb332,0,none⟩=some (.string a1_0):=(ag BK332.out 0).trans rfl;have hcz23_1:w20.cell? ⟨gb332,1,none⟩=some (.int .i64 a1_1):=(ag BK332.out 1).trans rfl;have hcz23_2:w20.cell? ⟨gb332,2,none⟩=some (.slice A1_2 l1_2.length c1_2):=(ag BK332.out 2).trans rfl;have hfz23_0:=ah BK332.out 0;have hfz23_1:=ah BK332.out 1;have hfz23_2:=ah BK332.out 2))
   go_ret
   exact⟨by first|rfl|(simp <;> rfl)|(simp[*] <;> rfl),by with_reducible repeat(first|exact HB.out|apply af|apply aa|apply ae|refine ai ?_ GE331.out|refine ai ?_ GE332.out)⟩
 ·rw[if_neg c3] at H
  have c3b0:(a0_0.toList == a1_0.toList)=false:=beq_eq_false_iff_ne.mpr c3
  have c3b1:(a0_0.toList != a1_0.toList)=true:=bne_iff_ne.mpr c3
  obtain rfl:=Option.some.inj H
  go_enter Tryd.func39,Tryd.ntmps39
  go_wp2_with (first|((with_reducible refine aJ (N:=2) rfl ?_);refine aI ?hg (N:=2) ?hd (cs:=#[.string a0_0,.int .i64 a0_1,.slice A0_2 l0_2.length c0_2]) (t:=47) ?hr ?_;(case hd=>rfl);(case hg=>rfl);(case hr=>first|(go_simp;done)|(go_simp;rfl));intro gb331 hg w24 hbox hb;have BK331:=av (hbox);have GW331:=av ((by rw[hg];exact(ay (by with_reducible repeat(first|exact HB.out|apply af|apply aa|apply ae))):w.heap.size≤gb331));have GE331:=av ((by rw[hg];exact(ay (by with_reducible repeat(first|exact HB.out|apply af|apply aa|apply ae))):w.heap.size≤gb331));replace HB:=av (aA (by with_reducible repeat(first|exact HB.out|apply af|apply aa|apply ae)) hb);clear hb hbox hg)|((with_reducible refine aJ (N:=3) rfl ?_);refine aI ?hg (N:=3) ?hd (cs:=#[.string a1_0,.int .i64 a1_1,.slice A1_2 l1_2.length c1_2]) (t:=47) ?hr ?_;(case hd=>rfl);(case hg=>rfl);(case hr=>first|(go_simp;done)|(go_simp;rfl));intro gb332 hg w25 hbox hb;have BK332:=av (hbox);have GW332:=av ((by rw[hg];exact(ay (by with_reducible repeat(first|exact HB.out|apply af|apply aa|apply ae|refine ai ?_ GE331.out))):w.heap.size≤gb332));have GE332:=av ((by rw[hg];exact(ay (by with_reducible repeat(first|exact HB.out|apply af|apply aa|apply ae|refine ai ?_ GE331.out))):w.heap.size≤gb332));replace HB:=av (aA (by with_reducible repeat(first|exact HB.out|apply af|apply aa|apply ae|refine ai ?_ GE331.out)) hb);have NB331_332:=av ((by rw[hg];exact Nat.ne_of_lt (aN (g:=gb331) (o:=.cells #[.string a0_0,.int .i64 a0_1,.slice A0_2 l0_2.length c0_2] 47 (0,0)) (by(with_reducible repeat(first|apply aj|apply au|apply ak));exact BK331.out)):gb331≠gb332));have NB332_331:=av ((by rw[hg];exact Nat.ne_of_gt (aN (g:=gb331) (o:=.cells #[.string a0_0,.int .i64 a0_1,.slice A0_2 l0_2.length c0_2] 47 (0,0)) (by(with_reducible repeat(first|apply aj|apply au|apply ak));exact BK331.out)):gb332≠gb331));replace BK331:=av (aG (g:=gb331) (o:=.cells #[.string a0_0,.int .i64 a0_1,.slice A0_2 l0_2.length c0_2] 47 (0,0)) (by(with_reducible repeat(first|apply aj|apply au|apply ak));exact BK331.out) hb);clear hb hbox hg;have hnb26:=NB331_332.out;have hnc26:=NB332_331.out;have hcz27_0:w25.cell? ⟨gb331,0,none⟩=some (.string a0_0):=(ag BK331.out 0).trans rfl;have hcz27_1:w25.cell? ⟨gb331,1,none⟩=some (.int .i64 a0_1):=(ag BK331.out 1).trans rfl;have hcz27_2:w25.cell? ⟨gb331,2,none⟩=some (.slice A0_2 l0_2.length c0_2):=(ag BK331.out 2).trans rfl;have hfz27_0:=ah BK331.out 0;have hfz27_1:=ah BK331.out 1;have hfz27_2:=ah BK331.out 2;have hcz28_0:w25.cell? ⟨gb332,0,none⟩=some (.string a1_0):=(ag BK332.out 0).trans rfl;have hcz28_1:w25.cell? ⟨gb332,1,none⟩=some (.int .i64 a1_1):=(ag BK332.out 1).trans rfl;have hcz28_2:w25.cell? ⟨gb332,2,none⟩=some (.slice A1_2 l1_2.length c1_2):=(ag BK332.out 2).trans rfl;have hfz28_0:=ah BK332.out 0;have hfz28_1:=ah BK332.out 1;have hfz28_2:=ah BK332.out 2))
  go_ret
  exact⟨by first|rfl|(simp <;> rfl)|(simp[*] <;> rfl),by with_reducible repeat(first|exact HB.out|apply af|apply aa|apply ae|refine ai ?_ GE331.out|refine ai ?_ GE332.out)⟩
def laws_eqHeldS.l0:Nat→List (S47)→List (S47)→Int→Option (Bool)
 | 0,_,_,_=>none
 | k+1,x0,x1,x5=>if x5 < (x0.length:Int) then (if 0≤x5 then (if x5 < (x1.length:Int) then ((laws_eqHeld.f k ((az x0 x5).f0) ((az x0 x5).f1) ((az x0 x5).f2.f0) ((az x1 x5).f0) ((az x1 x5).f1) ((az x1 x5).f2.f0)).bind fun t336=>(if t336=true then (laws_eqHeldS.l0 k x0 x1 (wrap64 (x5+1))) else (some false))) else (none)) else (none)) else (some true)
def laws_eqHeldS.f (k:Nat) (l0:List (S47)) (l1:List (S47)):Option (Bool):=if (l0.length:Int) = (l1.length:Int) then (laws_eqHeldS.l0 k l0 l1 0) else (some false)
def laws_eqHeldS.T6:Bool×List (List Nat×List Nat):=(true,[([],[]),([],[]),([0,1],[0,1]),([2],[2]),([],[]),([],[]),([4,5],[4,5]),([6],[6]),([3,7],[3,7]),([8],[8])])
def laws_eqHeldS.B6:List Nat:=[0,0,3,7,0,0,48,112,255,511]
theorem laws_eqHeldS.tab6:dR .any (opsOf Tryd.f21 6)=laws_eqHeldS.T6:=by kernel_rfl
theorem laws_eqHeldS.bits6:dH laws_eqHeldS.T6.2 laws_eqHeldS.B6=true:=by kernel_rfl
set_option maxHeartbeats 8000000 in
set_option maxRecDepth 100000 in
theorem laws_eqHeldS.calls (k : Nat) (A0 : Option Addr) (c0 : Nat) (l0 : List (S47)) (A1 : Option Addr) (c1 : Nat) (l1 : List (S47)) (r : Bool) (w : World) (hr0 : Kd.C k47 w A0 l0.length l0) (hc0 : l0.length ≤ c0) (hr1 : Kd.C k47 w A1 l1.length l1) (hc1 : l1.length ≤ c1) (h : laws_eqHeldS.f k l0 l1 = some r) :
  Calls Tryd.prog 21 #[.slice A0 l0.length c0,.slice A1 l1.length c1] w fun e w'=>e = .returned (.bool r)∧Below w.heap.size w w':=by
 have hu47:=Tryd.underlying47
 have HR0:=av hr0
 have HC0:=av hc0
 clear hr0 hc0
 have HR1:=av hr1
 have HC1:=av hc1
 clear hr1 hc1
 have HB:=av (Below.refl w.heap.size w)
 have H:(if (l0.length:Int) = (l1.length:Int) then (laws_eqHeldS.l0 k l0 l1 0) else (some false))=some r:=h
 clear h
 by_cases c3:(l0.length:Int) = (l1.length:Int)
 ·rw [if_pos c3] at H
  have c3b0:((l0.length:Int) == (l1.length:Int))=true:=beq_iff_eq.mpr c3
  have c3b1:((l0.length:Int) != (l1.length:Int))=false:=bne_eq_false_iff_eq.mpr c3
  have c3b2:(l0.length == l1.length)=true:=by first|simpa using c3|(simp at c3 ⊢;omega)
  clear c3
  have H':=av H
  clear H
  go_enter Tryd.func21,Tryd.ntmps21
  go_wp2
  go_loopg [5] k (fun kq v5 w'=>∃ (x5_1:Int),v5 = .int .i64 x5_1∧Aside0 (laws_eqHeldS.l0 kq l0 l1 x5_1=some r)∧Aside0 (kq≤k)∧Aside0 (Below w.heap.size w w'))
  case atStart=>exact⟨(0),(by first|rfl|(simp;done)|(simp[*];done)),H',⟨Nat.le_refl _⟩,⟨by with_reducible repeat(first|exact HB.out|apply af|apply aa|apply ae)⟩⟩
  case round =>
   clear H'
   try clear c1
   try clear c2
   try clear p2
   try clear c3
   try clear c3b0
   try clear c3b1
   try clear c3b2
   obtain⟨x5_1,rfl,HA,HK1,HB⟩:=hrel
   cases gk with
   | zero=>exact absurd HA.out (by simp[laws_eqHeldS.l0])
   | succ k1=>
    have H:=HA.out
    clear HA
    simp only[laws_eqHeldS.l0] at H
    by_cases c4:x5_1 < (l0.length:Int)
    ·rw [if_pos c4] at H
     have c4b0:decide (x5_1 < (l0.length:Int))=true:=decide_eq_true c4
     clear c4
     by_cases c5:0≤x5_1
     ·rw [if_pos c5] at H
      have c5b0:decide (0≤x5_1)=true:=decide_eq_true c5
      clear c5
      by_cases c6:x5_1 < (l1.length:Int)
      ·rw[if_pos c6] at H
       have c6b0:decide (x5_1 < (l1.length:Int))=true:=decide_eq_true c6
       clear c6
       replace H:=Option.bind_eq_some_iff.mp H
       obtain⟨t336,A70,H⟩:=H
       replace H:(if t336=true then (laws_eqHeldS.l0 k1 l0 l1 (wrap64 (x5_1+1))) else (some false))=some r:=H
       have A7:=av A70
       clear A70
       by_cases c8:t336=true
       ·subst c8
        have H1:(laws_eqHeldS.l0 k1 l0 l1 (wrap64 (x5_1+1)))=some r:=by rw[if_pos rfl] at H;exact H
        clear H
        have H:=H1
        clear H1
        have H':=av H
        clear H
        try go_wp2
        have n0_:=av (ae HB.out)
        clear HB
        have HB:=n0_
        clear n0_
        have p334:0≤(x5_1:Int):=of_decide_eq_true (by assumption)
        have q334:x5_1 < (l0.length:Int):=of_decide_eq_true (by assumption)
        obtain⟨ad334,A334_2,c334_2,e334,hx334_0,hx334_1,hx334_2,hl334_2,hi334_2⟩:=dQ HR0.out x5_1 p334 q334
        have hw334_2:=hx334_2
        have hw334_1:=hx334_1
        have hw334_0:=hx334_0
        cases e334
        replace hx334_0:=(HB.out.cell (World.block_lt_of_cell? w _ hx334_0)).trans hx334_0
        replace hx334_1:=(HB.out.cell (World.block_lt_of_cell? w _ hx334_1)).trans hx334_1
        replace hx334_2:=(HB.out.cell (World.block_lt_of_cell? w _ hx334_2)).trans hx334_2
        have HR334_2:=av hi334_2
        have HC334_2:=av hl334_2
        clear hi334_2 hl334_2
        replace p334:=eq_true p334
        replace q334:=eq_true q334
        have p335:0≤(x5_1:Int):=of_decide_eq_true (by assumption)
        have q335:x5_1 < (l1.length:Int):=of_decide_eq_true (by assumption)
        obtain⟨ad335,A335_2,c335_2,e335,hx335_0,hx335_1,hx335_2,hl335_2,hi335_2⟩:=dQ HR1.out x5_1 p335 q335
        have hw335_2:=hx335_2
        have hw335_1:=hx335_1
        have hw335_0:=hx335_0
        cases e335
        replace hx335_0:=(HB.out.cell (World.block_lt_of_cell? w _ hx335_0)).trans hx335_0
        replace hx335_1:=(HB.out.cell (World.block_lt_of_cell? w _ hx335_1)).trans hx335_1
        replace hx335_2:=(HB.out.cell (World.block_lt_of_cell? w _ hx335_2)).trans hx335_2
        have HR335_2:=av hi335_2
        have HC335_2:=av hl335_2
        clear hi335_2 hl335_2
        replace p335:=eq_true p335
        replace q335:=eq_true q335
        refine bJ (n:=10) (S:=fun w'=>w'.cell? (ad334.add ((x5_1).toNat*3))=some (.string ((az l0 x5_1).f0))∧w'.cell? ⟨(ad334.add ((x5_1).toNat*3)).block,(ad334.add ((x5_1).toNat*3)).off+1,none⟩=some (.int .i64 ((az l0 x5_1).f1))∧w'.cell? ⟨(ad334.add ((x5_1).toNat*3)).block,(ad334.add ((x5_1).toNat*3)).off+2,none⟩=some (.slice A334_2 ((az l0 x5_1).f2.f0).length c334_2)∧w'.cell? (ad335.add ((x5_1).toNat*3))=some (.string ((az l1 x5_1).f0))∧w'.cell? ⟨(ad335.add ((x5_1).toNat*3)).block,(ad335.add ((x5_1).toNat*3)).off+1,none⟩=some (.int .i64 ((az l1 x5_1).f1))∧w'.cell? ⟨(ad335.add ((x5_1).toNat*3)).block,(ad335.add ((x5_1).toNat*3)).off+2,none⟩=some (.slice A335_2 ((az l1 x5_1).f2.f0).length c335_2)) (ds:=[]) #[false,false,false,false,false,false,false,false,false,false] (by kernel_rfl) rfl rfl ⟨((HB.out.cell (World.block_lt_of_cell? w _ hw334_0)).trans hw334_0),((HB.out.cell (World.block_lt_of_cell? w _ hw334_1)).trans hw334_1),((HB.out.cell (World.block_lt_of_cell? w _ hw334_2)).trans hw334_2),((HB.out.cell (World.block_lt_of_cell? w _ hw335_0)).trans hw335_0),((HB.out.cell (World.block_lt_of_cell? w _ hw335_1)).trans hw335_1),((HB.out.cell (World.block_lt_of_cell? w _ hw335_2)).trans hw335_2)⟩ (fun hHeld=>?_);refine bz laws_eqHeldS.tab6 laws_eqHeldS.bits6 (fun HT_ HW_=>?_)
        generalize wr.drew=w9 at HB HR334_2 HR335_2 hx334_0 hx334_1 hx334_2 hx335_0 hx335_1 hx335_2 hHeld ⊢
        refine aD (i:=0) (N:=some 17) (v:=?_) (a':=?_) #[true,false,false,false,false,false,false,false,false,false] rfl rfl (aC HT_.out (by kernel_rfl)) (fun _ _ _ h=>h) (Or.inl ⟨by rfl,?_⟩) ?_ ?_
        rotate_left
        ·intro w'
         go_simp
         with_reducible rfl
        rotate_left
        ·simp only[apu_]
         rfl
        refine aD (i:=1) (N:=some 18) (v:=?_) (a':=?_) #[true,true,false,false,false,false,false,false,false,false] rfl rfl (aC HT_.out (by kernel_rfl)) (fun _ _ _ h=>h) (Or.inl ⟨by rfl,?_⟩) ?_ ?_
        rotate_left
        ·intro w'
         go_simp
         with_reducible rfl
        rotate_left
        ·simp only[apu_]
         rfl
        refine aD (i:=2) (N:=some 19) (v:=?_) (a':=?_) #[true,true,true,false,false,false,false,false,false,false] rfl rfl (aC HT_.out (by kernel_rfl)) (fun _ _ _ h=>h) (Or.inl ⟨by rfl,?_⟩) ?_ ?_
        rotate_left
        ·intro w'
         go_simp
         with_reducible rfl
        rotate_left
        ·simp only[apu_]
         rfl
        refine aD (i:=4) (N:=some 21) (v:=?_) (a':=?_) #[true,true,true,false,true,false,false,false,false,false] rfl rfl (aC HT_.out (by kernel_rfl)) (fun _ _ _ h=>h) (Or.inl ⟨by rfl,?_⟩) ?_ ?_
        rotate_left
        ·intro w'
         go_simp
         with_reducible rfl
        rotate_left
        ·simp only[apu_]
         rfl
        refine aD (i:=5) (N:=some 22) (v:=?_) (a':=?_) #[true,true,true,false,true,true,false,false,false,false] rfl rfl (aC HT_.out (by kernel_rfl)) (fun _ _ _ h=>h) (Or.inl ⟨by rfl,?_⟩) ?_ ?_
        rotate_left
        ·intro w'
         go_simp
         with_reducible rfl
        rotate_left
        ·simp only[apu_]
         rfl
        refine aD (i:=6) (N:=some 23) (v:=?_) (a':=?_) #[true,true,true,false,true,true,true,false,false,false] rfl rfl (aC HT_.out (by kernel_rfl)) (fun _ _ _ h=>h) (Or.inl ⟨by rfl,?_⟩) ?_ ?_
        rotate_left
        ·intro w'
         go_simp
         with_reducible rfl
        rotate_left
        ·simp only[apu_]
         rfl
        refine aZ (i:=3) (N:=some 20) (v:=?_) (a':=?_) #[true,true,true,true,true,true,true,false,false,false] rfl rfl (aT HT_.out HW_.out (by kernel_rfl)) (fun _ _ _ h=>h) (Or.inl ⟨by rfl,?_⟩) hHeld ?_ ?_
        rotate_left
        ·rintro w' ⟨s0,s1,s2,s3,s4,s5⟩
         go_simp
         with_reducible rfl
        rotate_left
        ·simp only[apu_]
         rfl
        refine aZ (i:=7) (N:=some 24) (v:=?_) (a':=?_) #[true,true,true,true,true,true,true,true,false,false] rfl rfl (aT HT_.out HW_.out (by kernel_rfl)) (fun _ _ _ h=>h) (Or.inl ⟨by rfl,?_⟩) hHeld ?_ ?_
        rotate_left
        ·rintro w' ⟨s0,s1,s2,s3,s4,s5⟩
         go_simp
         with_reducible rfl
        rotate_left
        ·simp only[apu_]
         rfl
        refine di (i:=8) (N:=some 25) #[true,true,true,true,true,true,true,true,true,false] rfl rfl (bW HT_.out (by kernel_rfl)) (by decide) (fun K hK=>?_)
        refine bU Tryd.func39 (by kernel_rfl) rfl #[.agg #[.string ((az l0 x5_1).f0),.int .i64 ((az l0 x5_1).f1),.slice A334_2 ((az l0 x5_1).f2.f0).length c334_2],.agg #[.string ((az l1 x5_1).f0),.int .i64 ((az l1 x5_1).f1),.slice A335_2 ((az l1 x5_1).f2.f0).length c335_2]] (by rfl) rfl rfl (by(try simp only[amp_]);first|done|rfl|(simp only[ald_];rfl)) ?_
        with_reducible refine(laws_eqHeld.calls k1 ((az l0 x5_1).f0) ((az l0 x5_1).f1) _ _ ((az l0 x5_1).f2.f0) ((az l1 x5_1).f0) ((az l1 x5_1).f1) _ _ ((az l1 x5_1).f2.f0) true _ ?side1 ?side2 ?side3 ?side4 A7.out).mono ?_
        (case side1=>repeat(first|exact(Kd.aQ HR334_2.out HB.out)|(with_reducible first|apply Kd.aW|apply Kd.aV|apply Kd.aY)))
        (case side2=>exact HC334_2.out)
        (case side3=>repeat(first|exact(Kd.aQ HR335_2.out HB.out)|(with_reducible first|apply Kd.aW|apply Kd.aV|apply Kd.aY)))
        (case side4=>exact HC335_2.out)
        rintro e w10 ⟨rfl,hb⟩
        refine⟨_,rfl,?_⟩
        have n0_:=av (aA (by with_reducible repeat(first|exact HB.out|apply af|apply aa|apply ae)) hb)
        clear HB
        have HB:=n0_
        clear n0_
        (try clear hb)
        (try clear hb2)
        (try clear hk)
        (try clear hi)
        refine hK.out _ _ ⟨((HB.out.cell (World.block_lt_of_cell? w _ hw334_0)).trans hw334_0),((HB.out.cell (World.block_lt_of_cell? w _ hw334_1)).trans hw334_1),((HB.out.cell (World.block_lt_of_cell? w _ hw334_2)).trans hw334_2),((HB.out.cell (World.block_lt_of_cell? w _ hw335_0)).trans hw335_0),((HB.out.cell (World.block_lt_of_cell? w _ hw335_1)).trans hw335_1),((HB.out.cell (World.block_lt_of_cell? w _ hw335_2)).trans hw335_2)⟩ (fun hHeld=>?_)
        clear hK K
        refine bS (a':=?_) ?_ ?_
        rotate_left
        ·show Act.put _ (some 25) _=_
         simp only[apu_]
         rfl
        refine aD (i:=9) (N:=some 26) (v:=?_) (a':=?_) #[true,true,true,true,true,true,true,true,true,true] rfl rfl (aC HT_.out (by kernel_rfl)) (fun _ _ _ h=>h) (Or.inl ⟨by rfl,?_⟩) ?_ ?_
        rotate_left
        ·intro w'
         go_simp
         with_reducible rfl
        rotate_left
        ·simp only[apu_]
         rfl
        refine cu (bK HT_.out (by kernel_rfl)) ?_
        try go_wp2
        go_roundg k1
        case measure=>have:=HK1.out;omega
        case rel=>exact⟨(wrap64 (x5_1+1)),(by first|rfl|(simp;done)|(simp[*];done)),H',⟨by have:=HK1.out;omega⟩,⟨by with_reducible repeat(first|exact HB.out|apply af|apply aa|apply ae)⟩⟩
       ·replace c8:=Bool.eq_false_iff.mpr c8
        subst c8
        have H1:(some false)=some r:=by rw[if_neg (show ¬ (false=true) by decide)] at H;exact H
        clear H
        have H:=H1
        clear H1
        obtain rfl:=Option.some.inj H
        try go_wp2
        have n0_:=av (ae HB.out)
        clear HB
        have HB:=n0_
        clear n0_
        have p334:0≤(x5_1:Int):=of_decide_eq_true (by assumption)
        have q334:x5_1 < (l0.length:Int):=of_decide_eq_true (by assumption)
        obtain⟨ad334,A334_2,c334_2,e334,hx334_0,hx334_1,hx334_2,hl334_2,hi334_2⟩:=dQ HR0.out x5_1 p334 q334
        have hw334_2:=hx334_2
        have hw334_1:=hx334_1
        have hw334_0:=hx334_0
        cases e334
        replace hx334_0:=(HB.out.cell (World.block_lt_of_cell? w _ hx334_0)).trans hx334_0
        replace hx334_1:=(HB.out.cell (World.block_lt_of_cell? w _ hx334_1)).trans hx334_1
        replace hx334_2:=(HB.out.cell (World.block_lt_of_cell? w _ hx334_2)).trans hx334_2
        have HR334_2:=av hi334_2
        have HC334_2:=av hl334_2
        clear hi334_2 hl334_2
        replace p334:=eq_true p334
        replace q334:=eq_true q334
        have p335:0≤(x5_1:Int):=of_decide_eq_true (by assumption)
        have q335:x5_1 < (l1.length:Int):=of_decide_eq_true (by assumption)
        obtain⟨ad335,A335_2,c335_2,e335,hx335_0,hx335_1,hx335_2,hl335_2,hi335_2⟩:=dQ HR1.out x5_1 p335 q335
        have hw335_2:=hx335_2
        have hw335_1:=hx335_1
        have hw335_0:=hx335_0
        cases e335
        replace hx335_0:=(HB.out.cell (World.block_lt_of_cell? w _ hx335_0)).trans hx335_0
        replace hx335_1:=(HB.out.cell (World.block_lt_of_cell? w _ hx335_1)).trans hx335_1
        replace hx335_2:=(HB.out.cell (World.block_lt_of_cell? w _ hx335_2)).trans hx335_2
        have HR335_2:=av hi335_2
        have HC335_2:=av hl335_2
        clear hi335_2 hl335_2
        replace p335:=eq_true p335
        replace q335:=eq_true q335
        refine bJ (n:=10) (S:=fun w'=>w'.cell? (ad334.add ((x5_1).toNat*3))=some (.string ((az l0 x5_1).f0))∧w'.cell? ⟨(ad334.add ((x5_1).toNat*3)).block,(ad334.add ((x5_1).toNat*3)).off+1,none⟩=some (.int .i64 ((az l0 x5_1).f1))∧w'.cell? ⟨(ad334.add ((x5_1).toNat*3)).block,(ad334.add ((x5_1).toNat*3)).off+2,none⟩=some (.slice A334_2 ((az l0 x5_1).f2.f0).length c334_2)∧w'.cell? (ad335.add ((x5_1).toNat*3))=some (.string ((az l1 x5_1).f0))∧w'.cell? ⟨(ad335.add ((x5_1).toNat*3)).block,(ad335.add ((x5_1).toNat*3)).off+1,none⟩=some (.int .i64 ((az l1 x5_1).f1))∧w'.cell? ⟨(ad335.add ((x5_1).toNat*3)).block,(ad335.add ((x5_1).toNat*3)).off+2,none⟩=some (.slice A335_2 ((az l1 x5_1).f2.f0).length c335_2)) (ds:=[]) #[false,false,false,false,false,false,false,false,false,false] (by kernel_rfl) rfl rfl ⟨((HB.out.cell (World.block_lt_of_cell? w _ hw334_0)).trans hw334_0),((HB.out.cell (World.block_lt_of_cell? w _ hw334_1)).trans hw334_1),((HB.out.cell (World.block_lt_of_cell? w _ hw334_2)).trans hw334_2),((HB.out.cell (World.block_lt_of_cell? w _ hw335_0)).trans hw335_0),((HB.out.cell (World.block_lt_of_cell? w _ hw335_1)).trans hw335_1),((HB.out.cell (World.block_lt_of_cell? w _ hw335_2)).trans hw335_2)⟩ (fun hHeld=>?_);refine bz laws_eqHeldS.tab6 laws_eqHeldS.bits6 (fun HT_ HW_=>?_)
        generalize wr.drew=w11 at HB HR334_2 HR335_2 hx334_0 hx334_1 hx334_2 hx335_0 hx335_1 hx335_2 hHeld ⊢
        refine aD (i:=0) (N:=some 17) (v:=?_) (a':=?_) #[true,false,false,false,false,false,false,false,false,false] rfl rfl (aC HT_.out (by kernel_rfl)) (fun _ _ _ h=>h) (Or.inl ⟨by rfl,?_⟩) ?_ ?_
        rotate_left
        ·intro w'
         go_simp
         with_reducible rfl
        rotate_left
        ·simp only[apu_]
         rfl
        refine aD (i:=1) (N:=some 18) (v:=?_) (a':=?_) #[true,true,false,false,false,false,false,false,false,false] rfl rfl (aC HT_.out (by kernel_rfl)) (fun _ _ _ h=>h) (Or.inl ⟨by rfl,?_⟩) ?_ ?_
        rotate_left
        ·intro w'
         go_simp
         with_reducible rfl
        rotate_left
        ·simp only[apu_]
         rfl
        refine aD (i:=2) (N:=some 19) (v:=?_) (a':=?_) #[true,true,true,false,false,false,false,false,false,false] rfl rfl (aC HT_.out (by kernel_rfl)) (fun _ _ _ h=>h) (Or.inl ⟨by rfl,?_⟩) ?_ ?_
        rotate_left
        ·intro w'
         go_simp
         with_reducible rfl
        rotate_left
        ·simp only[apu_]
         rfl
        refine aD (i:=4) (N:=some 21) (v:=?_) (a':=?_) #[true,true,true,false,true,false,false,false,false,false] rfl rfl (aC HT_.out (by kernel_rfl)) (fun _ _ _ h=>h) (Or.inl ⟨by rfl,?_⟩) ?_ ?_
        rotate_left
        ·intro w'
         go_simp
         with_reducible rfl
        rotate_left
        ·simp only[apu_]
         rfl
        refine aD (i:=5) (N:=some 22) (v:=?_) (a':=?_) #[true,true,true,false,true,true,false,false,false,false] rfl rfl (aC HT_.out (by kernel_rfl)) (fun _ _ _ h=>h) (Or.inl ⟨by rfl,?_⟩) ?_ ?_
        rotate_left
        ·intro w'
         go_simp
         with_reducible rfl
        rotate_left
        ·simp only[apu_]
         rfl
        refine aD (i:=6) (N:=some 23) (v:=?_) (a':=?_) #[true,true,true,false,true,true,true,false,false,false] rfl rfl (aC HT_.out (by kernel_rfl)) (fun _ _ _ h=>h) (Or.inl ⟨by rfl,?_⟩) ?_ ?_
        rotate_left
        ·intro w'
         go_simp
         with_reducible rfl
        rotate_left
        ·simp only[apu_]
         rfl
        refine aZ (i:=3) (N:=some 20) (v:=?_) (a':=?_) #[true,true,true,true,true,true,true,false,false,false] rfl rfl (aT HT_.out HW_.out (by kernel_rfl)) (fun _ _ _ h=>h) (Or.inl ⟨by rfl,?_⟩) hHeld ?_ ?_
        rotate_left
        ·rintro w' ⟨s0,s1,s2,s3,s4,s5⟩
         go_simp
         with_reducible rfl
        rotate_left
        ·simp only[apu_]
         rfl
        refine aZ (i:=7) (N:=some 24) (v:=?_) (a':=?_) #[true,true,true,true,true,true,true,true,false,false] rfl rfl (aT HT_.out HW_.out (by kernel_rfl)) (fun _ _ _ h=>h) (Or.inl ⟨by rfl,?_⟩) hHeld ?_ ?_
        rotate_left
        ·rintro w' ⟨s0,s1,s2,s3,s4,s5⟩
         go_simp
         with_reducible rfl
        rotate_left
        ·simp only[apu_]
         rfl
        refine di (i:=8) (N:=some 25) #[true,true,true,true,true,true,true,true,true,false] rfl rfl (bW HT_.out (by kernel_rfl)) (by decide) (fun K hK=>?_)
        refine bU Tryd.func39 (by kernel_rfl) rfl #[.agg #[.string ((az l0 x5_1).f0),.int .i64 ((az l0 x5_1).f1),.slice A334_2 ((az l0 x5_1).f2.f0).length c334_2],.agg #[.string ((az l1 x5_1).f0),.int .i64 ((az l1 x5_1).f1),.slice A335_2 ((az l1 x5_1).f2.f0).length c335_2]] (by rfl) rfl rfl (by(try simp only[amp_]);first|done|rfl|(simp only[ald_];rfl)) ?_
        with_reducible refine(laws_eqHeld.calls k1 ((az l0 x5_1).f0) ((az l0 x5_1).f1) _ _ ((az l0 x5_1).f2.f0) ((az l1 x5_1).f0) ((az l1 x5_1).f1) _ _ ((az l1 x5_1).f2.f0) false _ ?side1 ?side2 ?side3 ?side4 A7.out).mono ?_
        (case side1=>repeat(first|exact(Kd.aQ HR334_2.out HB.out)|(with_reducible first|apply Kd.aW|apply Kd.aV|apply Kd.aY)))
        (case side2=>exact HC334_2.out)
        (case side3=>repeat(first|exact(Kd.aQ HR335_2.out HB.out)|(with_reducible first|apply Kd.aW|apply Kd.aV|apply Kd.aY)))
        (case side4=>exact HC335_2.out)
        rintro e w12 ⟨rfl,hb⟩
        refine⟨_,rfl,?_⟩
        have n0_:=av (aA (by with_reducible repeat(first|exact HB.out|apply af|apply aa|apply ae)) hb)
        clear HB
        have HB:=n0_
        clear n0_
        (try clear hb)
        (try clear hb2)
        (try clear hk)
        (try clear hi)
        refine hK.out _ _ ⟨((HB.out.cell (World.block_lt_of_cell? w _ hw334_0)).trans hw334_0),((HB.out.cell (World.block_lt_of_cell? w _ hw334_1)).trans hw334_1),((HB.out.cell (World.block_lt_of_cell? w _ hw334_2)).trans hw334_2),((HB.out.cell (World.block_lt_of_cell? w _ hw335_0)).trans hw335_0),((HB.out.cell (World.block_lt_of_cell? w _ hw335_1)).trans hw335_1),((HB.out.cell (World.block_lt_of_cell? w _ hw335_2)).trans hw335_2)⟩ (fun hHeld=>?_)
        clear hK K
        refine bS (a':=?_) ?_ ?_
        rotate_left
        ·show Act.put _ (some 25) _=_
         simp only[apu_]
         rfl
        refine aD (i:=9) (N:=some 26) (v:=?_) (a':=?_) #[true,true,true,true,true,true,true,true,true,true] rfl rfl (aC HT_.out (by kernel_rfl)) (fun _ _ _ h=>h) (Or.inl ⟨by rfl,?_⟩) ?_ ?_
        rotate_left
        ·intro w'
         go_simp
         with_reducible rfl
        rotate_left
        ·simp only[apu_]
         rfl
        refine cu (bK HT_.out (by kernel_rfl)) ?_
        try go_wp2
        go_ret
        exact⟨by first|rfl|(simp <;> rfl)|(simp[*] <;> rfl),by with_reducible repeat(first|exact HB.out|apply af|apply aa|apply ae)⟩
      ·rw[if_neg c6] at H
       exact absurd H (by simp)
     ·rw[if_neg c5] at H
      exact absurd H (by simp)
    ·rw[if_neg c4] at H
     have c4b0:decide (x5_1 < (l0.length:Int))=false:=decide_eq_false c4
     clear c4
     obtain rfl:=Option.some.inj H
     go_wp2
     go_ret
     exact⟨by first|rfl|(simp <;> rfl)|(simp[*] <;> rfl),by with_reducible repeat(first|exact HB.out|apply af|apply aa|apply ae)⟩
 ·rw[if_neg c3] at H
  have c3b0:((l0.length:Int) == (l1.length:Int))=false:=beq_eq_false_iff_ne.mpr c3
  have c3b1:((l0.length:Int) != (l1.length:Int))=true:=bne_iff_ne.mpr c3
  have c3b2:(l0.length == l1.length)=false:=by first|simpa using c3|(simp at c3 ⊢;omega)
  obtain rfl:=Option.some.inj H
  go_enter Tryd.func21,Tryd.ntmps21
  go_wp2
  go_ret
  exact⟨by first|rfl|(simp <;> rfl)|(simp[*] <;> rfl),by with_reducible repeat(first|exact HB.out|apply af|apply aa|apply ae)⟩
def laws_eqSystem.f (k:Nat) (a0_0:Int) (a0_1:Int) (l0_2:List (S72)) (l0_3:List (S72)) (l0_4:List (S47)) (a1_0:Int) (a1_1:Int) (l1_2:List (S72)) (l1_3:List (S72)) (l1_4:List (S47)):Option (Bool):=if a0_0=a1_0 then ((laws_eqFree.f k a0_1 l0_2 l0_3 a1_1 l1_2 l1_3).bind fun t339=>(if t339=true then ((laws_eqHeldS.f k l0_4 l1_4).bind fun t340=>(if t340=true then (some true) else (some false))) else (some false))) else (some false)
set_option maxHeartbeats 8000000 in
set_option maxRecDepth 100000 in
theorem laws_eqSystem.calls (k:Nat) (a0_0:Int) (a0_1:Int) (A0_2:Option Addr) (c0_2:Nat) (l0_2:List (S72)) (A0_3:Option Addr) (c0_3:Nat) (l0_3:List (S72)) (A0_4:Option Addr) (c0_4:Nat) (l0_4:List (S47)) (a1_0:Int) (a1_1:Int) (A1_2:Option Addr) (c1_2:Nat) (l1_2:List (S72)) (A1_3:Option Addr) (c1_3:Nat) (l1_3:List (S72)) (A1_4:Option Addr) (c1_4:Nat) (l1_4:List (S47)) (r:Bool) (w:World) (hr0_2:Kd.C k72 w A0_2 l0_2.length l0_2) (hc0_2:l0_2.length≤c0_2) (hr0_3:Kd.C k72 w A0_3 l0_3.length l0_3) (hc0_3:l0_3.length≤c0_3) (hr0_4:Kd.C k47 w A0_4 l0_4.length l0_4) (hc0_4:l0_4.length≤c0_4) (hr1_2:Kd.C k72 w A1_2 l1_2.length l1_2) (hc1_2:l1_2.length≤c1_2) (hr1_3:Kd.C k72 w A1_3 l1_3.length l1_3) (hc1_3:l1_3.length≤c1_3) (hr1_4:Kd.C k47 w A1_4 l1_4.length l1_4) (hc1_4:l1_4.length≤c1_4) (h:laws_eqSystem.f k a0_0 a0_1 l0_2 l0_3 l0_4 a1_0 a1_1 l1_2 l1_3 l1_4=some r) :
  Calls Tryd.prog 8 #[.agg #[.int .i64 a0_0,.int .i64 a0_1,.slice A0_2 l0_2.length c0_2,.slice A0_3 l0_3.length c0_3,.slice A0_4 l0_4.length c0_4],.agg #[.int .i64 a1_0,.int .i64 a1_1,.slice A1_2 l1_2.length c1_2,.slice A1_3 l1_3.length c1_3,.slice A1_4 l1_4.length c1_4]] w fun e w'=>e = .returned (.bool r)∧Below w.heap.size w w':=by
 have hu35:=Tryd.underlying35
 have hu32:=Tryd.underlying32
 have HR0_2:=av hr0_2
 have HC0_2:=av hc0_2
 clear hr0_2 hc0_2
 have HR0_3:=av hr0_3
 have HC0_3:=av hc0_3
 clear hr0_3 hc0_3
 have HR0_4:=av hr0_4
 have HC0_4:=av hc0_4
 clear hr0_4 hc0_4
 have HR1_2:=av hr1_2
 have HC1_2:=av hc1_2
 clear hr1_2 hc1_2
 have HR1_3:=av hr1_3
 have HC1_3:=av hc1_3
 clear hr1_3 hc1_3
 have HR1_4:=av hr1_4
 have HC1_4:=av hc1_4
 clear hr1_4 hc1_4
 have HB:=av (Below.refl w.heap.size w)
 have H:(if a0_0=a1_0 then ((laws_eqFree.f k a0_1 l0_2 l0_3 a1_1 l1_2 l1_3).bind fun t339=>(if t339=true then ((laws_eqHeldS.f k l0_4 l1_4).bind fun t340=>(if t340=true then (some true) else (some false))) else (some false))) else (some false))=some r:=h
 clear h
 by_cases c3:a0_0=a1_0
 ·rw[if_pos c3] at H
  have c3b0:(a0_0 == a1_0)=true:=beq_iff_eq.mpr c3
  have c3b1:(a0_0 != a1_0)=false:=bne_eq_false_iff_eq.mpr c3
  clear c3
  replace H:=Option.bind_eq_some_iff.mp H
  obtain⟨t339,A40,H⟩:=H
  replace H:(if t339=true then ((laws_eqHeldS.f k l0_4 l1_4).bind fun t340=>(if t340=true then (some true) else (some false))) else (some false))=some r:=H
  have A4:=av A40
  clear A40
  by_cases c5:t339=true
  ·subst c5
   have H1:((laws_eqHeldS.f k l0_4 l1_4).bind fun t340=>(if t340=true then (some true) else (some false)))=some r:=by rw[if_pos rfl] at H;exact H
   clear H
   have H:=H1
   clear H1
   replace H:=Option.bind_eq_some_iff.mp H
   obtain⟨t340,A60,H⟩:=H
   replace H:(if t340=true then (some true) else (some false))=some r:=H
   have A6:=av A60
   clear A60
   by_cases c7:t340=true
   ·subst c7
    have H1:(some true)=some r:=by rw[if_pos rfl] at H;exact H
    clear H
    have H:=H1
    clear H1
    obtain rfl:=Option.some.inj H
    go_enter Tryd.func8,Tryd.ntmps8
    go_wp2_with (first|((with_reducible refine aJ (N:=2) rfl ?_);refine aI ?hg (N:=2) ?hd (cs:=#[.int .i64 a0_0,.int .i64 a0_1,.slice A0_2 l0_2.length c0_2,.slice A0_3 l0_3.length c0_3,.slice A0_4 l0_4.length c0_4]) (t:=35) ?hr ?_;(case hd=>rfl);(case hg=>rfl);(case hr=>first|(go_simp;done)|(go_simp;rfl));intro gb337 hg w8 hbox hb;have BK337:=av (hbox);have GW337:=av ((by rw[hg];exact(ay (by with_reducible repeat(first|exact HB.out|apply af|apply aa|apply ae))):w.heap.size≤gb337));have GE337:=av ((by rw[hg];exact(ay (by with_reducible repeat(first|exact HB.out|apply af|apply aa|apply ae))):w.heap.size≤gb337));replace HB:=av (aA (by with_reducible repeat(first|exact HB.out|apply af|apply aa|apply ae)) hb);clear hb hbox hg)|((with_reducible refine aJ (N:=3) rfl ?_);refine aI ?hg (N:=3) ?hd (cs:=#[.int .i64 a1_0,.int .i64 a1_1,.slice A1_2 l1_2.length c1_2,.slice A1_3 l1_3.length c1_3,.slice A1_4 l1_4.length c1_4]) (t:=35) ?hr ?_;(case hd=>rfl);(case hg=>rfl);(case hr=>first|(go_simp;done)|(go_simp;rfl));intro gb338 hg w9 hbox hb;have BK338:=av (hbox);have GW338:=av ((by rw[hg];exact(ay (by with_reducible repeat(first|exact HB.out|apply af|apply aa|apply ae|refine ai ?_ GE337.out))):w.heap.size≤gb338));have GE338:=av ((by rw[hg];exact(ay (by with_reducible repeat(first|exact HB.out|apply af|apply aa|apply ae|refine ai ?_ GE337.out))):w.heap.size≤gb338));replace HB:=av (aA (by with_reducible repeat(first|exact HB.out|apply af|apply aa|apply ae|refine ai ?_ GE337.out)) hb);have NB337_338:=av ((by rw[hg];exact Nat.ne_of_lt (aN (g:=gb337) (o:=.cells #[.int .i64 a0_0,.int .i64 a0_1,.slice A0_2 l0_2.length c0_2,.slice A0_3 l0_3.length c0_3,.slice A0_4 l0_4.length c0_4] 35 (0,0)) (by(with_reducible repeat(first|apply aj|apply au|apply ak));exact BK337.out)):gb337≠gb338));have NB338_337:=av ((by rw[hg];exact Nat.ne_of_gt (aN (g:=gb337) (o:=.cells #[.int .i64 a0_0,.int .i64 a0_1,.slice A0_2 l0_2.length c0_2,.slice A0_3 l0_3.length c0_3,.slice A0_4 l0_4.length c0_4] 35 (0,0)) (by(with_reducible repeat(first|apply aj|apply au|apply ak));exact BK337.out)):gb338≠gb337));replace BK337:=av (aG (g:=gb337) (o:=.cells #[.int .i64 a0_0,.int .i64 a0_1,.slice A0_2 l0_2.length c0_2,.slice A0_3 l0_3.length c0_3,.slice A0_4 l0_4.length c0_4] 35 (0,0)) (by(with_reducible repeat(first|apply aj|apply au|apply ak));exact BK337.out) hb);clear hb hbox hg;have hnb10:=NB337_338.out;have hnc10:=NB338_337.out;have hcz11_0:w9.cell? ⟨gb337,0,none⟩=some (.int .i64 a0_0):=(ag BK337.out 0).trans rfl;have hcz11_1:w9.cell? ⟨gb337,1,none⟩=some (.int .i64 a0_1):=(ag BK337.out 1).trans rfl;have hcz11_2:w9.cell? ⟨gb337,2,none⟩=some (.slice A0_2 l0_2.length c0_2):=(ag BK337.out 2).trans rfl;have hcz11_3:w9.cell? ⟨gb337,3,none⟩=some (.slice A0_3 l0_3.length c0_3):=(ag BK337.out 3).trans rfl;have hcz11_4:w9.cell? ⟨gb337,4,none⟩=some (.slice A0_4 l0_4.length c0_4):=(ag BK337.out 4).trans rfl;have hfz11_0:=ah BK337.out 0;have hfz11_1:=ah BK337.out 1;have hfz11_2:=ah BK337.out 2;have hfz11_3:=ah BK337.out 3;have hfz11_4:=ah BK337.out 4;have hcz12_0:w9.cell? ⟨gb338,0,none⟩=some (.int .i64 a1_0):=(ag BK338.out 0).trans rfl;have hcz12_1:w9.cell? ⟨gb338,1,none⟩=some (.int .i64 a1_1):=(ag BK338.out 1).trans rfl;have hcz12_2:w9.cell? ⟨gb338,2,none⟩=some (.slice A1_2 l1_2.length c1_2):=(ag BK338.out 2).trans rfl;have hcz12_3:w9.cell? ⟨gb338,3,none⟩=some (.slice A1_3 l1_3.length c1_3):=(ag BK338.out 3).trans rfl;have hcz12_4:w9.cell? ⟨gb338,4,none⟩=some (.slice A1_4 l1_4.length c1_4):=(ag BK338.out 4).trans rfl;have hfz12_0:=ah BK338.out 0;have hfz12_1:=ah BK338.out 1;have hfz12_2:=ah BK338.out 2;have hfz12_3:=ah BK338.out 3;have hfz12_4:=ah BK338.out 4)|((with_reducible refine aK (f:=20) rfl ?_);refine bn (some 14) rfl rfl Tryd.func20 (by kernel_rfl) rfl #[.agg #[.int .i64 a0_1,.slice A0_2 l0_2.length c0_2,.slice A0_3 l0_3.length c0_3],.agg #[.int .i64 a1_1,.slice A1_2 l1_2.length c1_2,.slice A1_3 l1_3.length c1_3]] rfl (by(try simp only[amp_]);first|done|rfl|(simp only[ald_];rfl)) ?_;(with_reducible refine(laws_eqFree.calls k a0_1 _ _ l0_2 _ _ l0_3 a1_1 _ _ l1_2 _ _ l1_3 true _ ?side1 ?side2 ?side3 ?side4 ?side5 ?side6 ?side7 ?side8 A4.out).mono ?_);(case side1=>repeat(first|exact(Kd.aQ HR0_2.out HB.out)|(with_reducible first|apply Kd.aW|apply Kd.aV|apply Kd.aY)));(case side2=>exact HC0_2.out);(case side3=>repeat(first|exact(Kd.aQ HR0_3.out HB.out)|(with_reducible first|apply Kd.aW|apply Kd.aV|apply Kd.aY)));(case side4=>exact HC0_3.out);(case side5=>repeat(first|exact(Kd.aQ HR1_2.out HB.out)|(with_reducible first|apply Kd.aW|apply Kd.aV|apply Kd.aY)));(case side6=>exact HC1_2.out);(case side7=>repeat(first|exact(Kd.aQ HR1_3.out HB.out)|(with_reducible first|apply Kd.aW|apply Kd.aV|apply Kd.aY)));(case side8=>exact HC1_3.out);rintro e w13 ⟨rfl,hb⟩;refine⟨_,rfl,?_⟩;replace BK337:=av (aG (g:=gb337) (o:=.cells #[.int .i64 a0_0,.int .i64 a0_1,.slice A0_2 l0_2.length c0_2,.slice A0_3 l0_3.length c0_3,.slice A0_4 l0_4.length c0_4] 35 (0,0)) (by(with_reducible repeat(first|apply aj|apply au|apply ak));exact BK337.out) hb);replace BK338:=av (aG (g:=gb338) (o:=.cells #[.int .i64 a1_0,.int .i64 a1_1,.slice A1_2 l1_2.length c1_2,.slice A1_3 l1_3.length c1_3,.slice A1_4 l1_4.length c1_4] 35 (0,0)) (by(with_reducible repeat(first|apply aj|apply au|apply ak));exact BK338.out) hb);replace HB:=av (aA (by with_reducible repeat(first|exact HB.out|apply af|apply aa|apply ae|refine ai ?_ GE337.out|refine ai ?_ GE338.out)) hb);(try clear hb);(try clear hb2);(try clear hk);(try clear hi);have hcz14_0:w13.cell? ⟨gb337,0,none⟩=some (.int .i64 a0_0):=(ag BK337.out 0).trans rfl;have hcz14_1:w13.cell? ⟨gb337,1,none⟩=some (.int .i64 a0_1):=(ag BK337.out 1).trans rfl;have hcz14_2:w13.cell? ⟨gb337,2,none⟩=some (.slice A0_2 l0_2.length c0_2):=(ag BK337.out 2).trans rfl;have hcz14_3:w13.cell? ⟨gb337,3,none⟩=some (.slice A0_3 l0_3.length c0_3):=(ag BK337.out 3).trans rfl;have hcz14_4:w13.cell? ⟨gb337,4,none⟩=some (.slice A0_4 l0_4.length c0_4):=(ag BK337.out 4).trans rfl;have hfz14_0:=ah BK337.out 0;have hfz14_1:=ah BK337.out 1;have hfz14_2:=ah BK337.out 2;have hfz14_3:=ah BK337.out 3;have hfz14_4:=ah BK337.out 4;have hcz15_0:w13.cell? ⟨gb338,0,none⟩=some (.int .i64 a1_0):=(ag BK338.out 0).trans rfl;have hcz15_1:w13.cell? ⟨gb338,1,none⟩=some (.int .i64 a1_1):=(ag BK338.out 1).trans rfl;have hcz15_2:w13.cell? ⟨gb338,2,none⟩=some (.slice A1_2 l1_2.length c1_2):=(ag BK338.out 2).trans rfl;have hcz15_3:w13.cell? ⟨gb338,3,none⟩=some (.slice A1_3 l1_3.length c1_3):=(ag BK338.out 3).trans rfl;have hcz15_4:w13.cell? ⟨gb338,4,none⟩=some (.slice A1_4 l1_4.length c1_4):=(ag BK338.out 4).trans rfl;have hfz15_0:=ah BK338.out 0;have hfz15_1:=ah BK338.out 1;have hfz15_2:=ah BK338.out 2;have hfz15_3:=ah BK338.out 3;have hfz15_4:=ah BK338.out 4)|((with_reducible refine aK (f:=21) rfl ?_);refine bn (some 20) rfl rfl Tryd.func21 (by kernel_rfl) rfl #[.slice A0_4 l0_4.length c0_4,.slice A1_4 l1_4.length c1_4] rfl (by(try simp only[amp_]);first|done|rfl|(simp only[ald_];rfl)) ?_;(with_reducible refine(laws_eqHeldS.calls k _ _ l0_4 _ _ l1_4 true _ ?side1 ?side2 ?side3 ?side4 A6.out).mono ?_);(case side1=>repeat(first|exact(Kd.aQ HR0_4.out HB.out)|(with_reducible first|apply Kd.aW|apply Kd.aV|apply Kd.aY)));(case side2=>exact HC0_4.out);(case side3=>repeat(first|exact(Kd.aQ HR1_4.out HB.out)|(with_reducible first|apply Kd.aW|apply Kd.aV|apply Kd.aY)));(case side4=>exact HC1_4.out);rintro e w16 ⟨rfl,hb⟩;refine⟨_,rfl,?_⟩;replace BK337:=av (aG (g:=gb337) (o:=.cells #[.int .i64 a0_0,.int .i64 a0_1,.slice A0_2 l0_2.length c0_2,.slice A0_3 l0_3.length c0_3,.slice A0_4 l0_4.length c0_4] 35 (0,0)) (by(with_reducible repeat(first|apply aj|apply au|apply ak));exact BK337.out) hb);replace BK338:=av (aG (g:=gb338) (o:=.cells #[.int .i64 a1_0,.int .i64 a1_1,.slice A1_2 l1_2.length c1_2,.slice A1_3 l1_3.length c1_3,.slice A1_4 l1_4.length c1_4] 35 (0,0)) (by(with_reducible repeat(first|apply aj|apply au|apply ak));exact BK338.out) hb);replace HB:=av (aA (by with_reducible repeat(first|exact HB.out|apply af|apply aa|apply ae|refine ai ?_ GE337.out|refine ai ?_ GE338.out)) hb);(try clear hb);(try clear hb2);(try clear hk);(try clear hi)))
    go_ret
    exact⟨by first|rfl|(simp <;> rfl)|(simp[*] <;> rfl),by with_reducible repeat(first|exact HB.out|apply af|apply aa|apply ae|refine ai ?_ GE337.out|refine ai ?_ GE338.out)⟩
   ·replace c7:=Bool.eq_false_iff.mpr c7
    subst c7
    have H1:(some false)=some r:=by rw[if_neg (show ¬ (false=true) by decide)] at H;exact H
    clear H
    have H:=H1
    clear H1
    obtain rfl:=Option.some.inj H
    go_enter Tryd.func8,Tryd.ntmps8
    go_wp2_with (first|((with_reducible refine aJ (N:=2) rfl ?_);refine aI ?hg (N:=2) ?hd (cs:=#[.int .i64 a0_0,.int .i64 a0_1,.slice A0_2 l0_2.length c0_2,.slice A0_3 l0_3.length c0_3,.slice A0_4 l0_4.length c0_4]) (t:=35) ?hr ?_;(case hd=>rfl);(case hg=>rfl);(case hr=>first|(go_simp;done)|(go_simp;rfl));intro gb337 hg w17 hbox hb;have BK337:=av (hbox);have GW337:=av ((by rw[hg];exact(ay (by with_reducible repeat(first|exact HB.out|apply af|apply aa|apply ae))):w.heap.size≤gb337));have GE337:=av ((by rw[hg];exact(ay (by with_reducible repeat(first|exact HB.out|apply af|apply aa|apply ae))):w.heap.size≤gb337));replace HB:=av (aA (by with_reducible repeat(first|exact HB.out|apply af|apply aa|apply ae)) hb);clear hb hbox hg)|((with_reducible refine aJ (N:=3) rfl ?_);refine aI ?hg (N:=3) ?hd (cs:=#[.int .i64 a1_0,.int .i64 a1_1,.slice A1_2 l1_2.length c1_2,.slice A1_3 l1_3.length c1_3,.slice A1_4 l1_4.length c1_4]) (t:=35) ?hr ?_;(case hd=>rfl);(case hg=>rfl);(case hr=>first|(go_simp;done)|(go_simp;rfl));intro gb338 hg w18 hbox hb;have BK338:=av (hbox);have GW338:=av ((by rw[hg];exact(ay (by with_reducible repeat(first|exact HB.out|apply af|apply aa|apply ae|refine ai ?_ GE337.out))):w.heap.size≤gb338));have GE338:=av ((by rw[hg];exact(ay (by with_reducible repeat(first|exact HB.out|apply af|apply aa|apply ae|refine ai ?_ GE337.out))):w.heap.size≤gb338));replace HB:=av (aA (by with_reducible repeat(first|exact HB.out|apply af|apply aa|apply ae|refine ai ?_ GE337.out)) hb);have NB337_338:=av ((by rw[hg];exact Nat.ne_of_lt (aN (g:=gb337) (o:=.cells #[.int .i64 a0_0,.int .i64 a0_1,.slice A0_2 l0_2.length c0_2,.slice A0_3 l0_3.length c0_3,.slice A0_4 l0_4.length c0_4] 35 (0,0)) (by(with_reducible repeat(first|apply aj|apply au|apply ak));exact BK337.out)):gb337≠gb338));have NB338_337:=av ((by rw[hg];exact Nat.ne_of_gt (aN (g:=gb337) (o:=.cells #[.int .i64 a0_0,.int .i64 a0_1,.slice A0_2 l0_2.length c0_2,.slice A0_3 l0_3.length c0_3,.slice A0_4 l0_4.length c0_4] 35 (0,0)) (by(with_reducible repeat(first|apply aj|apply au|apply ak));exact BK337.out)):gb338≠gb337));replace BK337:=av (aG (g:=gb337) (o:=.cells #[.int .i64 a0_0,.int .i64 a0_1,.slice A0_2 l0_2.length c0_2,.slice A0_3 l0_3.length c0_3,.slice A0_4 l0_4.length c0_4] 35 (0,0)) (by(with_reducible repeat(first|apply aj|apply au|apply ak));exact BK337.out) hb);clear hb hbox hg;have hnb19:=NB337_338.out;have hnc19:=NB338_337.out;have hcz20_0:w18.cell? ⟨gb337,0,none⟩=some (.int .i64 a0_0):=(ag BK337.out 0).trans rfl;have hcz20_1:w18.cell? ⟨gb337,1,none⟩=some (.int .i64 a0_1):=(ag BK337.out 1).trans rfl;have hcz20_2:w18.cell? ⟨gb337,2,none⟩=some (.slice A0_2 l0_2.length c0_2):=(ag BK337.out 2).trans rfl;have hcz20_3:w18.cell? ⟨gb337,3,none⟩=some (.slice A0_3 l0_3.length c0_3):=(ag BK337.out 3).trans rfl;have hcz20_4:w18.cell? ⟨gb337,4,none⟩=some (.slice A0_4 l0_4.length c0_4):=(ag BK337.out 4).trans rfl;have hfz20_0:=ah BK337.out 0;have hfz20_1:=ah BK337.out 1;have hfz20_2:=ah BK337.out 2;have hfz20_3:=ah BK337.out 3;have hfz20_4:=ah BK337.out 4;have hcz21_0:w18.cell? ⟨gb338,0,none⟩=some (.int .i64 a1_0):=(ag BK338.out 0).trans rfl;have hcz21_1:w18.cell? ⟨gb338,1,none⟩=some (.int .i64 a1_1):=(ag BK338.out 1).trans rfl;have hcz21_2:w18.cell? ⟨gb338,2,none⟩=some (.slice A1_2 l1_2.length c1_2):=(ag BK338.out 2).trans rfl;have hcz21_3:w18.cell? ⟨gb338,3,none⟩=some (.slice A1_3 l1_3.length c1_3):=(ag BK338.out 3).trans rfl;have hcz21_4:w18.cell? ⟨gb338,4,none⟩=some (.slice A1_4 l1_4.length c1_4):=(ag BK338.out 4).trans rfl;have hfz21_0:=ah BK338.out 0;have hfz21_1:=ah BK338.out 1;have hfz21_2:=ah BK338.out 2;have hfz21_3:=ah BK338.out 3;have hfz21_4:=ah BK338.out 4)|((with_reducible refine aK (f:=20) rfl ?_);refine bn (some 14) rfl rfl Tryd.func20 (by kernel_rfl) rfl #[.agg #[.int .i64 a0_1,.slice A0_2 l0_2.length c0_2,.slice A0_3 l0_3.length c0_3],.agg #[.int .i64 a1_1,.slice A1_2 l1_2.length c1_2,.slice A1_3 l1_3.length c1_3]] rfl (by(try simp only[amp_]);first|done|rfl|(simp only[ald_];rfl)) ?_;(with_reducible refine(laws_eqFree.calls k a0_1 _ _ l0_2 _ _ l0_3 a1_1 _ _ l1_2 _ _ l1_3 true _ ?side1 ?side2 ?side3 ?side4 ?side5 ?side6 ?side7 ?side8 A4.out).mono ?_);(case side1=>repeat(first|exact(Kd.aQ HR0_2.out HB.out)|(with_reducible first|apply Kd.aW|apply Kd.aV|apply Kd.aY)));(case side2=>exact HC0_2.out);(case side3=>repeat(first|exact(Kd.aQ HR0_3.out HB.out)|(with_reducible first|apply Kd.aW|apply Kd.aV|apply Kd.aY)));(case side4=>exact HC0_3.out);(case side5=>repeat(first|exact(Kd.aQ HR1_2.out HB.out)|(with_reducible first|apply Kd.aW|apply Kd.aV|apply Kd.aY)));(case side6=>exact HC1_2.out);(case side7=>repeat(first|exact(Kd.aQ HR1_3.out HB.out)|(with_reducible first|apply Kd.aW|apply Kd.aV|apply Kd.aY)));(case side8=>exact HC1_3.out);rintro e w22 ⟨rfl,hb⟩;refine⟨_,rfl,?_⟩;replace BK337:=av (aG (g:=gb337) (o:=.cells #[.int .i64 a0_0,.int .i64 a0_1,.slice A0_2 l0_2.length c0_2,.slice A0_3 l0_3.length c0_3,.slice A0_4 l0_4.length c0_4] 35 (0,0)) (by(with_reducible repeat(first|apply aj|apply au|apply ak));exact BK337.out) hb);replace BK338:=av (aG (g:=gb338) (o:=.cells #[.int .i64 a1_0,.int .i64 a1_1,.slice A1_2 l1_2.length c1_2,.slice A1_3 l1_3.length c1_3,.slice A1_4 l1_4.length c1_4] 35 (0,0)) (by(with_reducible repeat(first|apply aj|apply au|apply ak));exact BK338.out) hb);replace HB:=av (aA (by with_reducible repeat(first|exact HB.out|apply af|apply aa|apply ae|refine ai ?_ GE337.out|refine ai ?_ GE338.out)) hb);(try clear hb);(try clear hb2);(try clear hk);(try clear hi);have hcz23_0:w22.cell? ⟨gb337,0,none⟩=some (.int .i64 a0_0):=(ag BK337.out 0).trans rfl;have hcz23_1:w22.cell? ⟨gb337,1,none⟩=some (.int .i64 a0_1):=(ag BK337.out 1).trans rfl;have hcz23_2:w22.cell? ⟨gb337,2,none⟩=some (.slice A0_2 l0_2.length c0_2):=(ag BK337.out 2).trans rfl;have hcz23_3:w22.cell? ⟨gb337,3,none⟩=some (.slice A0_3 l0_3.length c0_3):=(ag BK337.out 3).trans rfl;have hcz23_4:w22.cell? ⟨gb337,4,none⟩=some (.slice A0_4 l0_4.length c0_4):=(ag BK337.out 4).trans rfl;have hfz23_0:=ah BK337.out 0;have hfz23_1:=ah BK337.out 1;have hfz23_2:=ah BK337.out 2;have hfz23_3:=ah BK337.out 3;have hfz23_4:=ah BK337.out 4;have hcz24_0:w22.cell? ⟨gb338,0,none⟩=some (.int .i64 a1_0):=(ag BK338.out 0).trans rfl;have hcz24_1:w22.cell? ⟨gb338,1,none⟩=some (.int .i64 a1_1):=(ag BK338.out 1).trans rfl;have hcz24_2:w22.cell? ⟨gb338,2,none⟩=some (.slice A1_2 l1_2.length c1_2):=(ag BK338.out 2).trans rfl;have hcz24_3:w22.cell? ⟨gb338,3,none⟩=some (.slice A1_3 l1_3.length c1_3):=(ag BK338.out 3).trans rfl;have hcz24_4:w22.cell? ⟨gb338,4,none⟩=some (.slice A1_4 l1_4.length c1_4):=(ag BK338.out 4).trans rfl;have hfz24_0:=ah BK338.out 0;have hfz24_1:=ah BK338.out 1;have hfz24_2:=ah BK338.out 2;have hfz24_3:=ah BK338.out 3;have hfz24_4:=ah BK338.out 4)|((with_reducible refine aK (f:=21) rfl ?_);refine bn (some 20) rfl rfl Tryd.func21 (by kernel_rfl) rfl #[.slice A0_4 l0_4.length c0_4,.slice A1_4 l1_4.length c1_4] rfl (by(try simp only[amp_]);first|done|rfl|(simp only[ald_];rfl)) ?_;(with_reducible refine(laws_eqHeldS.calls k _ _ l0_4 _ _ l1_4 false _ ?side1 ?side2 ?side3 ?side4 A6.out).mono ?_);(case side1=>repeat(first|exact(Kd.aQ HR0_4.out HB.out)|(with_reducible first|apply Kd.aW|apply Kd.aV|apply Kd.aY)));(case side2=>exact HC0_4.out);(case side3=>repeat(first|exact(Kd.aQ HR1_4.out HB.out)|(with_reducible first|apply Kd.aW|apply Kd.aV|apply Kd.aY)));(case side4=>exact HC1_4.out);rintro e w25 ⟨rfl,hb⟩;refine⟨_,rfl,?_⟩;replace BK337:=av (aG (g:=gb337) (o:=.cells #[.int .i64 a0_0,.int .i64 a0_1,.slice A0_2 l0_2.length c0_2,.slice A0_3 l0_3.length c0_3,.slice A0_4 l0_4.length c0_4] 35 (0,0)) (by(with_reducible repeat(first|apply aj|apply au|apply ak));exact BK337.out) hb);replace BK338:=av (aG (g:=gb338) (o:=.cells #[.int .i64 a1_0,.int .i64 a1_1,.slice A1_2 l1_2.length c1_2,.slice A1_3 l1_3.length c1_3,.slice A1_4 l1_4.length c1_4] 35 (0,0)) (by(with_reducible repeat(first|apply aj|apply au|apply ak));exact BK338.out) hb);replace HB:=av (aA (by with_reducible repeat(first|exact HB.out|apply af|apply aa|apply ae|refine ai ?_ GE337.out|refine ai ?_ GE338.out)) hb);(try clear hb);(try clear hb2);(try clear hk);(try clear hi)))
    go_ret
    exact⟨by first|rfl|(simp <;> rfl)|(simp[*] <;> rfl),by with_reducible repeat(first|exact HB.out|apply af|apply aa|apply ae|refine ai ?_ GE337.out|refine ai ?_ GE338.out)⟩
  ·replace c5:=Bool.eq_false_iff.mpr c5
   subst c5
   have H1:(some false)=some r:=by rw[if_neg (show ¬ (false=true) by decide)] at H;exact H
   clear H
   have H:=H1
   clear H1
   obtain rfl:=Option.some.inj H
   go_enter Tryd.func8,Tryd.ntmps8
   go_wp2_with (first|((with_reducible refine aJ (N:=2) rfl ?_);refine aI ?hg (N:=2) ?hd (cs:=#[.int .i64 a0_0,.int .i64 a0_1,.slice A0_2 l0_2.length c0_2,.slice A0_3 l0_3.length c0_3,.slice A0_4 l0_4.length c0_4]) (t:=35) ?hr ?_;(case hd=>rfl);(case hg=>rfl);(case hr=>first|(go_simp;done)|(go_simp;rfl));intro gb337 hg w26 hbox hb;have BK337:=av (hbox);have GW337:=av ((by rw[hg];exact(ay (by with_reducible repeat(first|exact HB.out|apply af|apply aa|apply ae))):w.heap.size≤gb337));have GE337:=av ((by rw[hg];exact(ay (by with_reducible repeat(first|exact HB.out|apply af|apply aa|apply ae))):w.heap.size≤gb337));replace HB:=av (aA (by with_reducible repeat(first|exact HB.out|apply af|apply aa|apply ae)) hb);clear hb hbox hg)|((with_reducible refine aJ (N:=3) rfl ?_);refine aI ?hg (N:=3) ?hd (cs:=#[.int .i64 a1_0,.int .i64 a1_1,.slice A1_2 l1_2.length c1_2,.slice A1_3 l1_3.length c1_3,.slice A1_4 l1_4.length c1_4]) (t:=35) ?hr ?_;(case hd=>rfl);(case hg=>rfl);(case hr=>first|(go_simp;done)|(go_simp;rfl));intro gb338 hg w27 hbox hb;have BK338:=av (hbox);have GW338:=av ((by rw[hg];exact(ay (by with_reducible repeat(first|exact HB.out|apply af|apply aa|apply ae|refine ai ?_ GE337.out))):w.heap.size≤gb338));have GE338:=av ((by rw[hg];exact(ay (by with_reducible repeat(first|exact HB.out|apply af|apply aa|apply ae|refine ai ?_ GE337.out))):w.heap.size≤gb338));replace HB:=av (aA (by with_reducible repeat(first|exact HB.out|apply af|apply aa|apply ae|refine ai ?_ GE337.out)) hb);have NB337_338:=av ((by rw[hg];exact Nat.ne_of_lt (aN (g:=gb337) (o:=.cells #[.int .i64 a0_0,.int .i64 a0_1,.slice A0_2 l0_2.length c0_2,.slice A0_3 l0_3.length c0_3,.slice A0_4 l0_4.length c0_4] 35 (0,0)) (by(with_reducible repeat(first|apply aj|apply au|apply ak));exact BK337.out)):gb337≠gb338));have NB338_337:=av ((by rw[hg];exact Nat.ne_of_gt (aN (g:=gb337) (o:=.cells #[.int .i64 a0_0,.int .i64 a0_1,.slice A0_2 l0_2.length c0_2,.slice A0_3 l0_3.length c0_3,.slice A0_4 l0_4.length c0_4] 35 (0,0)) (by(with_reducible repeat(first|apply aj|apply au|apply ak));exact BK337.out)):gb338≠gb337));replace BK337:=av (aG (g:=gb337) (o:=.cells #[.int .i64 a0_0,.int .i64 a0_1,.slice A0_2 l0_2.length c0_2,.slice A0_3 l0_3.length c0_3,.slice A0_4 l0_4.length c0_4] 35 (0,0)) (by(with_reducible repeat(first|apply aj|apply au|apply ak));exact BK337.out) hb);clear hb hbox hg;have hnb28:=NB337_338.out;have hnc28:=NB338_337.out;have hcz29_0:w27.cell? ⟨gb337,0,none⟩=some (.int .i64 a0_0):=(ag BK337.out 0).trans rfl;have hcz29_1:w27.cell? ⟨gb337,1,none⟩=some (.int .i64 a0_1):=(ag BK337.out 1).trans rfl;have hcz29_2:w27.cell? ⟨gb337,2,none⟩=some (.slice A0_2 l0_2.length c0_2):=(ag BK337.out 2).trans rfl;have hcz29_3:w27.cell? ⟨gb337,3,none⟩=some (.slice A0_3 l0_3.length c0_3):=(ag BK337.out 3).trans rfl;have hcz29_4:w27.cell? ⟨gb337,4,none⟩=some (.slice A0_4 l0_4.length c0_4):=(ag BK337.out 4).trans rfl;have hfz29_0:=ah BK337.out 0;have hfz29_1:=ah BK337.out 1;have hfz29_2:=ah BK337.out 2;have hfz29_3:=ah BK337.out 3;have hfz29_4:=ah BK337.out 4;have hcz30_0:w27.cell? ⟨gb338,0,none⟩=some (.int .i64 a1_0):=(ag BK338.out 0).trans rfl;have hcz30_1:w27.cell? ⟨gb338,1,none⟩=some (.int .i64 a1_1):=(ag BK338.out 1).trans rfl;have hcz30_2:w27.cell? ⟨gb338,2,none⟩=some (.slice A1_2 l1_2.length c1_2):=(ag BK338.out 2).trans rfl;have hcz30_3:w27.cell? ⟨gb338,3,none⟩=some (.slice A1_3 l1_3.length c1_3):=(ag BK338.out 3).trans rfl;have hcz30_4:w27.cell? ⟨gb338,4,none⟩=some (.slice A1_4 l1_4.length c1_4):=(ag BK338.out 4).trans rfl;have hfz30_0:=ah BK338.out 0;have hfz30_1:=ah BK338.out 1;have hfz30_2:=ah BK338.out 2;have hfz30_3:=ah BK338.out 3;have hfz30_4:=ah BK338.out 4)|((with_reducible refine aK (f:=20) rfl ?_);refine bn (some 14) rfl rfl Tryd.func20 (by kernel_rfl) rfl #[.agg #[.int .i64 a0_1,.slice A0_2 l0_2.length c0_2,.slice A0_3 l0_3.length c0_3],.agg #[.int .i64 a1_1,.slice A1_2 l1_2.length c1_2,.slice A1_3 l1_3.length c1_3]] rfl (by(try simp only[amp_]);first|done|rfl|(simp only[ald_];rfl)) ?_;(with_reducible refine(laws_eqFree.calls k a0_1 _ _ l0_2 _ _ l0_3 a1_1 _ _ l1_2 _ _ l1_3 false _ ?side1 ?side2 ?side3 ?side4 ?side5 ?side6 ?side7 ?side8 A4.out).mono ?_);(case side1=>repeat(first|exact(Kd.aQ HR0_2.out HB.out)|(with_reducible first|apply Kd.aW|apply Kd.aV|apply Kd.aY)));(case side2=>exact HC0_2.out);(case side3=>repeat(first|exact(Kd.aQ HR0_3.out HB.out)|(with_reducible first|apply Kd.aW|apply Kd.aV|apply Kd.aY)));(case side4=>exact HC0_3.out);(case side5=>repeat(first|exact(Kd.aQ HR1_2.out HB.out)|(with_reducible first|apply Kd.aW|apply Kd.aV|apply Kd.aY)));(case side6=>exact HC1_2.out);(case side7=>repeat(first|exact(Kd.aQ HR1_3.out HB.out)|(with_reducible first|apply Kd.aW|apply Kd.aV|apply Kd.aY)));(case side8=>exact HC1_3.out);rintro e w31 ⟨rfl,hb⟩;refine⟨_,rfl,?_⟩;replace BK337:=av (aG (g:=gb337) (o:=.cells #[.int .i64 a0_0,.int .i64 a0_1,.slice A0_2 l0_2.length c0_2,.slice A0_3 l0_3.length c0_3,.slice A0_4 l0_4.length c0_4] 35 (0,0)) (by(with_reducible repeat(first|apply aj|apply au|apply ak));exact BK337.out) hb);replace BK338:=av (aG (g:=gb338) (o:=.cells #[.int .i64 a1_0,.int .i64 a1_1,.slice A1_2 l1_2.length c1_2,.slice A1_3 l1_3.length c1_3,.slice A1_4 l1_4.length c1_4] 35 (0,0)) (by(with_reducible repeat(first|apply aj|apply au|apply ak));exact BK338.out) hb);replace HB:=av (aA (by with_reducible repeat(first|exact HB.out|apply af|apply aa|apply ae|refine ai ?_ GE337.out|refine ai ?_ GE338.out)) hb);(try clear hb);(try clear hb2);(try clear hk);(try clear hi)))
   go_ret
   exact⟨by first|rfl|(simp <;> rfl)|(simp[*] <;> rfl),by with_reducible repeat(first|exact HB.out|apply af|apply aa|apply ae|refine ai ?_ GE337.out|refine ai ?_ GE338.out)⟩
 ·rw[if_neg c3] at H
  have c3b0:(a0_0 == a1_0)=false:=beq_eq_false_iff_ne.mpr c3
  have c3b1:(a0_0 != a1_0)=true:=bne_iff_ne.mpr c3
  obtain rfl:=Option.some.inj H
  go_enter Tryd.func8,Tryd.ntmps8
  go_wp2_with (first|((with_reducible refine aJ (N:=2) rfl ?_);refine aI ?hg (N:=2) ?hd (cs:=#[.int .i64 a0_0,.int .i64 a0_1,.slice A0_2 l0_2.length c0_2,.slice A0_3 l0_3.length c0_3,.slice A0_4 l0_4.length c0_4]) (t:=35) ?hr ?_;(case hd=>rfl);(case hg=>rfl);(case hr=>first|(go_simp;done)|(go_simp;rfl));intro gb337 hg w32 hbox hb;have BK337:=av (hbox);have GW337:=av ((by rw[hg];exact(ay (by with_reducible repeat(first|exact HB.out|apply af|apply aa|apply ae))):w.heap.size≤gb337));have GE337:=av ((by rw[hg];exact(ay (by with_reducible repeat(first|exact HB.out|apply af|apply aa|apply ae))):w.heap.size≤gb337));replace HB:=av (aA (by with_reducible repeat(first|exact HB.out|apply af|apply aa|apply ae)) hb);clear hb hbox hg)|((with_reducible refine aJ (N:=3) rfl ?_);refine aI ?hg (N:=3) ?hd (cs:=#[.int .i64 a1_0,.int .i64 a1_1,.slice A1_2 l1_2.length c1_2,.slice A1_3 l1_3.length c1_3,.slice A1_4 l1_4.length c1_4]) (t:=35) ?hr ?_;(case hd=>rfl);(case hg=>rfl);(case hr=>first|(go_simp;done)|(go_simp;rfl));intro gb338 hg w33 hbox hb;have BK338:=av (hbox);have GW338:=av ((by rw[hg];exact(ay (by with_reducible repeat(first|exact HB.out|apply af|apply aa|apply ae|refine ai ?_ GE337.out))):w.heap.size≤gb338));have GE338:=av ((by rw[hg];exact(ay (by with_reducible repeat(first|exact HB.out|apply af|apply aa|apply ae|refine ai ?_ GE337.out))):w.heap.size≤gb338));replace HB:=av (aA (by with_reducible repeat(first|exact HB.out|apply af|apply aa|apply ae|refine ai ?_ GE337.out)) hb);have NB337_338:=av ((by rw[hg];exact Nat.ne_of_lt (aN (g:=gb337) (o:=.cells #[.int .i64 a0_0,.int .i64 a0_1,.slice A0_2 l0_2.length c0_2,.slice A0_3 l0_3.length c0_3,.slice A0_4 l0_4.length c0_4] 35 (0,0)) (by(with_reducible repeat(first|apply aj|apply au|apply ak));exact BK337.out)):gb337≠gb338));have NB338_337:=av ((by rw[hg];exact Nat.ne_of_gt (aN (g:=gb337) (o:=.cells #[.int .i64 a0_0,.int .i64 a0_1,.slice A0_2 l0_2.length c0_2,.slice A0_3 l0_3.length c0_3,.slice A0_4 l0_4.length c0_4] 35 (0,0)) (by(with_reducible repeat(first|apply aj|apply au|apply ak));exact BK337.out)):gb338≠gb337));replace BK337:=av (aG (g:=gb337) (o:=.cells #[.int .i64 a0_0,.int .i64 a0_1,.slice A0_2 l0_2.length c0_2,.slice A0_3 l0_3.length c0_3,.slice A0_4 l0_4.length c0_4] 35 (0,0)) (by(with_reducible repeat(first|apply aj|apply au|apply ak));exact BK337.out) hb);clear hb hbox hg;have hnb34:=NB337_338.out;have hnc34:=NB338_337.out;have hcz35_0:w33.cell? ⟨gb337,0,none⟩=some (.int .i64 a0_0):=(ag BK337.out 0).trans rfl;have hcz35_1:w33.cell? ⟨gb337,1,none⟩=some (.int .i64 a0_1):=(ag BK337.out 1).trans rfl;have hcz35_2:w33.cell? ⟨gb337,2,none⟩=some (.slice A0_2 l0_2.length c0_2):=(ag BK337.out 2).trans rfl;have hcz35_3:w33.cell? ⟨gb337,3,none⟩=some (.slice A0_3 l0_3.length c0_3):=(ag BK337.out 3).trans rfl;have hcz35_4:w33.cell? ⟨gb337,4,none⟩=some (.slice A0_4 l0_4.length c0_4):=(ag BK337.out 4).trans rfl;have hfz35_0:=ah BK337.out 0;have hfz35_1:=ah BK337.out 1;have hfz35_2:=ah BK337.out 2;have hfz35_3:=ah BK337.out 3;have hfz35_4:=ah BK337.out 4;have hcz36_0:w33.cell? ⟨gb338,0,none⟩=some (.int .i64 a1_0):=(ag BK338.out 0).trans rfl;have hcz36_1:w33.cell? ⟨gb338,1,none⟩=some (.int .i64 a1_1):=(ag BK338.out 1).trans rfl;have hcz36_2:w33.cell? ⟨gb338,2,none⟩=some (.slice A1_2 l1_2.length c1_2):=(ag BK338.out 2).trans rfl;have hcz36_3:w33.cell? ⟨gb338,3,none⟩=some (.slice A1_3 l1_3.length c1_3):=(ag BK338.out 3).trans rfl;have hcz36_4:w33.cell? ⟨gb338,4,none⟩=some (.slice A1_4 l1_4.length c1_4):=(ag BK338.out 4).trans rfl;have hfz36_0:=ah BK338.out 0;have hfz36_1:=ah BK338.out 1;have hfz36_2:=ah BK338.out 2;have hfz36_3:=ah BK338.out 3;have hfz36_4:=ah BK338.out 4))
  go_ret
  exact⟨by first|rfl|(simp <;> rfl)|(simp[*] <;> rfl),by with_reducible repeat(first|exact HB.out|apply af|apply aa|apply ae|refine ai ?_ GE337.out|refine ai ?_ GE338.out)⟩
end Go.Proofs.YtdghdjachbbdmaaDoor.PFre
