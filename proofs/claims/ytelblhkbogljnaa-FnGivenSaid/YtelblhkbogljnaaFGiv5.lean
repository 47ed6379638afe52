import Derived.Test.YtelblhkbogljnaaFGiv4
namespace Go.Proofs.Ytelblhkbogljnaa.PFre
open Go.RowKit Go.Proofs.YtelblhkbogljnaaW.PrintWords Go.Proofs.YtelblhkbogljnaaW.PrintLast Go.Proofs.YtelblhkbogljnaaW.PrintMore
attribute [local go_sem] bG bH bS bT bB bA bJ bI
set_option linter.unusedVariables false
set_option linter.unusedSimpArgs false
def spec_l5Cut.f (l0:List (S35)) (a1:Int) (a2_0:Int) (a2_1:Int):Option ((List (S35))):=if 0≤a1 then (if a1 < (l0.length:Int) then (if a1≤(l0.length:Int) then ((some (l0.take (a1:Int).toNat:List (S35))).bind fun y221=>(if ([]:List (S35)).length+y221.length<8796093022208 then ((some (([]:List (S35))++y221:List (S35))).bind fun y225=>(if a2_0 > ((ax l0 a1).f0) then (if y225.length<8796093022208 then ((some (y225++[(⟨(ax l0 a1).f0,wrap64 (a2_0 - ((ax l0 a1).f0))⟩:S35)]:List (S35))).bind fun y228=>(if (wrap64 (a2_0+a2_1)) < (wrap64 (((ax l0 a1).f0) + ((ax l0 a1).f1))) then (if y228.length<8796093022208 then ((some (y228++[(⟨wrap64 (a2_0+a2_1),wrap64 ((wrap64 (((ax l0 a1).f0) + ((ax l0 a1).f1))) - (wrap64 (a2_0+a2_1)))⟩:S35)]:List (S35))).bind fun y231=>(if 0≤(wrap64 (a1+1)) then (if (wrap64 (a1+1))≤(l0.length:Int) then ((some (l0.drop ((wrap64 (a1+1)):Int).toNat:List (S35))).bind fun y234=>(if y231.length+y234.length<8796093022208 then (some (y231++y234)) else (none))) else (none)) else (none))) else (none)) else (if 0≤(wrap64 (a1+1)) then (if (wrap64 (a1+1))≤(l0.length:Int) then ((some (l0.drop ((wrap64 (a1+1)):Int).toNat:List (S35))).bind fun y241=>(if y228.length+y241.length<8796093022208 then (some (y228++y241)) else (none))) else (none)) else (none)))) else (none)) else (if (wrap64 (a2_0+a2_1)) < (wrap64 (((ax l0 a1).f0) + ((ax l0 a1).f1))) then (if y225.length<8796093022208 then ((some (y225++[(⟨wrap64 (a2_0+a2_1),wrap64 ((wrap64 (((ax l0 a1).f0) + ((ax l0 a1).f1))) - (wrap64 (a2_0+a2_1)))⟩:S35)]:List (S35))).bind fun y248=>(if 0≤(wrap64 (a1+1)) then (if (wrap64 (a1+1))≤(l0.length:Int) then ((some (l0.drop ((wrap64 (a1+1)):Int).toNat:List (S35))).bind fun y251=>(if y248.length+y251.length<8796093022208 then (some (y248++y251)) else (none))) else (none)) else (none))) else (none)) else (if 0≤(wrap64 (a1+1)) then (if (wrap64 (a1+1))≤(l0.length:Int) then ((some (l0.drop ((wrap64 (a1+1)):Int).toNat:List (S35))).bind fun y258=>(if y225.length+y258.length<8796093022208 then (some (y225++y258)) else (none))) else (none)) else (none))))) else (none))) else (none)) else (none)) else (none)
set_option maxHeartbeats 8000000 in
set_option maxRecDepth 100000 in
theorem spec_l5Cut.calls (A0 : Option Addr) (c0 : Nat) (l0 : List (S35)) (a1 : Int) (a2_0 : Int) (a2_1 : Int) (r : List (S35)) (w : World) (hr0 : Kd.C k35 w A0 l0.length l0) (hc0 : l0.length ≤ c0) (h : spec_l5Cut.f l0 a1 a2_0 a2_1 = some r) :
  Calls Try.prog 57 #[.slice A0 l0.length c0,.int .i64 a1,.agg #[.int .i64 a2_0,.int .i64 a2_1]] w fun e w'=>∃ v0_:Value,e = .returned (v0_)∧Kd.R k35 35 w' w.heap.size (fun _=>True) v0_ r∧Below w.heap.size w w':=by
 have hu35:=Try.underlying35
 have HR0:=au hr0
 have HC0:=au hc0
 clear hr0 hc0
 have HB:=au (Below.refl w.heap.size w)
 have H:(if 0≤a1 then (if a1 < (l0.length:Int) then (if a1≤(l0.length:Int) then ((some (l0.take (a1:Int).toNat:List (S35))).bind fun y221=>(if ([]:List (S35)).length+y221.length<8796093022208 then ((some (([]:List (S35))++y221:List (S35))).bind fun y225=>(if a2_0 > ((ax l0 a1).f0) then (if y225.length<8796093022208 then ((some (y225++[(⟨(ax l0 a1).f0,wrap64 (a2_0 - ((ax l0 a1).f0))⟩:S35)]:List (S35))).bind fun y228=>(if (wrap64 (a2_0+a2_1)) < (wrap64 (((ax l0 a1).f0) + ((ax l0 a1).f1))) then (if y228.length<8796093022208 then ((some (y228++[(⟨wrap64 (a2_0+a2_1),wrap64 ((wrap64 (((ax l0 a1).f0) + ((ax l0 a1).f1))) - (wrap64 (a2_0+a2_1)))⟩:S35)]:List (S35))).bind fun y231=>(if 0≤(wrap64 (a1+1)) then (if (wrap64 (a1+1))≤(l0.length:Int) then ((some (l0.drop ((wrap64 (a1+1)):Int).toNat:List (S35))).bind fun y234=>(if y231.length+y234.length<8796093022208 then (some (y231++y234)) else (none))) else (none)) else (none))) else (none)) else (if 0≤(wrap64 (a1+1)) then (if (wrap64 (a1+1))≤(l0.length:Int) then ((some (l0.drop ((wrap64 (a1+1)):Int).toNat:List (S35))).bind fun y241=>(if y228.length+y241.length<8796093022208 then (some (y228++y241)) else (none))) else (none)) else (none)))) else (none)) else (if (wrap64 (a2_0+a2_1)) < (wrap64 (((ax l0 a1).f0) + ((ax l0 a1).f1))) then (if y225.length<8796093022208 then ((some (y225++[(⟨wrap64 (a2_0+a2_1),wrap64 ((wrap64 (((ax l0 a1).f0) + ((ax l0 a1).f1))) - (wrap64 (a2_0+a2_1)))⟩:S35)]:List (S35))).bind fun y248=>(if 0≤(wrap64 (a1+1)) then (if (wrap64 (a1+1))≤(l0.length:Int) then ((some (l0.drop ((wrap64 (a1+1)):Int).toNat:List (S35))).bind fun y251=>(if y248.length+y251.length<8796093022208 then (some (y248++y251)) else (none))) else (none)) else (none))) else (none)) else (if 0≤(wrap64 (a1+1)) then (if (wrap64 (a1+1))≤(l0.length:Int) then ((some (l0.drop ((wrap64 (a1+1)):Int).toNat:List (S35))).bind fun y258=>(if y225.length+y258.length<8796093022208 then (some (y225++y258)) else (none))) else (none)) else (none))))) else (none))) else (none)) else (none)) else (none))=some r:=h
 clear h
 by_cases c4:0≤a1
 ·rw [if_pos c4] at H
  have c4b0:decide (0≤a1)=true:=decide_eq_true c4
  clear c4
  by_cases c5:a1 < (l0.length:Int)
  ·rw [if_pos c5] at H
   have c5b0:decide (a1 < (l0.length:Int))=true:=decide_eq_true c5
   clear c5
   have c6b0:=eq_true (of_decide_eq_true (by assumption):0≤a1)
   by_cases c7:a1≤(l0.length:Int)
   ·rw [if_pos c7] at H
    have c7b0:=eq_true c7
    have c7b1:decide (a1≤(l0.length:Int))=true:=decide_eq_true c7
    clear c7
    obtain⟨y221,hy221⟩:∃ y_:List (S35),y_ = (l0.take (a1:Int).toNat):=⟨_,rfl⟩
    replace H:(if ([]:List (S35)).length+y221.length<8796093022208 then ((some (([]:List (S35))++y221:List (S35))).bind fun y225=>(if a2_0 > ((ax l0 a1).f0) then (if y225.length<8796093022208 then ((some (y225++[(⟨(ax l0 a1).f0,wrap64 (a2_0 - ((ax l0 a1).f0))⟩:S35)]:List (S35))).bind fun y228=>(if (wrap64 (a2_0+a2_1)) < (wrap64 (((ax l0 a1).f0) + ((ax l0 a1).f1))) then (if y228.length<8796093022208 then ((some (y228++[(⟨wrap64 (a2_0+a2_1),wrap64 ((wrap64 (((ax l0 a1).f0) + ((ax l0 a1).f1))) - (wrap64 (a2_0+a2_1)))⟩:S35)]:List (S35))).bind fun y231=>(if 0≤(wrap64 (a1+1)) then (if (wrap64 (a1+1))≤(l0.length:Int) then ((some (l0.drop ((wrap64 (a1+1)):Int).toNat:List (S35))).bind fun y234=>(if y231.length+y234.length<8796093022208 then (some (y231++y234)) else (none))) else (none)) else (none))) else (none)) else (if 0≤(wrap64 (a1+1)) then (if (wrap64 (a1+1))≤(l0.length:Int) then ((some (l0.drop ((wrap64 (a1+1)):Int).toNat:List (S35))).bind fun y241=>(if y228.length+y241.length<8796093022208 then (some (y228++y241)) else (none))) else (none)) else (none)))) else (none)) else (if (wrap64 (a2_0+a2_1)) < (wrap64 (((ax l0 a1).f0) + ((ax l0 a1).f1))) then (if y225.length<8796093022208 then ((some (y225++[(⟨wrap64 (a2_0+a2_1),wrap64 ((wrap64 (((ax l0 a1).f0) + ((ax l0 a1).f1))) - (wrap64 (a2_0+a2_1)))⟩:S35)]:List (S35))).bind fun y248=>(if 0≤(wrap64 (a1+1)) then (if (wrap64 (a1+1))≤(l0.length:Int) then ((some (l0.drop ((wrap64 (a1+1)):Int).toNat:List (S35))).bind fun y251=>(if y248.length+y251.length<8796093022208 then (some (y248++y251)) else (none))) else (none)) else (none))) else (none)) else (if 0≤(wrap64 (a1+1)) then (if (wrap64 (a1+1))≤(l0.length:Int) then ((some (l0.drop ((wrap64 (a1+1)):Int).toNat:List (S35))).bind fun y258=>(if y225.length+y258.length<8796093022208 then (some (y225++y258)) else (none))) else (none)) else (none))))) else (none))=some r:=by first|(rw[hy221];with_reducible exact H)|(have H2_:=(Option.bind_some _ _).symm.trans H;rw[hy221];with_reducible exact H2_)|(have H2_:=(Option.bind_some _ _).symm.trans H;with_reducible exact H2_)|with_reducible exact H|(rw[hy221];exact H)|exact H
    have Ny221:=au hy221
    clear hy221
    by_cases c8:([]:List (S35)).length+y221.length<8796093022208
    ·rw [if_pos c8] at H
     have LMc8:=au c8
     clear c8
     obtain⟨y225,hy225⟩:∃ y_:List (S35),y_ = (([]:List (S35))++y221):=⟨_,rfl⟩
     replace H:(if a2_0 > ((ax l0 a1).f0) then (if y225.length<8796093022208 then ((some (y225++[(⟨(ax l0 a1).f0,wrap64 (a2_0 - ((ax l0 a1).f0))⟩:S35)]:List (S35))).bind fun y228=>(if (wrap64 (a2_0+a2_1)) < (wrap64 (((ax l0 a1).f0) + ((ax l0 a1).f1))) then (if y228.length<8796093022208 then ((some (y228++[(⟨wrap64 (a2_0+a2_1),wrap64 ((wrap64 (((ax l0 a1).f0) + ((ax l0 a1).f1))) - (wrap64 (a2_0+a2_1)))⟩:S35)]:List (S35))).bind fun y231=>(if 0≤(wrap64 (a1+1)) then (if (wrap64 (a1+1))≤(l0.length:Int) then ((some (l0.drop ((wrap64 (a1+1)):Int).toNat:List (S35))).bind fun y234=>(if y231.length+y234.length<8796093022208 then (some (y231++y234)) else (none))) else (none)) else (none))) else (none)) else (if 0≤(wrap64 (a1+1)) then (if (wrap64 (a1+1))≤(l0.length:Int) then ((some (l0.drop ((wrap64 (a1+1)):Int).toNat:List (S35))).bind fun y241=>(if y228.length+y241.length<8796093022208 then (some (y228++y241)) else (none))) else (none)) else (none)))) else (none)) else (if (wrap64 (a2_0+a2_1)) < (wrap64 (((ax l0 a1).f0) + ((ax l0 a1).f1))) then (if y225.length<8796093022208 then ((some (y225++[(⟨wrap64 (a2_0+a2_1),wrap64 ((wrap64 (((ax l0 a1).f0) + ((ax l0 a1).f1))) - (wrap64 (a2_0+a2_1)))⟩:S35)]:List (S35))).bind fun y248=>(if 0≤(wrap64 (a1+1)) then (if (wrap64 (a1+1))≤(l0.length:Int) then ((some (l0.drop ((wrap64 (a1+1)):Int).toNat:List (S35))).bind fun y251=>(if y248.length+y251.length<8796093022208 then (some (y248++y251)) else (none))) else (none)) else (none))) else (none)) else (if 0≤(wrap64 (a1+1)) then (if (wrap64 (a1+1))≤(l0.length:Int) then ((some (l0.drop ((wrap64 (a1+1)):Int).toNat:List (S35))).bind fun y258=>(if y225.length+y258.length<8796093022208 then (some (y225++y258)) else (none))) else (none)) else (none))))=some r:=by first|(rw[hy225];with_reducible exact H)|(have H2_:=(Option.bind_some _ _).symm.trans H;rw[hy225];with_reducible exact H2_)|(have H2_:=(Option.bind_some _ _).symm.trans H;with_reducible exact H2_)|with_reducible exact H|(rw[hy225];exact H)|exact H
     have Ny225:=au hy225
     clear hy225
     by_cases c9:a2_0 > ((ax l0 a1).f0)
     ·rw [if_pos c9] at H
      have c9b0:decide (((ax l0 a1).f0)<a2_0)=true:=decide_eq_true c9
      clear c9
      by_cases c10:y225.length<8796093022208
      ·rw [if_pos c10] at H
       have LMc10:=au c10
       clear c10
       obtain⟨y228,hy228⟩:∃ y_:List (S35),y_ = (y225++[(⟨(ax l0 a1).f0,wrap64 (a2_0 - ((ax l0 a1).f0))⟩:S35)]):=⟨_,rfl⟩
       replace H:(if (wrap64 (a2_0+a2_1)) < (wrap64 (((ax l0 a1).f0) + ((ax l0 a1).f1))) then (if y228.length<8796093022208 then ((some (y228++[(⟨wrap64 (a2_0+a2_1),wrap64 ((wrap64 (((ax l0 a1).f0) + ((ax l0 a1).f1))) - (wrap64 (a2_0+a2_1)))⟩:S35)]:List (S35))).bind fun y231=>(if 0≤(wrap64 (a1+1)) then (if (wrap64 (a1+1))≤(l0.length:Int) then ((some (l0.drop ((wrap64 (a1+1)):Int).toNat:List (S35))).bind fun y234=>(if y231.length+y234.length<8796093022208 then (some (y231++y234)) else (none))) else (none)) else (none))) else (none)) else (if 0≤(wrap64 (a1+1)) then (if (wrap64 (a1+1))≤(l0.length:Int) then ((some (l0.drop ((wrap64 (a1+1)):Int).toNat:List (S35))).bind fun y241=>(if y228.length+y241.length<8796093022208 then (some (y228++y241)) else (none))) else (none)) else (none)))=some r:=by first|(rw[hy228];with_reducible exact H)|(have H2_:=(Option.bind_some _ _).symm.trans H;rw[hy228];with_reducible exact H2_)|(have H2_:=(Option.bind_some _ _).symm.trans H;with_reducible exact H2_)|with_reducible exact H|(rw[hy228];exact H)|exact H
       have Ny228:=au hy228
       clear hy228
       by_cases c11:(wrap64 (a2_0+a2_1)) < (wrap64 (((ax l0 a1).f0) + ((ax l0 a1).f1)))
       ·rw [if_pos c11] at H
        have c11b0:decide ((wrap64 (a2_0+a2_1)) < (wrap64 (((ax l0 a1).f0) + ((ax l0 a1).f1))))=true:=decide_eq_true c11
        clear c11
        by_cases c12:y228.length<8796093022208
        ·rw [if_pos c12] at H
         have LMc12:=au c12
         clear c12
         obtain⟨y231,hy231⟩:∃ y_:List (S35),y_ = (y228++[(⟨wrap64 (a2_0+a2_1),wrap64 ((wrap64 (((ax l0 a1).f0) + ((ax l0 a1).f1))) - (wrap64 (a2_0+a2_1)))⟩:S35)]):=⟨_,rfl⟩
         replace H:(if 0≤(wrap64 (a1+1)) then (if (wrap64 (a1+1))≤(l0.length:Int) then ((some (l0.drop ((wrap64 (a1+1)):Int).toNat:List (S35))).bind fun y234=>(if y231.length+y234.length<8796093022208 then (some (y231++y234)) else (none))) else (none)) else (none))=some r:=by first|(rw[hy231];with_reducible exact H)|(have H2_:=(Option.bind_some _ _).symm.trans H;rw[hy231];with_reducible exact H2_)|(have H2_:=(Option.bind_some _ _).symm.trans H;with_reducible exact H2_)|with_reducible exact H|(rw[hy231];exact H)|exact H
         have Ny231:=au hy231
         clear hy231
         obtain⟨ji13,hji13⟩:∃ j_:Int,(wrap64 (a1+1))=j_:=⟨_,rfl⟩
         replace H:(if 0≤(ji13) then (if (ji13)≤(l0.length:Int) then ((some (l0.drop ((ji13):Int).toNat:List (S35))).bind fun y234=>(if y231.length+y234.length<8796093022208 then (some (y231++y234)) else (none))) else (none)) else (none))=some r:=by first|(rw[hji13] at H;exact H)|(simp only[hji13] at H ⊢;exact H)
         have hji13w:(IntKind.i64.wrap (a1+1))=ji13:=(kE _).trans hji13
         by_cases c14:0≤(ji13)
         ·rw[if_pos c14] at H
          have c14b0:=eq_true c14
          have c14b1:decide (0≤(ji13))=true:=decide_eq_true c14
          clear c14
          by_cases c15:(ji13)≤(l0.length:Int)
          ·rw[if_pos c15] at H
           have c15b0:=eq_true c15
           have c15b1:decide ((ji13)≤(l0.length:Int))=true:=decide_eq_true c15
           clear c15
           obtain⟨y234,hy234⟩:∃ y_:List (S35),y_ = (l0.drop ((ji13):Int).toNat):=⟨_,rfl⟩
           replace H:(if y231.length+y234.length<8796093022208 then (some (y231++y234)) else (none))=some r:=by first|(rw[hy234];with_reducible exact H)|(have H2_:=(Option.bind_some _ _).symm.trans H;rw[hy234];with_reducible exact H2_)|(have H2_:=(Option.bind_some _ _).symm.trans H;with_reducible exact H2_)|with_reducible exact H|(rw[hy234];exact H)|exact H
           have Ny234:=au hy234
           clear hy234
           by_cases c16:y231.length+y234.length<8796093022208
           ·rw[if_pos c16] at H
            have LMc16:=au c16
            clear c16
            obtain⟨y238,hy238⟩:∃ y_:List (S35),y_ = (y231++y234):=⟨_,rfl⟩
            replace H:(some y238)=some r:=by first|(rw[hy238];with_reducible exact H)|(have H2_:=(Option.bind_some _ _).symm.trans H;rw[hy238];with_reducible exact H2_)|(have H2_:=(Option.bind_some _ _).symm.trans H;with_reducible exact H2_)|with_reducible exact H|(rw[hy238];exact H)|exact H
            have Ny238:=au hy238
            clear hy238
            obtain rfl:=Option.some.inj H
            go_enter Try.func57,Try.ntmps57
            go_wp2_with (first|((with_reducible refine aM (N:=5) rfl ?_);refine aJ ?hg (N:=5) ?hd (cs:=#[.int .i64 a2_0,.int .i64 a2_1]) (t:=35) ?hr ?_;(case hd=>rfl);(case hg=>rfl);(case hr=>first|(go_simp;done)|(go_simp;rfl));intro gb218 hg w17 hbox hb;have BK218:=au (hbox);have GW218:=au ((by rw[hg];exact(az (by with_reducible repeat(first|exact HB.out|apply ah|apply aa|apply ai))):w.heap.size≤gb218));have GE218:=au ((by rw[hg];exact(az (by with_reducible repeat(first|exact HB.out|apply ah|apply aa|apply ai))):w.heap.size≤gb218));replace HB:=au (aA (by with_reducible repeat(first|exact HB.out|apply ah|apply aa|apply ai)) hb);clear hb hbox hg;have p219:0≤(a1:Int):=of_decide_eq_true (by assumption);have q219:a1 < (l0.length:Int):=of_decide_eq_true (by assumption);obtain⟨ad219,e219,hx219_0,hx219_1⟩:=bF HR0.out a1 p219 q219;cases e219;replace hx219_0:=(HB.out.cell (World.block_lt_of_cell? w _ hx219_0)).trans hx219_0;replace hx219_1:=(HB.out.cell (World.block_lt_of_cell? w _ hx219_1)).trans hx219_1;replace p219:=eq_true p219;replace q219:=eq_true q219)|((with_reducible refine aM (N:=7) rfl ?_);refine aJ ?hg (N:=7) ?hd (cs:=#[.int .i64 0,.int .i64 0]) (t:=35) ?hr ?_;(case hd=>rfl);(case hg=>rfl);(case hr=>first|(go_simp;done)|(go_simp;rfl));intro gb220 hg w18 hbox hb;have BK220:=au (hbox);have GW220:=au ((by rw[hg];exact(az (by with_reducible repeat(first|exact HB.out|apply ah|apply aa|apply ai|refine ae ?_ GE218.out))):w.heap.size≤gb220));have GE220:=au ((by rw[hg];exact(az (by with_reducible repeat(first|exact HB.out|apply ah|apply aa|apply ai|refine ae ?_ GE218.out))):w.heap.size≤gb220));replace HB:=au (aA (by with_reducible repeat(first|exact HB.out|apply ah|apply aa|apply ai|refine ae ?_ GE218.out)) hb);have NB218_220:=au ((by rw[hg];exact Nat.ne_of_lt (aH (g:=gb218) (o:=.cells #[.int .i64 a2_0,.int .i64 a2_1] 35 (0,0)) (by(with_reducible repeat(first|apply ag|apply aj|apply af));exact BK218.out)):gb218≠gb220));have NB220_218:=au ((by rw[hg];exact Nat.ne_of_gt (aH (g:=gb218) (o:=.cells #[.int .i64 a2_0,.int .i64 a2_1] 35 (0,0)) (by(with_reducible repeat(first|apply ag|apply aj|apply af));exact BK218.out)):gb220≠gb218));replace BK218:=au (ay (g:=gb218) (o:=.cells #[.int .i64 a2_0,.int .i64 a2_1] 35 (0,0)) (by(with_reducible repeat(first|apply ag|apply aj|apply af));exact BK218.out) hb);clear hb hbox hg;have hnb19:=NB220_218.out;have hnc19:=NB218_220.out;have hcz20_0:w18.cell? ⟨gb220,0,none⟩=some (.int .i64 0):=(ak BK220.out 0).trans rfl;have hcz20_1:w18.cell? ⟨gb220,1,none⟩=some (.int .i64 0):=(ak BK220.out 1).trans rfl;have hfz20_0:=av BK220.out 0;have hfz20_1:=av BK220.out 1)|((with_reducible refine gu (t:=35) (p:=7) rfl ?_);refine fG (t:=35) (p:=7) (v:=?vo_w21) (w1:=((w18.setCell ⟨gb220,0,none⟩ (.int .i64 ((ax l0 a1).f0))).setCell ⟨gb220,1,none⟩ (.int .i64 ((ax l0 a1).f1)))) ?hg ?ho ?hn ?hr ?_;(case ho=>rfl);(case hg=>rfl);(case hn=>rfl);(case hr=>first|(go_simp;done)|(go_simp;rfl));intro w21 hw;have n0_:Aside0 (w21.heap[gb218]? = some (.cells #[.int .i64 a2_0,.int .i64 a2_1] 35 (0,0))):=⟨(by rw[hw];exact(by(with_reducible repeat(first|apply ag|apply aj|apply af));refine aG ?_ NB218_220.out _;(with_reducible repeat(first|apply ag|apply aj|apply af));refine aG ?_ NB218_220.out _;(with_reducible repeat(first|apply ag|apply aj|apply af));exact BK218.out))⟩;have n1_:Aside0 (w21.heap[gb220]? = some (.cells #[.int .i64 ((ax l0 a1).f0),.int .i64 ((ax l0 a1).f1)] 35 (0,0))):=⟨(by rw[hw];exact(by(with_reducible repeat(first|apply ag|apply aj|apply af));refine aK (cs:=#[.int .i64 ((ax l0 a1).f0),.int .i64 0]) ?_ 1 _ rfl;(with_reducible repeat(first|apply ag|apply aj|apply af));refine aK (cs:=#[.int .i64 0,.int .i64 0]) ?_ 0 _ rfl;(with_reducible repeat(first|apply ag|apply aj|apply af));exact BK220.out))⟩;have n2_:Aside0 (Below w.heap.size w w21):=⟨(by rw[hw];exact(by with_reducible repeat(first|exact HB.out|apply ah|apply aa|apply ai|refine ae ?_ GE218.out|refine ae ?_ GE220.out)))⟩;clear hw;clear BK218;clear BK220;clear HB;have BK218:=n0_;have BK220:=n1_;have HB:=n2_;clear n0_ n1_ n2_;have q22:(a1:Int)≤((l0.length:Int):Int):=of_decide_eq_true (by assumption);obtain⟨i022,hi022,_,hsz22,_⟩:=info_parts bV;have hroom22:l0.length≤c0:=HC0.out;have hC22:Kd.C k35 _ (some ad219) l0.length l0:=HR0.out;have hcut22:=jF (P:=Try.prog) 22 35 .i64 Try.underlying22 hi022 (some ad219) l0.length c0 a1 (of_decide_eq_true (by assumption)) q22 hroom22;have hr22:=Kd.fJ (m:=(a1:Int).toNat) hC22 (by omega);have hy22:y221.length = (a1:Int).toNat:=(by rw[Ny221.out,List.length_take];omega);rw[← Ny221.out] at hr22;rw[← hy22] at hcut22;have HR224:=au hr22;have HC224:=au (show y221.length≤c0 from by omega);clear hr22 hC22 hroom22 hi022 hsz22;have KY22:=au hy22;clear hy22;replace q22:=eq_true q22)|((with_reducible refine bu (b:=.append) (xs:=#[.tmp 14,.tmp 17]) rfl ?_);at_builtin;refine Kd.bY k35 (w0:=w) w.heap.size rfl (.tmp 14) (.tmp 17) 22 35 (.agg #[(.int .i64 0),(.int .i64 0)]) 16 rfl Try.underlying22 bV rfl (by decide) (by omega) (.slice none 0 0) ([]:List (S35)) y221 _ _ _ (fun k_=>k_≠gb218∧k_≠gb220) (fun _=>False) rfl rfl ?aO ?aR (fun _ _ h=>h) (fun _ h=>h.elim) ?aF ?aB ?aS ?aL ?_;(case aR=>repeat(first|exact(Kd.aN HR224.out HB.out)|(with_reducible first|apply Kd.aY|apply Kd.aZ|apply Kd.bn)));(case aB=>exact(by with_reducible repeat(first|exact HB.out|apply ah|apply aa|apply ai|refine ae ?_ GE218.out|refine ae ?_ GE220.out)));(case aF=>exact(fun k_ hk=>⟨Kd.bZ (g:=gb218) (o:=.cells #[.int .i64 a2_0,.int .i64 a2_1] 35 (0,0)) (by(with_reducible repeat(first|apply ag|apply aj|apply af));exact BK218.out) k_ hk,Kd.bZ (g:=gb220) (o:=.cells #[.int .i64 ((ax l0 a1).f0),.int .i64 ((ax l0 a1).f1)] 35 (0,0)) (by(with_reducible repeat(first|apply ag|apply aj|apply af));exact BK220.out) k_ hk⟩));(case aO=>exact((Kd.dn _ _ _ _ (fun k_=>k_≠gb218∧k_≠gb220))));(case aS=>exact(az (by with_reducible repeat(first|exact HB.out|apply ah|apply aa|apply ai|refine ae ?_ GE218.out|refine ae ?_ GE220.out))));(case aL=>have:=LMc8.out;omega);intro v226 w23 ho hb hg hat;rw[← Ny225.out] at ho;replace BK218:=au (bf (g:=gb218) (o:=.cells #[.int .i64 a2_0,.int .i64 a2_1] 35 (0,0)) (by(with_reducible repeat(first|apply ag|apply aj|apply af));exact BK218.out) hg (by simp[Value.ownBlock]));replace BK220:=au (bf (g:=gb220) (o:=.cells #[.int .i64 ((ax l0 a1).f0),.int .i64 ((ax l0 a1).f1)] 35 (0,0)) (by(with_reducible repeat(first|apply ag|apply aj|apply af));exact BK220.out) hg (by simp[Value.ownBlock]));replace HB:=au (hb);have HO227:=au (ho);clear ho hb hg hat;have hcz24_0:w23.cell? ⟨gb218,0,none⟩=some (.int .i64 a2_0):=(ak BK218.out 0).trans rfl;have hcz24_1:w23.cell? ⟨gb218,1,none⟩=some (.int .i64 a2_1):=(ak BK218.out 1).trans rfl;have hfz24_0:=av BK218.out 0;have hfz24_1:=av BK218.out 1;have hcz25_0:w23.cell? ⟨gb220,0,none⟩=some (.int .i64 ((ax l0 a1).f0)):=(ak BK220.out 0).trans rfl;have hcz25_1:w23.cell? ⟨gb220,1,none⟩=some (.int .i64 ((ax l0 a1).f1)):=(ak BK220.out 1).trans rfl;have hfz25_0:=av BK220.out 0;have hfz25_1:=av BK220.out 1)|((with_reducible refine bu (b:=.append) (xs:=#[.tmp 24,.tmp 33]) rfl ?_);at_builtin;refine Kd.dH k35 (w0:=w) w.heap.size rfl (.tmp 24) (.tmp 33) 22 35 (.agg #[(.int .i64 0),(.int .i64 0)]) 16 rfl Try.underlying22 bV rfl (by decide) (by omega) v226 y225 (⟨(ax l0 a1).f0,wrap64 (a2_0 - ((ax l0 a1).f0))⟩:S35) [.int .i64 ((ax l0 a1).f0),.int .i64 (wrap64 (a2_0 - ((ax l0 a1).f0)))] (fun k_=>k_≠gb218∧k_≠gb220) (fun _=>False) rfl rfl ?aP (fun _ hk=>hk.elim) ?aF ?aO ?aB ?aS ?aL ?_;(case aP=>exact eu _ _ _ (⟨(ax l0 a1).f0,wrap64 (a2_0 - ((ax l0 a1).f0))⟩:S35));(case aB=>exact(by with_reducible repeat(first|exact HB.out|apply ah|apply aa|apply ai|refine ae ?_ GE218.out|refine ae ?_ GE220.out)));(case aF=>exact(fun k_ hk=>⟨Kd.bZ (g:=gb218) (o:=.cells #[.int .i64 a2_0,.int .i64 a2_1] 35 (0,0)) (by(with_reducible repeat(first|apply ag|apply aj|apply af));exact BK218.out) k_ hk,Kd.bZ (g:=gb220) (o:=.cells #[.int .i64 ((ax l0 a1).f0),.int .i64 ((ax l0 a1).f1)] 35 (0,0)) (by(with_reducible repeat(first|apply ag|apply aj|apply af));exact BK220.out) k_ hk⟩));(case aO=>exact(by(with_reducible repeat(first|apply Kd.aD|apply Kd.aC|apply Kd.aI));exact HO227.out));(case aS=>exact(az (by with_reducible repeat(first|exact HB.out|apply ah|apply aa|apply ai|refine ae ?_ GE218.out|refine ae ?_ GE220.out))));(case aL=>have:=LMc10.out;omega);intro v229 w26 ho hb hg hat;rw[← Ny228.out] at ho;replace BK218:=au (bf (g:=gb218) (o:=.cells #[.int .i64 a2_0,.int .i64 a2_1] 35 (0,0)) (by(with_reducible repeat(first|apply ag|apply aj|apply af));exact BK218.out) hg (Kd.dA HO227.out (fun _ hk=>hk.1)));replace BK220:=au (bf (g:=gb220) (o:=.cells #[.int .i64 ((ax l0 a1).f0),.int .i64 ((ax l0 a1).f1)] 35 (0,0)) (by(with_reducible repeat(first|apply ag|apply aj|apply af));exact BK220.out) hg (Kd.dA HO227.out (fun _ hk=>hk.2)));replace HB:=au (hb);have HO230:=au (ho);clear HO227;clear ho hb hg hat;have hcz27_0:w26.cell? ⟨gb218,0,none⟩=some (.int .i64 a2_0):=(ak BK218.out 0).trans rfl;have hcz27_1:w26.cell? ⟨gb218,1,none⟩=some (.int .i64 a2_1):=(ak BK218.out 1).trans rfl;have hfz27_0:=av BK218.out 0;have hfz27_1:=av BK218.out 1;have hcz28_0:w26.cell? ⟨gb220,0,none⟩=some (.int .i64 ((ax l0 a1).f0)):=(ak BK220.out 0).trans rfl;have hcz28_1:w26.cell? ⟨gb220,1,none⟩=some (.int .i64 ((ax l0 a1).f1)):=(ak BK220.out 1).trans rfl;have hfz28_0:=av BK220.out 0;have hfz28_1:=av BK220.out 1)|((with_reducible refine bu (b:=.append) (xs:=#[.tmp 47,.tmp 57]) rfl ?_);at_builtin;refine Kd.dH k35 (w0:=w) w.heap.size rfl (.tmp 47) (.tmp 57) 22 35 (.agg #[(.int .i64 0),(.int .i64 0)]) 16 rfl Try.underlying22 bV rfl (by decide) (by omega) v229 y228 (⟨wrap64 (a2_0+a2_1),wrap64 ((wrap64 (((ax l0 a1).f0) + ((ax l0 a1).f1))) - (wrap64 (a2_0+a2_1)))⟩:S35) [.int .i64 (wrap64 (a2_0+a2_1)),.int .i64 (wrap64 ((wrap64 (((ax l0 a1).f0) + ((ax l0 a1).f1))) - (wrap64 (a2_0+a2_1))))] (fun k_=>k_≠gb218∧k_≠gb220) (fun _=>False) rfl rfl ?aP (fun _ hk=>hk.elim) ?aF ?aO ?aB ?aS ?aL ?_;(case aP=>exact eu _ _ _ (⟨wrap64 (a2_0+a2_1),wrap64 ((wrap64 (((ax l0 a1).f0) + ((ax l0 a1).f1))) - (wrap64 (a2_0+a2_1)))⟩:S35));(case aB=>exact(by with_reducible repeat(first|exact HB.out|apply ah|apply aa|apply ai|refine ae ?_ GE218.out|refine ae ?_ GE220.out)));(case aF=>exact(fun k_ hk=>⟨Kd.bZ (g:=gb218) (o:=.cells #[.int .i64 a2_0,.int .i64 a2_1] 35 (0,0)) (by(with_reducible repeat(first|apply ag|apply aj|apply af));exact BK218.out) k_ hk,Kd.bZ (g:=gb220) (o:=.cells #[.int .i64 ((ax l0 a1).f0),.int .i64 ((ax l0 a1).f1)] 35 (0,0)) (by(with_reducible repeat(first|apply ag|apply aj|apply af));exact BK220.out) k_ hk⟩));(case aO=>exact(by(with_reducible repeat(first|apply Kd.aD|apply Kd.aC|apply Kd.aI));exact HO230.out));(case aS=>exact(az (by with_reducible repeat(first|exact HB.out|apply ah|apply aa|apply ai|refine ae ?_ GE218.out|refine ae ?_ GE220.out))));(case aL=>have:=LMc12.out;omega);intro v232 w29 ho hb hg hat;rw[← Ny231.out] at ho;replace BK218:=au (bf (g:=gb218) (o:=.cells #[.int .i64 a2_0,.int .i64 a2_1] 35 (0,0)) (by(with_reducible repeat(first|apply ag|apply aj|apply af));exact BK218.out) hg (Kd.dA HO230.out (fun _ hk=>hk.1)));replace BK220:=au (bf (g:=gb220) (o:=.cells #[.int .i64 ((ax l0 a1).f0),.int .i64 ((ax l0 a1).f1)] 35 (0,0)) (by(with_reducible repeat(first|apply ag|apply aj|apply af));exact BK220.out) hg (Kd.dA HO230.out (fun _ hk=>hk.2)));replace HB:=au (hb);have HO233:=au (ho);clear HO230;clear ho hb hg hat;have q30:((ji13):Int)≤((l0.length:Int):Int):=of_decide_eq_true (by assumption);obtain⟨i030,hi030,_,hsz30,_⟩:=info_parts bV;have hroom30:l0.length≤c0:=HC0.out;have hC30:Kd.C k35 _ (some ad219) l0.length l0:=HR0.out;have q030:(0:Int)≤((ji13):Int):=of_decide_eq_true (by assumption);have hcut30:=gU (P:=Try.prog) 22 35 .i64 Try.underlying22 hi030 2 hsz30 (some ad219) l0.length c0 (ji13) q030 q30;have hr30:=Kd.iw (m:=((ji13):Int).toNat) (c:=c0) hC30 (by omega) hroom30;obtain⟨A30,hA30⟩:∃ A1,A1 = (if c0 = ((ji13):Int).toNat then (some ad219) else ((some ad219):Option Addr).map (·.add (((ji13):Int).toNat*2))):=⟨_,rfl⟩;obtain⟨c30,hc30⟩:∃ c1,c1=c0 - ((ji13):Int).toNat:=⟨_,rfl⟩;have hy30:y234.length=l0.length - ((ji13):Int).toNat:=(by rw[Ny234.out,List.length_drop] <;> omega);rw[show(l0).drop ((ji13):Int).toNat=y234 from Ny234.out.symm] at hr30;replace hr30:Kd.C k35 _ A30 y234.length y234:=(by rw[hA30];exact hr30);rw[← hy30,← hA30,← hc30] at hcut30;have HR237:=au hr30;have HC237:=au (show y234.length≤c30 from by rw[hy30,hc30];exact Nat.sub_le_sub_right hroom30 _);clear hr30 hC30 hroom30 hi030 hsz30 hc30;have KY30:=au hy30;have KA30:=au hA30;clear hy30 hA30;replace q30:=eq_true q30)|((with_reducible refine bu (b:=.append) (xs:=#[.tmp 59,.tmp 63]) rfl ?_);at_builtin;refine Kd.bY k35 (w0:=w) w.heap.size rfl (.tmp 59) (.tmp 63) 22 35 (.agg #[(.int .i64 0),(.int .i64 0)]) 16 rfl Try.underlying22 bV rfl (by decide) (by omega) v232 y231 y234 _ _ _ (fun k_=>k_≠gb218∧k_≠gb220) (fun _=>False) rfl rfl ?aO ?aR (fun _ _ h=>h) (fun _ h=>h.elim) ?aF ?aB ?aS ?aL ?_;(case aR=>repeat(first|exact(Kd.aN HR237.out HB.out)|(with_reducible first|apply Kd.aY|apply Kd.aZ|apply Kd.bn)));(case aB=>exact(by with_reducible repeat(first|exact HB.out|apply ah|apply aa|apply ai|refine ae ?_ GE218.out|refine ae ?_ GE220.out)));(case aF=>exact(fun k_ hk=>⟨Kd.bZ (g:=gb218) (o:=.cells #[.int .i64 a2_0,.int .i64 a2_1] 35 (0,0)) (by(with_reducible repeat(first|apply ag|apply aj|apply af));exact BK218.out) k_ hk,Kd.bZ (g:=gb220) (o:=.cells #[.int .i64 ((ax l0 a1).f0),.int .i64 ((ax l0 a1).f1)] 35 (0,0)) (by(with_reducible repeat(first|apply ag|apply aj|apply af));exact BK220.out) k_ hk⟩));(case aO=>exact(by(with_reducible repeat(first|apply Kd.aD|apply Kd.aC|apply Kd.aI));exact HO233.out));(case aS=>exact(az (by with_reducible repeat(first|exact HB.out|apply ah|apply aa|apply ai|refine ae ?_ GE218.out|refine ae ?_ GE220.out))));(case aL=>have:=LMc16.out;omega);intro v239 w31 ho hb hg hat;rw[← Ny238.out] at ho;replace BK218:=au (bf (g:=gb218) (o:=.cells #[.int .i64 a2_0,.int .i64 a2_1] 35 (0,0)) (by(with_reducible repeat(first|apply ag|apply aj|apply af));exact BK218.out) hg (Kd.dA HO233.out (fun _ hk=>hk.1)));replace BK220:=au (bf (g:=gb220) (o:=.cells #[.int .i64 ((ax l0 a1).f0),.int .i64 ((ax l0 a1).f1)] 35 (0,0)) (by(with_reducible repeat(first|apply ag|apply aj|apply af));exact BK220.out) hg (Kd.dA HO233.out (fun _ hk=>hk.2)));replace HB:=au (hb);have HO240:=au (ho);clear HO233;clear ho hb hg hat))
            go_ret
            exact⟨_,by first|rfl|(simp[cu,cB] <;> rfl)|(simp only[← hji13];first|rfl|(simp[cu,cB] <;> rfl))|(simp[*,cu,cB] <;> rfl)|(simp[E.eB];done)|(rw[E.fw]),by(with_reducible repeat(first|apply Kd.aD|apply Kd.aC|apply Kd.aI));exact Kd.aT HO240.out (fun _ hk=>trivial),by with_reducible repeat(first|exact HB.out|apply ah|apply aa|apply ai|refine ae ?_ GE218.out|refine ae ?_ GE220.out)⟩
           ·rw[if_neg c16] at H
            exact absurd H (by simp)
          ·rw[if_neg c15] at H
           exact absurd H (by simp)
         ·rw[if_neg c14] at H
          exact absurd H (by simp)
        ·rw[if_neg c12] at H
         exact absurd H (by simp)
       ·rw [if_neg c11] at H
        have c11b0:decide ((wrap64 (a2_0+a2_1)) < (wrap64 (((ax l0 a1).f0) + ((ax l0 a1).f1))))=false:=decide_eq_false c11
        clear c11
        obtain⟨ji32,hji32⟩:∃ j_:Int,(wrap64 (a1+1))=j_:=⟨_,rfl⟩
        replace H:(if 0≤(ji32) then (if (ji32)≤(l0.length:Int) then ((some (l0.drop ((ji32):Int).toNat:List (S35))).bind fun y241=>(if y228.length+y241.length<8796093022208 then (some (y228++y241)) else (none))) else (none)) else (none))=some r:=by first|(rw[hji32] at H;exact H)|(simp only[hji32] at H ⊢;exact H)
        have hji32w:(IntKind.i64.wrap (a1+1))=ji32:=(kE _).trans hji32
        by_cases c33:0≤(ji32)
        ·rw[if_pos c33] at H
         have c33b0:=eq_true c33
         have c33b1:decide (0≤(ji32))=true:=decide_eq_true c33
         clear c33
         by_cases c34:(ji32)≤(l0.length:Int)
         ·rw[if_pos c34] at H
          have c34b0:=eq_true c34
          have c34b1:decide ((ji32)≤(l0.length:Int))=true:=decide_eq_true c34
          clear c34
          obtain⟨y241,hy241⟩:∃ y_:List (S35),y_ = (l0.drop ((ji32):Int).toNat):=⟨_,rfl⟩
          replace H:(if y228.length+y241.length<8796093022208 then (some (y228++y241)) else (none))=some r:=by first|(rw[hy241];with_reducible exact H)|(have H2_:=(Option.bind_some _ _).symm.trans H;rw[hy241];with_reducible exact H2_)|(have H2_:=(Option.bind_some _ _).symm.trans H;with_reducible exact H2_)|with_reducible exact H|(rw[hy241];exact H)|exact H
          have Ny241:=au hy241
          clear hy241
          by_cases c35:y228.length+y241.length<8796093022208
          ·rw[if_pos c35] at H
           have LMc35:=au c35
           clear c35
           obtain⟨y245,hy245⟩:∃ y_:List (S35),y_ = (y228++y241):=⟨_,rfl⟩
           replace H:(some y245)=some r:=by first|(rw[hy245];with_reducible exact H)|(have H2_:=(Option.bind_some _ _).symm.trans H;rw[hy245];with_reducible exact H2_)|(have H2_:=(Option.bind_some _ _).symm.trans H;with_reducible exact H2_)|with_reducible exact H|(rw[hy245];exact H)|exact H
           have Ny245:=au hy245
           clear hy245
           obtain rfl:=Option.some.inj H
           go_enter Try.func57,Try.ntmps57
           go_wp2_with (first|((with_reducible refine aM (N:=5) rfl ?_);refine aJ ?hg (N:=5) ?hd (cs:=#[.int .i64 a2_0,.int .i64 a2_1]) (t:=35) ?hr ?_;(case hd=>rfl);(case hg=>rfl);(case hr=>first|(go_simp;done)|(go_simp;rfl));intro gb218 hg w36 hbox hb;have BK218:=au (hbox);have GW218:=au ((by rw[hg];exact(az (by with_reducible repeat(first|exact HB.out|apply ah|apply aa|apply ai))):w.heap.size≤gb218));have GE218:=au ((by rw[hg];exact(az (by with_reducible repeat(first|exact HB.out|apply ah|apply aa|apply ai))):w.heap.size≤gb218));replace HB:=au (aA (by with_reducible repeat(first|exact HB.out|apply ah|apply aa|apply ai)) hb);clear hb hbox hg;have p219:0≤(a1:Int):=of_decide_eq_true (by assumption);have q219:a1 < (l0.length:Int):=of_decide_eq_true (by assumption);obtain⟨ad219,e219,hx219_0,hx219_1⟩:=bF HR0.out a1 p219 q219;cases e219;replace hx219_0:=(HB.out.cell (World.block_lt_of_cell? w _ hx219_0)).trans hx219_0;replace hx219_1:=(HB.out.cell (World.block_lt_of_cell? w _ hx219_1)).trans hx219_1;replace p219:=eq_true p219;replace q219:=eq_true q219)|((with_reducible refine aM (N:=7) rfl ?_);refine aJ ?hg (N:=7) ?hd (cs:=#[.int .i64 0,.int .i64 0]) (t:=35) ?hr ?_;(case hd=>rfl);(case hg=>rfl);(case hr=>first|(go_simp;done)|(go_simp;rfl));intro gb220 hg w37 hbox hb;have BK220:=au (hbox);have GW220:=au ((by rw[hg];exact(az (by with_reducible repeat(first|exact HB.out|apply ah|apply aa|apply ai|refine ae ?_ GE218.out))):w.heap.size≤gb220));have GE220:=au ((by rw[hg];exact(az (by with_reducible repeat(first|exact HB.out|apply ah|apply aa|apply ai|refine ae ?_ GE218.out))):w.heap.size≤gb220));replace HB:=au (aA (by with_reducible repeat(first|exact HB.out|apply ah|apply aa|apply ai|refine ae ?_ GE218.out)) hb);have NB218_220:=au ((by rw[hg];exact Nat.ne_of_lt (aH (g:=gb218) (o:=.cells #[.int .i64 a2_0,.int .i64 a2_1] 35 (0,0)) (by(with_reducible repeat(first|apply ag|apply aj|apply af));exact BK218.out)):gb218≠gb220));have NB220_218:=au ((by rw[hg];exact Nat.ne_of_gt (aH (g:=gb218) (o:=.cells #[.int .i64 a2_0,.int .i64 a2_1] 35 (0,0)) (by(with_reducible repeat(first|apply ag|apply aj|apply af));exact BK218.out)):gb220≠gb218));replace BK218:=au (ay (g:=gb218) (o:=.cells #[.int .i64 a2_0,.int .i64 a2_1] 35 (0,0)) (by(with_reducible repeat(first|apply ag|apply aj|apply af));exact BK218.out) hb);clear hb hbox hg;have hnb38:=NB220_218.out;have hnc38:=NB218_220.out;have hcz39_0:w37.cell? ⟨gb220,0,none⟩=some (.int .i64 0):=(ak BK220.out 0).trans rfl;have hcz39_1:w37.cell? ⟨gb220,1,none⟩=some (.int .i64 0):=(ak BK220.out 1).trans rfl;have hfz39_0:=av BK220.out 0;have hfz39_1:=av BK220.out 1)|((with_reducible refine gu (t:=35) (p:=7) rfl ?_);refine fG (t:=35) (p:=7) (v:=?vo_w40) (w1:=((w37.setCell ⟨gb220,0,none⟩ (.int .i64 ((ax l0 a1).f0))).setCell ⟨gb220,1,none⟩ (.int .i64 ((ax l0 a1).f1)))) ?hg ?ho ?hn ?hr ?_;(case ho=>rfl);(case hg=>rfl);(case hn=>rfl);(case hr=>first|(go_simp;done)|(go_simp;rfl));intro w40 hw;have n0_:Aside0 (w40.heap[gb218]? = some (.cells #[.int .i64 a2_0,.int .i64 a2_1] 35 (0,0))):=⟨(by rw[hw];exact(by(with_reducible repeat(first|apply ag|apply aj|apply af));refine aG ?_ NB218_220.out _;(with_reducible repeat(first|apply ag|apply aj|apply af));refine aG ?_ NB218_220.out _;(with_reducible repeat(first|apply ag|apply aj|apply af));exact BK218.out))⟩;have n1_:Aside0 (w40.heap[gb220]? = some (.cells #[.int .i64 ((ax l0 a1).f0),.int .i64 ((ax l0 a1).f1)] 35 (0,0))):=⟨(by rw[hw];exact(by(with_reducible repeat(first|apply ag|apply aj|apply af));refine aK (cs:=#[.int .i64 ((ax l0 a1).f0),.int .i64 0]) ?_ 1 _ rfl;(with_reducible repeat(first|apply ag|apply aj|apply af));refine aK (cs:=#[.int .i64 0,.int .i64 0]) ?_ 0 _ rfl;(with_reducible repeat(first|apply ag|apply aj|apply af));exact BK220.out))⟩;have n2_:Aside0 (Below w.heap.size w w40):=⟨(by rw[hw];exact(by with_reducible repeat(first|exact HB.out|apply ah|apply aa|apply ai|refine ae ?_ GE218.out|refine ae ?_ GE220.out)))⟩;clear hw;clear BK218;clear BK220;clear HB;have BK218:=n0_;have BK220:=n1_;have HB:=n2_;clear n0_ n1_ n2_;have q41:(a1:Int)≤((l0.length:Int):Int):=of_decide_eq_true (by assumption);obtain⟨i041,hi041,_,hsz41,_⟩:=info_parts bV;have hroom41:l0.length≤c0:=HC0.out;have hC41:Kd.C k35 _ (some ad219) l0.length l0:=HR0.out;have hcut41:=jF (P:=Try.prog) 22 35 .i64 Try.underlying22 hi041 (some ad219) l0.length c0 a1 (of_decide_eq_true (by assumption)) q41 hroom41;have hr41:=Kd.fJ (m:=(a1:Int).toNat) hC41 (by omega);have hy41:y221.length = (a1:Int).toNat:=(by rw[Ny221.out,List.length_take];omega);rw[← Ny221.out] at hr41;rw[← hy41] at hcut41;have HR224:=au hr41;have HC224:=au (show y221.length≤c0 from by omega);clear hr41 hC41 hroom41 hi041 hsz41;have KY41:=au hy41;clear hy41;replace q41:=eq_true q41)|((with_reducible refine bu (b:=.append) (xs:=#[.tmp 14,.tmp 17]) rfl ?_);at_builtin;refine Kd.bY k35 (w0:=w) w.heap.size rfl (.tmp 14) (.tmp 17) 22 35 (.agg #[(.int .i64 0),(.int .i64 0)]) 16 rfl Try.underlying22 bV rfl (by decide) (by omega) (.slice none 0 0) ([]:List (S35)) y221 _ _ _ (fun k_=>k_≠gb218∧k_≠gb220) (fun _=>False) rfl rfl ?aO ?aR (fun _ _ h=>h) (fun _ h=>h.elim) ?aF ?aB ?aS ?aL ?_;(case aR=>repeat(first|exact(Kd.aN HR224.out HB.out)|(with_reducible first|apply Kd.aY|apply Kd.aZ|apply Kd.bn)));(case aB=>exact(by with_reducible repeat(first|exact HB.out|apply ah|apply aa|apply ai|refine ae ?_ GE218.out|refine ae ?_ GE220.out)));(case aF=>exact(fun k_ hk=>⟨Kd.bZ (g:=gb218) (o:=.cells #[.int .i64 a2_0,.int .i64 a2_1] 35 (0,0)) (by(with_reducible repeat(first|apply ag|apply aj|apply af));exact BK218.out) k_ hk,Kd.bZ (g:=gb220) (o:=.cells #[.int .i64 ((ax l0 a1).f0),.int .i64 ((ax l0 a1).f1)] 35 (0,0)) (by(with_reducible repeat(first|apply ag|apply aj|apply af));exact BK220.out) k_ hk⟩));(case aO=>exact((Kd.dn _ _ _ _ (fun k_=>k_≠gb218∧k_≠gb220))));(case aS=>exact(az (by with_reducible repeat(first|exact HB.out|apply ah|apply aa|apply ai|refine ae ?_ GE218.out|refine ae ?_ GE220.out))));(case aL=>have:=LMc8.out;omega);intro v226 w42 ho hb hg hat;rw[← Ny225.out] at ho;replace BK218:=au (bf (g:=gb218) (o:=.cells #[.int .i64 a2_0,.int .i64 a2_1] 35 (0,0)) (by(with_reducible repeat(first|apply ag|apply aj|apply af));exact BK218.out) hg (by simp[Value.ownBlock]));replace BK220:=au (bf (g:=gb220) (o:=.cells #[.int .i64 ((ax l0 a1).f0),.int .i64 ((ax l0 a1).f1)] 35 (0,0)) (by(with_reducible repeat(first|apply ag|apply aj|apply af));exact BK220.out) hg (by simp[Value.ownBlock]));replace HB:=au (hb);have HO227:=au (ho);clear ho hb hg hat;have hcz43_0:w42.cell? ⟨gb218,0,none⟩=some (.int .i64 a2_0):=(ak BK218.out 0).trans rfl;have hcz43_1:w42.cell? ⟨gb218,1,none⟩=some (.int .i64 a2_1):=(ak BK218.out 1).trans rfl;have hfz43_0:=av BK218.out 0;have hfz43_1:=av BK218.out 1;have hcz44_0:w42.cell? ⟨gb220,0,none⟩=some (.int .i64 ((ax l0 a1).f0)):=(ak BK220.out 0).trans rfl;have hcz44_1:w42.cell? ⟨gb220,1,none⟩=some (.int .i64 ((ax l0 a1).f1)):=(ak BK220.out 1).trans rfl;have hfz44_0:=av BK220.out 0;have hfz44_1:=av BK220.out 1)|((with_reducible refine bu (b:=.append) (xs:=#[.tmp 24,.tmp 33]) rfl ?_);at_builtin;refine Kd.dH k35 (w0:=w) w.heap.size rfl (.tmp 24) (.tmp 33) 22 35 (.agg #[(.int .i64 0),(.int .i64 0)]) 16 rfl Try.underlying22 bV rfl (by decide) (by omega) v226 y225 (⟨(ax l0 a1).f0,wrap64 (a2_0 - ((ax l0 a1).f0))⟩:S35) [.int .i64 ((ax l0 a1).f0),.int .i64 (wrap64 (a2_0 - ((ax l0 a1).f0)))] (fun k_=>k_≠gb218∧k_≠gb220) (fun _=>False) rfl rfl ?aP (fun _ hk=>hk.elim) ?aF ?aO ?aB ?aS ?aL ?_;(case aP=>exact eu _ _ _ (⟨(ax l0 a1).f0,wrap64 (a2_0 - ((ax l0 a1).f0))⟩:S35));(case aB=>exact(by with_reducible repeat(first|exact HB.out|apply ah|apply aa|apply ai|refine ae ?_ GE218.out|refine ae ?_ GE220.out)));(case aF=>exact(fun k_ hk=>⟨Kd.bZ (g:=gb218) (o:=.cells #[.int .i64 a2_0,.int .i64 a2_1] 35 (0,0)) (by(with_reducible repeat(first|apply ag|apply aj|apply af));exact BK218.out) k_ hk,Kd.bZ (g:=gb220) (o:=.cells #[.int .i64 ((ax l0 a1).f0),.int .i64 ((ax l0 a1).f1)] 35 (0,0)) (by(with_reducible repeat(first|apply ag|apply aj|apply af));exact BK220.out) k_ hk⟩));(case aO=>exact(by(with_reducible repeat(first|apply Kd.aD|apply Kd.aC|apply Kd.aI));exact HO227.out));(case aS=>exact(az (by with_reducible repeat(first|exact HB.out|apply ah|apply aa|apply ai|refine ae ?_ GE218.out|refine ae ?_ GE220.out))));(case aL=>have:=LMc10.out;omega);intro v229 w45 ho hb hg hat;rw[← Ny228.out] at ho;replace BK218:=au (bf (g:=gb218) (o:=.cells #[.int .i64 a2_0,.int .i64 a2_1] 35 (0,0)) (by(with_reducible repeat(first|apply ag|apply aj|apply af));exact BK218.out) hg (Kd.dA HO227.out (fun _ hk=>hk.1)));replace BK220:=au (bf (g:=gb220) (o:=.cells #[.int .i64 ((ax l0 a1).f0),.int .i64 ((ax l0 a1).f1)] 35 (0,0)) (by(with_reducible repeat(first|apply ag|apply aj|apply af));exact BK220.out) hg (Kd.dA HO227.out (fun _ hk=>hk.2)));replace HB:=au (hb);have HO230:=au (ho);clear HO227;clear ho hb hg hat;have hcz46_0:w45.cell? ⟨gb218,0,none⟩=some (.int .i64 a2_0):=(ak BK218.out 0).trans rfl;have hcz46_1:w45.cell? ⟨gb218,1,none⟩=some (.int .i64 a2_1):=(ak BK218.out 1).trans rfl;have hfz46_0:=av BK218.out 0;have hfz46_1:=av BK218.out 1;have hcz47_0:w45.cell? ⟨gb220,0,none⟩=some (.int .i64 ((ax l0 a1).f0)):=(ak BK220.out 0).trans rfl;have hcz47_1:w45.cell? ⟨gb220,1,none⟩=some (.int .i64 ((ax l0 a1).f1)):=(ak BK220.out 1).trans rfl;have hfz47_0:=av BK220.out 0;have hfz47_1:=av BK220.out 1;have q48:((ji32):Int)≤((l0.length:Int):Int):=of_decide_eq_true (by assumption);obtain⟨i048,hi048,_,hsz48,_⟩:=info_parts bV;have hroom48:l0.length≤c0:=HC0.out;have hC48:Kd.C k35 _ (some ad219) l0.length l0:=HR0.out;have q048:(0:Int)≤((ji32):Int):=of_decide_eq_true (by assumption);have hcut48:=gU (P:=Try.prog) 22 35 .i64 Try.underlying22 hi048 2 hsz48 (some ad219) l0.length c0 (ji32) q048 q48;have hr48:=Kd.iw (m:=((ji32):Int).toNat) (c:=c0) hC48 (by omega) hroom48;obtain⟨A48,hA48⟩:∃ A1,A1 = (if c0 = ((ji32):Int).toNat then (some ad219) else ((some ad219):Option Addr).map (·.add (((ji32):Int).toNat*2))):=⟨_,rfl⟩;obtain⟨c48,hc48⟩:∃ c1,c1=c0 - ((ji32):Int).toNat:=⟨_,rfl⟩;have hy48:y241.length=l0.length - ((ji32):Int).toNat:=(by rw[Ny241.out,List.length_drop] <;> omega);rw[show(l0).drop ((ji32):Int).toNat=y241 from Ny241.out.symm] at hr48;replace hr48:Kd.C k35 _ A48 y241.length y241:=(by rw[hA48];exact hr48);rw[← hy48,← hA48,← hc48] at hcut48;have HR244:=au hr48;have HC244:=au (show y241.length≤c48 from by rw[hy48,hc48];exact Nat.sub_le_sub_right hroom48 _);clear hr48 hC48 hroom48 hi048 hsz48 hc48;have KY48:=au hy48;have KA48:=au hA48;clear hy48 hA48;replace q48:=eq_true q48)|((with_reducible refine bu (b:=.append) (xs:=#[.tmp 59,.tmp 63]) rfl ?_);at_builtin;refine Kd.bY k35 (w0:=w) w.heap.size rfl (.tmp 59) (.tmp 63) 22 35 (.agg #[(.int .i64 0),(.int .i64 0)]) 16 rfl Try.underlying22 bV rfl (by decide) (by omega) v229 y228 y241 _ _ _ (fun k_=>k_≠gb218∧k_≠gb220) (fun _=>False) rfl rfl ?aO ?aR (fun _ _ h=>h) (fun _ h=>h.elim) ?aF ?aB ?aS ?aL ?_;(case aR=>repeat(first|exact(Kd.aN HR244.out HB.out)|(with_reducible first|apply Kd.aY|apply Kd.aZ|apply Kd.bn)));(case aB=>exact(by with_reducible repeat(first|exact HB.out|apply ah|apply aa|apply ai|refine ae ?_ GE218.out|refine ae ?_ GE220.out)));(case aF=>exact(fun k_ hk=>⟨Kd.bZ (g:=gb218) (o:=.cells #[.int .i64 a2_0,.int .i64 a2_1] 35 (0,0)) (by(with_reducible repeat(first|apply ag|apply aj|apply af));exact BK218.out) k_ hk,Kd.bZ (g:=gb220) (o:=.cells #[.int .i64 ((ax l0 a1).f0),.int .i64 ((ax l0 a1).f1)] 35 (0,0)) (by(with_reducible repeat(first|apply ag|apply aj|apply af));exact BK220.out) k_ hk⟩));(case aO=>exact(by(with_reducible repeat(first|apply Kd.aD|apply Kd.aC|apply Kd.aI));exact HO230.out));(case aS=>exact(az (by with_reducible repeat(first|exact HB.out|apply ah|apply aa|apply ai|refine ae ?_ GE218.out|refine ae ?_ GE220.out))));(case aL=>have:=LMc35.out;omega);intro v246 w49 ho hb hg hat;rw[← Ny245.out] at ho;replace BK218:=au (bf (g:=gb218) (o:=.cells #[.int .i64 a2_0,.int .i64 a2_1] 35 (0,0)) (by(with_reducible repeat(first|apply ag|apply aj|apply af));exact BK218.out) hg (Kd.dA HO230.out (fun _ hk=>hk.1)));replace BK220:=au (bf (g:=gb220) (o:=.cells #[.int .i64 ((ax l0 a1).f0),.int .i64 ((ax l0 a1).f1)] 35 (0,0)) (by(with_reducible repeat(first|apply ag|apply aj|apply af));exact BK220.out) hg (Kd.dA HO230.out (fun _ hk=>hk.2)));replace HB:=au (hb);have HO247:=au (ho);clear HO230;clear ho hb hg hat))
           go_ret
           exact⟨_,by first|rfl|(simp[cu,cB] <;> rfl)|(simp only[← hji32];first|rfl|(simp[cu,cB] <;> rfl))|(simp[*,cu,cB] <;> rfl)|(simp[E.eB];done)|(rw[E.fw]),by(with_reducible repeat(first|apply Kd.aD|apply Kd.aC|apply Kd.aI));exact Kd.aT HO247.out (fun _ hk=>trivial),by with_reducible repeat(first|exact HB.out|apply ah|apply aa|apply ai|refine ae ?_ GE218.out|refine ae ?_ GE220.out)⟩
          ·rw[if_neg c35] at H
           exact absurd H (by simp)
         ·rw[if_neg c34] at H
          exact absurd H (by simp)
        ·rw[if_neg c33] at H
         exact absurd H (by simp)
      ·rw[if_neg c10] at H
       exact absurd H (by simp)
     ·rw [if_neg c9] at H
      have c9b0:decide (((ax l0 a1).f0)<a2_0)=false:=decide_eq_false c9
      clear c9
      by_cases c50:(wrap64 (a2_0+a2_1)) < (wrap64 (((ax l0 a1).f0) + ((ax l0 a1).f1)))
      ·rw [if_pos c50] at H
       have c50b0:decide ((wrap64 (a2_0+a2_1)) < (wrap64 (((ax l0 a1).f0) + ((ax l0 a1).f1))))=true:=decide_eq_true c50
       clear c50
       by_cases c51:y225.length<8796093022208
       ·rw [if_pos c51] at H
        have LMc51:=au c51
        clear c51
        obtain⟨y248,hy248⟩:∃ y_:List (S35),y_ = (y225++[(⟨wrap64 (a2_0+a2_1),wrap64 ((wrap64 (((ax l0 a1).f0) + ((ax l0 a1).f1))) - (wrap64 (a2_0+a2_1)))⟩:S35)]):=⟨_,rfl⟩
        replace H:(if 0≤(wrap64 (a1+1)) then (if (wrap64 (a1+1))≤(l0.length:Int) then ((some (l0.drop ((wrap64 (a1+1)):Int).toNat:List (S35))).bind fun y251=>(if y248.length+y251.length<8796093022208 then (some (y248++y251)) else (none))) else (none)) else (none))=some r:=by first|(rw[hy248];with_reducible exact H)|(have H2_:=(Option.bind_some _ _).symm.trans H;rw[hy248];with_reducible exact H2_)|(have H2_:=(Option.bind_some _ _).symm.trans H;with_reducible exact H2_)|with_reducible exact H|(rw[hy248];exact H)|exact H
        have Ny248:=au hy248
        clear hy248
        obtain⟨ji52,hji52⟩:∃ j_:Int,(wrap64 (a1+1))=j_:=⟨_,rfl⟩
        replace H:(if 0≤(ji52) then (if (ji52)≤(l0.length:Int) then ((some (l0.drop ((ji52):Int).toNat:List (S35))).bind fun y251=>(if y248.length+y251.length<8796093022208 then (some (y248++y251)) else (none))) else (none)) else (none))=some r:=by first|(rw[hji52] at H;exact H)|(simp only[hji52] at H ⊢;exact H)
        have hji52w:(IntKind.i64.wrap (a1+1))=ji52:=(kE _).trans hji52
        by_cases c53:0≤(ji52)
        ·rw[if_pos c53] at H
         have c53b0:=eq_true c53
         have c53b1:decide (0≤(ji52))=true:=decide_eq_true c53
         clear c53
         by_cases c54:(ji52)≤(l0.length:Int)
         ·rw[if_pos c54] at H
          have c54b0:=eq_true c54
          have c54b1:decide ((ji52)≤(l0.length:Int))=true:=decide_eq_true c54
          clear c54
          obtain⟨y251,hy251⟩:∃ y_:List (S35),y_ = (l0.drop ((ji52):Int).toNat):=⟨_,rfl⟩
          replace H:(if y248.length+y251.length<8796093022208 then (some (y248++y251)) else (none))=some r:=by first|(rw[hy251];with_reducible exact H)|(have H2_:=(Option.bind_some _ _).symm.trans H;rw[hy251];with_reducible exact H2_)|(have H2_:=(Option.bind_some _ _).symm.trans H;with_reducible exact H2_)|with_reducible exact H|(rw[hy251];exact H)|exact H
          have Ny251:=au hy251
          clear hy251
          by_cases c55:y248.length+y251.length<8796093022208
          ·rw[if_pos c55] at H
           have LMc55:=au c55
           clear c55
           obtain⟨y255,hy255⟩:∃ y_:List (S35),y_ = (y248++y251):=⟨_,rfl⟩
           replace H:(some y255)=some r:=by first|(rw[hy255];with_reducible exact H)|(have H2_:=(Option.bind_some _ _).symm.trans H;rw[hy255];with_reducible exact H2_)|(have H2_:=(Option.bind_some _ _).symm.trans H;with_reducible exact H2_)|with_reducible exact H|(rw[hy255];exact H)|exact H
           have Ny255:=au hy255
           clear hy255
           obtain rfl:=Option.some.inj H
           go_enter Try.func57,Try.ntmps57
           go_wp2_with (first|((with_reducible refine aM (N:=5) rfl ?_);refine aJ ?hg (N:=5) ?hd (cs:=#[.int .i64 a2_0,.int .i64 a2_1]) (t:=35) ?hr ?_;(case hd=>rfl);(case hg=>rfl);(case hr=>first|(go_simp;done)|(go_simp;rfl));intro gb218 hg w56 hbox hb;have BK218:=au (hbox);have GW218:=au ((by rw[hg];exact(az (by with_reducible repeat(first|exact HB.out|apply ah|apply aa|apply ai))):w.heap.size≤gb218));have GE218:=au ((by rw[hg];exact(az (by with_reducible repeat(first|exact HB.out|apply ah|apply aa|apply ai))):w.heap.size≤gb218));replace HB:=au (aA (by with_reducible repeat(first|exact HB.out|apply ah|apply aa|apply ai)) hb);clear hb hbox hg;have p219:0≤(a1:Int):=of_decide_eq_true (by assumption);have q219:a1 < (l0.length:Int):=of_decide_eq_true (by assumption);obtain⟨ad219,e219,hx219_0,hx219_1⟩:=bF HR0.out a1 p219 q219;cases e219;replace hx219_0:=(HB.out.cell (World.block_lt_of_cell? w _ hx219_0)).trans hx219_0;replace hx219_1:=(HB.out.cell (World.block_lt_of_cell? w _ hx219_1)).trans hx219_1;replace p219:=eq_true p219;replace q219:=eq_true q219)|((with_reducible refine aM (N:=7) rfl ?_);refine aJ ?hg (N:=7) ?hd (cs:=#[.int .i64 0,.int .i64 0]) (t:=35) ?hr ?_;(case hd=>rfl);(case hg=>rfl);(case hr=>first|(go_simp;done)|(go_simp;rfl));intro gb220 hg w57 hbox hb;have BK220:=au (hbox);have GW220:=au ((by rw[hg];exact(az (by with_reducible repeat(first|exact HB.out|apply ah|apply aa|apply ai|refine ae ?_ GE218.out))):w.heap.size≤gb220));have GE220:=au ((by rw[hg];exact(az (by with_reducible repeat(first|exact HB.out|apply ah|apply aa|apply ai|refine ae ?_ GE218.out))):w.heap.size≤gb220));replace HB:=au (aA (by with_reducible repeat(first|exact HB.out|apply ah|apply aa|apply ai|refine ae ?_ GE218.out)) hb);have NB218_220:=au ((by rw[hg];exact Nat.ne_of_lt (aH (g:=gb218) (o:=.cells #[.int .i64 a2_0,.int .i64 a2_1] 35 (0,0)) (by(with_reducible repeat(first|apply ag|apply aj|apply af));exact BK218.out)):gb218≠gb220));have NB220_218:=au ((by rw[hg];exact Nat.ne_of_gt (aH (g:=gb218) (o:=.cells #[.int .i64 a2_0,.int .i64 a2_1] 35 (0,0)) (by(with_reducible repeat(first|apply ag|apply aj|apply af));exact BK218.out)):gb220≠gb218));replace BK218:=au (ay (g:=gb218) (o:=.cells #[.int .i64 a2_0,.int .i64 a2_1] 35 (0,0)) (by(with_reducible repeat(first|apply ag|apply aj|apply af));exact BK218.out) hb);clear hb hbox hg;have hnb58:=NB220_218.out;have hnc58:=NB218_220.out;have hcz59_0:w57.cell? ⟨gb220,0,none⟩=some (.int .i64 0):=(ak BK220.out 0).trans rfl;have hcz59_1:w57.cell? ⟨gb220,1,none⟩=some (.int .i64 0):=(ak BK220.out 1).trans rfl;have hfz59_0:=av BK220.out 0;have hfz59_1:=av BK220.out 1)|((with_reducible refine gu (t:=35) (p:=7) rfl ?_);refine fG (t:=35) (p:=7) (v:=?vo_w60) (w1:=((w57.setCell ⟨gb220,0,none⟩ (.int .i64 ((ax l0 a1).f0))).setCell ⟨gb220,1,none⟩ (.int .i64 ((ax l0 a1).f1)))) ?hg ?ho ?hn ?hr ?_;(case ho=>rfl);(case hg=>rfl);(case hn=>rfl);(case hr=>first|(go_simp;done)|(go_simp;rfl));intro w60 hw;have n0_:Aside0 (w60.heap[gb218]? = some (.cells #[.int .i64 a2_0,.int .i64 a2_1] 35 (0,0))):=⟨(by rw[hw];exact(by(with_reducible repeat(first|apply ag|apply aj|apply af));refine aG ?_ NB218_220.out _;(with_reducible repeat(first|apply ag|apply aj|apply af));refine aG ?_ NB218_220.out _;(with_reducible repeat(first|apply ag|apply aj|apply af));exact BK218.out))⟩;have n1_:Aside0 (w60.heap[gb220]? = some (.cells #[.int .i64 ((ax l0 a1).f0),.int .i64 ((ax l0 a1).f1)] 35 (0,0))):=⟨(by rw[hw];exact(by(with_reducible repeat(first|apply ag|apply aj|apply af));refine aK (cs:=#[.int .i64 ((ax l0 a1).f0),.int .i64 0]) ?_ 1 _ rfl;(with_reducible repeat(first|apply ag|apply aj|apply af));refine aK (cs:=#[.int .i64 0,.int .i64 0]) ?_ 0 _ rfl;(with_reducible repeat(first|apply ag|apply aj|apply af));exact BK220.out))⟩;have n2_:Aside0 (Below w.heap.size w w60):=⟨(by rw[hw];exact(by with_reducible repeat(first|exact HB.out|apply ah|apply aa|apply ai|refine ae ?_ GE218.out|refine ae ?_ GE220.out)))⟩;clear hw;clear BK218;clear BK220;clear HB;have BK218:=n0_;have BK220:=n1_;have HB:=n2_;clear n0_ n1_ n2_;have q61:(a1:Int)≤((l0.length:Int):Int):=of_decide_eq_true (by assumption);obtain⟨i061,hi061,_,hsz61,_⟩:=info_parts bV;have hroom61:l0.length≤c0:=HC0.out;have hC61:Kd.C k35 _ (some ad219) l0.length l0:=HR0.out;have hcut61:=jF (P:=Try.prog) 22 35 .i64 Try.underlying22 hi061 (some ad219) l0.length c0 a1 (of_decide_eq_true (by assumption)) q61 hroom61;have hr61:=Kd.fJ (m:=(a1:Int).toNat) hC61 (by omega);have hy61:y221.length = (a1:Int).toNat:=(by rw[Ny221.out,List.length_take];omega);rw[← Ny221.out] at hr61;rw[← hy61] at hcut61;have HR224:=au hr61;have HC224:=au (show y221.length≤c0 from by omega);clear hr61 hC61 hroom61 hi061 hsz61;have KY61:=au hy61;clear hy61;replace q61:=eq_true q61)|((with_reducible refine bu (b:=.append) (xs:=#[.tmp 14,.tmp 17]) rfl ?_);at_builtin;refine Kd.bY k35 (w0:=w) w.heap.size rfl (.tmp 14) (.tmp 17) 22 35 (.agg #[(.int .i64 0),(.int .i64 0)]) 16 rfl Try.underlying22 bV rfl (by decide) (by omega) (.slice none 0 0) ([]:List (S35)) y221 _ _ _ (fun k_=>k_≠gb218∧k_≠gb220) (fun _=>False) rfl rfl ?aO ?aR (fun _ _ h=>h) (fun _ h=>h.elim) ?aF ?aB ?aS ?aL ?_;(case aR=>repeat(first|exact(Kd.aN HR224.out HB.out)|(with_reducible first|apply Kd.aY|apply Kd.aZ|apply Kd.bn)));(case aB=>exact(by with_reducible repeat(first|exact HB.out|apply ah|apply aa|apply ai|refine ae ?_ GE218.out|refine ae ?_ GE220.out)));(case aF=>exact(fun k_ hk=>⟨Kd.bZ (g:=gb218) (o:=.cells #[.int .i64 a2_0,.int .i64 a2_1] 35 (0,0)) (by(with_reducible repeat(first|apply ag|apply aj|apply af));exact BK218.out) k_ hk,Kd.bZ (g:=gb220) (o:=.cells #[.int .i64 ((ax l0 a1).f0),.int .i64 ((ax l0 a1).f1)] 35 (0,0)) (by(with_reducible repeat(first|apply ag|apply aj|apply af));exact BK220.out) k_ hk⟩));(case aO=>exact((Kd.dn _ _ _ _ (fun k_=>k_≠gb218∧k_≠gb220))));(case aS=>exact(az (by with_reducible repeat(first|exact HB.out|apply ah|apply aa|apply ai|refine ae ?_ GE218.out|refine ae ?_ GE220.out))));(case aL=>have:=LMc8.out;omega);intro v226 w62 ho hb hg hat;rw[← Ny225.out] at ho;replace BK218:=au (bf (g:=gb218) (o:=.cells #[.int .i64 a2_0,.int .i64 a2_1] 35 (0,0)) (by(with_reducible repeat(first|apply ag|apply aj|apply af));exact BK218.out) hg (by simp[Value.ownBlock]));replace BK220:=au (bf (g:=gb220) (o:=.cells #[.int .i64 ((ax l0 a1).f0),.int .i64 ((ax l0 a1).f1)] 35 (0,0)) (by(with_reducible repeat(first|apply ag|apply aj|apply af));exact BK220.out) hg (by simp[Value.ownBlock]));replace HB:=au (hb);have HO227:=au (ho);clear ho hb hg hat;have hcz63_0:w62.cell? ⟨gb218,0,none⟩=some (.int .i64 a2_0):=(ak BK218.out 0).trans rfl;have hcz63_1:w62.cell? ⟨gb218,1,none⟩=some (.int .i64 a2_1):=(ak BK218.out 1).trans rfl;have hfz63_0:=av BK218.out 0;have hfz63_1:=av BK218.out 1;have hcz64_0:w62.cell? ⟨gb220,0,none⟩=some (.int .i64 ((ax l0 a1).f0)):=(ak BK220.out 0).trans rfl;have hcz64_1:w62.cell? ⟨gb220,1,none⟩=some (.int .i64 ((ax l0 a1).f1)):=(ak BK220.out 1).trans rfl;have hfz64_0:=av BK220.out 0;have hfz64_1:=av BK220.out 1)|((with_reducible refine bu (b:=.append) (xs:=#[.tmp 47,.tmp 57]) rfl ?_);at_builtin;refine Kd.dH k35 (w0:=w) w.heap.size rfl (.tmp 47) (.tmp 57) 22 35 (.agg #[(.int .i64 0),(.int .i64 0)]) 16 rfl Try.underlying22 bV rfl (by decide) (by omega) v226 y225 (⟨wrap64 (a2_0+a2_1),wrap64 ((wrap64 (((ax l0 a1).f0) + ((ax l0 a1).f1))) - (wrap64 (a2_0+a2_1)))⟩:S35) [.int .i64 (wrap64 (a2_0+a2_1)),.int .i64 (wrap64 ((wrap64 (((ax l0 a1).f0) + ((ax l0 a1).f1))) - (wrap64 (a2_0+a2_1))))] (fun k_=>k_≠gb218∧k_≠gb220) (fun _=>False) rfl rfl ?aP (fun _ hk=>hk.elim) ?aF ?aO ?aB ?aS ?aL ?_;(case aP=>exact eu _ _ _ (⟨wrap64 (a2_0+a2_1),wrap64 ((wrap64 (((ax l0 a1).f0) + ((ax l0 a1).f1))) - (wrap64 (a2_0+a2_1)))⟩:S35));(case aB=>exact(by with_reducible repeat(first|exact HB.out|apply ah|apply aa|apply ai|refine ae ?_ GE218.out|refine ae ?_ GE220.out)));(case aF=>exact(fun k_ hk=>⟨Kd.bZ (g:=gb218) (o:=.cells #[.int .i64 a2_0,.int .i64 a2_1] 35 (0,0)) (by(with_reducible repeat(first|apply ag|apply aj|apply af));exact BK218.out) k_ hk,Kd.bZ (g:=gb220) (o:=.cells #[.int .i64 ((ax l0 a1).f0),.int .i64 ((ax l0 a1).f1)] 35 (0,0)) (by(with_reducible repeat(first|apply ag|apply aj|apply af));exact BK220.out) k_ hk⟩));(case aO=>exact(by(with_reducible repeat(first|apply Kd.aD|apply Kd.aC|apply Kd.aI));exact HO227.out));(case aS=>exact(az (by with_reducible repeat(first|exact HB.out|apply ah|apply aa|apply ai|refine ae ?_ GE218.out|refine ae ?_ GE220.out))));(case aL=>have:=LMc51.out;omega);intro v249 w65 ho hb hg hat;rw[← Ny248.out] at ho;replace BK218:=au (bf (g:=gb218) (o:=.cells #[.int .i64 a2_0,.int .i64 a2_1] 35 (0,0)) (by(with_reducible repeat(first|apply ag|apply aj|apply af));exact BK218.out) hg (Kd.dA HO227.out (fun _ hk=>hk.1)));replace BK220:=au (bf (g:=gb220) (o:=.cells #[.int .i64 ((ax l0 a1).f0),.int .i64 ((ax l0 a1).f1)] 35 (0,0)) (by(with_reducible repeat(first|apply ag|apply aj|apply af));exact BK220.out) hg (Kd.dA HO227.out (fun _ hk=>hk.2)));replace HB:=au (hb);have HO250:=au (ho);clear HO227;clear ho hb hg hat;have q66:((ji52):Int)≤((l0.length:Int):Int):=of_decide_eq_true (by assumption);obtain⟨i066,hi066,_,hsz66,_⟩:=info_parts bV;have hroom66:l0.length≤c0:=HC0.out;have hC66:Kd.C k35 _ (some ad219) l0.length l0:=HR0.out;have q066:(0:Int)≤((ji52):Int):=of_decide_eq_true (by assumption);have hcut66:=gU (P:=Try.prog) 22 35 .i64 Try.underlying22 hi066 2 hsz66 (some ad219) l0.length c0 (ji52) q066 q66;have hr66:=Kd.iw (m:=((ji52):Int).toNat) (c:=c0) hC66 (by omega) hroom66;obtain⟨A66,hA66⟩:∃ A1,A1 = (if c0 = ((ji52):Int).toNat then (some ad219) else ((some ad219):Option Addr).map (·.add (((ji52):Int).toNat*2))):=⟨_,rfl⟩;obtain⟨c66,hc66⟩:∃ c1,c1=c0 - ((ji52):Int).toNat:=⟨_,rfl⟩;have hy66:y251.length=l0.length - ((ji52):Int).toNat:=(by rw[Ny251.out,List.length_drop] <;> omega);rw[show(l0).drop ((ji52):Int).toNat=y251 from Ny251.out.symm] at hr66;replace hr66:Kd.C k35 _ A66 y251.length y251:=(by rw[hA66];exact hr66);rw[← hy66,← hA66,← hc66] at hcut66;have HR254:=au hr66;have HC254:=au (show y251.length≤c66 from by rw[hy66,hc66];exact Nat.sub_le_sub_right hroom66 _);clear hr66 hC66 hroom66 hi066 hsz66 hc66;have KY66:=au hy66;have KA66:=au hA66;clear hy66 hA66;replace q66:=eq_true q66)|((with_reducible refine bu (b:=.append) (xs:=#[.tmp 59,.tmp 63]) rfl ?_);at_builtin;refine Kd.bY k35 (w0:=w) w.heap.size rfl (.tmp 59) (.tmp 63) 22 35 (.agg #[(.int .i64 0),(.int .i64 0)]) 16 rfl Try.underlying22 bV rfl (by decide) (by omega) v249 y248 y251 _ _ _ (fun k_=>k_≠gb218∧k_≠gb220) (fun _=>False) rfl rfl ?aO ?aR (fun _ _ h=>h) (fun _ h=>h.elim) ?aF ?aB ?aS ?aL ?_;(case aR=>repeat(first|exact(Kd.aN HR254.out HB.out)|(with_reducible first|apply Kd.aY|apply Kd.aZ|apply Kd.bn)));(case aB=>exact(by with_reducible repeat(first|exact HB.out|apply ah|apply aa|apply ai|refine ae ?_ GE218.out|refine ae ?_ GE220.out)));(case aF=>exact(fun k_ hk=>⟨Kd.bZ (g:=gb218) (o:=.cells #[.int .i64 a2_0,.int .i64 a2_1] 35 (0,0)) (by(with_reducible repeat(first|apply ag|apply aj|apply af));exact BK218.out) k_ hk,Kd.bZ (g:=gb220) (o:=.cells #[.int .i64 ((ax l0 a1).f0),.int .i64 ((ax l0 a1).f1)] 35 (0,0)) (by(with_reducible repeat(first|apply ag|apply aj|apply af));exact BK220.out) k_ hk⟩));(case aO=>exact(by(with_reducible repeat(first|apply Kd.aD|apply Kd.aC|apply Kd.aI));exact HO250.out));(case aS=>exact(az (by with_reducible repeat(first|exact HB.out|apply ah|apply aa|apply ai|refine ae ?_ GE218.out|refine ae ?_ GE220.out))));(case aL=>have:=LMc55.out;omega);intro v256 w67 ho hb hg hat;rw[← Ny255.out] at ho;replace BK218:=au (bf (g:=gb218) (o:=.cells #[.int .i64 a2_0,.int .i64 a2_1] 35 (0,0)) (by(with_reducible repeat(first|apply ag|apply aj|apply af));exact BK218.out) hg (Kd.dA HO250.out (fun _ hk=>hk.1)));replace BK220:=au (bf (g:=gb220) (o:=.cells #[.int .i64 ((ax l0 a1).f0),.int .i64 ((ax l0 a1).f1)] 35 (0,0)) (by(with_reducible repeat(first|apply ag|apply aj|apply af));exact BK220.out) hg (Kd.dA HO250.out (fun _ hk=>hk.2)));replace HB:=au (hb);have HO257:=au (ho);clear HO250;clear ho hb hg hat))
           go_ret
           exact⟨_,by first|rfl|(simp[cu,cB] <;> rfl)|(simp only[← hji52];first|rfl|(simp[cu,cB] <;> rfl))|(simp[*,cu,cB] <;> rfl)|(simp[E.eB];done)|(rw[E.fw]),by(with_reducible repeat(first|apply Kd.aD|apply Kd.aC|apply Kd.aI));exact Kd.aT HO257.out (fun _ hk=>trivial),by with_reducible repeat(first|exact HB.out|apply ah|apply aa|apply ai|refine ae ?_ GE218.out|refine ae ?_ GE220.out)⟩
          ·rw[if_neg c55] at H
           exact absurd H (by simp)
         ·rw[if_neg c54] at H
          exact absurd H (by simp)
        ·rw[if_neg c53] at H
         exact absurd H (by simp)
       ·rw[if_neg c51] at H
        exact absurd H (by simp)
      ·rw [if_neg c50] at H
       have c50b0:decide ((wrap64 (a2_0+a2_1)) < (wrap64 (((ax l0 a1).f0) + ((ax l0 a1).f1))))=false:=decide_eq_false c50
       clear c50
       obtain⟨ji68,hji68⟩:∃ j_:Int,(wrap64 (a1+1))=j_:=⟨_,rfl⟩
       replace H:(if 0≤(ji68) then (if (ji68)≤(l0.length:Int) then ((some (l0.drop ((ji68):Int).toNat:List (S35))).bind fun y258=>(if y225.length+y258.length<8796093022208 then (some (y225++y258)) else (none))) else (none)) else (none))=some r:=by first|(rw[hji68] at H;exact H)|(simp only[hji68] at H ⊢;exact H)
       have hji68w:(IntKind.i64.wrap (a1+1))=ji68:=(kE _).trans hji68
       by_cases c69:0≤(ji68)
       ·rw[if_pos c69] at H
        have c69b0:=eq_true c69
        have c69b1:decide (0≤(ji68))=true:=decide_eq_true c69
        clear c69
        by_cases c70:(ji68)≤(l0.length:Int)
        ·rw[if_pos c70] at H
         have c70b0:=eq_true c70
         have c70b1:decide ((ji68)≤(l0.length:Int))=true:=decide_eq_true c70
         clear c70
         obtain⟨y258,hy258⟩:∃ y_:List (S35),y_ = (l0.drop ((ji68):Int).toNat):=⟨_,rfl⟩
         replace H:(if y225.length+y258.length<8796093022208 then (some (y225++y258)) else (none))=some r:=by first|(rw[hy258];with_reducible exact H)|(have H2_:=(Option.bind_some _ _).symm.trans H;rw[hy258];with_reducible exact H2_)|(have H2_:=(Option.bind_some _ _).symm.trans H;with_reducible exact H2_)|with_reducible exact H|(rw[hy258];exact H)|exact H
         have Ny258:=au hy258
         clear hy258
         by_cases c71:y225.length+y258.length<8796093022208
         ·rw[if_pos c71] at H
          have LMc71:=au c71
          clear c71
          obtain⟨y262,hy262⟩:∃ y_:List (S35),y_ = (y225++y258):=⟨_,rfl⟩
          replace H:(some y262)=some r:=by first|(rw[hy262];with_reducible exact H)|(have H2_:=(Option.bind_some _ _).symm.trans H;rw[hy262];with_reducible exact H2_)|(have H2_:=(Option.bind_some _ _).symm.trans H;with_reducible exact H2_)|with_reducible exact H|(rw[hy262];exact H)|exact H
          have Ny262:=au hy262
          clear hy262
          obtain rfl:=Option.some.inj H
          go_enter Try.func57,Try.ntmps57
          go_wp2_with (first|((with_reducible refine aM (N:=5) rfl ?_);refine aJ ?hg (N:=5) ?hd (cs:=#[.int .i64 a2_0,.int .i64 a2_1]) (t:=35) ?hr ?_;(case hd=>rfl);(case hg=>rfl);(case hr=>first|(go_simp;done)|(go_simp;rfl));intro gb218 hg w72 hbox hb;have BK218:=au (hbox);have GW218:=au ((by rw[hg];exact(az (by with_reducible repeat(first|exact HB.out|apply ah|apply aa|apply ai))):w.heap.size≤gb218));have GE218:=au ((by rw[hg];exact(az (by with_reducible repeat(first|exact HB.out|apply ah|apply aa|apply ai))):w.heap.size≤gb218));replace HB:=au (aA (by with_reducible repeat(first|exact HB.out|apply ah|apply aa|apply ai)) hb);clear hb hbox hg;have p219:0≤(a1:Int):=of_decide_eq_true (by assumption);have q219:a1 < (l0.length:Int):=of_decide_eq_true (by assumption);obtain⟨ad219,e219,hx219_0,hx219_1⟩:=bF HR0.out a1 p219 q219;cases e219;replace hx219_0:=(HB.out.cell (World.block_lt_of_cell? w _ hx219_0)).trans hx219_0;replace hx219_1:=(HB.out.cell (World.block_lt_of_cell? w _ hx219_1)).trans hx219_1;replace p219:=eq_true p219;replace q219:=eq_true q219)|((with_reducible refine aM (N:=7) rfl ?_);refine aJ ?hg (N:=7) ?hd (cs:=#[.int .i64 0,.int .i64 0]) (t:=35) ?hr ?_;(case hd=>rfl);(case hg=>rfl);(case hr=>first|(go_simp;done)|(go_simp;rfl));intro gb220 hg w73 hbox hb;have BK220:=au (hbox);have GW220:=au ((by rw[hg];exact(az (by with_reducible repeat(first|exact HB.out|apply ah|apply aa|apply ai|refine ae ?_ GE218.out))):w.heap.size≤gb220));have GE220:=au ((by rw[hg];exact(az (by with_reducible repeat(first|exact HB.out|apply ah|apply aa|apply ai|refine ae ?_ GE218.out))):w.heap.size≤gb220));replace HB:=au (aA (by with_reducible repeat(first|exact HB.out|apply ah|apply aa|apply ai|refine ae ?_ GE218.out)) hb);have NB218_220:=au ((by rw[hg];exact Nat.ne_of_lt (aH (g:=gb218) (o:=.cells #[.int .i64 a2_0,.int .i64 a2_1] 35 (0,0)) (by(with_reducible repeat(first|apply ag|apply aj|apply af));exact BK218.out)):gb218≠gb220));have NB220_218:=au ((by rw[hg];exact Nat.ne_of_gt (aH (g:=gb218) (o:=.cells #[.int .i64 a2_0,.int .i64 a2_1] 35 (0,0)) (by(with_reducible repeat(first|apply ag|apply aj|apply af));exact BK218.out)):gb220≠gb218));replace BK218:=au (ay (g:=gb218) (o:=.cells #[.int .i64 a2_0,.int .i64 a2_1] 35 (0,0)) (by(with_reducible repeat(first|apply ag|apply aj|apply af));exact BK218.out) hb);clear hb hbox hg;have hnb74:=NB220_218.out;have hnc74:=NB218_220.out;have hcz75_0:w73.cell? ⟨gb220,0,none⟩=some (.int .i64 0):=(ak BK220.out 0).trans rfl;have hcz75_1:w73.cell? ⟨gb220,1,none⟩=some (.int .i64 0):=(ak BK220.out 1).trans rfl;have hfz75_0:=av BK220.out 0;have hfz75_1:=av BK220.out 1)|((with_reducible refine gu (t:=35) (p:=7) rfl ?_);refine fG (t:=35) (p:=7) (v:=?vo_w76) (w1:=((w73.setCell ⟨gb220,0,none⟩ (.int .i64 ((ax l0 a1).f0))).setCell ⟨gb220,1,none⟩ (.int .i64 ((ax l0 a1).f1)))) ?hg ?ho ?hn ?hr ?_;(case ho=>rfl);(case hg=>rfl);(case hn=>rfl);(case hr=>first|(go_simp;done)|(go_simp;rfl));intro w76 hw;have n0_:Aside0 (w76.heap[gb218]? = some (.cells #[.int .i64 a2_0,.int .i64 a2_1] 35 (0,0))):=⟨(by rw[hw];exact(by(with_reducible repeat(first|apply ag|apply aj|apply af));refine aG ?_ NB218_220.out _;(with_reducible repeat(first|apply ag|apply aj|apply af));refine aG ?_ NB218_220.out _;(with_reducible repeat(first|apply ag|apply aj|apply af));exact BK218.out))⟩;have n1_:Aside0 (w76.heap[gb220]? = some (.cells #[.int .i64 ((ax l0 a1).f0),.int .i64 ((ax l0 a1).f1)] 35 (0,0))):=⟨(by rw[hw];exact(by(with_reducible repeat(first|apply ag|apply aj|apply af));refine aK (cs:=#[.int .i64 ((ax l0 a1).f0),.int .i64 0]) ?_ 1 _ rfl;(with_reducible repeat(first|apply ag|apply aj|apply af));refine aK (cs:=#[.int .i64 0,.int .i64 0]) ?_ 0 _ rfl;(with_reducible repeat(first|apply ag|apply aj|apply af));exact BK220.out))⟩;have n2_:Aside0 (Below w.heap.size w w76):=⟨(by rw[hw];exact(by with_reducible repeat(first|exact HB.out|apply ah|apply aa|apply ai|refine ae ?_ GE218.out|refine ae ?_ GE220.out)))⟩;clear hw;clear BK218;clear BK220;clear HB;have BK218:=n0_;have BK220:=n1_;have HB:=n2_;clear n0_ n1_ n2_;have q77:(a1:Int)≤((l0.length:Int):Int):=of_decide_eq_true (by assumption);obtain⟨i077,hi077,_,hsz77,_⟩:=info_parts bV;have hroom77:l0.length≤c0:=HC0.out;have hC77:Kd.C k35 _ (some ad219) l0.length l0:=HR0.out;have hcut77:=jF (P:=Try.prog) 22 35 .i64 Try.underlying22 hi077 (some ad219) l0.length c0 a1 (of_decide_eq_true (by assumption)) q77 hroom77;have hr77:=Kd.fJ (m:=(a1:Int).toNat) hC77 (by omega);have hy77:y221.length = (a1:Int).toNat:=(by rw[Ny221.out,List.length_take];omega);rw[← Ny221.out] at hr77;rw[← hy77] at hcut77;have HR224:=au hr77;have HC224:=au (show y221.length≤c0 from by omega);clear hr77 hC77 hroom77 hi077 hsz77;have KY77:=au hy77;clear hy77;replace q77:=eq_true q77)|((with_reducible refine bu (b:=.append) (xs:=#[.tmp 14,.tmp 17]) rfl ?_);at_builtin;refine Kd.bY k35 (w0:=w) w.heap.size rfl (.tmp 14) (.tmp 17) 22 35 (.agg #[(.int .i64 0),(.int .i64 0)]) 16 rfl Try.underlying22 bV rfl (by decide) (by omega) (.slice none 0 0) ([]:List (S35)) y221 _ _ _ (fun k_=>k_≠gb218∧k_≠gb220) (fun _=>False) rfl rfl ?aO ?aR (fun _ _ h=>h) (fun _ h=>h.elim) ?aF ?aB ?aS ?aL ?_;(case aR=>repeat(first|exact(Kd.aN HR224.out HB.out)|(with_reducible first|apply Kd.aY|apply Kd.aZ|apply Kd.bn)));(case aB=>exact(by with_reducible repeat(first|exact HB.out|apply ah|apply aa|apply ai|refine ae ?_ GE218.out|refine ae ?_ GE220.out)));(case aF=>exact(fun k_ hk=>⟨Kd.bZ (g:=gb218) (o:=.cells #[.int .i64 a2_0,.int .i64 a2_1] 35 (0,0)) (by(with_reducible repeat(first|apply ag|apply aj|apply af));exact BK218.out) k_ hk,Kd.bZ (g:=gb220) (o:=.cells #[.int .i64 ((ax l0 a1).f0),.int .i64 ((ax l0 a1).f1)] 35 (0,0)) (by(with_reducible repeat(first|apply ag|apply aj|apply af));exact BK220.out) k_ hk⟩));(case aO=>exact((Kd.dn _ _ _ _ (fun k_=>k_≠gb218∧k_≠gb220))));(case aS=>exact(az (by with_reducible repeat(first|exact HB.out|apply ah|apply aa|apply ai|refine ae ?_ GE218.out|refine ae ?_ GE220.out))));(case aL=>have:=LMc8.out;omega);intro v226 w78 ho hb hg hat;rw[← Ny225.out] at ho;replace BK218:=au (bf (g:=gb218) (o:=.cells #[.int .i64 a2_0,.int .i64 a2_1] 35 (0,0)) (by(with_reducible repeat(first|apply ag|apply aj|apply af));exact BK218.out) hg (by simp[Value.ownBlock]));replace BK220:=au (bf (g:=gb220) (o:=.cells #[.int .i64 ((ax l0 a1).f0),.int .i64 ((ax l0 a1).f1)] 35 (0,0)) (by(with_reducible repeat(first|apply ag|apply aj|apply af));exact BK220.out) hg (by simp[Value.ownBlock]));replace HB:=au (hb);have HO227:=au (ho);clear ho hb hg hat;have hcz79_0:w78.cell? ⟨gb218,0,none⟩=some (.int .i64 a2_0):=(ak BK218.out 0).trans rfl;have hcz79_1:w78.cell? ⟨gb218,1,none⟩=some (.int .i64 a2_1):=(ak BK218.out 1).trans rfl;have hfz79_0:=av BK218.out 0;have hfz79_1:=av BK218.out 1;have hcz80_0:w78.cell? ⟨gb220,0,none⟩=some (.int .i64 ((ax l0 a1).f0)):=(ak BK220.out 0).trans rfl;have hcz80_1:w78.cell? ⟨gb220,1,none⟩=some (.int .i64 ((ax l0 a1).f1)):=(ak BK220.out 1).trans rfl;have hfz80_0:=av BK220.out 0;have hfz80_1:=av BK220.out 1;have q81:((ji68):Int)≤((l0.length:Int):Int):=of_decide_eq_true (by assumption);obtain⟨i081,hi081,_,hsz81,_⟩:=info_parts bV;have hroom81:l0.length≤c0:=HC0.out;have hC81:Kd.C k35 _ (some ad219) l0.length l0:=HR0.out;have q081:(0:Int)≤((ji68):Int):=of_decide_eq_true (by assumption);have hcut81:=gU (P:=Try.prog) 22 35 .i64 Try.underlying22 hi081 2 hsz81 (some ad219) l0.length c0 (ji68) q081 q81;have hr81:=Kd.iw (m:=((ji68):Int).toNat) (c:=c0) hC81 (by omega) hroom81;obtain⟨A81,hA81⟩:∃ A1,A1 = (if c0 = ((ji68):Int).toNat then (some ad219) else ((some ad219):Option Addr).map (·.add (((ji68):Int).toNat*2))):=⟨_,rfl⟩;obtain⟨c81,hc81⟩:∃ c1,c1=c0 - ((ji68):Int).toNat:=⟨_,rfl⟩;have hy81:y258.length=l0.length - ((ji68):Int).toNat:=(by rw[Ny258.out,List.length_drop] <;> omega);rw[show(l0).drop ((ji68):Int).toNat=y258 from Ny258.out.symm] at hr81;replace hr81:Kd.C k35 _ A81 y258.length y258:=(by rw[hA81];exact hr81);rw[← hy81,← hA81,← hc81] at hcut81;have HR261:=au hr81;have HC261:=au (show y258.length≤c81 from by rw[hy81,hc81];exact Nat.sub_le_sub_right hroom81 _);clear hr81 hC81 hroom81 hi081 hsz81 hc81;have KY81:=au hy81;have KA81:=au hA81;clear hy81 hA81;replace q81:=eq_true q81)|((with_reducible refine bu (b:=.append) (xs:=#[.tmp 59,.tmp 63]) rfl ?_);at_builtin;refine Kd.bY k35 (w0:=w) w.heap.size rfl (.tmp 59) (.tmp 63) 22 35 (.agg #[(.int .i64 0),(.int .i64 0)]) 16 rfl Try.underlying22 bV rfl (by decide) (by omega) v226 y225 y258 _ _ _ (fun k_=>k_≠gb218∧k_≠gb220) (fun _=>False) rfl rfl ?aO ?aR (fun _ _ h=>h) (fun _ h=>h.elim) ?aF ?aB ?aS ?aL ?_;(case aR=>repeat(first|exact(Kd.aN HR261.out HB.out)|(with_reducible first|apply Kd.aY|apply Kd.aZ|apply Kd.bn)));(case aB=>exact(by with_reducible repeat(first|exact HB.out|apply ah|apply aa|apply ai|refine ae ?_ GE218.out|refine ae ?_ GE220.out)));(case aF=>exact(fun k_ hk=>⟨Kd.bZ (g:=gb218) (o:=.cells #[.int .i64 a2_0,.int .i64 a2_1] 35 (0,0)) (by(with_reducible repeat(first|apply ag|apply aj|apply af));exact BK218.out) k_ hk,Kd.bZ (g:=gb220) (o:=.cells #[.int .i64 ((ax l0 a1).f0),.int .i64 ((ax l0 a1).f1)] 35 (0,0)) (by(with_reducible repeat(first|apply ag|apply aj|apply af));exact BK220.out) k_ hk⟩));(case aO=>exact(by(with_reducible repeat(first|apply Kd.aD|apply Kd.aC|apply Kd.aI));exact HO227.out));(case aS=>exact(az (by with_reducible repeat(first|exact HB.out|apply ah|apply aa|apply ai|refine ae ?_ GE218.out|refine ae ?_ GE220.out))));(case aL=>have:=LMc71.out;omega);intro v263 w82 ho hb hg hat;rw[← Ny262.out] at ho;replace BK218:=au (bf (g:=gb218) (o:=.cells #[.int .i64 a2_0,.int .i64 a2_1] 35 (0,0)) (by(with_reducible repeat(first|apply ag|apply aj|apply af));exact BK218.out) hg (Kd.dA HO227.out (fun _ hk=>hk.1)));replace BK220:=au (bf (g:=gb220) (o:=.cells #[.int .i64 ((ax l0 a1).f0),.int .i64 ((ax l0 a1).f1)] 35 (0,0)) (by(with_reducible repeat(first|apply ag|apply aj|apply af));exact BK220.out) hg (Kd.dA HO227.out (fun _ hk=>hk.2)));replace HB:=au (hb);have HO264:=au (ho);clear HO227;clear ho hb hg hat))
          go_ret
          exact⟨_,by first|rfl|(simp[cu,cB] <;> rfl)|(simp only[← hji68];first|rfl|(simp[cu,cB] <;> rfl))|(simp[*,cu,cB] <;> rfl)|(simp[E.eB];done)|(rw[E.fw]),by(with_reducible repeat(first|apply Kd.aD|apply Kd.aC|apply Kd.aI));exact Kd.aT HO264.out (fun _ hk=>trivial),by with_reducible repeat(first|exact HB.out|apply ah|apply aa|apply ai|refine ae ?_ GE218.out|refine ae ?_ GE220.out)⟩
         ·rw[if_neg c71] at H
          exact absurd H (by simp)
        ·rw[if_neg c70] at H
         exact absurd H (by simp)
       ·rw[if_neg c69] at H
        exact absurd H (by simp)
    ·rw[if_neg c8] at H
     exact absurd H (by simp)
   ·rw[if_neg c7] at H
    exact absurd H (by simp)
  ·rw[if_neg c5] at H
   exact absurd H (by simp)
 ·rw[if_neg c4] at H
  exact absurd H (by simp)
attribute [local go_sem] bG bH bS bT bB bA bJ bI
set_option linter.unusedVariables false
set_option linter.unusedSimpArgs false
def spec_l5Within.l0:Nat→List (S35)→Int→Int→Int→Int→Option (Int)
 | 0,_,_,_,_,_=>none
 | k+1,x7,x8,x9,x266000,x266001=>if x9<x8 then (if 0≤x9 then (if x9 < (x7.length:Int) then (if ((ax x7 x9).f0)≤x266000 then (if (wrap64 (x266000+x266001))≤(wrap64 (((ax x7 x9).f0) + ((ax x7 x9).f1))) then (some x9) else (spec_l5Within.l0 k x7 x8 (wrap64 (x9+1)) x266000 x266001)) else (spec_l5Within.l0 k x7 x8 (wrap64 (x9+1)) x266000 x266001)) else (none)) else (none)) else (some (-1))
def spec_l5Within.f (k:Nat) (l0:List (S35)) (a1_0:Int) (a1_1:Int):Option (Int):=spec_l5Within.l0 k l0 (l0.length:Int) 0 a1_0 a1_1
set_option maxHeartbeats 8000000 in
set_option maxRecDepth 100000 in
theorem spec_l5Within.calls (k : Nat) (A0 : Option Addr) (c0 : Nat) (l0 : List (S35)) (a1_0 : Int) (a1_1 : Int) (r : Int) (w : World) (hr0 : Kd.C k35 w A0 l0.length l0) (hc0 : l0.length ≤ c0) (h : spec_l5Within.f k l0 a1_0 a1_1 = some r) :
  Calls Try.prog 58 #[.slice A0 l0.length c0,.agg #[.int .i64 a1_0,.int .i64 a1_1]] w fun e w'=>e = .returned (.int .i64 r)∧Below w.heap.size w w':=by
 have hu35:=Try.underlying35
 have HR0:=au hr0
 have HC0:=au hc0
 clear hr0 hc0
 have HB:=au (Below.refl w.heap.size w)
 have H:(spec_l5Within.l0 k l0 (l0.length:Int) 0 a1_0 a1_1)=some r:=h
 clear h
 have H':=au H
 clear H
 go_enter Try.func58,Try.ntmps58
 go_wp2_with (first|((with_reducible refine aM (N:=3) rfl ?_);refine aJ ?hg (N:=3) ?hd (cs:=#[.int .i64 a1_0,.int .i64 a1_1]) (t:=35) ?hr ?_;(case hd=>rfl);(case hg=>rfl);(case hr=>first|(go_simp;done)|(go_simp;rfl));intro gb265 hg w3 hbox hb;have BK265:=au (hbox);have GW265:=au ((by rw[hg];exact(az (by with_reducible repeat(first|exact HB.out|apply ah|apply aa|apply ai))):w.heap.size≤gb265));have GE265:=au ((by rw[hg];exact(az (by with_reducible repeat(first|exact HB.out|apply ah|apply aa|apply ai))):w.heap.size≤gb265));replace HB:=au (aA (by with_reducible repeat(first|exact HB.out|apply ah|apply aa|apply ai)) hb);clear hb hbox hg))
 go_loopg [9] k (fun kq v9 w'=>∃ (x9_1:Int),v9 = .int .i64 x9_1∧Aside0 (spec_l5Within.l0 kq l0 (l0.length:Int) x9_1 a1_0 a1_1=some r)∧Aside0 (kq≤k)∧Aside0 (w'.heap[gb265]? = some (.cells #[.int .i64 a1_0,.int .i64 a1_1] 35 (0,0)))∧Aside0 (Below w.heap.size w w'))
 case atStart=>exact⟨(0),(by first|rfl|(simp;done)|(simp[*];done)),H',⟨Nat.le_refl _⟩,⟨by(with_reducible repeat(first|apply ag|apply aj|apply af));exact BK265.out⟩,⟨by with_reducible repeat(first|exact HB.out|apply ah|apply aa|apply ai|refine ae ?_ GE265.out)⟩⟩
 case round =>
  clear H'
  try clear p2
  obtain⟨x9_1,rfl,HA,HK1,BK265,HB⟩:=hrel
  cases gk with
  | zero=>exact absurd HA.out (by simp[spec_l5Within.l0])
  | succ k1=>
   have H:=HA.out
   clear HA
   simp only[spec_l5Within.l0] at H
   by_cases c4:x9_1 < (l0.length:Int)
   ·rw [if_pos c4] at H
    have c4b0:decide (x9_1 < (l0.length:Int))=true:=decide_eq_true c4
    clear c4
    by_cases c5:0≤x9_1
    ·rw [if_pos c5] at H
     have c5b0:decide (0≤x9_1)=true:=decide_eq_true c5
     clear c5
     by_cases c6:x9_1 < (l0.length:Int)
     ·rw[if_pos c6] at H
      have c6b0:decide (x9_1 < (l0.length:Int))=true:=decide_eq_true c6
      clear c6
      by_cases c7:((ax l0 x9_1).f0)≤a1_0
      ·rw[if_pos c7] at H
       have c7b0:decide (((ax l0 x9_1).f0)≤a1_0)=true:=decide_eq_true c7
       clear c7
       by_cases c8:(wrap64 (a1_0+a1_1))≤(wrap64 (((ax l0 x9_1).f0) + ((ax l0 x9_1).f1)))
       ·rw[if_pos c8] at H
        have c8b0:decide ((wrap64 (a1_0+a1_1))≤(wrap64 (((ax l0 x9_1).f0) + ((ax l0 x9_1).f1))))=true:=decide_eq_true c8
        clear c8
        obtain rfl:=Option.some.inj H
        have p266:0≤(x9_1:Int):=of_decide_eq_true (by assumption)
        have q266:x9_1 < (l0.length:Int):=of_decide_eq_true (by assumption)
        obtain⟨ad266,e266,hx266_0,hx266_1⟩:=bF HR0.out x9_1 p266 q266
        cases e266
        replace hx266_0:=(HB.out.cell (World.block_lt_of_cell? w _ hx266_0)).trans hx266_0
        replace hx266_1:=(HB.out.cell (World.block_lt_of_cell? w _ hx266_1)).trans hx266_1
        replace p266:=eq_true p266
        replace q266:=eq_true q266
        go_wp2_with (first|((with_reducible refine aM (N:=6) rfl ?_);refine aJ ?hg (N:=6) ?hd (cs:=#[.int .i64 0,.int .i64 0]) (t:=35) ?hr ?_;(case hd=>rfl);(case hg=>rfl);(case hr=>first|(go_simp;done)|(go_simp;rfl));intro gb267 hg w9 hbox hb;have BK267:=au (hbox);have GW267:=au ((by rw[hg];exact(az (by with_reducible repeat(first|exact HB.out|apply ah|apply aa|apply ai|refine ae ?_ GE265.out))):w.heap.size≤gb267));have GE267:=au ((by rw[hg];exact(az (by with_reducible repeat(first|exact HB.out|apply ah|apply aa|apply ai|refine ae ?_ GE265.out))):w.heap.size≤gb267));replace HB:=au (aA (by with_reducible repeat(first|exact HB.out|apply ah|apply aa|apply ai|refine ae ?_ GE265.out)) hb);have NB265_267:=au ((by rw[hg];exact Nat.ne_of_lt (aH (g:=gb265) (o:=.cells #[.int .i64 a1_0,.int .i64 a1_1] 35 (0,0)) (by(with_reducible repeat(first|apply ag|apply aj|apply af));exact BK265.out)):gb265≠gb267));have NB267_265:=au ((by rw[hg];exact Nat.ne_of_gt (aH (g:=gb265) (o:=.cells #[.int .i64 a1_0,.int .i64 a1_1] 35 (0,0)) (by(with_reducible repeat(first|apply ag|apply aj|apply af));exact BK265.out)):gb267≠gb265));replace BK265:=au (ay (g:=gb265) (o:=.cells #[.int .i64 a1_0,.int .i64 a1_1] 35 (0,0)) (by(with_reducible repeat(first|apply ag|apply aj|apply af));exact BK265.out) hb);clear hb hbox hg;have hnb10:=NB267_265.out;have hnc10:=NB265_267.out;have hcz11_0:w9.cell? ⟨gb267,0,none⟩=some (.int .i64 0):=(ak BK267.out 0).trans rfl;have hcz11_1:w9.cell? ⟨gb267,1,none⟩=some (.int .i64 0):=(ak BK267.out 1).trans rfl;have hfz11_0:=av BK267.out 0;have hfz11_1:=av BK267.out 1;have hcz12_0:w9.cell? ⟨gb265,0,none⟩=some (.int .i64 a1_0):=(ak BK265.out 0).trans rfl;have hcz12_1:w9.cell? ⟨gb265,1,none⟩=some (.int .i64 a1_1):=(ak BK265.out 1).trans rfl;have hfz12_0:=av BK265.out 0;have hfz12_1:=av BK265.out 1))
        go_ret
        exact⟨by first|rfl|(simp <;> rfl)|(simp[*] <;> rfl),by with_reducible repeat(first|exact HB.out|apply ah|apply aa|apply ai|refine ae ?_ GE265.out|refine ae ?_ GE267.out)⟩
       ·rw[if_neg c8] at H
        have c8b0:decide ((wrap64 (a1_0+a1_1))≤(wrap64 (((ax l0 x9_1).f0) + ((ax l0 x9_1).f1))))=false:=decide_eq_false c8
        clear c8
        have H':=au H
        clear H
        have p266:0≤(x9_1:Int):=of_decide_eq_true (by assumption)
        have q266:x9_1 < (l0.length:Int):=of_decide_eq_true (by assumption)
        obtain⟨ad266,e266,hx266_0,hx266_1⟩:=bF HR0.out x9_1 p266 q266
        cases e266
        replace hx266_0:=(HB.out.cell (World.block_lt_of_cell? w _ hx266_0)).trans hx266_0
        replace hx266_1:=(HB.out.cell (World.block_lt_of_cell? w _ hx266_1)).trans hx266_1
        replace p266:=eq_true p266
        replace q266:=eq_true q266
        go_wp2_with (first|((with_reducible refine aM (N:=6) rfl ?_);refine aJ ?hg (N:=6) ?hd (cs:=#[.int .i64 0,.int .i64 0]) (t:=35) ?hr ?_;(case hd=>rfl);(case hg=>rfl);(case hr=>first|(go_simp;done)|(go_simp;rfl));intro gb267 hg w13 hbox hb;have BK267:=au (hbox);have GW267:=au ((by rw[hg];exact(az (by with_reducible repeat(first|exact HB.out|apply ah|apply aa|apply ai|refine ae ?_ GE265.out))):w.heap.size≤gb267));have GE267:=au ((by rw[hg];exact(az (by with_reducible repeat(first|exact HB.out|apply ah|apply aa|apply ai|refine ae ?_ GE265.out))):w.heap.size≤gb267));replace HB:=au (aA (by with_reducible repeat(first|exact HB.out|apply ah|apply aa|apply ai|refine ae ?_ GE265.out)) hb);have NB265_267:=au ((by rw[hg];exact Nat.ne_of_lt (aH (g:=gb265) (o:=.cells #[.int .i64 a1_0,.int .i64 a1_1] 35 (0,0)) (by(with_reducible repeat(first|apply ag|apply aj|apply af));exact BK265.out)):gb265≠gb267));have NB267_265:=au ((by rw[hg];exact Nat.ne_of_gt (aH (g:=gb265) (o:=.cells #[.int .i64 a1_0,.int .i64 a1_1] 35 (0,0)) (by(with_reducible repeat(first|apply ag|apply aj|apply af));exact BK265.out)):gb267≠gb265));replace BK265:=au (ay (g:=gb265) (o:=.cells #[.int .i64 a1_0,.int .i64 a1_1] 35 (0,0)) (by(with_reducible repeat(first|apply ag|apply aj|apply af));exact BK265.out) hb);clear hb hbox hg;have hnb14:=NB267_265.out;have hnc14:=NB265_267.out;have hcz15_0:w13.cell? ⟨gb267,0,none⟩=some (.int .i64 0):=(ak BK267.out 0).trans rfl;have hcz15_1:w13.cell? ⟨gb267,1,none⟩=some (.int .i64 0):=(ak BK267.out 1).trans rfl;have hfz15_0:=av BK267.out 0;have hfz15_1:=av BK267.out 1;have hcz16_0:w13.cell? ⟨gb265,0,none⟩=some (.int .i64 a1_0):=(ak BK265.out 0).trans rfl;have hcz16_1:w13.cell? ⟨gb265,1,none⟩=some (.int .i64 a1_1):=(ak BK265.out 1).trans rfl;have hfz16_0:=av BK265.out 0;have hfz16_1:=av BK265.out 1))
        go_roundg k1
        case measure=>have:=HK1.out;omega
        case rel=>exact⟨(wrap64 (x9_1+1)),(by first|rfl|(simp;done)|(simp[*];done)),H',⟨by have:=HK1.out;omega⟩,⟨by(with_reducible repeat(first|apply ag|apply aj|apply af));refine aG ?_ NB265_267.out _;(with_reducible repeat(first|apply ag|apply aj|apply af));refine aG ?_ NB265_267.out _;(with_reducible repeat(first|apply ag|apply aj|apply af));exact BK265.out⟩,⟨by with_reducible repeat(first|exact HB.out|apply ah|apply aa|apply ai|refine ae ?_ GE265.out|refine ae ?_ GE267.out)⟩⟩
      ·rw[if_neg c7] at H
       have c7b0:decide (((ax l0 x9_1).f0)≤a1_0)=false:=decide_eq_false c7
       clear c7
       have H':=au H
       clear H
       have p266:0≤(x9_1:Int):=of_decide_eq_true (by assumption)
       have q266:x9_1 < (l0.length:Int):=of_decide_eq_true (by assumption)
       obtain⟨ad266,e266,hx266_0,hx266_1⟩:=bF HR0.out x9_1 p266 q266
       cases e266
       replace hx266_0:=(HB.out.cell (World.block_lt_of_cell? w _ hx266_0)).trans hx266_0
       replace hx266_1:=(HB.out.cell (World.block_lt_of_cell? w _ hx266_1)).trans hx266_1
       replace p266:=eq_true p266
       replace q266:=eq_true q266
       go_wp2_with (first|((with_reducible refine aM (N:=6) rfl ?_);refine aJ ?hg (N:=6) ?hd (cs:=#[.int .i64 0,.int .i64 0]) (t:=35) ?hr ?_;(case hd=>rfl);(case hg=>rfl);(case hr=>first|(go_simp;done)|(go_simp;rfl));intro gb267 hg w17 hbox hb;have BK267:=au (hbox);have GW267:=au ((by rw[hg];exact(az (by with_reducible repeat(first|exact HB.out|apply ah|apply aa|apply ai|refine ae ?_ GE265.out))):w.heap.size≤gb267));have GE267:=au ((by rw[hg];exact(az (by with_reducible repeat(first|exact HB.out|apply ah|apply aa|apply ai|refine ae ?_ GE265.out))):w.heap.size≤gb267));replace HB:=au (aA (by with_reducible repeat(first|exact HB.out|apply ah|apply aa|apply ai|refine ae ?_ GE265.out)) hb);have NB265_267:=au ((by rw[hg];exact Nat.ne_of_lt (aH (g:=gb265) (o:=.cells #[.int .i64 a1_0,.int .i64 a1_1] 35 (0,0)) (by(with_reducible repeat(first|apply ag|apply aj|apply af));exact BK265.out)):gb265≠gb267));have NB267_265:=au ((by rw[hg];exact Nat.ne_of_gt (aH (g:=gb265) (o:=.cells #[.int .i64 a1_0,.int .i64 a1_1] 35 (0,0)) (by(with_reducible repeat(first|apply ag|apply aj|apply af));exact BK265.out)):gb267≠gb265));replace BK265:=au (ay (g:=gb265) (o:=.cells #[.int .i64 a1_0,.int .i64 a1_1] 35 (0,0)) (by(with_reducible repeat(first|apply ag|apply aj|apply af));exact BK265.out) hb);clear hb hbox hg;have hnb18:=NB267_265.out;have hnc18:=NB265_267.out;have hcz19_0:w17.cell? ⟨gb267,0,none⟩=some (.int .i64 0):=(ak BK267.out 0).trans rfl;have hcz19_1:w17.cell? ⟨gb267,1,none⟩=some (.int .i64 0):=(ak BK267.out 1).trans rfl;have hfz19_0:=av BK267.out 0;have hfz19_1:=av BK267.out 1;have hcz20_0:w17.cell? ⟨gb265,0,none⟩=some (.int .i64 a1_0):=(ak BK265.out 0).trans rfl;have hcz20_1:w17.cell? ⟨gb265,1,none⟩=some (.int .i64 a1_1):=(ak BK265.out 1).trans rfl;have hfz20_0:=av BK265.out 0;have hfz20_1:=av BK265.out 1))
       go_roundg k1
       case measure=>have:=HK1.out;omega
       case rel=>exact⟨(wrap64 (x9_1+1)),(by first|rfl|(simp;done)|(simp[*];done)),H',⟨by have:=HK1.out;omega⟩,⟨by(with_reducible repeat(first|apply ag|apply aj|apply af));refine aG ?_ NB265_267.out _;(with_reducible repeat(first|apply ag|apply aj|apply af));refine aG ?_ NB265_267.out _;(with_reducible repeat(first|apply ag|apply aj|apply af));exact BK265.out⟩,⟨by with_reducible repeat(first|exact HB.out|apply ah|apply aa|apply ai|refine ae ?_ GE265.out|refine ae ?_ GE267.out)⟩⟩
     ·rw[if_neg c6] at H
      exact absurd H (by simp)
    ·rw[if_neg c5] at H
     exact absurd H (by simp)
   ·rw[if_neg c4] at H
    have c4b0:decide (x9_1 < (l0.length:Int))=false:=decide_eq_false c4
    clear c4
    obtain rfl:=Option.some.inj H
    go_wp2
    go_ret
    exact⟨by first|rfl|(simp <;> rfl)|(simp[*] <;> rfl),by with_reducible repeat(first|exact HB.out|apply ah|apply aa|apply ai|refine ae ?_ GE265.out)⟩
attribute [local go_sem] bG bH bS bT bB bA bJ bI
set_option linter.unusedVariables false
set_option linter.unusedSimpArgs false
def spec_TakeExact.j0:Nat→Bool→Int→List (S35)→List (S35)→Int→Int→Option (Int×(List (S35))×(List (S35))×Bool)
 | 0,_,_,_,_,_,_=>none
 | k+1,x17,x290000,x290001,x290002,x291000,x291001=>if x17=true then (some (0,([]:List (S35)),([]:List (S35)),false)) else ((spec_l5Within.f k x290001 x291000 x291001).bind fun t294=>(if t294<0 then (some (0,([]:List (S35)),([]:List (S35)),false)) else ((spec_l5Cut.f x290001 t294 x291000 x291001).bind fun t295=>((spec_l5Of.f k x290000 t295).bind fun bt298=>((spec_GoodFree.f k bt298.1 bt298.2.1 bt298.2.2).bind fun t306=>(if t306=true then (some (bt298.1,bt298.2.1,bt298.2.2,true)) else (some (0,([]:List (S35)),([]:List (S35)),false))))))))
def spec_TakeExact.f (k:Nat) (a0_0:Int) (l0_1:List (S35)) (l0_2:List (S35)) (a1_0:Int) (a1_1:Int):Option (Int×(List (S35))×(List (S35))×Bool):=(spec_GoodFree.f k a0_0 l0_1 l0_2).bind fun t292=>(if t292=true then ((spec_l5Extent.f a1_0 a1_1 a0_0).bind fun t293=>(spec_TakeExact.j0 k (!t293) a0_0 l0_1 l0_2 a1_0 a1_1)) else (spec_TakeExact.j0 k true a0_0 l0_1 l0_2 a1_0 a1_1))
def spec_TakeExact.T6:Bool×List (List Nat×List Nat):=(true,[([],[]),([0],[0]),([],[]),([2],[2]),([],[]),([],[]),([3,4,5],[3,4,5]),([1,6,6],[1,6]),([],[]),([8,7,7,0,1,2,3,4,5,6,7,8],[7,8])])
def spec_TakeExact.B6:List Nat:=[0,1,0,4,0,0,60,127,0,511]
theorem spec_TakeExact.tab6:fK .any (opsOf Try.f31 6)=spec_TakeExact.T6:=by kernel_rfl
theorem spec_TakeExact.bits6:gH spec_TakeExact.T6.2 spec_TakeExact.B6=true:=by kernel_rfl
set_option maxHeartbeats 8000000 in
set_option maxRecDepth 100000 in
theorem spec_TakeExact.calls (k : Nat) (a0_0 : Int) (A0_1 : Option Addr) (c0_1 : Nat) (l0_1 : List (S35)) (A0_2 : Option Addr) (c0_2 : Nat) (l0_2 : List (S35)) (a1_0 : Int) (a1_1 : Int) (r1 : Int) (r2 : List (S35)) (r3 : List (S35)) (r4 : Bool) (w : World) (hr0_1 : Kd.C k35 w A0_1 l0_1.length l0_1) (hc0_1 : l0_1.length ≤ c0_1) (hr0_2 : Kd.C k35 w A0_2 l0_2.length l0_2) (hc0_2 : l0_2.length ≤ c0_2) (h : spec_TakeExact.f k a0_0 l0_1 l0_2 a1_0 a1_1 = some (r1, r2, r3, r4)) :
  Calls Try.prog 31 #[.agg #[.int .i64 a0_0,.slice A0_1 l0_1.length c0_1,.slice A0_2 l0_2.length c0_2],.agg #[.int .i64 a1_0,.int .i64 a1_1]] w fun e w'=>∃ v1_ v2_:Value,e = .returned (.tuple #[.agg #[.int .i64 r1,v1_,v2_],.bool r4])∧Kd.R k35 35 w' w.heap.size (fun k_=>some k_≠(v2_:Value).ownBlock) v1_ r2∧Kd.R k35 35 w' w.heap.size (fun k_=>some k_≠(v1_:Value).ownBlock) v2_ r3∧Below w.heap.size w w':=by
 have hu24:=Try.underlying24
 have hu35:=Try.underlying35
 have HR0_1:=au hr0_1
 have HC0_1:=au hc0_1
 clear hr0_1 hc0_1
 have HR0_2:=au hr0_2
 have HC0_2:=au hc0_2
 clear hr0_2 hc0_2
 have HB:=au (Below.refl w.heap.size w)
 have H:((spec_GoodFree.f k a0_0 l0_1 l0_2).bind fun t292=>(if t292=true then ((spec_l5Extent.f a1_0 a1_1 a0_0).bind fun t293=>(spec_TakeExact.j0 k (!t293) a0_0 l0_1 l0_2 a1_0 a1_1)) else (spec_TakeExact.j0 k true a0_0 l0_1 l0_2 a1_0 a1_1)))=some (r1,r2,r3,r4):=h
 clear h
 have HC3:=au H
 clear H
 go_enter Try.func31,Try.ntmps31
 go_upto_region 1 with(first|((with_reducible refine aM (N:=2) rfl ?_);refine aJ ?hg (N:=2) ?hd (cs:=#[.int .i64 a0_0,.slice A0_1 l0_1.length c0_1,.slice A0_2 l0_2.length c0_2]) (t:=24) ?hr ?_;(case hd=>rfl);(case hg=>rfl);(case hr=>first|(go_simp;done)|(go_simp;rfl));intro gb289 hg w4 hbox hb;have BK289:=au (hbox);have GW289:=au ((by rw[hg];exact(az (by with_reducible repeat(first|exact HB.out|apply ah|apply aa|apply ai))):w.heap.size≤gb289));have GE289:=au ((by rw[hg];exact(az (by with_reducible repeat(first|exact HB.out|apply ah|apply aa|apply ai))):w.heap.size≤gb289));replace HB:=au (aA (by with_reducible repeat(first|exact HB.out|apply ah|apply aa|apply ai)) hb);clear hb hbox hg)|((with_reducible refine aM (N:=3) rfl ?_);refine aJ ?hg (N:=3) ?hd (cs:=#[.int .i64 a1_0,.int .i64 a1_1]) (t:=35) ?hr ?_;(case hd=>rfl);(case hg=>rfl);(case hr=>first|(go_simp;done)|(go_simp;rfl));intro gb290 hg w5 hbox hb;have BK290:=au (hbox);have GW290:=au ((by rw[hg];exact(az (by with_reducible repeat(first|exact HB.out|apply ah|apply aa|apply ai|refine ae ?_ GE289.out))):w.heap.size≤gb290));have GE290:=au ((by rw[hg];exact(az (by with_reducible repeat(first|exact HB.out|apply ah|apply aa|apply ai|refine ae ?_ GE289.out))):w.heap.size≤gb290));replace HB:=au (aA (by with_reducible repeat(first|exact HB.out|apply ah|apply aa|apply ai|refine ae ?_ GE289.out)) hb);have NB289_290:=au ((by rw[hg];exact Nat.ne_of_lt (aH (g:=gb289) (o:=.cells #[.int .i64 a0_0,.slice A0_1 l0_1.length c0_1,.slice A0_2 l0_2.length c0_2] 24 (0,0)) (by(with_reducible repeat(first|apply ag|apply aj|apply af));exact BK289.out)):gb289≠gb290));have NB290_289:=au ((by rw[hg];exact Nat.ne_of_gt (aH (g:=gb289) (o:=.cells #[.int .i64 a0_0,.slice A0_1 l0_1.length c0_1,.slice A0_2 l0_2.length c0_2] 24 (0,0)) (by(with_reducible repeat(first|apply ag|apply aj|apply af));exact BK289.out)):gb290≠gb289));replace BK289:=au (ay (g:=gb289) (o:=.cells #[.int .i64 a0_0,.slice A0_1 l0_1.length c0_1,.slice A0_2 l0_2.length c0_2] 24 (0,0)) (by(with_reducible repeat(first|apply ag|apply aj|apply af));exact BK289.out) hb);clear hb hbox hg)|((with_reducible refine aM (N:=4) rfl ?_);refine aJ ?hg (N:=4) ?hd (cs:=#[.int .i64 0,.slice none 0 0,.slice none 0 0]) (t:=24) ?hr ?_;(case hd=>rfl);(case hg=>rfl);(case hr=>first|(go_simp;done)|(go_simp;rfl));intro gb291 hg w6 hbox hb;have BK291:=au (hbox);have GW291:=au ((by rw[hg];exact(az (by with_reducible repeat(first|exact HB.out|apply ah|apply aa|apply ai|refine ae ?_ GE289.out|refine ae ?_ GE290.out))):w.heap.size≤gb291));have GE291:=au ((by rw[hg];exact(az (by with_reducible repeat(first|exact HB.out|apply ah|apply aa|apply ai|refine ae ?_ GE289.out|refine ae ?_ GE290.out))):w.heap.size≤gb291));replace HB:=au (aA (by with_reducible repeat(first|exact HB.out|apply ah|apply aa|apply ai|refine ae ?_ GE289.out|refine ae ?_ GE290.out)) hb);have NB289_291:=au ((by rw[hg];exact Nat.ne_of_lt (aH (g:=gb289) (o:=.cells #[.int .i64 a0_0,.slice A0_1 l0_1.length c0_1,.slice A0_2 l0_2.length c0_2] 24 (0,0)) (by(with_reducible repeat(first|apply ag|apply aj|apply af));exact BK289.out)):gb289≠gb291));have NB291_289:=au ((by rw[hg];exact Nat.ne_of_gt (aH (g:=gb289) (o:=.cells #[.int .i64 a0_0,.slice A0_1 l0_1.length c0_1,.slice A0_2 l0_2.length c0_2] 24 (0,0)) (by(with_reducible repeat(first|apply ag|apply aj|apply af));exact BK289.out)):gb291≠gb289));replace BK289:=au (ay (g:=gb289) (o:=.cells #[.int .i64 a0_0,.slice A0_1 l0_1.length c0_1,.slice A0_2 l0_2.length c0_2] 24 (0,0)) (by(with_reducible repeat(first|apply ag|apply aj|apply af));exact BK289.out) hb);have NB290_291:=au ((by rw[hg];exact Nat.ne_of_lt (aH (g:=gb290) (o:=.cells #[.int .i64 a1_0,.int .i64 a1_1] 35 (0,0)) (by(with_reducible repeat(first|apply ag|apply aj|apply af));exact BK290.out)):gb290≠gb291));have NB291_290:=au ((by rw[hg];exact Nat.ne_of_gt (aH (g:=gb290) (o:=.cells #[.int .i64 a1_0,.int .i64 a1_1] 35 (0,0)) (by(with_reducible repeat(first|apply ag|apply aj|apply af));exact BK290.out)):gb291≠gb290));replace BK290:=au (ay (g:=gb290) (o:=.cells #[.int .i64 a1_0,.int .i64 a1_1] 35 (0,0)) (by(with_reducible repeat(first|apply ag|apply aj|apply af));exact BK290.out) hb);clear hb hbox hg))
 (try simp only[apu_])
 go_cut [17] (fun v17 wc=>∃ (kq:Nat) (x17_2:Bool),v17 = .bool x17_2∧Aside0 (spec_TakeExact.j0 kq x17_2 a0_0 l0_1 l0_2 a1_0 a1_1=some (r1,r2,r3,r4))∧Aside0 (kq≤k)∧Aside0 (wc.heap[gb289]? = some (.cells #[.int .i64 a0_0,(.slice A0_1 l0_1.length c0_1),(.slice A0_2 l0_2.length c0_2)] 24 (0,0)))∧Aside0 (wc.heap[gb290]? = some (.cells #[.int .i64 a1_0,.int .i64 a1_1] 35 (0,0)))∧Aside0 (wc.heap[gb291]? = some (.cells #[.int .i64 0,(.slice none 0 0),(.slice none 0 0)] 24 (0,0)))∧Aside0 (Below w.heap.size w wc))
 case first=>
  have H:=HC3.out
  clear HC3
  replace H:=Option.bind_eq_some_iff.mp H
  obtain⟨t292,A70,H⟩:=H
  replace H:(if t292=true then ((spec_l5Extent.f a1_0 a1_1 a0_0).bind fun t293=>(spec_TakeExact.j0 k (!t293) a0_0 l0_1 l0_2 a1_0 a1_1)) else (spec_TakeExact.j0 k true a0_0 l0_1 l0_2 a1_0 a1_1))=some (r1,r2,r3,r4):=H
  have A7:=au A70
  clear A70
  by_cases c8:t292=true
  ·subst c8
   have H1:((spec_l5Extent.f a1_0 a1_1 a0_0).bind fun t293=>(spec_TakeExact.j0 k (!t293) a0_0 l0_1 l0_2 a1_0 a1_1))=some (r1,r2,r3,r4):=by rw[if_pos rfl] at H;exact H
   clear H
   have H:=H1
   clear H1
   replace H:=Option.bind_eq_some_iff.mp H
   obtain⟨t293,A90,H⟩:=H
   replace H:(spec_TakeExact.j0 k (!t293) a0_0 l0_1 l0_2 a1_0 a1_1)=some (r1,r2,r3,r4):=H
   have A9:=au A90
   clear A90
   have H':=au H
   clear H
   have hnb10:=NB289_290.out
   have hnc10:=NB290_289.out
   have hnb11:=NB289_291.out
   have hnc11:=NB291_289.out
   have hcz12_0:w6.cell? ⟨gb289,0,none⟩=some (.int .i64 a0_0):=(ak BK289.out 0).trans rfl
   have hcz12_1:w6.cell? ⟨gb289,1,none⟩=some (.slice A0_1 l0_1.length c0_1):=(ak BK289.out 1).trans rfl
   have hcz12_2:w6.cell? ⟨gb289,2,none⟩=some (.slice A0_2 l0_2.length c0_2):=(ak BK289.out 2).trans rfl
   have hfz12_0:=av BK289.out 0
   have hfz12_1:=av BK289.out 1
   have hfz12_2:=av BK289.out 2
   go_wp2_with (first|((with_reducible refine aW (f:=25) rfl ?_);refine bO (some 9) rfl rfl Try.func25 (by kernel_rfl) rfl #[.agg #[.int .i64 a0_0,.slice A0_1 l0_1.length c0_1,.slice A0_2 l0_2.length c0_2]] rfl (by(try simp only[amp_]);first|done|rfl|(simp only[ald_];rfl)) ?_;(with_reducible refine(spec_GoodFree.calls k a0_0 _ _ l0_1 _ _ l0_2 true _ ?side1 ?side2 ?side3 ?side4 A7.out).mono ?_);(case side1=>repeat(first|exact(Kd.aN HR0_1.out HB.out)|(with_reducible first|apply Kd.aY|apply Kd.aZ|apply Kd.bn)));(case side2=>exact HC0_1.out);(case side3=>repeat(first|exact(Kd.aN HR0_2.out HB.out)|(with_reducible first|apply Kd.aY|apply Kd.aZ|apply Kd.bn)));(case side4=>exact HC0_2.out);rintro e w13 ⟨rfl,hb⟩;refine⟨_,rfl,?_⟩;replace BK289:=au (ay (g:=gb289) (o:=.cells #[.int .i64 a0_0,.slice A0_1 l0_1.length c0_1,.slice A0_2 l0_2.length c0_2] 24 (0,0)) (by(with_reducible repeat(first|apply ag|apply aj|apply af));exact BK289.out) hb);replace BK290:=au (ay (g:=gb290) (o:=.cells #[.int .i64 a1_0,.int .i64 a1_1] 35 (0,0)) (by(with_reducible repeat(first|apply ag|apply aj|apply af));exact BK290.out) hb);replace BK291:=au (ay (g:=gb291) (o:=.cells #[.int .i64 0,.slice none 0 0,.slice none 0 0] 24 (0,0)) (by(with_reducible repeat(first|apply ag|apply aj|apply af));exact BK291.out) hb);replace HB:=au (aA (by with_reducible repeat(first|exact HB.out|apply ah|apply aa|apply ai|refine ae ?_ GE289.out|refine ae ?_ GE290.out|refine ae ?_ GE291.out)) hb);(try clear hb);(try clear hb2);(try clear hk);(try clear hi);have hnb14:=NB290_291.out;have hnc14:=NB291_290.out;have hcz15_0:w13.cell? ⟨gb290,0,none⟩=some (.int .i64 a1_0):=(ak BK290.out 0).trans rfl;have hcz15_1:w13.cell? ⟨gb290,1,none⟩=some (.int .i64 a1_1):=(ak BK290.out 1).trans rfl;have hfz15_0:=av BK290.out 0;have hfz15_1:=av BK290.out 1;have hcz16_0:w13.cell? ⟨gb289,0,none⟩=some (.int .i64 a0_0):=(ak BK289.out 0).trans rfl;have hcz16_1:w13.cell? ⟨gb289,1,none⟩=some (.slice A0_1 l0_1.length c0_1):=(ak BK289.out 1).trans rfl;have hcz16_2:w13.cell? ⟨gb289,2,none⟩=some (.slice A0_2 l0_2.length c0_2):=(ak BK289.out 2).trans rfl;have hfz16_0:=av BK289.out 0;have hfz16_1:=av BK289.out 1;have hfz16_2:=av BK289.out 2)|(go_at_call 50;(with_reducible refine(spec_l5Extent.calls a1_0 a1_1 a0_0 t293 _ A9.out).mono ?_);rintro e w17 ⟨rfl,hb⟩;replace BK289:=au (ay (g:=gb289) (o:=.cells #[.int .i64 a0_0,.slice A0_1 l0_1.length c0_1,.slice A0_2 l0_2.length c0_2] 24 (0,0)) (by(with_reducible repeat(first|apply ag|apply aj|apply af));exact BK289.out) hb);replace BK290:=au (ay (g:=gb290) (o:=.cells #[.int .i64 a1_0,.int .i64 a1_1] 35 (0,0)) (by(with_reducible repeat(first|apply ag|apply aj|apply af));exact BK290.out) hb);replace BK291:=au (ay (g:=gb291) (o:=.cells #[.int .i64 0,.slice none 0 0,.slice none 0 0] 24 (0,0)) (by(with_reducible repeat(first|apply ag|apply aj|apply af));exact BK291.out) hb);replace HB:=au (aA (by with_reducible repeat(first|exact HB.out|apply ah|apply aa|apply ai|refine ae ?_ GE289.out|refine ae ?_ GE290.out|refine ae ?_ GE291.out)) hb);(try clear hb);(try clear hb2);(try clear hk);(try clear hi)))
   go_meet
   case rel=>exact⟨_,(!t293),(by first|rfl|(simp;done)|(simp[*];done)),H',⟨by first|omega|exact Nat.le_refl _⟩,⟨by(with_reducible repeat(first|apply ag|apply aj|apply af));exact BK289.out⟩,⟨by(with_reducible repeat(first|apply ag|apply aj|apply af));exact BK290.out⟩,⟨by(with_reducible repeat(first|apply ag|apply aj|apply af));exact BK291.out⟩,⟨by with_reducible repeat(first|exact HB.out|apply ah|apply aa|apply ai|refine ae ?_ GE289.out|refine ae ?_ GE290.out|refine ae ?_ GE291.out)⟩⟩
  ·replace c8:=Bool.eq_false_iff.mpr c8
   subst c8
   have H1:(spec_TakeExact.j0 k true a0_0 l0_1 l0_2 a1_0 a1_1)=some (r1,r2,r3,r4):=by rw[if_neg (show ¬ (false=true) by decide)] at H;exact H
   clear H
   have H:=H1
   clear H1
   have H':=au H
   clear H
   have hnb18:=NB289_290.out
   have hnc18:=NB290_289.out
   have hnb19:=NB289_291.out
   have hnc19:=NB291_289.out
   have hcz20_0:w6.cell? ⟨gb289,0,none⟩=some (.int .i64 a0_0):=(ak BK289.out 0).trans rfl
   have hcz20_1:w6.cell? ⟨gb289,1,none⟩=some (.slice A0_1 l0_1.length c0_1):=(ak BK289.out 1).trans rfl
   have hcz20_2:w6.cell? ⟨gb289,2,none⟩=some (.slice A0_2 l0_2.length c0_2):=(ak BK289.out 2).trans rfl
   have hfz20_0:=av BK289.out 0
   have hfz20_1:=av BK289.out 1
   have hfz20_2:=av BK289.out 2
   go_wp2_with (first|((with_reducible refine aW (f:=25) rfl ?_);refine bO (some 9) rfl rfl Try.func25 (by kernel_rfl) rfl #[.agg #[.int .i64 a0_0,.slice A0_1 l0_1.length c0_1,.slice A0_2 l0_2.length c0_2]] rfl (by(try simp only[amp_]);first|done|rfl|(simp only[ald_];rfl)) ?_;(with_reducible refine(spec_GoodFree.calls k a0_0 _ _ l0_1 _ _ l0_2 false _ ?side1 ?side2 ?side3 ?side4 A7.out).mono ?_);(case side1=>repeat(first|exact(Kd.aN HR0_1.out HB.out)|(with_reducible first|apply Kd.aY|apply Kd.aZ|apply Kd.bn)));(case side2=>exact HC0_1.out);(case side3=>repeat(first|exact(Kd.aN HR0_2.out HB.out)|(with_reducible first|apply Kd.aY|apply Kd.aZ|apply Kd.bn)));(case side4=>exact HC0_2.out);rintro e w21 ⟨rfl,hb⟩;refine⟨_,rfl,?_⟩;replace BK289:=au (ay (g:=gb289) (o:=.cells #[.int .i64 a0_0,.slice A0_1 l0_1.length c0_1,.slice A0_2 l0_2.length c0_2] 24 (0,0)) (by(with_reducible repeat(first|apply ag|apply aj|apply af));exact BK289.out) hb);replace BK290:=au (ay (g:=gb290) (o:=.cells #[.int .i64 a1_0,.int .i64 a1_1] 35 (0,0)) (by(with_reducible repeat(first|apply ag|apply aj|apply af));exact BK290.out) hb);replace BK291:=au (ay (g:=gb291) (o:=.cells #[.int .i64 0,.slice none 0 0,.slice none 0 0] 24 (0,0)) (by(with_reducible repeat(first|apply ag|apply aj|apply af));exact BK291.out) hb);replace HB:=au (aA (by with_reducible repeat(first|exact HB.out|apply ah|apply aa|apply ai|refine ae ?_ GE289.out|refine ae ?_ GE290.out|refine ae ?_ GE291.out)) hb);(try clear hb);(try clear hb2);(try clear hk);(try clear hi)))
   go_meet
   case rel=>exact⟨_,(true),(by first|rfl|(simp;done)|(simp[*];done)),H',⟨by first|omega|exact Nat.le_refl _⟩,⟨by(with_reducible repeat(first|apply ag|apply aj|apply af));exact BK289.out⟩,⟨by(with_reducible repeat(first|apply ag|apply aj|apply af));exact BK290.out⟩,⟨by(with_reducible repeat(first|apply ag|apply aj|apply af));exact BK291.out⟩,⟨by with_reducible repeat(first|exact HB.out|apply ah|apply aa|apply ai|refine ae ?_ GE289.out|refine ae ?_ GE290.out|refine ae ?_ GE291.out)⟩⟩
 case rest =>
  clear HC3
  try clear c1
  try clear c2
  try clear p2
  try clear c3
  try clear c8
  try clear c10
  try clear c11
  try clear c14
  try clear c18
  try clear c19
  try clear hcz12_0
  try clear hcz12_1
  try clear hcz12_2
  try clear hcz15_0
  try clear hcz15_1
  try clear hcz16_0
  try clear hcz16_1
  try clear hcz16_2
  try clear hcz20_0
  try clear hcz20_1
  try clear hcz20_2
  try clear hfz12_0
  try clear hfz12_1
  try clear hfz12_2
  try clear hfz15_0
  try clear hfz15_1
  try clear hfz16_0
  try clear hfz16_1
  try clear hfz16_2
  try clear hfz20_0
  try clear hfz20_1
  try clear hfz20_2
  obtain⟨kq,x17_2,rfl,HA,HJ2,BK289,BK290,BK291,HB⟩:=hcut
  cases kq with
  | zero=>exact absurd HA.out (by simp[spec_TakeExact.j0])
  | succ kj2 =>
   have H:=HA.out
   clear HA
   simp only[spec_TakeExact.j0] at H
   by_cases c22:x17_2=true
   ·subst c22
    have H1:(some (0,([]:List (S35)),([]:List (S35)),false))=some (r1,r2,r3,r4):=by rw[if_pos rfl] at H;exact H
    clear H
    have H:=H1
    clear H1
    simp only[Option.some.injEq,Prod.mk.injEq] at H
    obtain⟨rfl,rfl,rfl,rfl⟩:=H
    have hnb23:=NB291_289.out
    have hnc23:=NB289_291.out
    have hnb24:=NB291_290.out
    have hnc24:=NB290_291.out
    have hcz25_0:wc.cell? ⟨gb291,0,none⟩=some (.int .i64 0):=(ak BK291.out 0).trans rfl
    have hcz25_1:wc.cell? ⟨gb291,1,none⟩=some (.slice none 0 0):=(ak BK291.out 1).trans rfl
    have hcz25_2:wc.cell? ⟨gb291,2,none⟩=some (.slice none 0 0):=(ak BK291.out 2).trans rfl
    have hfz25_0:=av BK291.out 0
    have hfz25_1:=av BK291.out 1
    have hfz25_2:=av BK291.out 2
    go_wp2
    refine bodyPost_ret (di rfl _ _ gb291 24 #[.int .i64 0,.slice none 0 0,.slice none 0 0] (0,0) _ rfl (by(with_reducible repeat(first|apply ag|apply aj|apply af));refine aK (cs:=#[.int .i64 0,.slice none 0 0,.slice none 0 0]) ?_ 2 _ rfl;(with_reducible repeat(first|apply ag|apply aj|apply af));refine aK (cs:=#[.int .i64 0,.slice none 0 0,.slice none 0 0]) ?_ 1 _ rfl;(with_reducible repeat(first|apply ag|apply aj|apply af));refine aK (cs:=#[.int .i64 0,.slice none 0 0,.slice none 0 0]) ?_ 0 _ rfl;(with_reducible repeat(first|apply ag|apply aj|apply af));exact BK291.out) Try.underlying24 rfl (by kernel_rfl)) rfl ?_
    exact⟨_,_,by first|rfl|(simp <;> rfl)|(simp[*] <;> rfl),by first|exact Kd.dn _ _ _ _ _|exact Kd.dU _ _ _ _ _|exact Kd.dQ _ _ _ _ _|exact Kd.dR _ _ _ _ _|exact Kd.dS _ _ _ _ _,by first|exact Kd.dn _ _ _ _ _|exact Kd.dU _ _ _ _ _|exact Kd.dQ _ _ _ _ _|exact Kd.dR _ _ _ _ _|exact Kd.dS _ _ _ _ _,by with_reducible repeat(first|exact HB.out|apply ah|apply aa|apply ai|refine ae ?_ GE289.out|refine ae ?_ GE290.out|refine ae ?_ GE291.out)⟩
   ·replace c22:=Bool.eq_false_iff.mpr c22
    subst c22
    have H1:((spec_l5Within.f kj2 l0_1 a1_0 a1_1).bind fun t294=>(if t294<0 then (some (0,([]:List (S35)),([]:List (S35)),false)) else ((spec_l5Cut.f l0_1 t294 a1_0 a1_1).bind fun t295=>((spec_l5Of.f kj2 a0_0 t295).bind fun bt298=>((spec_GoodFree.f kj2 bt298.1 bt298.2.1 bt298.2.2).bind fun t306=>(if t306=true then (some (bt298.1,bt298.2.1,bt298.2.2,true)) else (some (0,([]:List (S35)),([]:List (S35)),false))))))))=some (r1,r2,r3,r4):=by rw[if_neg (show ¬ (false=true) by decide)] at H;exact H
    clear H
    have H:=H1
    clear H1
    replace H:=Option.bind_eq_some_iff.mp H
    obtain⟨t294,A260,H⟩:=H
    replace H:(if t294<0 then (some (0,([]:List (S35)),([]:List (S35)),false)) else ((spec_l5Cut.f l0_1 t294 a1_0 a1_1).bind fun t295=>((spec_l5Of.f kj2 a0_0 t295).bind fun bt298=>((spec_GoodFree.f kj2 bt298.1 bt298.2.1 bt298.2.2).bind fun t306=>(if t306=true then (some (bt298.1,bt298.2.1,bt298.2.2,true)) else (some (0,([]:List (S35)),([]:List (S35)),false)))))))=some (r1,r2,r3,r4):=H
    have A26:=au A260
    clear A260
    by_cases c27:t294<0
    ·rw[if_pos c27] at H
     have c27b0:decide (t294<0)=true:=decide_eq_true c27
     clear c27
     simp only[Option.some.injEq,Prod.mk.injEq] at H
     obtain⟨rfl,rfl,rfl,rfl⟩:=H
     have hnb28:=NB289_290.out
     have hnc28:=NB290_289.out
     have hnb29:=NB289_291.out
     have hnc29:=NB291_289.out
     have hcz30_0:wc.cell? ⟨gb289,0,none⟩=some (.int .i64 a0_0):=(ak BK289.out 0).trans rfl
     have hcz30_1:wc.cell? ⟨gb289,1,none⟩=some (.slice A0_1 l0_1.length c0_1):=(ak BK289.out 1).trans rfl
     have hcz30_2:wc.cell? ⟨gb289,2,none⟩=some (.slice A0_2 l0_2.length c0_2):=(ak BK289.out 2).trans rfl
     have hfz30_0:=av BK289.out 0
     have hfz30_1:=av BK289.out 1
     have hfz30_2:=av BK289.out 2
     have hnb31:=NB290_291.out
     have hnc31:=NB291_290.out
     have hcz32_0:wc.cell? ⟨gb290,0,none⟩=some (.int .i64 a1_0):=(ak BK290.out 0).trans rfl
     have hcz32_1:wc.cell? ⟨gb290,1,none⟩=some (.int .i64 a1_1):=(ak BK290.out 1).trans rfl
     have hfz32_0:=av BK290.out 0
     have hfz32_1:=av BK290.out 1
     go_wp2_with (first|((with_reducible refine aW (f:=58) rfl ?_);refine bO (some 22) rfl rfl Try.func58 (by kernel_rfl) rfl #[.slice A0_1 l0_1.length c0_1,.agg #[.int .i64 a1_0,.int .i64 a1_1]] rfl (by(try simp only[amp_]);first|done|rfl|(simp only[ald_];rfl)) ?_;(with_reducible refine(spec_l5Within.calls kj2 _ _ l0_1 a1_0 a1_1 t294 _ ?side1 ?side2 A26.out).mono ?_);(case side1=>repeat(first|exact(Kd.aN HR0_1.out HB.out)|(with_reducible first|apply Kd.aY|apply Kd.aZ|apply Kd.bn)));(case side2=>exact HC0_1.out);rintro e w33 ⟨rfl,hb⟩;refine⟨_,rfl,?_⟩;replace BK289:=au (ay (g:=gb289) (o:=.cells #[.int .i64 a0_0,.slice A0_1 l0_1.length c0_1,.slice A0_2 l0_2.length c0_2] 24 (0,0)) (by(with_reducible repeat(first|apply ag|apply aj|apply af));exact BK289.out) hb);replace BK290:=au (ay (g:=gb290) (o:=.cells #[.int .i64 a1_0,.int .i64 a1_1] 35 (0,0)) (by(with_reducible repeat(first|apply ag|apply aj|apply af));exact BK290.out) hb);replace BK291:=au (ay (g:=gb291) (o:=.cells #[.int .i64 0,.slice none 0 0,.slice none 0 0] 24 (0,0)) (by(with_reducible repeat(first|apply ag|apply aj|apply af));exact BK291.out) hb);replace HB:=au (aA (by with_reducible repeat(first|exact HB.out|apply ah|apply aa|apply ai|refine ae ?_ GE289.out|refine ae ?_ GE290.out|refine ae ?_ GE291.out)) hb);(try clear hb);(try clear hb2);(try clear hk);(try clear hi);have hcz34_0:w33.cell? ⟨gb291,0,none⟩=some (.int .i64 0):=(ak BK291.out 0).trans rfl;have hcz34_1:w33.cell? ⟨gb291,1,none⟩=some (.slice none 0 0):=(ak BK291.out 1).trans rfl;have hcz34_2:w33.cell? ⟨gb291,2,none⟩=some (.slice none 0 0):=(ak BK291.out 2).trans rfl;have hfz34_0:=av BK291.out 0;have hfz34_1:=av BK291.out 1;have hfz34_2:=av BK291.out 2))
     refine bodyPost_ret (di rfl _ _ gb291 24 #[.int .i64 0,.slice none 0 0,.slice none 0 0] (0,0) _ rfl (by(with_reducible repeat(first|apply ag|apply aj|apply af));refine aK (cs:=#[.int .i64 0,.slice none 0 0,.slice none 0 0]) ?_ 2 _ rfl;(with_reducible repeat(first|apply ag|apply aj|apply af));refine aK (cs:=#[.int .i64 0,.slice none 0 0,.slice none 0 0]) ?_ 1 _ rfl;(with_reducible repeat(first|apply ag|apply aj|apply af));refine aK (cs:=#[.int .i64 0,.slice none 0 0,.slice none 0 0]) ?_ 0 _ rfl;(with_reducible repeat(first|apply ag|apply aj|apply af));exact BK291.out) Try.underlying24 rfl (by kernel_rfl)) rfl ?_
     exact⟨_,_,by first|rfl|(simp <;> rfl)|(simp[*] <;> rfl),by first|exact Kd.dn _ _ _ _ _|exact Kd.dU _ _ _ _ _|exact Kd.dQ _ _ _ _ _|exact Kd.dR _ _ _ _ _|exact Kd.dS _ _ _ _ _,by first|exact Kd.dn _ _ _ _ _|exact Kd.dU _ _ _ _ _|exact Kd.dQ _ _ _ _ _|exact Kd.dR _ _ _ _ _|exact Kd.dS _ _ _ _ _,by with_reducible repeat(first|exact HB.out|apply ah|apply aa|apply ai|refine ae ?_ GE289.out|refine ae ?_ GE290.out|refine ae ?_ GE291.out)⟩
    ·rw [if_neg c27] at H
     have c27b0:decide (t294<0)=false:=decide_eq_false c27
     clear c27
     replace H:=Option.bind_eq_some_iff.mp H
     obtain⟨t295,A350,H⟩:=H
     replace H:((spec_l5Of.f kj2 a0_0 t295).bind fun bt298=>((spec_GoodFree.f kj2 bt298.1 bt298.2.1 bt298.2.2).bind fun t306=>(if t306=true then (some (bt298.1,bt298.2.1,bt298.2.2,true)) else (some (0,([]:List (S35)),([]:List (S35)),false)))))=some (r1,r2,r3,r4):=H
     have A35:=au A350
     clear A350
     replace H:=Option.bind_eq_some_iff.mp H
     obtain⟨⟨t298,t299,t302⟩,A360,H⟩:=H
     replace H:((spec_GoodFree.f kj2 t298 t299 t302).bind fun t306=>(if t306=true then (some (t298,t299,t302,true)) else (some (0,([]:List (S35)),([]:List (S35)),false))))=some (r1,r2,r3,r4):=H
     have A36:=au A360
     clear A360
     replace H:=Option.bind_eq_some_iff.mp H
     obtain⟨t306,A370,H⟩:=H
     replace H:(if t306=true then (some (t298,t299,t302,true)) else (some (0,([]:List (S35)),([]:List (S35)),false)))=some (r1,r2,r3,r4):=H
     have A37:=au A370
     clear A370
     have HQ256:=au H
     clear H
     have hnb39:=NB289_290.out
     have hnc39:=NB290_289.out
     have hnb40:=NB289_291.out
     have hnc40:=NB291_289.out
     have hcz41_0:wc.cell? ⟨gb289,0,none⟩=some (.int .i64 a0_0):=(ak BK289.out 0).trans rfl
     have hcz41_1:wc.cell? ⟨gb289,1,none⟩=some (.slice A0_1 l0_1.length c0_1):=(ak BK289.out 1).trans rfl
     have hcz41_2:wc.cell? ⟨gb289,2,none⟩=some (.slice A0_2 l0_2.length c0_2):=(ak BK289.out 2).trans rfl
     have hfz41_0:=av BK289.out 0
     have hfz41_1:=av BK289.out 1
     have hfz41_2:=av BK289.out 2
     have hnb42:=NB290_291.out
     have hnc42:=NB291_290.out
     have hcz43_0:wc.cell? ⟨gb290,0,none⟩=some (.int .i64 a1_0):=(ak BK290.out 0).trans rfl
     have hcz43_1:wc.cell? ⟨gb290,1,none⟩=some (.int .i64 a1_1):=(ak BK290.out 1).trans rfl
     have hfz43_0:=av BK290.out 0
     have hfz43_1:=av BK290.out 1
     try go_wp2_with (first|((with_reducible refine aW (f:=58) rfl ?_);refine bO (some 22) rfl rfl Try.func58 (by kernel_rfl) rfl #[.slice A0_1 l0_1.length c0_1,.agg #[.int .i64 a1_0,.int .i64 a1_1]] rfl (by(try simp only[amp_]);first|done|rfl|(simp only[ald_];rfl)) ?_;(with_reducible refine(spec_l5Within.calls kj2 _ _ l0_1 a1_0 a1_1 t294 _ ?side1 ?side2 A26.out).mono ?_);(case side1=>repeat(first|exact(Kd.aN HR0_1.out HB.out)|(with_reducible first|apply Kd.aY|apply Kd.aZ|apply Kd.bn)));(case side2=>exact HC0_1.out);rintro e w44 ⟨rfl,hb⟩;refine⟨_,rfl,?_⟩;replace BK289:=au (ay (g:=gb289) (o:=.cells #[.int .i64 a0_0,.slice A0_1 l0_1.length c0_1,.slice A0_2 l0_2.length c0_2] 24 (0,0)) (by(with_reducible repeat(first|apply ag|apply aj|apply af));exact BK289.out) hb);replace BK290:=au (ay (g:=gb290) (o:=.cells #[.int .i64 a1_0,.int .i64 a1_1] 35 (0,0)) (by(with_reducible repeat(first|apply ag|apply aj|apply af));exact BK290.out) hb);replace BK291:=au (ay (g:=gb291) (o:=.cells #[.int .i64 0,.slice none 0 0,.slice none 0 0] 24 (0,0)) (by(with_reducible repeat(first|apply ag|apply aj|apply af));exact BK291.out) hb);replace HB:=au (aA (by with_reducible repeat(first|exact HB.out|apply ah|apply aa|apply ai|refine ae ?_ GE289.out|refine ae ?_ GE290.out|refine ae ?_ GE291.out)) hb);(try clear hb);(try clear hb2);(try clear hk);(try clear hi)))
     have n0_:=au (aj BK289.out)
     have n1_:=au (aj BK290.out)
     have n2_:=au (aj BK291.out)
     have n3_:=au (ai HB.out)
     clear BK289
     clear BK290
     clear BK291
     clear HB
     have BK289:=n0_
     have BK290:=n1_
     have BK291:=n2_
     have HB:=n3_
     clear n0_ n1_ n2_ n3_
     refine dZ (n:=10) (S:=fun w'=>w'.cell? ⟨gb289,0,none⟩=some (.int .i64 a0_0)∧w'.cell? ⟨gb289,1,none⟩=some (.slice A0_1 l0_1.length c0_1)∧w'.cell? ⟨gb289,2,none⟩=some (.slice A0_2 l0_2.length c0_2)∧w'.cell? ⟨gb290,0,none⟩=some (.int .i64 a1_0)∧w'.cell? ⟨gb290,1,none⟩=some (.int .i64 a1_1)) (ds:=[]) #[false,false,false,false,false,false,false,false,false,false] (by kernel_rfl) rfl rfl ⟨(ak BK289.out 0).trans rfl,(ak BK289.out 1).trans rfl,(ak BK289.out 2).trans rfl,(ak BK290.out 0).trans rfl,(ak BK290.out 1).trans rfl⟩ (fun hHeld=>?_);refine fB spec_TakeExact.tab6 spec_TakeExact.bits6 (fun HT_ HW_=>?_)
     generalize w44.drew=w45 at BK289 BK290 BK291 HB hHeld ⊢
     refine aQ (i:=0) (N:=some 26) (v:=?_) (a':=?_) #[true,false,false,false,false,false,false,false,false,false] rfl rfl (bM HT_.out (by kernel_rfl)) (fun _ _ _ h=>h) (Or.inl ⟨by rfl,?_⟩) ?_ ?_
     rotate_left
     ·intro w'
      go_simp
      with_reducible rfl
     rotate_left
     ·simp only[apu_]
      rfl
     refine aQ (i:=2) (N:=some 28) (v:=?_) (a':=?_) #[true,false,true,false,false,false,false,false,false,false] rfl rfl (bM HT_.out (by kernel_rfl)) (fun _ _ _ h=>h) (Or.inl ⟨by rfl,?_⟩) ?_ ?_
     rotate_left
     ·intro w'
      go_simp
      with_reducible rfl
     rotate_left
     ·simp only[apu_]
      rfl
     refine aQ (i:=4) (N:=some 30) (v:=?_) (a':=?_) #[true,false,true,false,true,false,false,false,false,false] rfl rfl (bM HT_.out (by kernel_rfl)) (fun _ _ _ h=>h) (Or.inl ⟨by rfl,?_⟩) ?_ ?_
     rotate_left
     ·intro w'
      go_simp
      with_reducible rfl
     rotate_left
     ·simp only[apu_]
      rfl
     refine bN (i:=1) (N:=some 27) (v:=?_) (a':=?_) #[true,true,true,false,true,false,false,false,false,false] rfl rfl (dF HT_.out HW_.out (by kernel_rfl)) (fun _ _ _ h=>h) (Or.inl ⟨by rfl,?_⟩) hHeld ?_ ?_
     rotate_left
     ·rintro w' ⟨s0,s1,s2,s3,s4⟩
      go_simp
      with_reducible rfl
     rotate_left
     ·simp only[apu_]
      rfl
     refine bN (i:=3) (N:=some 29) (v:=?_) (a':=?_) #[true,true,true,true,true,false,false,false,false,false] rfl rfl (dF HT_.out HW_.out (by kernel_rfl)) (fun _ _ _ h=>h) (Or.inl ⟨by rfl,?_⟩) hHeld ?_ ?_
     rotate_left
     ·rintro w' ⟨s0,s1,s2,s3,s4⟩
      go_simp
      with_reducible rfl
     rotate_left
     ·simp only[apu_]
      rfl
     refine bN (i:=5) (N:=some 31) (v:=?_) (a':=?_) #[true,true,true,true,true,true,false,false,false,false] rfl rfl (dF HT_.out HW_.out (by kernel_rfl)) (fun _ _ _ h=>h) (Or.inl ⟨by rfl,?_⟩) hHeld ?_ ?_
     rotate_left
     ·rintro w' ⟨s0,s1,s2,s3,s4⟩
      go_simp
      with_reducible rfl
     rotate_left
     ·simp only[apu_]
      rfl
     refine o7 (σ:=Value×Value×Value×Nat) 1 #[true,true,true,true,true,true,true,true,true,false] (fun s_=>[(32,s_.1),(33,.agg #[.int .i64 t298,s_.2.1,s_.2.2.1]),(7,.pointer (some ⟨s_.2.2.2,0,none⟩))]) (fun s_ w'=>(w'.cell? ⟨gb289,0,none⟩=some (.int .i64 a0_0)∧w'.cell? ⟨gb289,1,none⟩=some (.slice A0_1 l0_1.length c0_1)∧w'.cell? ⟨gb289,2,none⟩=some (.slice A0_2 l0_2.length c0_2)∧w'.cell? ⟨gb290,0,none⟩=some (.int .i64 a1_0)∧w'.cell? ⟨gb290,1,none⟩=some (.int .i64 a1_1))∧(Kd.R k35 35 w' w.heap.size (fun k_=>some k_≠(s_.2.1:Value).ownBlock∧some k_≠(s_.2.2.1:Value).ownBlock∧k_≠gb290) s_.1 t295)∧(Kd.R k35 35 w' w.heap.size (fun k_=>some k_≠(s_.1:Value).ownBlock∧some k_≠(s_.2.2.1:Value).ownBlock∧k_≠gb290) s_.2.1 t299)∧(Kd.R k35 35 w' w.heap.size (fun k_=>some k_≠(s_.1:Value).ownBlock∧some k_≠(s_.2.1:Value).ownBlock∧k_≠gb290) s_.2.2.1 t302)∧(w'.heap[gb289]? = some (.cells #[.int .i64 a0_0,.slice A0_1 l0_1.length c0_1,.slice A0_2 l0_2.length c0_2] 24 (0,0)))∧(w'.heap[gb290]? = some (.cells #[.int .i64 a1_0,.int .i64 a1_1] 35 (0,0)))∧(w'.heap[gb291]? = some (.cells #[.int .i64 0,.slice none 0 0,.slice none 0 0] 24 (0,0)))∧(w'.heap[s_.2.2.2]? = some (.cells #[.int .i64 0,.slice none 0 0,.slice none 0 0] 24 (0,0)))∧(w.heap.size≤s_.2.2.2)∧(w.heap.size≤s_.2.2.2)∧(gb289≠s_.2.2.2)∧(s_.2.2.2≠gb289)∧(gb290≠s_.2.2.2)∧(s_.2.2.2≠gb290)∧(gb291≠s_.2.2.2)∧(s_.2.2.2≠gb291)∧(Below w.heap.size w w')) ?_ ?_
     rotate_left
     ·intro hCont
      refine nN (i:=6) (j:=8) (Ni:=some 32) (Nj:=some 7) #[true,true,true,true,true,true,true,false,false,false] #[true,true,true,true,true,true,false,false,true,false] rfl rfl rfl rfl (kQ HT_.out (by kernel_rfl)) (by decide) (by decide) (fun K hK=>?_) (fun K hK=>?_)
      ·skip
       refine dh Try.func57 (by kernel_rfl) rfl #[.slice A0_1 l0_1.length c0_1,.int .i64 t294,.agg #[.int .i64 a1_0,.int .i64 a1_1]] (by rfl) rfl rfl (by(try simp only[amp_]);first|done|rfl|(simp only[ald_];rfl)) ?_
       with_reducible refine(spec_l5Cut.calls _ _ l0_1 t294 a1_0 a1_1 t295 _ ?side1 ?side2 A35.out).mono ?_
       (case side1=>repeat(first|exact(Kd.aN HR0_1.out HB.out)|(with_reducible first|apply Kd.aY|apply Kd.aZ|apply Kd.bn)))
       (case side2=>exact HC0_1.out)
       rintro e w46 ⟨v296,rfl,ho0,hb⟩
       refine⟨_,rfl,?_⟩
       have n0_:=au (Kd.bz (Kd.dK ho0 (g:=gb290) (o:=.cells #[.int .i64 a1_0,.int .i64 a1_1] 35 (0,0)) (by(with_reducible repeat(first|apply ag|apply aj|apply af));exact BK290.out)) (az (by with_reducible repeat(first|exact HB.out|apply ah|apply aa|apply ai|refine ae ?_ GE289.out|refine ae ?_ GE290.out|refine ae ?_ GE291.out))))
       have n1_:=au (ay (g:=gb289) (o:=.cells #[.int .i64 a0_0,.slice A0_1 l0_1.length c0_1,.slice A0_2 l0_2.length c0_2] 24 (0,0)) (by(with_reducible repeat(first|apply ag|apply aj|apply af));exact BK289.out) hb)
       have n2_:=au (ay (g:=gb290) (o:=.cells #[.int .i64 a1_0,.int .i64 a1_1] 35 (0,0)) (by(with_reducible repeat(first|apply ag|apply aj|apply af));exact BK290.out) hb)
       have n3_:=au (ay (g:=gb291) (o:=.cells #[.int .i64 0,.slice none 0 0,.slice none 0 0] 24 (0,0)) (by(with_reducible repeat(first|apply ag|apply aj|apply af));exact BK291.out) hb)
       have n4_:=au (aA (by with_reducible repeat(first|exact HB.out|apply ah|apply aa|apply ai|refine ae ?_ GE289.out|refine ae ?_ GE290.out|refine ae ?_ GE291.out)) hb)
       clear BK289
       clear BK290
       clear BK291
       clear HB
       have HO297:=n0_
       have BK289:=n1_
       have BK290:=n2_
       have BK291:=n3_
       have HB:=n4_
       clear n0_ n1_ n2_ n3_ n4_
       (try clear hb)
       (try clear hb2)
       (try clear hk)
       (try clear hi)
       (try clear ho0)
       obtain⟨Ao47,co47,eo47⟩:=Kd.bq HO297.out
       (first|subst eo47|(injection eo47 with f1_ f2_ f3_;have f4_:=f1_.symm;have f5_:=f3_.symm;clear f1_ f2_ f3_;subst f4_;subst f5_))
       refine hK.out _ _ ⟨(ak BK289.out 0).trans rfl,(ak BK289.out 1).trans rfl,(ak BK289.out 2).trans rfl,(ak BK290.out 0).trans rfl,(ak BK290.out 1).trans rfl⟩ (fun hHeld=>?_)
       clear hK K
       refine bQ (a':=?_) ?_ ?_
       rotate_left
       ·show Act.put _ (some 32) _=_
        simp only[apu_]
        rfl
       refine nN (i:=7) (j:=8) (Ni:=some 33) (Nj:=some 7) #[true,true,true,true,true,true,true,true,false,false] #[true,true,true,true,true,true,true,false,true,false] rfl rfl rfl rfl (kQ HT_.out (by kernel_rfl)) (by decide) (by decide) (fun K hK=>?_) (fun K hK=>?_)
       ·skip
        refine dh Try.func33 (by kernel_rfl) rfl #[.int .i64 a0_0,.slice Ao47 t295.length co47] (by rfl) rfl rfl (by(try simp only[amp_]);first|done|rfl|(simp only[ald_];rfl)) ?_
        with_reducible refine(spec_l5Of.calls kj2 a0_0 _ _ t295 t298 t299 t302 _ ?side1 ?side2 A36.out).mono ?_
        (case side1=>repeat(first|exact(Kd.R_reads' HO297.out).2.2|(with_reducible first|apply Kd.aY|apply Kd.aZ|apply Kd.bn)))
        (case side2=>exact(Kd.R_reads' HO297.out).2.1)
        rintro e w48 ⟨v300,v303,rfl,ho0,ho1,hb⟩
        refine⟨_,rfl,?_⟩
        have n0_:=au (Kd.aT (Kd.dX (Kd.dX (Kd.iN (by(with_reducible repeat(first|apply Kd.aD|apply Kd.aC|apply Kd.aI));exact HO297.out) hb) (Kd.dI ho0)) (Kd.dI ho1)) (fun _ h_=>h_.1))
        have n1_:=au (Kd.bz (Kd.dK (Kd.R_new' ho0 (Kd.fq (by(with_reducible repeat(first|apply Kd.aD|apply Kd.aC|apply Kd.aI));exact HO297.out))) (g:=gb290) (o:=.cells #[.int .i64 a1_0,.int .i64 a1_1] 35 (0,0)) (by(with_reducible repeat(first|apply ag|apply aj|apply af));exact BK290.out)) (az (by with_reducible repeat(first|exact HB.out|apply ah|apply aa|apply ai|refine ae ?_ GE289.out|refine ae ?_ GE290.out|refine ae ?_ GE291.out))))
        have n2_:=au (Kd.bz (Kd.dK (Kd.R_new' ho1 (Kd.fq (by(with_reducible repeat(first|apply Kd.aD|apply Kd.aC|apply Kd.aI));exact HO297.out))) (g:=gb290) (o:=.cells #[.int .i64 a1_0,.int .i64 a1_1] 35 (0,0)) (by(with_reducible repeat(first|apply ag|apply aj|apply af));exact BK290.out)) (az (by with_reducible repeat(first|exact HB.out|apply ah|apply aa|apply ai|refine ae ?_ GE289.out|refine ae ?_ GE290.out|refine ae ?_ GE291.out))))
        have n3_:=au (ay (g:=gb289) (o:=.cells #[.int .i64 a0_0,.slice A0_1 l0_1.length c0_1,.slice A0_2 l0_2.length c0_2] 24 (0,0)) (by(with_reducible repeat(first|apply ag|apply aj|apply af));exact BK289.out) hb)
        have n4_:=au (ay (g:=gb290) (o:=.cells #[.int .i64 a1_0,.int .i64 a1_1] 35 (0,0)) (by(with_reducible repeat(first|apply ag|apply aj|apply af));exact BK290.out) hb)
        have n5_:=au (ay (g:=gb291) (o:=.cells #[.int .i64 0,.slice none 0 0,.slice none 0 0] 24 (0,0)) (by(with_reducible repeat(first|apply ag|apply aj|apply af));exact BK291.out) hb)
        have n6_:=au (aA (by with_reducible repeat(first|exact HB.out|apply ah|apply aa|apply ai|refine ae ?_ GE289.out|refine ae ?_ GE290.out|refine ae ?_ GE291.out)) hb)
        clear HO297
        clear BK289
        clear BK290
        clear BK291
        clear HB
        have HO297:=n0_
        have HO301:=n1_
        have HO304:=n2_
        have BK289:=n3_
        have BK290:=n4_
        have BK291:=n5_
        have HB:=n6_
        clear n0_ n1_ n2_ n3_ n4_ n5_ n6_
        (try clear hb)
        (try clear hb2)
        (try clear hk)
        (try clear hi)
        (try clear ho0)
        (try clear ho1)
        refine hK.out _ _ ⟨(ak BK289.out 0).trans rfl,(ak BK289.out 1).trans rfl,(ak BK289.out 2).trans rfl,(ak BK290.out 0).trans rfl,(ak BK290.out 1).trans rfl⟩ (fun hHeld=>?_)
        clear hK K
        refine bQ (a':=?_) ?_ ?_
        rotate_left
        ·show Act.put _ (some 33) _=_
         simp only[apu_]
         rfl
        refine dN (i:=8) (N:=some 7) #[true,true,true,true,true,true,true,true,true,false] rfl rfl (ed HT_.out (by kernel_rfl)) (by decide) (fun K hK=>?_)
        refine gB ?hg (N:=7) ?hd (cs:=#[.int .i64 0,.slice none 0 0,.slice none 0 0]) (t:=24) ?hr ?_;(case hd=>rfl);(case hg=>rfl);(case hr=>first|(go_simp;done)|(go_simp;rfl))
        intro gb305 hg w49 hbox hb
        have n0_:=au (Kd.bi (by(with_reducible repeat(first|apply Kd.aD|apply Kd.aC|apply Kd.aI));exact HO297.out) hb)
        have n1_:=au (Kd.bi (by(with_reducible repeat(first|apply Kd.aD|apply Kd.aC|apply Kd.aI));exact HO301.out) hb)
        have n2_:=au (Kd.bi (by(with_reducible repeat(first|apply Kd.aD|apply Kd.aC|apply Kd.aI));exact HO304.out) hb)
        have n3_:=au (ay (g:=gb289) (o:=.cells #[.int .i64 a0_0,.slice A0_1 l0_1.length c0_1,.slice A0_2 l0_2.length c0_2] 24 (0,0)) (by(with_reducible repeat(first|apply ag|apply aj|apply af));exact BK289.out) hb)
        have n4_:=au (ay (g:=gb290) (o:=.cells #[.int .i64 a1_0,.int .i64 a1_1] 35 (0,0)) (by(with_reducible repeat(first|apply ag|apply aj|apply af));exact BK290.out) hb)
        have n5_:=au (ay (g:=gb291) (o:=.cells #[.int .i64 0,.slice none 0 0,.slice none 0 0] 24 (0,0)) (by(with_reducible repeat(first|apply ag|apply aj|apply af));exact BK291.out) hb)
        have n6_:=au (aA (by with_reducible repeat(first|exact HB.out|apply ah|apply aa|apply ai|refine ae ?_ GE289.out|refine ae ?_ GE290.out|refine ae ?_ GE291.out)) hb)
        have n7_:=au (hbox)
        have n8_:=au ((by rw[hg];exact(az (by with_reducible repeat(first|exact HB.out|apply ah|apply aa|apply ai|refine ae ?_ GE289.out|refine ae ?_ GE290.out|refine ae ?_ GE291.out))):w.heap.size≤gb305))
        have n9_:=au ((by rw[hg];exact(az (by with_reducible repeat(first|exact HB.out|apply ah|apply aa|apply ai|refine ae ?_ GE289.out|refine ae ?_ GE290.out|refine ae ?_ GE291.out))):w.heap.size≤gb305))
        have n10_:=au ((by rw[hg];exact Nat.ne_of_lt (aH (g:=gb289) (o:=.cells #[.int .i64 a0_0,.slice A0_1 l0_1.length c0_1,.slice A0_2 l0_2.length c0_2] 24 (0,0)) (by(with_reducible repeat(first|apply ag|apply aj|apply af));exact BK289.out)):gb289≠gb305))
        have n11_:=au ((by rw[hg];exact Nat.ne_of_gt (aH (g:=gb289) (o:=.cells #[.int .i64 a0_0,.slice A0_1 l0_1.length c0_1,.slice A0_2 l0_2.length c0_2] 24 (0,0)) (by(with_reducible repeat(first|apply ag|apply aj|apply af));exact BK289.out)):gb305≠gb289))
        have n12_:=au ((by rw[hg];exact Nat.ne_of_lt (aH (g:=gb290) (o:=.cells #[.int .i64 a1_0,.int .i64 a1_1] 35 (0,0)) (by(with_reducible repeat(first|apply ag|apply aj|apply af));exact BK290.out)):gb290≠gb305))
        have n13_:=au ((by rw[hg];exact Nat.ne_of_gt (aH (g:=gb290) (o:=.cells #[.int .i64 a1_0,.int .i64 a1_1] 35 (0,0)) (by(with_reducible repeat(first|apply ag|apply aj|apply af));exact BK290.out)):gb305≠gb290))
        have n14_:=au ((by rw[hg];exact Nat.ne_of_lt (aH (g:=gb291) (o:=.cells #[.int .i64 0,.slice none 0 0,.slice none 0 0] 24 (0,0)) (by(with_reducible repeat(first|apply ag|apply aj|apply af));exact BK291.out)):gb291≠gb305))
        have n15_:=au ((by rw[hg];exact Nat.ne_of_gt (aH (g:=gb291) (o:=.cells #[.int .i64 0,.slice none 0 0,.slice none 0 0] 24 (0,0)) (by(with_reducible repeat(first|apply ag|apply aj|apply af));exact BK291.out)):gb305≠gb291))
        clear HO297
        clear HO301
        clear HO304
        clear BK289
        clear BK290
        clear BK291
        clear HB
        have HO297:=n0_
        have HO301:=n1_
        have HO304:=n2_
        have BK289:=n3_
        have BK290:=n4_
        have BK291:=n5_
        have HB:=n6_
        have BK305:=n7_
        have GW305:=n8_
        have GE305:=n9_
        have NB289_305:=n10_
        have NB305_289:=n11_
        have NB290_305:=n12_
        have NB305_290:=n13_
        have NB291_305:=n14_
        have NB305_291:=n15_
        clear n0_ n1_ n2_ n3_ n4_ n5_ n6_ n7_ n8_ n9_ n10_ n11_ n12_ n13_ n14_ n15_
        clear hb hbox hg
        refine hK.out _ _ ⟨(ak BK289.out 0).trans rfl,(ak BK289.out 1).trans rfl,(ak BK289.out 2).trans rfl,(ak BK290.out 0).trans rfl,(ak BK290.out 1).trans rfl⟩ (fun hHeld=>?_)
        clear hK K
        refine bQ (a':=?_) ?_ ?_
        rotate_left
        ·show Act.put _ (some 7) _=_
         simp only[apu_]
         rfl
        exact bQ (by simp only[fC,Act.put,List.setIfInBounds_toArray,List.set_cons_zero,List.set_cons_succ]) (hCont (.slice Ao47 t295.length co47,v300,v303,gb305) _ ⟨hHeld,(by(with_reducible repeat(first|apply Kd.aD|apply Kd.aC|apply Kd.aI));exact Kd.aT HO297.out (fun _ hk=>⟨hk.1.2,⟨hk.2,hk.1.1.2⟩⟩)),(by(with_reducible repeat(first|apply Kd.aD|apply Kd.aC|apply Kd.aI));exact Kd.aT HO301.out (fun _ hk=>⟨hk.1.2,⟨hk.1.1,hk.2⟩⟩)),(by(with_reducible repeat(first|apply Kd.aD|apply Kd.aC|apply Kd.aI));exact Kd.aT HO304.out (fun _ hk=>⟨hk.1.2,⟨hk.1.1,hk.2⟩⟩)),(by(with_reducible repeat(first|apply ag|apply aj|apply af));exact BK289.out),(by(with_reducible repeat(first|apply ag|apply aj|apply af));exact BK290.out),(by(with_reducible repeat(first|apply ag|apply aj|apply af));exact BK291.out),(by(with_reducible repeat(first|apply ag|apply aj|apply af));exact BK305.out),GW305.out,GE305.out,NB289_305.out,NB305_289.out,NB290_305.out,NB305_290.out,NB291_305.out,NB305_291.out,(by with_reducible repeat(first|exact HB.out|apply ah|apply aa|apply ai|refine ae ?_ GE289.out|refine ae ?_ GE290.out|refine ae ?_ GE291.out|refine ae ?_ GE305.out))⟩)
       ·skip
        refine gB ?hg (N:=7) ?hd (cs:=#[.int .i64 0,.slice none 0 0,.slice none 0 0]) (t:=24) ?hr ?_;(case hd=>rfl);(case hg=>rfl);(case hr=>first|(go_simp;done)|(go_simp;rfl))
        intro gb305 hg w47 hbox hb
        have n0_:=au (Kd.bi (by(with_reducible repeat(first|apply Kd.aD|apply Kd.aC|apply Kd.aI));exact HO297.out) hb)
        have n1_:=au (ay (g:=gb289) (o:=.cells #[.int .i64 a0_0,.slice A0_1 l0_1.length c0_1,.slice A0_2 l0_2.length c0_2] 24 (0,0)) (by(with_reducible repeat(first|apply ag|apply aj|apply af));exact BK289.out) hb)
        have n2_:=au (ay (g:=gb290) (o:=.cells #[.int .i64 a1_0,.int .i64 a1_1] 35 (0,0)) (by(with_reducible repeat(first|apply ag|apply aj|apply af));exact BK290.out) hb)
        have n3_:=au (ay (g:=gb291) (o:=.cells #[.int .i64 0,.slice none 0 0,.slice none 0 0] 24 (0,0)) (by(with_reducible repeat(first|apply ag|apply aj|apply af));exact BK291.out) hb)
        have n4_:=au (aA (by with_reducible repeat(first|exact HB.out|apply ah|apply aa|apply ai|refine ae ?_ GE289.out|refine ae ?_ GE290.out|refine ae ?_ GE291.out)) hb)
        have n5_:=au (hbox)
        have n6_:=au ((by rw[hg];exact(az (by with_reducible repeat(first|exact HB.out|apply ah|apply aa|apply ai|refine ae ?_ GE289.out|refine ae ?_ GE290.out|refine ae ?_ GE291.out))):w.heap.size≤gb305))
        have n7_:=au ((by rw[hg];exact(az (by with_reducible repeat(first|exact HB.out|apply ah|apply aa|apply ai|refine ae ?_ GE289.out|refine ae ?_ GE290.out|refine ae ?_ GE291.out))):w.heap.size≤gb305))
        have n8_:=au ((by rw[hg];exact Nat.ne_of_lt (aH (g:=gb289) (o:=.cells #[.int .i64 a0_0,.slice A0_1 l0_1.length c0_1,.slice A0_2 l0_2.length c0_2] 24 (0,0)) (by(with_reducible repeat(first|apply ag|apply aj|apply af));exact BK289.out)):gb289≠gb305))
        have n9_:=au ((by rw[hg];exact Nat.ne_of_gt (aH (g:=gb289) (o:=.cells #[.int .i64 a0_0,.slice A0_1 l0_1.length c0_1,.slice A0_2 l0_2.length c0_2] 24 (0,0)) (by(with_reducible repeat(first|apply ag|apply aj|apply af));exact BK289.out)):gb305≠gb289))
        have n10_:=au ((by rw[hg];exact Nat.ne_of_lt (aH (g:=gb290) (o:=.cells #[.int .i64 a1_0,.int .i64 a1_1] 35 (0,0)) (by(with_reducible repeat(first|apply ag|apply aj|apply af));exact BK290.out)):gb290≠gb305))
        have n11_:=au ((by rw[hg];exact Nat.ne_of_gt (aH (g:=gb290) (o:=.cells #[.int .i64 a1_0,.int .i64 a1_1] 35 (0,0)) (by(with_reducible repeat(first|apply ag|apply aj|apply af));exact BK290.out)):gb305≠gb290))
        have n12_:=au ((by rw[hg];exact Nat.ne_of_lt (aH (g:=gb291) (o:=.cells #[.int .i64 0,.slice none 0 0,.slice none 0 0] 24 (0,0)) (by(with_reducible repeat(first|apply ag|apply aj|apply af));exact BK291.out)):gb291≠gb305))
        have n13_:=au ((by rw[hg];exact Nat.ne_of_gt (aH (g:=gb291) (o:=.cells #[.int .i64 0,.slice none 0 0,.slice none 0 0] 24 (0,0)) (by(with_reducible repeat(first|apply ag|apply aj|apply af));exact BK291.out)):gb305≠gb291))
        clear HO297
        clear BK289
        clear BK290
        clear BK291
        clear HB
        have HO297:=n0_
        have BK289:=n1_
        have BK290:=n2_
        have BK291:=n3_
        have HB:=n4_
        have BK305:=n5_
        have GW305:=n6_
        have GE305:=n7_
        have NB289_305:=n8_
        have NB305_289:=n9_
        have NB290_305:=n10_
        have NB305_290:=n11_
        have NB291_305:=n12_
        have NB305_291:=n13_
        clear n0_ n1_ n2_ n3_ n4_ n5_ n6_ n7_ n8_ n9_ n10_ n11_ n12_ n13_
        clear hb hbox hg
        obtain⟨Ao48,co48,eo48⟩:=Kd.bq HO297.out
        (first|subst eo48|(injection eo48 with f1_ f2_ f3_;have f4_:=f1_.symm;have f5_:=f3_.symm;clear f1_ f2_ f3_;subst f4_;subst f5_))
        refine hK.out _ _ ⟨(ak BK289.out 0).trans rfl,(ak BK289.out 1).trans rfl,(ak BK289.out 2).trans rfl,(ak BK290.out 0).trans rfl,(ak BK290.out 1).trans rfl⟩ (fun hHeld=>?_)
        clear hK K
        refine bQ (a':=?_) ?_ ?_
        rotate_left
        ·show Act.put _ (some 7) _=_
         simp only[apu_]
         rfl
        refine dN (i:=7) (N:=some 33) #[true,true,true,true,true,true,true,true,true,false] rfl rfl (ed HT_.out (by kernel_rfl)) (by decide) (fun K hK=>?_)
        refine dh Try.func33 (by kernel_rfl) rfl #[.int .i64 a0_0,.slice Ao48 t295.length co48] (by rfl) rfl rfl (by(try simp only[amp_]);first|done|rfl|(simp only[ald_];rfl)) ?_
        with_reducible refine(spec_l5Of.calls kj2 a0_0 _ _ t295 t298 t299 t302 _ ?side1 ?side2 A36.out).mono ?_
        (case side1=>repeat(first|exact(Kd.R_reads' HO297.out).2.2|(with_reducible first|apply Kd.aY|apply Kd.aZ|apply Kd.bn)))
        (case side2=>exact(Kd.R_reads' HO297.out).2.1)
        rintro e w49 ⟨v300,v303,rfl,ho0,ho1,hb⟩
        refine⟨_,rfl,?_⟩
        have n0_:=au (Kd.aT (Kd.dX (Kd.dX (Kd.iN (by(with_reducible repeat(first|apply Kd.aD|apply Kd.aC|apply Kd.aI));exact HO297.out) hb) (Kd.dI ho0)) (Kd.dI ho1)) (fun _ h_=>h_.1))
        have n1_:=au (Kd.bz (Kd.dK (Kd.R_new' ho0 (Kd.fq (by(with_reducible repeat(first|apply Kd.aD|apply Kd.aC|apply Kd.aI));exact HO297.out))) (g:=gb290) (o:=.cells #[.int .i64 a1_0,.int .i64 a1_1] 35 (0,0)) (by(with_reducible repeat(first|apply ag|apply aj|apply af));exact BK290.out)) (az (by with_reducible repeat(first|exact HB.out|apply ah|apply aa|apply ai|refine ae ?_ GE289.out|refine ae ?_ GE290.out|refine ae ?_ GE291.out|refine ae ?_ GE305.out))))
        have n2_:=au (Kd.bz (Kd.dK (Kd.R_new' ho1 (Kd.fq (by(with_reducible repeat(first|apply Kd.aD|apply Kd.aC|apply Kd.aI));exact HO297.out))) (g:=gb290) (o:=.cells #[.int .i64 a1_0,.int .i64 a1_1] 35 (0,0)) (by(with_reducible repeat(first|apply ag|apply aj|apply af));exact BK290.out)) (az (by with_reducible repeat(first|exact HB.out|apply ah|apply aa|apply ai|refine ae ?_ GE289.out|refine ae ?_ GE290.out|refine ae ?_ GE291.out|refine ae ?_ GE305.out))))
        have n3_:=au (ay (g:=gb289) (o:=.cells #[.int .i64 a0_0,.slice A0_1 l0_1.length c0_1,.slice A0_2 l0_2.length c0_2] 24 (0,0)) (by(with_reducible repeat(first|apply ag|apply aj|apply af));exact BK289.out) hb)
        have n4_:=au (ay (g:=gb290) (o:=.cells #[.int .i64 a1_0,.int .i64 a1_1] 35 (0,0)) (by(with_reducible repeat(first|apply ag|apply aj|apply af));exact BK290.out) hb)
        have n5_:=au (ay (g:=gb291) (o:=.cells #[.int .i64 0,.slice none 0 0,.slice none 0 0] 24 (0,0)) (by(with_reducible repeat(first|apply ag|apply aj|apply af));exact BK291.out) hb)
        have n6_:=au (ay (g:=gb305) (o:=.cells #[.int .i64 0,.slice none 0 0,.slice none 0 0] 24 (0,0)) (by(with_reducible repeat(first|apply ag|apply aj|apply af));exact BK305.out) hb)
        have n7_:=au (aA (by with_reducible repeat(first|exact HB.out|apply ah|apply aa|apply ai|refine ae ?_ GE289.out|refine ae ?_ GE290.out|refine ae ?_ GE291.out|refine ae ?_ GE305.out)) hb)
        clear HO297
        clear BK289
        clear BK290
        clear BK291
        clear BK305
        clear HB
        have HO297:=n0_
        have HO301:=n1_
        have HO304:=n2_
        have BK289:=n3_
        have BK290:=n4_
        have BK291:=n5_
        have BK305:=n6_
        have HB:=n7_
        clear n0_ n1_ n2_ n3_ n4_ n5_ n6_ n7_
        (try clear hb)
        (try clear hb2)
        (try clear hk)
        (try clear hi)
        (try clear ho0)
        (try clear ho1)
        refine hK.out _ _ ⟨(ak BK289.out 0).trans rfl,(ak BK289.out 1).trans rfl,(ak BK289.out 2).trans rfl,(ak BK290.out 0).trans rfl,(ak BK290.out 1).trans rfl⟩ (fun hHeld=>?_)
        clear hK K
        refine bQ (a':=?_) ?_ ?_
        rotate_left
        ·show Act.put _ (some 33) _=_
         simp only[apu_]
         rfl
        exact bQ (by simp only[fC,Act.put,List.setIfInBounds_toArray,List.set_cons_zero,List.set_cons_succ]) (hCont (.slice Ao48 t295.length co48,v300,v303,gb305) _ ⟨hHeld,(by(with_reducible repeat(first|apply Kd.aD|apply Kd.aC|apply Kd.aI));exact Kd.aT HO297.out (fun _ hk=>⟨hk.1.2,⟨hk.2,hk.1.1.2⟩⟩)),(by(with_reducible repeat(first|apply Kd.aD|apply Kd.aC|apply Kd.aI));exact Kd.aT HO301.out (fun _ hk=>⟨hk.1.2,⟨hk.1.1,hk.2⟩⟩)),(by(with_reducible repeat(first|apply Kd.aD|apply Kd.aC|apply Kd.aI));exact Kd.aT HO304.out (fun _ hk=>⟨hk.1.2,⟨hk.1.1,hk.2⟩⟩)),(by(with_reducible repeat(first|apply ag|apply aj|apply af));exact BK289.out),(by(with_reducible repeat(first|apply ag|apply aj|apply af));exact BK290.out),(by(with_reducible repeat(first|apply ag|apply aj|apply af));exact BK291.out),(by(with_reducible repeat(first|apply ag|apply aj|apply af));exact BK305.out),GW305.out,GE305.out,NB289_305.out,NB305_289.out,NB290_305.out,NB305_290.out,NB291_305.out,NB305_291.out,(by with_reducible repeat(first|exact HB.out|apply ah|apply aa|apply ai|refine ae ?_ GE289.out|refine ae ?_ GE290.out|refine ae ?_ GE291.out|refine ae ?_ GE305.out))⟩)
      ·skip
       refine gB ?hg (N:=7) ?hd (cs:=#[.int .i64 0,.slice none 0 0,.slice none 0 0]) (t:=24) ?hr ?_;(case hd=>rfl);(case hg=>rfl);(case hr=>first|(go_simp;done)|(go_simp;rfl))
       intro gb305 hg w46 hbox hb
       have n0_:=au (ay (g:=gb289) (o:=.cells #[.int .i64 a0_0,.slice A0_1 l0_1.length c0_1,.slice A0_2 l0_2.length c0_2] 24 (0,0)) (by(with_reducible repeat(first|apply ag|apply aj|apply af));exact BK289.out) hb)
       have n1_:=au (ay (g:=gb290) (o:=.cells #[.int .i64 a1_0,.int .i64 a1_1] 35 (0,0)) (by(with_reducible repeat(first|apply ag|apply aj|apply af));exact BK290.out) hb)
       have n2_:=au (ay (g:=gb291) (o:=.cells #[.int .i64 0,.slice none 0 0,.slice none 0 0] 24 (0,0)) (by(with_reducible repeat(first|apply ag|apply aj|apply af));exact BK291.out) hb)
       have n3_:=au (aA (by with_reducible repeat(first|exact HB.out|apply ah|apply aa|apply ai|refine ae ?_ GE289.out|refine ae ?_ GE290.out|refine ae ?_ GE291.out)) hb)
       have n4_:=au (hbox)
       have n5_:=au ((by rw[hg];exact(az (by with_reducible repeat(first|exact HB.out|apply ah|apply aa|apply ai|refine ae ?_ GE289.out|refine ae ?_ GE290.out|refine ae ?_ GE291.out))):w.heap.size≤gb305))
       have n6_:=au ((by rw[hg];exact(az (by with_reducible repeat(first|exact HB.out|apply ah|apply aa|apply ai|refine ae ?_ GE289.out|refine ae ?_ GE290.out|refine ae ?_ GE291.out))):w.heap.size≤gb305))
       have n7_:=au ((by rw[hg];exact Nat.ne_of_lt (aH (g:=gb289) (o:=.cells #[.int .i64 a0_0,.slice A0_1 l0_1.length c0_1,.slice A0_2 l0_2.length c0_2] 24 (0,0)) (by(with_reducible repeat(first|apply ag|apply aj|apply af));exact BK289.out)):gb289≠gb305))
       have n8_:=au ((by rw[hg];exact Nat.ne_of_gt (aH (g:=gb289) (o:=.cells #[.int .i64 a0_0,.slice A0_1 l0_1.length c0_1,.slice A0_2 l0_2.length c0_2] 24 (0,0)) (by(with_reducible repeat(first|apply ag|apply aj|apply af));exact BK289.out)):gb305≠gb289))
       have n9_:=au ((by rw[hg];exact Nat.ne_of_lt (aH (g:=gb290) (o:=.cells #[.int .i64 a1_0,.int .i64 a1_1] 35 (0,0)) (by(with_reducible repeat(first|apply ag|apply aj|apply af));exact BK290.out)):gb290≠gb305))
       have n10_:=au ((by rw[hg];exact Nat.ne_of_gt (aH (g:=gb290) (o:=.cells #[.int .i64 a1_0,.int .i64 a1_1] 35 (0,0)) (by(with_reducible repeat(first|apply ag|apply aj|apply af));exact BK290.out)):gb305≠gb290))
       have n11_:=au ((by rw[hg];exact Nat.ne_of_lt (aH (g:=gb291) (o:=.cells #[.int .i64 0,.slice none 0 0,.slice none 0 0] 24 (0,0)) (by(with_reducible repeat(first|apply ag|apply aj|apply af));exact BK291.out)):gb291≠gb305))
       have n12_:=au ((by rw[hg];exact Nat.ne_of_gt (aH (g:=gb291) (o:=.cells #[.int .i64 0,.slice none 0 0,.slice none 0 0] 24 (0,0)) (by(with_reducible repeat(first|apply ag|apply aj|apply af));exact BK291.out)):gb305≠gb291))
       clear BK289
       clear BK290
       clear BK291
       clear HB
       have BK289:=n0_
       have BK290:=n1_
       have BK291:=n2_
       have HB:=n3_
       have BK305:=n4_
       have GW305:=n5_
       have GE305:=n6_
       have NB289_305:=n7_
       have NB305_289:=n8_
       have NB290_305:=n9_
       have NB305_290:=n10_
       have NB291_305:=n11_
       have NB305_291:=n12_
       clear n0_ n1_ n2_ n3_ n4_ n5_ n6_ n7_ n8_ n9_ n10_ n11_ n12_
       clear hb hbox hg
       refine hK.out _ _ ⟨(ak BK289.out 0).trans rfl,(ak BK289.out 1).trans rfl,(ak BK289.out 2).trans rfl,(ak BK290.out 0).trans rfl,(ak BK290.out 1).trans rfl⟩ (fun hHeld=>?_)
       clear hK K
       refine bQ (a':=?_) ?_ ?_
       rotate_left
       ·show Act.put _ (some 7) _=_
        simp only[apu_]
        rfl
       refine dN (i:=6) (N:=some 32) #[true,true,true,true,true,true,true,false,true,false] rfl rfl (ed HT_.out (by kernel_rfl)) (by decide) (fun K hK=>?_)
       refine dh Try.func57 (by kernel_rfl) rfl #[.slice A0_1 l0_1.length c0_1,.int .i64 t294,.agg #[.int .i64 a1_0,.int .i64 a1_1]] (by rfl) rfl rfl (by(try simp only[amp_]);first|done|rfl|(simp only[ald_];rfl)) ?_
       with_reducible refine(spec_l5Cut.calls _ _ l0_1 t294 a1_0 a1_1 t295 _ ?side1 ?side2 A35.out).mono ?_
       (case side1=>repeat(first|exact(Kd.aN HR0_1.out HB.out)|(with_reducible first|apply Kd.aY|apply Kd.aZ|apply Kd.bn)))
       (case side2=>exact HC0_1.out)
       rintro e w47 ⟨v296,rfl,ho0,hb⟩
       refine⟨_,rfl,?_⟩
       have n0_:=au (Kd.bz (Kd.dK ho0 (g:=gb290) (o:=.cells #[.int .i64 a1_0,.int .i64 a1_1] 35 (0,0)) (by(with_reducible repeat(first|apply ag|apply aj|apply af));exact BK290.out)) (az (by with_reducible repeat(first|exact HB.out|apply ah|apply aa|apply ai|refine ae ?_ GE289.out|refine ae ?_ GE290.out|refine ae ?_ GE291.out|refine ae ?_ GE305.out))))
       have n1_:=au (ay (g:=gb289) (o:=.cells #[.int .i64 a0_0,.slice A0_1 l0_1.length c0_1,.slice A0_2 l0_2.length c0_2] 24 (0,0)) (by(with_reducible repeat(first|apply ag|apply aj|apply af));exact BK289.out) hb)
       have n2_:=au (ay (g:=gb290) (o:=.cells #[.int .i64 a1_0,.int .i64 a1_1] 35 (0,0)) (by(with_reducible repeat(first|apply ag|apply aj|apply af));exact BK290.out) hb)
       have n3_:=au (ay (g:=gb291) (o:=.cells #[.int .i64 0,.slice none 0 0,.slice none 0 0] 24 (0,0)) (by(with_reducible repeat(first|apply ag|apply aj|apply af));exact BK291.out) hb)
       have n4_:=au (ay (g:=gb305) (o:=.cells #[.int .i64 0,.slice none 0 0,.slice none 0 0] 24 (0,0)) (by(with_reducible repeat(first|apply ag|apply aj|apply af));exact BK305.out) hb)
       have n5_:=au (aA (by with_reducible repeat(first|exact HB.out|apply ah|apply aa|apply ai|refine ae ?_ GE289.out|refine ae ?_ GE290.out|refine ae ?_ GE291.out|refine ae ?_ GE305.out)) hb)
       clear BK289
       clear BK290
       clear BK291
       clear BK305
       clear HB
       have HO297:=n0_
       have BK289:=n1_
       have BK290:=n2_
       have BK291:=n3_
       have BK305:=n4_
       have HB:=n5_
       clear n0_ n1_ n2_ n3_ n4_ n5_
       (try clear hb)
       (try clear hb2)
       (try clear hk)
       (try clear hi)
       (try clear ho0)
       obtain⟨Ao48,co48,eo48⟩:=Kd.bq HO297.out
       (first|subst eo48|(injection eo48 with f1_ f2_ f3_;have f4_:=f1_.symm;have f5_:=f3_.symm;clear f1_ f2_ f3_;subst f4_;subst f5_))
       refine hK.out _ _ ⟨(ak BK289.out 0).trans rfl,(ak BK289.out 1).trans rfl,(ak BK289.out 2).trans rfl,(ak BK290.out 0).trans rfl,(ak BK290.out 1).trans rfl⟩ (fun hHeld=>?_)
       clear hK K
       refine bQ (a':=?_) ?_ ?_
       rotate_left
       ·show Act.put _ (some 32) _=_
        simp only[apu_]
        rfl
       refine dN (i:=7) (N:=some 33) #[true,true,true,true,true,true,true,true,true,false] rfl rfl (ed HT_.out (by kernel_rfl)) (by decide) (fun K hK=>?_)
       refine dh Try.func33 (by kernel_rfl) rfl #[.int .i64 a0_0,.slice Ao48 t295.length co48] (by rfl) rfl rfl (by(try simp only[amp_]);first|done|rfl|(simp only[ald_];rfl)) ?_
       with_reducible refine(spec_l5Of.calls kj2 a0_0 _ _ t295 t298 t299 t302 _ ?side1 ?side2 A36.out).mono ?_
       (case side1=>repeat(first|exact(Kd.R_reads' HO297.out).2.2|(with_reducible first|apply Kd.aY|apply Kd.aZ|apply Kd.bn)))
       (case side2=>exact(Kd.R_reads' HO297.out).2.1)
       rintro e w49 ⟨v300,v303,rfl,ho0,ho1,hb⟩
       refine⟨_,rfl,?_⟩
       have n0_:=au (Kd.aT (Kd.dX (Kd.dX (Kd.iN (by(with_reducible repeat(first|apply Kd.aD|apply Kd.aC|apply Kd.aI));exact HO297.out) hb) (Kd.dI ho0)) (Kd.dI ho1)) (fun _ h_=>h_.1))
       have n1_:=au (Kd.bz (Kd.dK (Kd.R_new' ho0 (Kd.fq (by(with_reducible repeat(first|apply Kd.aD|apply Kd.aC|apply Kd.aI));exact HO297.out))) (g:=gb290) (o:=.cells #[.int .i64 a1_0,.int .i64 a1_1] 35 (0,0)) (by(with_reducible repeat(first|apply ag|apply aj|apply af));exact BK290.out)) (az (by with_reducible repeat(first|exact HB.out|apply ah|apply aa|apply ai|refine ae ?_ GE289.out|refine ae ?_ GE290.out|refine ae ?_ GE291.out|refine ae ?_ GE305.out))))
       have n2_:=au (Kd.bz (Kd.dK (Kd.R_new' ho1 (Kd.fq (by(with_reducible repeat(first|apply Kd.aD|apply Kd.aC|apply Kd.aI));exact HO297.out))) (g:=gb290) (o:=.cells #[.int .i64 a1_0,.int .i64 a1_1] 35 (0,0)) (by(with_reducible repeat(first|apply ag|apply aj|apply af));exact BK290.out)) (az (by with_reducible repeat(first|exact HB.out|apply ah|apply aa|apply ai|refine ae ?_ GE289.out|refine ae ?_ GE290.out|refine ae ?_ GE291.out|refine ae ?_ GE305.out))))
       have n3_:=au (ay (g:=gb289) (o:=.cells #[.int .i64 a0_0,.slice A0_1 l0_1.length c0_1,.slice A0_2 l0_2.length c0_2] 24 (0,0)) (by(with_reducible repeat(first|apply ag|apply aj|apply af));exact BK289.out) hb)
       have n4_:=au (ay (g:=gb290) (o:=.cells #[.int .i64 a1_0,.int .i64 a1_1] 35 (0,0)) (by(with_reducible repeat(first|apply ag|apply aj|apply af));exact BK290.out) hb)
       have n5_:=au (ay (g:=gb291) (o:=.cells #[.int .i64 0,.slice none 0 0,.slice none 0 0] 24 (0,0)) (by(with_reducible repeat(first|apply ag|apply aj|apply af));exact BK291.out) hb)
       have n6_:=au (ay (g:=gb305) (o:=.cells #[.int .i64 0,.slice none 0 0,.slice none 0 0] 24 (0,0)) (by(with_reducible repeat(first|apply ag|apply aj|apply af));exact BK305.out) hb)
       have n7_:=au (aA (by with_reducible repeat(first|exact HB.out|apply ah|apply aa|apply ai|refine ae ?_ GE289.out|refine ae ?_ GE290.out|refine ae ?_ GE291.out|refine ae ?_ GE305.out)) hb)
       clear HO297
       clear BK289
       clear BK290
       clear BK291
       clear BK305
       clear HB
       have HO297:=n0_
       have HO301:=n1_
       have HO304:=n2_
       have BK289:=n3_
       have BK290:=n4_
       have BK291:=n5_
       have BK305:=n6_
       have HB:=n7_
       clear n0_ n1_ n2_ n3_ n4_ n5_ n6_ n7_
       (try clear hb)
       (try clear hb2)
       (try clear hk)
       (try clear hi)
       (try clear ho0)
       (try clear ho1)
       refine hK.out _ _ ⟨(ak BK289.out 0).trans rfl,(ak BK289.out 1).trans rfl,(ak BK289.out 2).trans rfl,(ak BK290.out 0).trans rfl,(ak BK290.out 1).trans rfl⟩ (fun hHeld=>?_)
       clear hK K
       refine bQ (a':=?_) ?_ ?_
       rotate_left
       ·show Act.put _ (some 33) _=_
        simp only[apu_]
        rfl
       exact bQ (by simp only[fC,Act.put,List.setIfInBounds_toArray,List.set_cons_zero,List.set_cons_succ]) (hCont (.slice Ao48 t295.length co48,v300,v303,gb305) _ ⟨hHeld,(by(with_reducible repeat(first|apply Kd.aD|apply Kd.aC|apply Kd.aI));exact Kd.aT HO297.out (fun _ hk=>⟨hk.1.2,⟨hk.2,hk.1.1.2⟩⟩)),(by(with_reducible repeat(first|apply Kd.aD|apply Kd.aC|apply Kd.aI));exact Kd.aT HO301.out (fun _ hk=>⟨hk.1.2,⟨hk.1.1,hk.2⟩⟩)),(by(with_reducible repeat(first|apply Kd.aD|apply Kd.aC|apply Kd.aI));exact Kd.aT HO304.out (fun _ hk=>⟨hk.1.2,⟨hk.1.1,hk.2⟩⟩)),(by(with_reducible repeat(first|apply ag|apply aj|apply af));exact BK289.out),(by(with_reducible repeat(first|apply ag|apply aj|apply af));exact BK290.out),(by(with_reducible repeat(first|apply ag|apply aj|apply af));exact BK291.out),(by(with_reducible repeat(first|apply ag|apply aj|apply af));exact BK305.out),GW305.out,GE305.out,NB289_305.out,NB305_289.out,NB290_305.out,NB305_290.out,NB291_305.out,NB305_291.out,(by with_reducible repeat(first|exact HB.out|apply ah|apply aa|apply ai|refine ae ?_ GE289.out|refine ae ?_ GE290.out|refine ae ?_ GE291.out|refine ae ?_ GE305.out))⟩)
     rintro⟨v296,v300,v303,gb305⟩ w50 ⟨hS_,h0_,h1_,h2_,h3_,h4_,h5_,h6_,h7_,h8_,h9_,h10_,h11_,h12_,h13_,h14_,h15_⟩
     have n0_:Aside0 (Kd.R k35 35 w50 w.heap.size (fun k_=>some k_≠(v300:Value).ownBlock∧some k_≠(v303:Value).ownBlock∧k_≠gb290) v296 t295):=⟨h0_⟩
     have n1_:Aside0 (Kd.R k35 35 w50 w.heap.size (fun k_=>some k_≠(v296:Value).ownBlock∧some k_≠(v303:Value).ownBlock∧k_≠gb290) v300 t299):=⟨h1_⟩
     have n2_:Aside0 (Kd.R k35 35 w50 w.heap.size (fun k_=>some k_≠(v296:Value).ownBlock∧some k_≠(v300:Value).ownBlock∧k_≠gb290) v303 t302):=⟨h2_⟩
     have n3_:Aside0 (w50.heap[gb289]? = some (.cells #[.int .i64 a0_0,.slice A0_1 l0_1.length c0_1,.slice A0_2 l0_2.length c0_2] 24 (0,0))):=⟨h3_⟩
     have n4_:Aside0 (w50.heap[gb290]? = some (.cells #[.int .i64 a1_0,.int .i64 a1_1] 35 (0,0))):=⟨h4_⟩
     have n5_:Aside0 (w50.heap[gb291]? = some (.cells #[.int .i64 0,.slice none 0 0,.slice none 0 0] 24 (0,0))):=⟨h5_⟩
     have n6_:Aside0 (w50.heap[gb305]? = some (.cells #[.int .i64 0,.slice none 0 0,.slice none 0 0] 24 (0,0))):=⟨h6_⟩
     have n7_:Aside0 (w.heap.size≤gb305):=⟨h7_⟩
     have n8_:Aside0 (w.heap.size≤gb305):=⟨h8_⟩
     have n9_:Aside0 (gb289≠gb305):=⟨h9_⟩
     have n10_:Aside0 (gb305≠gb289):=⟨h10_⟩
     have n11_:Aside0 (gb290≠gb305):=⟨h11_⟩
     have n12_:Aside0 (gb305≠gb290):=⟨h12_⟩
     have n13_:Aside0 (gb291≠gb305):=⟨h13_⟩
     have n14_:Aside0 (gb305≠gb291):=⟨h14_⟩
     have n15_:Aside0 (Below w.heap.size w w50):=⟨h15_⟩
     clear BK289
     clear BK290
     clear BK291
     clear HB
     clear h0_ h1_ h2_ h3_ h4_ h5_ h6_ h7_ h8_ h9_ h10_ h11_ h12_ h13_ h14_ h15_
     have HO297:=n0_
     have HO301:=n1_
     have HO304:=n2_
     have BK289:=n3_
     have BK290:=n4_
     have BK291:=n5_
     have BK305:=n6_
     have GW305:=n7_
     have GE305:=n8_
     have NB289_305:=n9_
     have NB305_289:=n10_
     have NB290_305:=n11_
     have NB305_290:=n12_
     have NB291_305:=n13_
     have NB305_291:=n14_
     have HB:=n15_
     clear n0_ n1_ n2_ n3_ n4_ n5_ n6_ n7_ n8_ n9_ n10_ n11_ n12_ n13_ n14_ n15_
     have hHeld:w50.cell? ⟨gb289,0,none⟩=some (.int .i64 a0_0)∧w50.cell? ⟨gb289,1,none⟩=some (.slice A0_1 l0_1.length c0_1)∧w50.cell? ⟨gb289,2,none⟩=some (.slice A0_2 l0_2.length c0_2)∧w50.cell? ⟨gb290,0,none⟩=some (.int .i64 a1_0)∧w50.cell? ⟨gb290,1,none⟩=some (.int .i64 a1_1):=hS_
     obtain⟨Ao52,co52,eo52⟩:=Kd.bq HO301.out
     (first|subst eo52|(injection eo52 with f1_ f2_ f3_;have f4_:=f1_.symm;have f5_:=f3_.symm;clear f1_ f2_ f3_;subst f4_;subst f5_))
     obtain⟨Ao54,co54,eo54⟩:=Kd.bq HO304.out
     (first|subst eo54|(injection eo54 with f1_ f2_ f3_;have f4_:=f1_.symm;have f5_:=f3_.symm;clear f1_ f2_ f3_;subst f4_;subst f5_))
     refine bQ (a':=?_) ?_ ?_
     rotate_left
     ·simp only[fC,Act.put,List.setIfInBounds_toArray,List.set_cons_zero,List.set_cons_succ]
      rfl
     refine dN (i:=9) (N:=none) #[true,true,true,true,true,true,true,true,true,true] rfl rfl (ed HT_.out (by kernel_rfl)) (by decide) (fun K hK=>?_)
     have hs51:w50.cell? ⟨gb305,0,none⟩=some (.int .i64 0):=(ak BK305.out 0).trans rfl
     have hfs51:=av BK305.out 0
     have hns51_0:=NB289_305.out
     have hns51_1:=NB290_305.out
     have hns51_2:=NB291_305.out
     have hms51_0:=NB305_289.out
     have hms51_1:=NB305_290.out
     have hms51_2:=NB305_291.out
     have hs53:w50.cell? ⟨gb305,1,none⟩=some (.slice none 0 0):=(ak BK305.out 1).trans rfl
     have hfs53:=av BK305.out 1
     have hns53_0:=NB289_305.out
     have hns53_1:=NB290_305.out
     have hns53_2:=NB291_305.out
     have hms53_0:=NB305_289.out
     have hms53_1:=NB305_290.out
     have hms53_2:=NB305_291.out
     have hs55:w50.cell? ⟨gb305,2,none⟩=some (.slice none 0 0):=(ak BK305.out 2).trans rfl
     have hfs55:=av BK305.out 2
     have hns55_0:=NB289_305.out
     have hns55_1:=NB290_305.out
     have hns55_2:=NB291_305.out
     have hms55_0:=NB305_289.out
     have hms55_1:=NB305_290.out
     have hms55_2:=NB305_291.out
     refine jb (w1:=?_) (by rfl) rfl ?_ ?_
     rotate_left
     ·go_simp
      rfl
     refine hK.out _ _ ⟨((cell_far (p:=⟨gb305,_,none⟩) NB289_305.out _).trans (((cell_far (p:=⟨gb305,_,none⟩) NB289_305.out _).trans (((cell_far (p:=⟨gb305,_,none⟩) NB289_305.out _).trans (hHeld.1)))))),((cell_far (p:=⟨gb305,_,none⟩) NB289_305.out _).trans (((cell_far (p:=⟨gb305,_,none⟩) NB289_305.out _).trans (((cell_far (p:=⟨gb305,_,none⟩) NB289_305.out _).trans (hHeld.2.1)))))),((cell_far (p:=⟨gb305,_,none⟩) NB289_305.out _).trans (((cell_far (p:=⟨gb305,_,none⟩) NB289_305.out _).trans (((cell_far (p:=⟨gb305,_,none⟩) NB289_305.out _).trans (hHeld.2.2.1)))))),((cell_far (p:=⟨gb305,_,none⟩) NB290_305.out _).trans (((cell_far (p:=⟨gb305,_,none⟩) NB290_305.out _).trans (((cell_far (p:=⟨gb305,_,none⟩) NB290_305.out _).trans (hHeld.2.2.2.1)))))),((cell_far (p:=⟨gb305,_,none⟩) NB290_305.out _).trans (((cell_far (p:=⟨gb305,_,none⟩) NB290_305.out _).trans (((cell_far (p:=⟨gb305,_,none⟩) NB290_305.out _).trans (hHeld.2.2.2.2))))))⟩ (fun hHeld=>?_)
     clear hK K
     refine fo (gZ HT_.out (by kernel_rfl)) ?_
     have hnb56:=NB305_289.out
     have hnc56:=NB289_305.out
     have hnb57:=NB305_290.out
     have hnc57:=NB290_305.out
     have hnb58:=NB305_291.out
     have hnc58:=NB291_305.out
     have hcz59_0:w50.cell? ⟨gb305,0,none⟩=some (.int .i64 0):=(ak BK305.out 0).trans rfl
     have hcz59_1:w50.cell? ⟨gb305,1,none⟩=some (.slice none 0 0):=(ak BK305.out 1).trans rfl
     have hcz59_2:w50.cell? ⟨gb305,2,none⟩=some (.slice none 0 0):=(ak BK305.out 2).trans rfl
     have hfz59_0:=av BK305.out 0
     have hfz59_1:=av BK305.out 1
     have hfz59_2:=av BK305.out 2
     have H:=HQ256.out
     clear HQ256
     by_cases c38:t306=true
     ·subst c38
      have H1:(some (t298,t299,t302,true))=some (r1,r2,r3,r4):=by rw[if_pos rfl] at H;exact H
      clear H
      have H:=H1
      clear H1
      simp only[Option.some.injEq,Prod.mk.injEq] at H
      obtain⟨rfl,rfl,rfl,rfl⟩:=H
      try go_wp2_with (first|((with_reducible refine aW (f:=25) rfl ?_);refine bO (some 35) rfl rfl Try.func25 (by kernel_rfl) rfl #[.agg #[.int .i64 t298,.slice Ao52 t299.length co52,.slice Ao54 t302.length co54]] rfl (by(try simp only[amp_]);first|done|rfl|(simp only[ald_];rfl)) ?_;(with_reducible refine(spec_GoodFree.calls kj2 t298 _ _ t299 _ _ t302 true _ ?side1 ?side2 ?side3 ?side4 A37.out).mono ?_);(case side1=>refine(Kd.R_reads' (e:=35) (base:=w.heap.size) (ok:=fun k_=>(some k_≠(v296:Value).ownBlock∧(some k_≠(.slice Ao54 t302.length co54:Value).ownBlock∧k_≠gb290))) (n:=t299.length) (c:=co52) ?_).2.2;exact(by(with_reducible repeat(first|apply Kd.aD|apply Kd.aC|apply Kd.aI));exact(Kd.aT (Kd.aV (p:=⟨gb305,2,none⟩) (Kd.aV (p:=⟨gb305,1,none⟩) (Kd.aV (p:=⟨gb305,0,none⟩) (Kd.bK HO301.out BK305.out (by decide)) (fun _ hk=>hk.2) (.int .i64 t298)) (fun _ hk=>hk.2) (.slice Ao52 t299.length co52)) (fun _ hk=>hk.2) (.slice Ao54 t302.length co54)) (fun _ h_=>h_.1))));(case side2=>exact(Kd.R_reads' HO301.out).2.1);(case side3=>refine(Kd.R_reads' (e:=35) (base:=w.heap.size) (ok:=fun k_=>(some k_≠(v296:Value).ownBlock∧(some k_≠(.slice Ao52 t299.length co52:Value).ownBlock∧k_≠gb290))) (n:=t302.length) (c:=co54) ?_).2.2;exact(by(with_reducible repeat(first|apply Kd.aD|apply Kd.aC|apply Kd.aI));exact(Kd.aT (Kd.aV (p:=⟨gb305,2,none⟩) (Kd.aV (p:=⟨gb305,1,none⟩) (Kd.aV (p:=⟨gb305,0,none⟩) (Kd.bK HO304.out BK305.out (by decide)) (fun _ hk=>hk.2) (.int .i64 t298)) (fun _ hk=>hk.2) (.slice Ao52 t299.length co52)) (fun _ hk=>hk.2) (.slice Ao54 t302.length co54)) (fun _ h_=>h_.1))));(case side4=>exact(Kd.R_reads' HO304.out).2.1);rintro e w60 ⟨rfl,hb⟩;refine⟨_,rfl,?_⟩;replace HO297:=au (Kd.bi (by(with_reducible repeat(first|apply Kd.aD|apply Kd.aC|apply Kd.aI));exact(Kd.aT (Kd.aV (p:=⟨gb305,2,none⟩) (Kd.aV (p:=⟨gb305,1,none⟩) (Kd.aV (p:=⟨gb305,0,none⟩) (Kd.bK HO297.out BK305.out (by decide)) (fun _ hk=>hk.2) (.int .i64 t298)) (fun _ hk=>hk.2) (.slice Ao52 t299.length co52)) (fun _ hk=>hk.2) (.slice Ao54 t302.length co54)) (fun _ h_=>h_.1))) hb);replace HO301:=au (Kd.bi (by(with_reducible repeat(first|apply Kd.aD|apply Kd.aC|apply Kd.aI));exact(Kd.aT (Kd.aV (p:=⟨gb305,2,none⟩) (Kd.aV (p:=⟨gb305,1,none⟩) (Kd.aV (p:=⟨gb305,0,none⟩) (Kd.bK HO301.out BK305.out (by decide)) (fun _ hk=>hk.2) (.int .i64 t298)) (fun _ hk=>hk.2) (.slice Ao52 t299.length co52)) (fun _ hk=>hk.2) (.slice Ao54 t302.length co54)) (fun _ h_=>h_.1))) hb);replace HO304:=au (Kd.bi (by(with_reducible repeat(first|apply Kd.aD|apply Kd.aC|apply Kd.aI));exact(Kd.aT (Kd.aV (p:=⟨gb305,2,none⟩) (Kd.aV (p:=⟨gb305,1,none⟩) (Kd.aV (p:=⟨gb305,0,none⟩) (Kd.bK HO304.out BK305.out (by decide)) (fun _ hk=>hk.2) (.int .i64 t298)) (fun _ hk=>hk.2) (.slice Ao52 t299.length co52)) (fun _ hk=>hk.2) (.slice Ao54 t302.length co54)) (fun _ h_=>h_.1))) hb);replace BK289:=au (ay (g:=gb289) (o:=.cells #[.int .i64 a0_0,.slice A0_1 l0_1.length c0_1,.slice A0_2 l0_2.length c0_2] 24 (0,0)) (by(with_reducible repeat(first|apply ag|apply aj|apply af));refine aG ?_ NB289_305.out _;(with_reducible repeat(first|apply ag|apply aj|apply af));refine aG ?_ NB289_305.out _;(with_reducible repeat(first|apply ag|apply aj|apply af));refine aG ?_ NB289_305.out _;(with_reducible repeat(first|apply ag|apply aj|apply af));exact BK289.out) hb);replace BK290:=au (ay (g:=gb290) (o:=.cells #[.int .i64 a1_0,.int .i64 a1_1] 35 (0,0)) (by(with_reducible repeat(first|apply ag|apply aj|apply af));refine aG ?_ NB290_305.out _;(with_reducible repeat(first|apply ag|apply aj|apply af));refine aG ?_ NB290_305.out _;(with_reducible repeat(first|apply ag|apply aj|apply af));refine aG ?_ NB290_305.out _;(with_reducible repeat(first|apply ag|apply aj|apply af));exact BK290.out) hb);replace BK291:=au (ay (g:=gb291) (o:=.cells #[.int .i64 0,.slice none 0 0,.slice none 0 0] 24 (0,0)) (by(with_reducible repeat(first|apply ag|apply aj|apply af));refine aG ?_ NB291_305.out _;(with_reducible repeat(first|apply ag|apply aj|apply af));refine aG ?_ NB291_305.out _;(with_reducible repeat(first|apply ag|apply aj|apply af));refine aG ?_ NB291_305.out _;(with_reducible repeat(first|apply ag|apply aj|apply af));exact BK291.out) hb);replace BK305:=au (ay (g:=gb305) (o:=.cells #[.int .i64 t298,.slice Ao52 t299.length co52,.slice Ao54 t302.length co54] 24 (0,0)) (by(with_reducible repeat(first|apply ag|apply aj|apply af));refine aK (cs:=#[.int .i64 t298,.slice Ao52 t299.length co52,.slice none 0 0]) ?_ 2 _ rfl;(with_reducible repeat(first|apply ag|apply aj|apply af));refine aK (cs:=#[.int .i64 t298,.slice none 0 0,.slice none 0 0]) ?_ 1 _ rfl;(with_reducible repeat(first|apply ag|apply aj|apply af));refine aK (cs:=#[.int .i64 0,.slice none 0 0,.slice none 0 0]) ?_ 0 _ rfl;(with_reducible repeat(first|apply ag|apply aj|apply af));exact BK305.out) hb);replace HB:=au (aA (by with_reducible repeat(first|exact HB.out|apply ah|apply aa|apply ai|refine ae ?_ GE289.out|refine ae ?_ GE290.out|refine ae ?_ GE291.out|refine ae ?_ GE305.out)) hb);(try clear hb);(try clear hb2);(try clear hk);(try clear hi);have hcz61_0:w60.cell? ⟨gb305,0,none⟩=some (.int .i64 t298):=(ak BK305.out 0).trans rfl;have hcz61_1:w60.cell? ⟨gb305,1,none⟩=some (.slice Ao52 t299.length co52):=(ak BK305.out 1).trans rfl;have hcz61_2:w60.cell? ⟨gb305,2,none⟩=some (.slice Ao54 t302.length co54):=(ak BK305.out 2).trans rfl;have hfz61_0:=av BK305.out 0;have hfz61_1:=av BK305.out 1;have hfz61_2:=av BK305.out 2;have hcz62_0:w60.cell? ⟨gb291,0,none⟩=some (.int .i64 0):=(ak BK291.out 0).trans rfl;have hcz62_1:w60.cell? ⟨gb291,1,none⟩=some (.slice none 0 0):=(ak BK291.out 1).trans rfl;have hcz62_2:w60.cell? ⟨gb291,2,none⟩=some (.slice none 0 0):=(ak BK291.out 2).trans rfl;have hfz62_0:=av BK291.out 0;have hfz62_1:=av BK291.out 1;have hfz62_2:=av BK291.out 2))
      refine bodyPost_ret (di rfl _ _ gb291 24 #[.int .i64 t298,.slice Ao52 t299.length co52,.slice Ao54 t302.length co54] (0,0) _ rfl (by(with_reducible repeat(first|apply ag|apply aj|apply af));refine aK (cs:=#[.int .i64 t298,.slice Ao52 t299.length co52,.slice none 0 0]) ?_ 2 _ rfl;(with_reducible repeat(first|apply ag|apply aj|apply af));refine aK (cs:=#[.int .i64 t298,.slice none 0 0,.slice none 0 0]) ?_ 1 _ rfl;(with_reducible repeat(first|apply ag|apply aj|apply af));refine aK (cs:=#[.int .i64 0,.slice none 0 0,.slice none 0 0]) ?_ 0 _ rfl;(with_reducible repeat(first|apply ag|apply aj|apply af));exact BK291.out) Try.underlying24 rfl (by kernel_rfl)) rfl ?_
      exact⟨_,_,by first|rfl|(simp <;> rfl)|(simp[*] <;> rfl),by(with_reducible repeat(first|apply Kd.aD|apply Kd.aC|apply Kd.aI));exact Kd.aT (Kd.aV (p:=⟨gb291,2,none⟩) (Kd.aV (p:=⟨gb291,1,none⟩) (Kd.aV (p:=⟨gb291,0,none⟩) (Kd.bK HO301.out BK291.out (by decide)) (fun _ hk=>hk.2) (.int .i64 t298)) (fun _ hk=>hk.2) (.slice Ao52 t299.length co52)) (fun _ hk=>hk.2) (.slice Ao54 t302.length co54)) (fun _ hk=>hk.1.2.1),by(with_reducible repeat(first|apply Kd.aD|apply Kd.aC|apply Kd.aI));exact Kd.aT (Kd.aV (p:=⟨gb291,2,none⟩) (Kd.aV (p:=⟨gb291,1,none⟩) (Kd.aV (p:=⟨gb291,0,none⟩) (Kd.bK HO304.out BK291.out (by decide)) (fun _ hk=>hk.2) (.int .i64 t298)) (fun _ hk=>hk.2) (.slice Ao52 t299.length co52)) (fun _ hk=>hk.2) (.slice Ao54 t302.length co54)) (fun _ hk=>hk.1.2.1),by with_reducible repeat(first|exact HB.out|apply ah|apply aa|apply ai|refine ae ?_ GE289.out|refine ae ?_ GE290.out|refine ae ?_ GE291.out|refine ae ?_ GE305.out)⟩
     ·replace c38:=Bool.eq_false_iff.mpr c38
      subst c38
      have H1:(some (0,([]:List (S35)),([]:List (S35)),false))=some (r1,r2,r3,r4):=by rw[if_neg (show ¬ (false=true) by decide)] at H;exact H
      clear H
      have H:=H1
      clear H1
      simp only[Option.some.injEq,Prod.mk.injEq] at H
      obtain⟨rfl,rfl,rfl,rfl⟩:=H
      try go_wp2_with (first|((with_reducible refine aW (f:=25) rfl ?_);refine bO (some 35) rfl rfl Try.func25 (by kernel_rfl) rfl #[.agg #[.int .i64 t298,.slice Ao52 t299.length co52,.slice Ao54 t302.length co54]] rfl (by(try simp only[amp_]);first|done|rfl|(simp only[ald_];rfl)) ?_;(with_reducible refine(spec_GoodFree.calls kj2 t298 _ _ t299 _ _ t302 false _ ?side1 ?side2 ?side3 ?side4 A37.out).mono ?_);(case side1=>refine(Kd.R_reads' (e:=35) (base:=w.heap.size) (ok:=fun k_=>(some k_≠(v296:Value).ownBlock∧(some k_≠(.slice Ao54 t302.length co54:Value).ownBlock∧k_≠gb290))) (n:=t299.length) (c:=co52) ?_).2.2;exact(by(with_reducible repeat(first|apply Kd.aD|apply Kd.aC|apply Kd.aI));exact(Kd.aT (Kd.aV (p:=⟨gb305,2,none⟩) (Kd.aV (p:=⟨gb305,1,none⟩) (Kd.aV (p:=⟨gb305,0,none⟩) (Kd.bK HO301.out BK305.out (by decide)) (fun _ hk=>hk.2) (.int .i64 t298)) (fun _ hk=>hk.2) (.slice Ao52 t299.length co52)) (fun _ hk=>hk.2) (.slice Ao54 t302.length co54)) (fun _ h_=>h_.1))));(case side2=>exact(Kd.R_reads' HO301.out).2.1);(case side3=>refine(Kd.R_reads' (e:=35) (base:=w.heap.size) (ok:=fun k_=>(some k_≠(v296:Value).ownBlock∧(some k_≠(.slice Ao52 t299.length co52:Value).ownBlock∧k_≠gb290))) (n:=t302.length) (c:=co54) ?_).2.2;exact(by(with_reducible repeat(first|apply Kd.aD|apply Kd.aC|apply Kd.aI));exact(Kd.aT (Kd.aV (p:=⟨gb305,2,none⟩) (Kd.aV (p:=⟨gb305,1,none⟩) (Kd.aV (p:=⟨gb305,0,none⟩) (Kd.bK HO304.out BK305.out (by decide)) (fun _ hk=>hk.2) (.int .i64 t298)) (fun _ hk=>hk.2) (.slice Ao52 t299.length co52)) (fun _ hk=>hk.2) (.slice Ao54 t302.length co54)) (fun _ h_=>h_.1))));(case side4=>exact(Kd.R_reads' HO304.out).2.1);rintro e w84 ⟨rfl,hb⟩;refine⟨_,rfl,?_⟩;replace HO297:=au (Kd.bi (by(with_reducible repeat(first|apply Kd.aD|apply Kd.aC|apply Kd.aI));exact(Kd.aT (Kd.aV (p:=⟨gb305,2,none⟩) (Kd.aV (p:=⟨gb305,1,none⟩) (Kd.aV (p:=⟨gb305,0,none⟩) (Kd.bK HO297.out BK305.out (by decide)) (fun _ hk=>hk.2) (.int .i64 t298)) (fun _ hk=>hk.2) (.slice Ao52 t299.length co52)) (fun _ hk=>hk.2) (.slice Ao54 t302.length co54)) (fun _ h_=>h_.1))) hb);replace HO301:=au (Kd.bi (by(with_reducible repeat(first|apply Kd.aD|apply Kd.aC|apply Kd.aI));exact(Kd.aT (Kd.aV (p:=⟨gb305,2,none⟩) (Kd.aV (p:=⟨gb305,1,none⟩) (Kd.aV (p:=⟨gb305,0,none⟩) (Kd.bK HO301.out BK305.out (by decide)) (fun _ hk=>hk.2) (.int .i64 t298)) (fun _ hk=>hk.2) (.slice Ao52 t299.length co52)) (fun _ hk=>hk.2) (.slice Ao54 t302.length co54)) (fun _ h_=>h_.1))) hb);replace HO304:=au (Kd.bi (by(with_reducible repeat(first|apply Kd.aD|apply Kd.aC|apply Kd.aI));exact(Kd.aT (Kd.aV (p:=⟨gb305,2,none⟩) (Kd.aV (p:=⟨gb305,1,none⟩) (Kd.aV (p:=⟨gb305,0,none⟩) (Kd.bK HO304.out BK305.out (by decide)) (fun _ hk=>hk.2) (.int .i64 t298)) (fun _ hk=>hk.2) (.slice Ao52 t299.length co52)) (fun _ hk=>hk.2) (.slice Ao54 t302.length co54)) (fun _ h_=>h_.1))) hb);replace BK289:=au (ay (g:=gb289) (o:=.cells #[.int .i64 a0_0,.slice A0_1 l0_1.length c0_1,.slice A0_2 l0_2.length c0_2] 24 (0,0)) (by(with_reducible repeat(first|apply ag|apply aj|apply af));refine aG ?_ NB289_305.out _;(with_reducible repeat(first|apply ag|apply aj|apply af));refine aG ?_ NB289_305.out _;(with_reducible repeat(first|apply ag|apply aj|apply af));refine aG ?_ NB289_305.out _;(with_reducible repeat(first|apply ag|apply aj|apply af));exact BK289.out) hb);replace BK290:=au (ay (g:=gb290) (o:=.cells #[.int .i64 a1_0,.int .i64 a1_1] 35 (0,0)) (by(with_reducible repeat(first|apply ag|apply aj|apply af));refine aG ?_ NB290_305.out _;(with_reducible repeat(first|apply ag|apply aj|apply af));refine aG ?_ NB290_305.out _;(with_reducible repeat(first|apply ag|apply aj|apply af));refine aG ?_ NB290_305.out _;(with_reducible repeat(first|apply ag|apply aj|apply af));exact BK290.out) hb);replace BK291:=au (ay (g:=gb291) (o:=.cells #[.int .i64 0,.slice none 0 0,.slice none 0 0] 24 (0,0)) (by(with_reducible repeat(first|apply ag|apply aj|apply af));refine aG ?_ NB291_305.out _;(with_reducible repeat(first|apply ag|apply aj|apply af));refine aG ?_ NB291_305.out _;(with_reducible repeat(first|apply ag|apply aj|apply af));refine aG ?_ NB291_305.out _;(with_reducible repeat(first|apply ag|apply aj|apply af));exact BK291.out) hb);replace BK305:=au (ay (g:=gb305) (o:=.cells #[.int .i64 t298,.slice Ao52 t299.length co52,.slice Ao54 t302.length co54] 24 (0,0)) (by(with_reducible repeat(first|apply ag|apply aj|apply af));refine aK (cs:=#[.int .i64 t298,.slice Ao52 t299.length co52,.slice none 0 0]) ?_ 2 _ rfl;(with_reducible repeat(first|apply ag|apply aj|apply af));refine aK (cs:=#[.int .i64 t298,.slice none 0 0,.slice none 0 0]) ?_ 1 _ rfl;(with_reducible repeat(first|apply ag|apply aj|apply af));refine aK (cs:=#[.int .i64 0,.slice none 0 0,.slice none 0 0]) ?_ 0 _ rfl;(with_reducible repeat(first|apply ag|apply aj|apply af));exact BK305.out) hb);replace HB:=au (aA (by with_reducible repeat(first|exact HB.out|apply ah|apply aa|apply ai|refine ae ?_ GE289.out|refine ae ?_ GE290.out|refine ae ?_ GE291.out|refine ae ?_ GE305.out)) hb);(try clear hb);(try clear hb2);(try clear hk);(try clear hi);have hcz85_0:w84.cell? ⟨gb291,0,none⟩=some (.int .i64 0):=(ak BK291.out 0).trans rfl;have hcz85_1:w84.cell? ⟨gb291,1,none⟩=some (.slice none 0 0):=(ak BK291.out 1).trans rfl;have hcz85_2:w84.cell? ⟨gb291,2,none⟩=some (.slice none 0 0):=(ak BK291.out 2).trans rfl;have hfz85_0:=av BK291.out 0;have hfz85_1:=av BK291.out 1;have hfz85_2:=av BK291.out 2))
      refine bodyPost_ret (di rfl _ _ gb291 24 #[.int .i64 0,.slice none 0 0,.slice none 0 0] (0,0) _ rfl (by(with_reducible repeat(first|apply ag|apply aj|apply af));refine aK (cs:=#[.int .i64 0,.slice none 0 0,.slice none 0 0]) ?_ 2 _ rfl;(with_reducible repeat(first|apply ag|apply aj|apply af));refine aK (cs:=#[.int .i64 0,.slice none 0 0,.slice none 0 0]) ?_ 1 _ rfl;(with_reducible repeat(first|apply ag|apply aj|apply af));refine aK (cs:=#[.int .i64 0,.slice none 0 0,.slice none 0 0]) ?_ 0 _ rfl;(with_reducible repeat(first|apply ag|apply aj|apply af));exact BK291.out) Try.underlying24 rfl (by kernel_rfl)) rfl ?_
      exact⟨_,_,by first|rfl|(simp <;> rfl)|(simp[*] <;> rfl),by first|exact Kd.dn _ _ _ _ _|exact Kd.dU _ _ _ _ _|exact Kd.dQ _ _ _ _ _|exact Kd.dR _ _ _ _ _|exact Kd.dS _ _ _ _ _,by first|exact Kd.dn _ _ _ _ _|exact Kd.dU _ _ _ _ _|exact Kd.dQ _ _ _ _ _|exact Kd.dR _ _ _ _ _|exact Kd.dS _ _ _ _ _,by with_reducible repeat(first|exact HB.out|apply ah|apply aa|apply ai|refine ae ?_ GE289.out|refine ae ?_ GE290.out|refine ae ?_ GE291.out|refine ae ?_ GE305.out)⟩
attribute [local go_sem] bG bH bS bT bB bA bJ bI
set_option linter.unusedVariables false
set_option linter.unusedSimpArgs false
def impl_TakeExact.f (a0_0:Int) (l0_1:List (S35)) (l0_2:List (S35)) (a1_0:Int) (a1_1:Int):Option (Int×(List (S35))×(List (S35))×Bool):=(impl_GoodFree.f a0_0 l0_1 l0_2).bind fun t515=>(if t515=true then ((impl_isExtent.f a1_0 a1_1 a0_0).bind fun t516=>(if t516=true then ((impl_Free_changed.f a0_0 l0_1 l0_2 a1_0 a1_1 false).bind fun bt517=>(some (bt517.1,bt517.2.1,bt517.2.2.1,bt517.2.2.2))) else (some (0,([]:List (S35)),([]:List (S35)),false)))) else (some (0,([]:List (S35)),([]:List (S35)),false)))
open Go.RowKit Go.Proofs.YtelblhkbogljnaaW.PrintWords Go.Proofs.YtelblhkbogljnaaW.PrintLast Go.Proofs.YtelblhkbogljnaaW.PrintMore Go.Proofs.Ytelblhkbogljnaa.E
theorem mZ {P:List EX} {i:Nat} (h:i<P.length):P=P.take i++P[i]::P.drop (i+1):=by
  rw[List.getElem_cons_drop,List.take_append_drop]
def nJ (A:List EX) (o x:EX) (D:List EX):List EX:=A ++ ((if x.f0 > o.f0 then [⟨o.f0,x.f0 - o.f0⟩] else []) ++ ((if x.f0+x.f1<o.f0+o.f1 then [⟨x.f0+x.f1,o.f0+o.f1 - (x.f0+x.f1)⟩] else [])++D))
section
variable {B:Int} {P S:List EX}
theorem qH {A D : List EX} {o x : EX} (hs : Sep B (A ++ o :: D)) (h0 : o.f0 ≤ x.f0) (h1 : 1 ≤ x.f1) (h2 : x.f0 + x.f1 ≤ o.f0 + o.f1) : Sep B (nJ A o x D) ∧ ∀ k, cov (nJ A o x D) k = nQ (A ++ o :: D) x false k := by
  have ho:=hs.a o (by simp)
  have hA:=hs.left
  have hD:=hs.right.tail
  have hoD:∀ y∈D,o.f0+o.f1<y.f0:=(List.pairwise_cons.1 hs.right.p).1
  have hAo:∀ y∈A,y.f0+y.f1<o.f0:=fun y hy=>hs.between y hy o (List.mem_cons_self ..)
  have hAD:∀ y∈A,∀ z∈D,y.f0+y.f1<z.f0:=fun y hy z hz=>hs.between y hy z (List.mem_cons_of_mem _ hz)
  have one:∀ y:EX,(0≤y.f0∧1≤y.f1∧y.f0+y.f1≤B)→Sep B [y]:=fun y hy=>⟨fun z hz=>by obtain rfl:=List.mem_singleton.1 hz;exact hy,List.pairwise_singleton ..⟩
  have hl:Sep B (if x.f0 > o.f0 then [(⟨o.f0,x.f0 - o.f0⟩:EX)] else [])∧(∀ y∈(if x.f0 > o.f0 then [(⟨o.f0,x.f0 - o.f0⟩:EX)] else []),y.f0=o.f0∧y.f0+y.f1=x.f0)∧∀ k,cov (if x.f0 > o.f0 then [(⟨o.f0,x.f0 - o.f0⟩:EX)] else []) k=decide (o.f0≤k∧k<x.f0):=by
    by_cases c:x.f0 > o.f0
    · rw[if_pos c]
      refine⟨one _ ⟨ho.1,by show 1≤x.f0 - o.f0;omega,by show o.f0 + (x.f0 - o.f0)≤B;omega⟩,fun y hy=>by obtain rfl:=List.mem_singleton.1 hy;exact⟨rfl,by show o.f0 + (x.f0 - o.f0)=x.f0;omega⟩,fun k=>?_⟩
      rw[gF]
      show decide (o.f0≤k∧k<o.f0 + (x.f0 - o.f0))=_
      rw[decide_eq_decide];omega
    · rw[if_neg c]
      exact⟨Sep.nil B,fun y hy=>(by cases hy),fun k=>by rw[eO,decide_eq_false (by omega)]⟩
  have hr:Sep B (if x.f0+x.f1<o.f0+o.f1 then [(⟨x.f0+x.f1,o.f0+o.f1 - (x.f0+x.f1)⟩:EX)] else [])∧(∀ y∈(if x.f0+x.f1<o.f0+o.f1 then [(⟨x.f0+x.f1,o.f0+o.f1 - (x.f0+x.f1)⟩:EX)] else []),y.f0=x.f0+x.f1∧y.f0+y.f1=o.f0+o.f1)∧∀ k,cov (if x.f0+x.f1<o.f0+o.f1 then [(⟨x.f0+x.f1,o.f0+o.f1 - (x.f0+x.f1)⟩:EX)] else []) k=decide (x.f0+x.f1≤k∧k<o.f0+o.f1):=by
    by_cases c:x.f0+x.f1<o.f0+o.f1
    · rw[if_pos c]
      refine⟨one _ ⟨by show 0≤x.f0+x.f1;omega,by show 1≤o.f0+o.f1 - (x.f0+x.f1);omega,by show x.f0+x.f1 + (o.f0+o.f1 - (x.f0+x.f1))≤B;omega⟩,fun y hy=>by obtain rfl:=List.mem_singleton.1 hy;exact⟨rfl,by show x.f0+x.f1 + (o.f0+o.f1 - (x.f0+x.f1))=_;omega⟩,fun k=>?_⟩
      rw[gF]
      show decide (x.f0+x.f1≤k∧k<x.f0+x.f1 + (o.f0+o.f1 - (x.f0+x.f1)))=_
      rw[decide_eq_decide];omega
    · rw[if_neg c]
      exact⟨Sep.nil B,fun y hy=>(by cases hy),fun k=>by rw[eO,decide_eq_false (by omega)]⟩
  unfold nJ
  generalize (if x.f0 > o.f0 then [(⟨o.f0,x.f0 - o.f0⟩:EX)] else [])=U at hl
  generalize (if x.f0+x.f1<o.f0+o.f1 then [(⟨x.f0+x.f1,o.f0+o.f1 - (x.f0+x.f1)⟩:EX)] else [])=V at hr
  refine⟨hA.append (hl.1.append (hr.1.append hD (fun y hy z hz=>?_)) (fun y hy z hz=>?_)) (fun y hy z hz=>?_),fun k=>?_⟩
  · have:=(hr.2.1 y hy).2;have:=hoD z hz;omega
  · have h3:=(hl.2.1 y hy).2
    rcases List.mem_append.1 hz with h|h
    · have:=(hr.2.1 z h).1;omega
    · have:=hoD z h;omega
  · have h3:=hAo y hy
    rcases List.mem_append.1 hz with h|h
    · have:=(hl.2.1 z h).1;omega
    · rcases List.mem_append.1 h with h|h
      · have:=(hr.2.1 z h).1;omega
      · exact hAD y hy z h
  · rw [dC, dC, dC, hl.2.2, hr.2.2]
    unfold nQ
    rw[dC]
    show _=if inX x k=true then false else (cov A k || (inX o k || cov D k))
    have hAk:cov A k=true→k<o.f0:=fun h=>by
      obtain⟨y,hy,_,h4⟩:=gW.1 h
      have:=hAo y hy;omega
    have hDk:cov D k=true→o.f0+o.f1<k:=fun h=>hs.right.far h
    by_cases c:inX x k=true
    · rw[if_pos c]
      rw[dw] at c
      have e1:cov A k=false:=by cases hb:cov A k with|false=>rfl|true=>have:=hAk hb;omega
      have e2:cov D k=false:=by cases hb:cov D k with|false=>rfl|true=>have:=hDk hb;omega
      rw[e1,e2,decide_eq_false (by omega),decide_eq_false (by omega)];rfl
    · rw[if_neg c]
      rw[dw] at c
      have:inX o k = (decide (o.f0≤k∧k<x.f0) || decide (x.f0+x.f1≤k∧k<o.f0+o.f1)):=by
        rw[Bool.eq_iff_iff,Bool.or_eq_true,dw,decide_eq_true_iff,decide_eq_true_iff]
        omega
      rw[this,Bool.or_assoc]
theorem pK {i:Nat} (hi:i<P.length) (hP:P.length≤60) {x:EX} (hb:B≤400) (ho:0≤P[i].f0∧1≤P[i].f1∧P[i].f0+P[i].f1≤B) (h0:P[i].f0≤x.f0) (h1:1≤x.f1) (h2:x.f0+x.f1≤P[i].f0+P[i].f1) :
    spec_l5Cut.f P (i:Int) x.f0 x.f1=some (nJ (P.take i) P[i] x (P.drop (i+1))):=by
  have er:=gQ hi
  have e1:wrap64 ((i:Int)+1) = ((i+1:Nat):Int):=by rw[w64 (by omega) (by omega)];omega
  unfold spec_l5Cut.f nJ
  rw[er]
  generalize P[i]=o at ho h0 h2
  have w1:wrap64 (x.f0 - o.f0)=x.f0 - o.f0:=w64 (by omega) (by omega)
  have w2:wrap64 (x.f0+x.f1)=x.f0+x.f1:=w64 (by omega) (by omega)
  have w3:wrap64 (o.f0+o.f1)=o.f0+o.f1:=w64 (by omega) (by omega)
  have w4:wrap64 (o.f0+o.f1 - (x.f0+x.f1))=o.f0+o.f1 - (x.f0+x.f1):=w64 (by omega) (by omega)
  rw[e1,w2,w3,w1,w4]
  have t1:(P.take i).length=i:=by rw[List.length_take];omega
  have t2:(P.drop (i+1)).length=P.length - (i+1):=List.length_drop
  simp only[Option.bind_some,List.nil_append,Int.toNat_natCast,List.length_nil,List.length_append,List.length_singleton,t1,t2]
  rw[if_pos (by omega),if_pos (by omega),if_pos (by omega),if_pos (by omega)]
  by_cases c:x.f0 > o.f0
  · rw[if_pos c,if_pos c,if_pos (by omega)]
    by_cases d:x.f0+x.f1<o.f0+o.f1
    · rw[if_pos d,if_pos d,if_pos (by omega),if_pos (by omega),if_pos (by omega),if_pos (by omega)]
      simp
    · rw[if_neg d,if_neg d,if_pos (by omega),if_pos (by omega),if_pos (by omega)]
      simp
  · rw[if_neg c,if_neg c]
    by_cases d:x.f0+x.f1<o.f0+o.f1
    · rw[if_pos d,if_pos d,if_pos (by omega),if_pos (by omega),if_pos (by omega),if_pos (by omega)]
      simp
    · rw[if_neg d,if_neg d,if_pos (by omega),if_pos (by omega),if_pos (by omega)]
      simp
def fO:List EX→Int→EX→Int
  | [],_,_=>-1
  | o::r,i,x=>if o.f0≤x.f0∧x.f0+x.f1≤o.f0+o.f1 then i else fO r (i+1) x
theorem iU:∀ (l:List EX) (i:Int) (x:EX),0≤i→(fO l i x = -1∧∀ o∈l,¬ (o.f0≤x.f0∧x.f0+x.f1≤o.f0+o.f1))∨∃ (j:Nat) (h:j<l.length),fO l i x=i + (j:Int)∧l[j].f0≤x.f0∧x.f0+x.f1≤l[j].f0+l[j].f1
  | [],i,x,_=>.inl ⟨rfl,fun o h=>by cases h⟩
  | o :: r, i, x, h => by
    rw[fO]
    by_cases c:o.f0≤x.f0∧x.f0+x.f1≤o.f0+o.f1
    · rw[if_pos c]
      exact .inr ⟨0,by simp,by omega,c⟩
    · rw[if_neg c]
      rcases iU r (i+1) x (by omega) with⟨e,h1⟩|⟨j,hj,e,h1⟩
      · exact .inl ⟨e,fun y hy=>by rcases List.mem_cons.1 hy with h2|h2;exact h2▸c;exact h1 y h2⟩
      · exact .inr ⟨j+1,by simp;omega,by rw[e];omega,h1⟩
theorem jL (hB : B ≤ 400) (hP : P.length ≤ 60) (hS : Sep B P) {x : EX} (hx : 0 ≤ x.f0 ∧ x.f0 ≤ 400 ∧ 0 ≤ x.f1 ∧ x.f1 ≤ 400) : ∀ (f i : Nat), i + f = P.length → Ev (fun k => spec_l5Within.l0 k P (P.length : Int) (i : Int) x.f0 x.f1) (fO (P.drop i) (i : Int) x) := by
  intro f
  induction f with
  | zero=>
    intro i hi
    refine Ev.step (fun _=>spec_l5Within.l0.eq_2 ..) (bE (by omega) (bP ?_))
    rw[List.drop_of_length_le (by omega),fO]
  | succ f ih=>
    intro i hi
    have hil:i<P.length:=by omega
    have ho:=hS.a _ (List.getElem_mem hil)
    have er:=gQ hil
    refine Ev.step (fun _=>spec_l5Within.l0.eq_2 ..) (aX (by omega) (aX (by omega) (aX (by omega) ?_)))
    rw[fE hil,er,fO]
    generalize P[i]=o at ho
    have ei:wrap64 ((i:Int)+1) = ((i+1:Nat):Int):=by rw[w64 (by omega) (by omega)];omega
    rw[ei,w64 (x:=x.f0+x.f1) (by omega) (by omega),w64 (x:=o.f0+o.f1) (by omega) (by omega)]
    have hn:=ih (i+1) (by omega)
    rw[show((i+1:Nat):Int) = (i:Int)+1 by omega] at hn ⊢
    by_cases c0:o.f0≤x.f0
    · refine aX c0 ?_
      by_cases c1:x.f0+x.f1≤o.f0+o.f1
      · exact aX c1 (bP (by rw[if_pos ⟨c0,c1⟩]))
      · rw[if_neg (fun h=>c1 h.2)]
        exact bE c1 hn
    · rw[if_neg (fun h=>c0 h.1)]
      exact bE c0 hn
structure Took (B:Int) (P S:List EX) (x:EX) (Q:List EX):Prop where
  g:cK B P S=true
  ok:0≤x.f0∧1≤x.f1∧x.f0+x.f1≤B
  s:Sep B Q
  n:Q.length≤60
  c:∀ k,cov Q k=nQ P x false k
  d:∀ k,inX x k=true→cov P k=true
theorem nO (m:List EX) (hB:1≤B∧B≤400) (hm:m.length≤10000):Ev (fun k=>spec_l5Of.f k B m) (B,m,bD m):=by
  unfold spec_l5Of.f
  exact fF (aX (by simp;omega) (Ev.bind (jD m (by omega)) (bP rfl)))
theorem o8 (A D:List EX) (o x:EX):(nJ A o x D).length≤A.length+D.length+2:=by
  unfold nJ
  rw[List.length_append,List.length_append,List.length_append]
  split <;> split <;> simp <;> omega
theorem mW (hg:cK B P S=true) {x:EX} (hx:0≤x.f0∧1≤x.f1∧x.f0+x.f1≤B) (hc:∀ k,inX x k=true→cov P k=true) :
    ∃ (j:Nat) (Q:List EX),Ev (fun k=>spec_l5Within.f k P x.f0 x.f1) (j:Int)∧spec_l5Cut.f P (j:Int) x.f0 x.f1=some Q∧Q.length≤200∧Sep B Q∧(∀ k,cov Q k=nQ P x false k)∧impl_Free_changed.f B P S x.f0 x.f1 false=some (mf B Q):=by
  obtain⟨hB,hP,hS,hSS⟩:=dx.1 hg
  obtain⟨y,hy,y1,y2⟩:=lS hS hx.2.1 hc
  have hw:=jL hB.2 hP hS (x:=x) (by omega) P.length 0 (by omega)
  rw[List.drop_zero] at hw
  rcases iU P 0 x (Int.le_refl _) with⟨_,h⟩|⟨j,hj,e,h1,h2⟩
  · exact absurd ⟨y1,y2⟩ (h y hy)
  · have ho:=hS.a _ (List.getElem_mem hj)
    have hcut:=pK hj hP hB.2 ho h1 hx.2.1 h2
    have hs2:=hS
    rw[mZ hj] at hs2
    obtain⟨q1,q2⟩:=qH hs2 h1 hx.2.1 h2
    rw[← mZ hj] at q2
    have hl:=o8 (P.take j) (P.drop (j+1)) P[j] x
    rw[List.length_take,List.length_drop] at hl
    refine⟨j,_,?_,hcut,by omega,q1,q2,?_⟩
    · have:fO P ((0:Nat):Int) x = (j:Int):=by rw[show((0:Nat):Int)=0 from rfl,e];omega
      rw[this] at hw
      exact hw
    · exact jN hB hP hS S hx false (fun k hk=>by rw[hc k hk];rfl) q1 (fun k _ _=>q2 k)
theorem nG (B : Int) (P S : List EX) (x : EX) (hsB : -4611686018427387904 ≤ B ∧ B ≤ 4611686018427387904) (hsP : P.length ≤ 100000) : ∃ r, Ev (fun k => spec_TakeExact.f k B P S x.f0 x.f1) r ∧ impl_TakeExact.f B P S x.f0 x.f1 = some r ∧ (r = (0, [], [], false) ∨ ∃ Q, r = (B, Q, bD Q, true) ∧ Took B P S x Q) := by
  have hg:=eD B P S hsB hsP
  unfold impl_TakeExact.f impl_GoodFree.f
  have no:Ev (fun k=>spec_TakeExact.j0 k true B P S x.f0 x.f1) (0,[],[],false):=Ev.step (fun _=>spec_TakeExact.j0.eq_2 ..) (bR rfl (bP rfl))
  cases hb:cK B P S with
  | false=>
    rw[hb] at hg
    exact⟨_,Ev.bind hg (dB rfl no),rfl,.inl rfl⟩
  | true=>
    rw[hb] at hg
    obtain⟨hB,hP,hS,hSS⟩:=dx.1 hb
    rw[Option.bind_some,if_pos rfl,iR B x hB,Option.bind_some]
    cases hok:okX B x with
    | false=>exact⟨_,Ev.bind hg (bR rfl (bL (gV hB x) (by rw[hok];exact no))),rfl,.inl rfl⟩
    | true=>
      have hx:=eQ.1 hok
      rw[if_pos rfl]
      by_cases hall:∀ k,inX x k=true→cov P k=true
      · obtain⟨j,Q,e1,e2,e3,e4,e5,e6⟩:=mW hb hx hall
        have hs:Ev (fun k=>spec_TakeExact.f k B P S x.f0 x.f1) (mf B Q):=by
          unfold spec_TakeExact.f
          refine Ev.bind hg (bR rfl (bL (gV hB x) ?_))
          rw[hok]
          refine Ev.step (fun _=>spec_TakeExact.j0.eq_2 ..) (bE (by decide) (Ev.bind e1 (bE (by omega) (bL e2 (Ev.bind (nO Q hB (by omega)) (Ev.bind (eD B Q (bD Q) (by omega) (by omega)) ?_))))))
          rw[fQ hB e4]
          unfold mf
          by_cases hn:Q.length≤60
          · rw[if_pos hn];exact bR (decide_eq_true hn) (bP rfl)
          · rw[if_neg hn];exact dB (decide_eq_false hn) (bP rfl)
        rw[e6]
        refine⟨_,hs,rfl,?_⟩
        unfold mf
        by_cases hn:Q.length≤60
        · rw[if_pos hn];exact .inr ⟨Q,rfl,⟨hb,hx,e4,hn,e5,hall⟩⟩
        · rw[if_neg hn];exact .inl rfl
      · have hno:∃ k,inX x k=true∧cov P k=false:=by
          refine Classical.byContradiction fun h=>hall fun k hk=>?_
          cases hc:cov P k with
          | true=>rfl
          | false=>exact absurd ⟨k,hk,hc⟩ h
        rw[kr hB hP hS S hx false hno]
        refine⟨_,?_,rfl,.inl rfl⟩
        unfold spec_TakeExact.f
        refine Ev.bind hg (bR rfl (bL (gV hB x) ?_))
        rw[hok]
        have hw:=jL hB.2 hP hS (x:=x) (by omega) P.length 0 (by omega)
        rw[List.drop_zero] at hw
        rcases iU P 0 x (Int.le_refl _) with⟨e,_⟩|⟨j,hj,e,h1,h2⟩
        · rw[show fO P ((0:Nat):Int) x = -1 from e] at hw
          exact Ev.step (fun _=>spec_TakeExact.j0.eq_2 ..) (bE (by decide) (Ev.bind (show Ev (fun k=>spec_l5Within.f k P x.f0 x.f1) (-1) from hw) (aX (by omega) (bP rfl))))
        · exfalso
          obtain⟨k,hk,hck⟩:=hno
          rw[dw] at hk
          have:cov P k=true:=gW.2 ⟨_,List.getElem_mem hj,by omega⟩
          rw[this] at hck;cases hck
end
attribute [local go_sem] bG bH bS bT bB bA bJ bI
set_option linter.unusedVariables false
set_option linter.unusedSimpArgs false
def spec_l5Gap.f (a0:Int) (a1:Int):Option (Int):=if a0<a1 then (some (wrap64 (a1 - a0))) else (some (wrap64 (a0 - a1)))
set_option maxHeartbeats 8000000 in
set_option maxRecDepth 100000 in
theorem spec_l5Gap.calls (a0:Int) (a1:Int) (r:Int) (w:World) (h:spec_l5Gap.f a0 a1=some r) :
  Calls Try.prog 78 #[.int .i64 a0,.int .i64 a1] w fun e w'=>e = .returned (.int .i64 r)∧Drawn0 w w':=by
 have H:(if a0<a1 then (some (wrap64 (a1 - a0))) else (some (wrap64 (a0 - a1))))=some r:=h
 clear h
 by_cases c3:a0<a1
 ·rw[if_pos c3] at H
  have c3b0:decide (a0<a1)=true:=decide_eq_true c3
  clear c3
  obtain rfl:=Option.some.inj H
  go_enter Try.func78,Try.ntmps78
  go_wp2
  go_ret
  exact⟨by first|rfl|(simp;done)|(simp[*];done),by repeat(first|exact Drawn0.refl _|apply Drawn0.step)⟩
 ·rw[if_neg c3] at H
  have c3b0:decide (a0<a1)=false:=decide_eq_false c3
  clear c3
  obtain rfl:=Option.some.inj H
  go_enter Try.func78,Try.ntmps78
  go_wp2
  go_ret
  exact⟨by first|rfl|(simp;done)|(simp[*];done),by repeat(first|exact Drawn0.refl _|apply Drawn0.step)⟩
end Go.Proofs.Ytelblhkbogljnaa.PFre
