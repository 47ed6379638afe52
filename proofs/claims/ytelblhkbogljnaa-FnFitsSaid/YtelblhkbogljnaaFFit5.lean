import Derived.Test.YtelblhkbogljnaaFFit4
namespace Go.Proofs.Ytelblhkbogljnaa.PFre
open Go.RowKit Go.Proofs.YtelblhkbogljnaaW.PrintWords Go.Proofs.YtelblhkbogljnaaW.PrintLast Go.Proofs.YtelblhkbogljnaaW.PrintMore
attribute [local go_sem] bJ bI bR bQ bA bz bM bL
set_option linter.unusedVariables false
set_option linter.unusedSimpArgs false
def spec_TakeExact.j0:Nat→Bool→Int→List (S35)→List (S35)→Int→Int→Option (Int×(List (S35))×(List (S35))×Bool)
 | 0,_,_,_,_,_,_=>none
 | k+1,x17,x290000,x290001,x290002,x291000,x291001=>if x17=true then (some (0,([]:List (S35)),([]:List (S35)),false)) else ((spec_l5Within.f k x290001 x291000 x291001).bind fun t294=>(if t294<0 then (some (0,([]:List (S35)),([]:List (S35)),false)) else ((spec_l5Cut.f x290001 t294 x291000 x291001).bind fun t295=>((spec_l5Of.f k x290000 t295).bind fun bt298=>((spec_GoodFree.f k bt298.1 bt298.2.1 bt298.2.2).bind fun t306=>(if t306=true then (some (bt298.1,bt298.2.1,bt298.2.2,true)) else (some (0,([]:List (S35)),([]:List (S35)),false))))))))
def spec_TakeExact.f (k:Nat) (a0_0:Int) (l0_1:List (S35)) (l0_2:List (S35)) (a1_0:Int) (a1_1:Int):Option (Int×(List (S35))×(List (S35))×Bool):=(spec_GoodFree.f k a0_0 l0_1 l0_2).bind fun t292=>(if t292=true then ((spec_l5Extent.f a1_0 a1_1 a0_0).bind fun t293=>(spec_TakeExact.j0 k (!t293) a0_0 l0_1 l0_2 a1_0 a1_1)) else (spec_TakeExact.j0 k true a0_0 l0_1 l0_2 a1_0 a1_1))
def spec_TakeExact.T6:Bool×List (List Nat×List Nat):=(true,[([],[]),([0],[0]),([],[]),([2],[2]),([],[]),([],[]),([3,4,5],[3,4,5]),([1,6,6],[1,6]),([],[]),([8,7,7,0,1,2,3,4,5,6,7,8],[7,8])])
def spec_TakeExact.B6:List Nat:=[0,1,0,4,0,0,60,127,0,511]
theorem spec_TakeExact.tab6:fK .any (opsOf Try.f31 6)=spec_TakeExact.T6:=by kernel_rfl
theorem spec_TakeExact.bits6:gL spec_TakeExact.T6.2 spec_TakeExact.B6=true:=by kernel_rfl
set_option maxHeartbeats 8000000 in
set_option maxRecDepth 100000 in
theorem spec_TakeExact.calls (k : Nat) (a0_0 : Int) (A0_1 : Option Addr) (c0_1 : Nat) (l0_1 : List (S35)) (A0_2 : Option Addr) (c0_2 : Nat) (l0_2 : List (S35)) (a1_0 : Int) (a1_1 : Int) (r1 : Int) (r2 : List (S35)) (r3 : List (S35)) (r4 : Bool) (w : World) (hr0_1 : Kd.C k35 w A0_1 l0_1.length l0_1) (hc0_1 : l0_1.length ≤ c0_1) (hr0_2 : Kd.C k35 w A0_2 l0_2.length l0_2) (hc0_2 : l0_2.length ≤ c0_2) (h : spec_TakeExact.f k a0_0 l0_1 l0_2 a1_0 a1_1 = some (r1, r2, r3, r4)) :
  Calls Try.prog 31 #[.agg #[.int .i64 a0_0,.slice A0_1 l0_1.length c0_1,.slice A0_2 l0_2.length c0_2],.agg #[.int .i64 a1_0,.int .i64 a1_1]] w fun e w'=>∃ v1_ v2_:Value,e = .returned (.tuple #[.agg #[.int .i64 r1,v1_,v2_],.bool r4])∧Kd.R k35 35 w' w.heap.size (fun k_=>some k_≠(v2_:Value).ownBlock) v1_ r2∧Kd.R k35 35 w' w.heap.size (fun k_=>some k_≠(v1_:Value).ownBlock) v2_ r3∧Below w.heap.size w w':=by
 have hu24:=Try.underlying24
 have hu35:=Try.underlying35
 have HR0_1:=au hr0_1
 have HC0_1:=au hc0_1
 clear hr0_1 hc0_1
 have HR0_2:=au hr0_2
 have HC0_2:=au hc0_2
 clear hr0_2 hc0_2
 have HB:=au (Below.refl w.heap.size w)
 have H:((spec_GoodFree.f k a0_0 l0_1 l0_2).bind fun t292=>(if t292=true then ((spec_l5Extent.f a1_0 a1_1 a0_0).bind fun t293=>(spec_TakeExact.j0 k (!t293) a0_0 l0_1 l0_2 a1_0 a1_1)) else (spec_TakeExact.j0 k true a0_0 l0_1 l0_2 a1_0 a1_1)))=some (r1,r2,r3,r4):=h
 clear h
 have HC3:=au H
 clear H
 go_enter Try.func31,Try.ntmps31
 go_upto_region 1 with(first|((with_reducible refine aM (N:=2) rfl ?_);refine aI ?hg (N:=2) ?hd (cs:=#[.int .i64 a0_0,.slice A0_1 l0_1.length c0_1,.slice A0_2 l0_2.length c0_2]) (t:=24) ?hr ?_;(case hd=>rfl);(case hg=>rfl);(case hr=>first|(go_simp;done)|(go_simp;rfl));intro gb289 hg w4 hbox hb;have BK289:=au (hbox);have GW289:=au ((by rw[hg];exact(az (by with_reducible repeat(first|exact HB.out|apply ah|apply aa|apply ai))):w.heap.size≤gb289));have GE289:=au ((by rw[hg];exact(az (by with_reducible repeat(first|exact HB.out|apply ah|apply aa|apply ai))):w.heap.size≤gb289));replace HB:=au (aA (by with_reducible repeat(first|exact HB.out|apply ah|apply aa|apply ai)) hb);clear hb hbox hg)|((with_reducible refine aM (N:=3) rfl ?_);refine aI ?hg (N:=3) ?hd (cs:=#[.int .i64 a1_0,.int .i64 a1_1]) (t:=35) ?hr ?_;(case hd=>rfl);(case hg=>rfl);(case hr=>first|(go_simp;done)|(go_simp;rfl));intro gb290 hg w5 hbox hb;have BK290:=au (hbox);have GW290:=au ((by rw[hg];exact(az (by with_reducible repeat(first|exact HB.out|apply ah|apply aa|apply ai|refine ae ?_ GE289.out))):w.heap.size≤gb290));have GE290:=au ((by rw[hg];exact(az (by with_reducible repeat(first|exact HB.out|apply ah|apply aa|apply ai|refine ae ?_ GE289.out))):w.heap.size≤gb290));replace HB:=au (aA (by with_reducible repeat(first|exact HB.out|apply ah|apply aa|apply ai|refine ae ?_ GE289.out)) hb);have NB289_290:=au ((by rw[hg];exact Nat.ne_of_lt (aG (g:=gb289) (o:=.cells #[.int .i64 a0_0,.slice A0_1 l0_1.length c0_1,.slice A0_2 l0_2.length c0_2] 24 (0,0)) (by(with_reducible repeat(first|apply ag|apply aj|apply af));exact BK289.out)):gb289≠gb290));have NB290_289:=au ((by rw[hg];exact Nat.ne_of_gt (aG (g:=gb289) (o:=.cells #[.int .i64 a0_0,.slice A0_1 l0_1.length c0_1,.slice A0_2 l0_2.length c0_2] 24 (0,0)) (by(with_reducible repeat(first|apply ag|apply aj|apply af));exact BK289.out)):gb290≠gb289));replace BK289:=au (ay (g:=gb289) (o:=.cells #[.int .i64 a0_0,.slice A0_1 l0_1.length c0_1,.slice A0_2 l0_2.length c0_2] 24 (0,0)) (by(with_reducible repeat(first|apply ag|apply aj|apply af));exact BK289.out) hb);clear hb hbox hg)|((with_reducible refine aM (N:=4) rfl ?_);refine aI ?hg (N:=4) ?hd (cs:=#[.int .i64 0,.slice none 0 0,.slice none 0 0]) (t:=24) ?hr ?_;(case hd=>rfl);(case hg=>rfl);(case hr=>first|(go_simp;done)|(go_simp;rfl));intro gb291 hg w6 hbox hb;have BK291:=au (hbox);have GW291:=au ((by rw[hg];exact(az (by with_reducible repeat(first|exact HB.out|apply ah|apply aa|apply ai|refine ae ?_ GE289.out|refine ae ?_ GE290.out))):w.heap.size≤gb291));have GE291:=au ((by rw[hg];exact(az (by with_reducible repeat(first|exact HB.out|apply ah|apply aa|apply ai|refine ae ?_ GE289.out|refine ae ?_ GE290.out))):w.heap.size≤gb291));replace HB:=au (aA (by with_reducible repeat(first|exact HB.out|apply ah|apply aa|apply ai|refine ae ?_ GE289.out|refine ae ?_ GE290.out)) hb);have NB289_291:=au ((by rw[hg];exact Nat.ne_of_lt (aG (g:=gb289) (o:=.cells #[.int .i64 a0_0,.slice A0_1 l0_1.length c0_1,.slice A0_2 l0_2.length c0_2] 24 (0,0)) (by(with_reducible repeat(first|apply ag|apply aj|apply af));exact BK289.out)):gb289≠gb291));have NB291_289:=au ((by rw[hg];exact Nat.ne_of_gt (aG (g:=gb289) (o:=.cells #[.int .i64 a0_0,.slice A0_1 l0_1.length c0_1,.slice A0_2 l0_2.length c0_2] 24 (0,0)) (by(with_reducible repeat(first|apply ag|apply aj|apply af));exact BK289.out)):gb291≠gb289));replace BK289:=au (ay (g:=gb289) (o:=.cells #[.int .i64 a0_0,.slice A0_1 l0_1.length c0_1,.slice A0_2 l0_2.length c0_2] 24 (0,0)) (by(with_reducible repeat(first|apply ag|apply aj|apply af));exact BK289.out) hb);have NB290_291:=au ((by rw[hg];exact Nat.ne_of_lt (aG (g:=gb290) (o:=.cells #[.int .i64 a1_0,.int .i64 a1_1] 35 (0,0)) (by(with_reducible repeat(first|apply ag|apply aj|apply af));exact BK290.out)):gb290≠gb291));have NB291_290:=au ((by rw[hg];exact Nat.ne_of_gt (aG (g:=gb290) (o:=.cells #[.int .i64 a1_0,.int .i64 a1_1] 35 (0,0)) (by(with_reducible repeat(first|apply ag|apply aj|apply af));exact BK290.out)):gb291≠gb290));replace BK290:=au (ay (g:=gb290) (o:=.cells #[.int .i64 a1_0,.int .i64 a1_1] 35 (0,0)) (by(with_reducible repeat(first|apply ag|apply aj|apply af));exact BK290.out) hb);clear hb hbox hg))
 (try simp only[apu_])
 go_cut [17] (fun v17 wc=>∃ (kq:Nat) (x17_2:Bool),v17 = .bool x17_2∧Aside0 (spec_TakeExact.j0 kq x17_2 a0_0 l0_1 l0_2 a1_0 a1_1=some (r1,r2,r3,r4))∧Aside0 (kq≤k)∧Aside0 (wc.heap[gb289]? = some (.cells #[.int .i64 a0_0,(.slice A0_1 l0_1.length c0_1),(.slice A0_2 l0_2.length c0_2)] 24 (0,0)))∧Aside0 (wc.heap[gb290]? = some (.cells #[.int .i64 a1_0,.int .i64 a1_1] 35 (0,0)))∧Aside0 (wc.heap[gb291]? = some (.cells #[.int .i64 0,(.slice none 0 0),(.slice none 0 0)] 24 (0,0)))∧Aside0 (Below w.heap.size w wc))
 case first=>
  have H:=HC3.out
  clear HC3
  replace H:=Option.bind_eq_some_iff.mp H
  obtain⟨t292,A70,H⟩:=H
  replace H:(if t292=true then ((spec_l5Extent.f a1_0 a1_1 a0_0).bind fun t293=>(spec_TakeExact.j0 k (!t293) a0_0 l0_1 l0_2 a1_0 a1_1)) else (spec_TakeExact.j0 k true a0_0 l0_1 l0_2 a1_0 a1_1))=some (r1,r2,r3,r4):=H
  have A7:=au A70
  clear A70
  by_cases c8:t292=true
  ·subst c8
   have H1:((spec_l5Extent.f a1_0 a1_1 a0_0).bind fun t293=>(spec_TakeExact.j0 k (!t293) a0_0 l0_1 l0_2 a1_0 a1_1))=some (r1,r2,r3,r4):=by rw[if_pos rfl] at H;exact H
   clear H
   have H:=H1
   clear H1
   replace H:=Option.bind_eq_some_iff.mp H
   obtain⟨t293,A90,H⟩:=H
   replace H:(spec_TakeExact.j0 k (!t293) a0_0 l0_1 l0_2 a1_0 a1_1)=some (r1,r2,r3,r4):=H
   have A9:=au A90
   clear A90
   have H':=au H
   clear H
   have hnb10:=NB289_290.out
   have hnc10:=NB290_289.out
   have hnb11:=NB289_291.out
   have hnc11:=NB291_289.out
   have hcz12_0:w6.cell? ⟨gb289,0,none⟩=some (.int .i64 a0_0):=(ak BK289.out 0).trans rfl
   have hcz12_1:w6.cell? ⟨gb289,1,none⟩=some (.slice A0_1 l0_1.length c0_1):=(ak BK289.out 1).trans rfl
   have hcz12_2:w6.cell? ⟨gb289,2,none⟩=some (.slice A0_2 l0_2.length c0_2):=(ak BK289.out 2).trans rfl
   have hfz12_0:=av BK289.out 0
   have hfz12_1:=av BK289.out 1
   have hfz12_2:=av BK289.out 2
   go_wp2_with (first|((with_reducible refine aT (f:=25) rfl ?_);refine bK (some 9) rfl rfl Try.func25 (by kernel_rfl) rfl #[.agg #[.int .i64 a0_0,.slice A0_1 l0_1.length c0_1,.slice A0_2 l0_2.length c0_2]] rfl (by(try simp only[amp_]);first|done|rfl|(simp only[ald_];rfl)) ?_;(with_reducible refine(spec_GoodFree.calls k a0_0 _ _ l0_1 _ _ l0_2 true _ ?side1 ?side2 ?side3 ?side4 A7.out).mono ?_);(case side1=>repeat(first|exact(Kd.aN HR0_1.out HB.out)|(with_reducible first|apply Kd.aV|apply Kd.aW|apply Kd.bf)));(case side2=>exact HC0_1.out);(case side3=>repeat(first|exact(Kd.aN HR0_2.out HB.out)|(with_reducible first|apply Kd.aV|apply Kd.aW|apply Kd.bf)));(case side4=>exact HC0_2.out);rintro e w13 ⟨rfl,hb⟩;refine⟨_,rfl,?_⟩;replace BK289:=au (ay (g:=gb289) (o:=.cells #[.int .i64 a0_0,.slice A0_1 l0_1.length c0_1,.slice A0_2 l0_2.length c0_2] 24 (0,0)) (by(with_reducible repeat(first|apply ag|apply aj|apply af));exact BK289.out) hb);replace BK290:=au (ay (g:=gb290) (o:=.cells #[.int .i64 a1_0,.int .i64 a1_1] 35 (0,0)) (by(with_reducible repeat(first|apply ag|apply aj|apply af));exact BK290.out) hb);replace BK291:=au (ay (g:=gb291) (o:=.cells #[.int .i64 0,.slice none 0 0,.slice none 0 0] 24 (0,0)) (by(with_reducible repeat(first|apply ag|apply aj|apply af));exact BK291.out) hb);replace HB:=au (aA (by with_reducible repeat(first|exact HB.out|apply ah|apply aa|apply ai|refine ae ?_ GE289.out|refine ae ?_ GE290.out|refine ae ?_ GE291.out)) hb);(try clear hb);(try clear hb2);(try clear hk);(try clear hi);have hnb14:=NB290_291.out;have hnc14:=NB291_290.out;have hcz15_0:w13.cell? ⟨gb290,0,none⟩=some (.int .i64 a1_0):=(ak BK290.out 0).trans rfl;have hcz15_1:w13.cell? ⟨gb290,1,none⟩=some (.int .i64 a1_1):=(ak BK290.out 1).trans rfl;have hfz15_0:=av BK290.out 0;have hfz15_1:=av BK290.out 1;have hcz16_0:w13.cell? ⟨gb289,0,none⟩=some (.int .i64 a0_0):=(ak BK289.out 0).trans rfl;have hcz16_1:w13.cell? ⟨gb289,1,none⟩=some (.slice A0_1 l0_1.length c0_1):=(ak BK289.out 1).trans rfl;have hcz16_2:w13.cell? ⟨gb289,2,none⟩=some (.slice A0_2 l0_2.length c0_2):=(ak BK289.out 2).trans rfl;have hfz16_0:=av BK289.out 0;have hfz16_1:=av BK289.out 1;have hfz16_2:=av BK289.out 2)|(go_at_call 50;(with_reducible refine(spec_l5Extent.calls a1_0 a1_1 a0_0 t293 _ A9.out).mono ?_);rintro e w17 ⟨rfl,hb⟩;replace BK289:=au (ay (g:=gb289) (o:=.cells #[.int .i64 a0_0,.slice A0_1 l0_1.length c0_1,.slice A0_2 l0_2.length c0_2] 24 (0,0)) (by(with_reducible repeat(first|apply ag|apply aj|apply af));exact BK289.out) hb);replace BK290:=au (ay (g:=gb290) (o:=.cells #[.int .i64 a1_0,.int .i64 a1_1] 35 (0,0)) (by(with_reducible repeat(first|apply ag|apply aj|apply af));exact BK290.out) hb);replace BK291:=au (ay (g:=gb291) (o:=.cells #[.int .i64 0,.slice none 0 0,.slice none 0 0] 24 (0,0)) (by(with_reducible repeat(first|apply ag|apply aj|apply af));exact BK291.out) hb);replace HB:=au (aA (by with_reducible repeat(first|exact HB.out|apply ah|apply aa|apply ai|refine ae ?_ GE289.out|refine ae ?_ GE290.out|refine ae ?_ GE291.out)) hb);(try clear hb);(try clear hb2);(try clear hk);(try clear hi)))
   go_meet
   case rel=>exact⟨_,(!t293),(by first|rfl|(simp;done)|(simp[*];done)),H',⟨by first|omega|exact Nat.le_refl _⟩,⟨by(with_reducible repeat(first|apply ag|apply aj|apply af));exact BK289.out⟩,⟨by(with_reducible repeat(first|apply ag|apply aj|apply af));exact BK290.out⟩,⟨by(with_reducible repeat(first|apply ag|apply aj|apply af));exact BK291.out⟩,⟨by with_reducible repeat(first|exact HB.out|apply ah|apply aa|apply ai|refine ae ?_ GE289.out|refine ae ?_ GE290.out|refine ae ?_ GE291.out)⟩⟩
  ·replace c8:=Bool.eq_false_iff.mpr c8
   subst c8
   have H1:(spec_TakeExact.j0 k true a0_0 l0_1 l0_2 a1_0 a1_1)=some (r1,r2,r3,r4):=by rw[if_neg (show ¬ (false=true) by decide)] at H;exact H
   clear H
   have H:=H1
   clear H1
   have H':=au H
   clear H
   have hnb18:=NB289_290.out
   have hnc18:=NB290_289.out
   have hnb19:=NB289_291.out
   have hnc19:=NB291_289.out
   have hcz20_0:w6.cell? ⟨gb289,0,none⟩=some (.int .i64 a0_0):=(ak BK289.out 0).trans rfl
   have hcz20_1:w6.cell? ⟨gb289,1,none⟩=some (.slice A0_1 l0_1.length c0_1):=(ak BK289.out 1).trans rfl
   have hcz20_2:w6.cell? ⟨gb289,2,none⟩=some (.slice A0_2 l0_2.length c0_2):=(ak BK289.out 2).trans rfl
   have hfz20_0:=av BK289.out 0
   have hfz20_1:=av BK289.out 1
   have hfz20_2:=av BK289.out 2
   go_wp2_with (first|((with_reducible refine aT (f:=25) rfl ?_);refine bK (some 9) rfl rfl Try.func25 (by kernel_rfl) rfl #[.agg #[.int .i64 a0_0,.slice A0_1 l0_1.length c0_1,.slice A0_2 l0_2.length c0_2]] rfl (by(try simp only[amp_]);first|done|rfl|(simp only[ald_];rfl)) ?_;(with_reducible refine(spec_GoodFree.calls k a0_0 _ _ l0_1 _ _ l0_2 false _ ?side1 ?side2 ?side3 ?side4 A7.out).mono ?_);(case side1=>repeat(first|exact(Kd.aN HR0_1.out HB.out)|(with_reducible first|apply Kd.aV|apply Kd.aW|apply Kd.bf)));(case side2=>exact HC0_1.out);(case side3=>repeat(first|exact(Kd.aN HR0_2.out HB.out)|(with_reducible first|apply Kd.aV|apply Kd.aW|apply Kd.bf)));(case side4=>exact HC0_2.out);rintro e w21 ⟨rfl,hb⟩;refine⟨_,rfl,?_⟩;replace BK289:=au (ay (g:=gb289) (o:=.cells #[.int .i64 a0_0,.slice A0_1 l0_1.length c0_1,.slice A0_2 l0_2.length c0_2] 24 (0,0)) (by(with_reducible repeat(first|apply ag|apply aj|apply af));exact BK289.out) hb);replace BK290:=au (ay (g:=gb290) (o:=.cells #[.int .i64 a1_0,.int .i64 a1_1] 35 (0,0)) (by(with_reducible repeat(first|apply ag|apply aj|apply af));exact BK290.out) hb);replace BK291:=au (ay (g:=gb291) (o:=.cells #[.int .i64 0,.slice none 0 0,.slice none 0 0] 24 (0,0)) (by(with_reducible repeat(first|apply ag|apply aj|apply af));exact BK291.out) hb);replace HB:=au (aA (by with_reducible repeat(first|exact HB.out|apply ah|apply aa|apply ai|refine ae ?_ GE289.out|refine ae ?_ GE290.out|refine ae ?_ GE291.out)) hb);(try clear hb);(try clear hb2);(try clear hk);(try clear hi)))
   go_meet
   case rel=>exact⟨_,(true),(by first|rfl|(simp;done)|(simp[*];done)),H',⟨by first|omega|exact Nat.le_refl _⟩,⟨by(with_reducible repeat(first|apply ag|apply aj|apply af));exact BK289.out⟩,⟨by(with_reducible repeat(first|apply ag|apply aj|apply af));exact BK290.out⟩,⟨by(with_reducible repeat(first|apply ag|apply aj|apply af));exact BK291.out⟩,⟨by with_reducible repeat(first|exact HB.out|apply ah|apply aa|apply ai|refine ae ?_ GE289.out|refine ae ?_ GE290.out|refine ae ?_ GE291.out)⟩⟩
 case rest =>
  clear HC3
  try clear c1
  try clear c2
  try clear p2
  try clear c3
  try clear c8
  try clear c10
  try clear c11
  try clear c14
  try clear c18
  try clear c19
  try clear hcz12_0
  try clear hcz12_1
  try clear hcz12_2
  try clear hcz15_0
  try clear hcz15_1
  try clear hcz16_0
  try clear hcz16_1
  try clear hcz16_2
  try clear hcz20_0
  try clear hcz20_1
  try clear hcz20_2
  try clear hfz12_0
  try clear hfz12_1
  try clear hfz12_2
  try clear hfz15_0
  try clear hfz15_1
  try clear hfz16_0
  try clear hfz16_1
  try clear hfz16_2
  try clear hfz20_0
  try clear hfz20_1
  try clear hfz20_2
  obtain⟨kq,x17_2,rfl,HA,HJ2,BK289,BK290,BK291,HB⟩:=hcut
  cases kq with
  | zero=>exact absurd HA.out (by simp[spec_TakeExact.j0])
  | succ kj2 =>
   have H:=HA.out
   clear HA
   simp only[spec_TakeExact.j0] at H
   by_cases c22:x17_2=true
   ·subst c22
    have H1:(some (0,([]:List (S35)),([]:List (S35)),false))=some (r1,r2,r3,r4):=by rw[if_pos rfl] at H;exact H
    clear H
    have H:=H1
    clear H1
    simp only[Option.some.injEq,Prod.mk.injEq] at H
    obtain⟨rfl,rfl,rfl,rfl⟩:=H
    have hnb23:=NB291_289.out
    have hnc23:=NB289_291.out
    have hnb24:=NB291_290.out
    have hnc24:=NB290_291.out
    have hcz25_0:wc.cell? ⟨gb291,0,none⟩=some (.int .i64 0):=(ak BK291.out 0).trans rfl
    have hcz25_1:wc.cell? ⟨gb291,1,none⟩=some (.slice none 0 0):=(ak BK291.out 1).trans rfl
    have hcz25_2:wc.cell? ⟨gb291,2,none⟩=some (.slice none 0 0):=(ak BK291.out 2).trans rfl
    have hfz25_0:=av BK291.out 0
    have hfz25_1:=av BK291.out 1
    have hfz25_2:=av BK291.out 2
    go_wp2
    refine bodyPost_ret (cK rfl _ _ gb291 24 #[.int .i64 0,.slice none 0 0,.slice none 0 0] (0,0) _ rfl (by(with_reducible repeat(first|apply ag|apply aj|apply af));refine aK (cs:=#[.int .i64 0,.slice none 0 0,.slice none 0 0]) ?_ 2 _ rfl;(with_reducible repeat(first|apply ag|apply aj|apply af));refine aK (cs:=#[.int .i64 0,.slice none 0 0,.slice none 0 0]) ?_ 1 _ rfl;(with_reducible repeat(first|apply ag|apply aj|apply af));refine aK (cs:=#[.int .i64 0,.slice none 0 0,.slice none 0 0]) ?_ 0 _ rfl;(with_reducible repeat(first|apply ag|apply aj|apply af));exact BK291.out) Try.underlying24 rfl (by kernel_rfl)) rfl ?_
    exact⟨_,_,by first|rfl|(simp <;> rfl)|(simp[*] <;> rfl),by first|exact Kd.df _ _ _ _ _|exact Kd.dL _ _ _ _ _|exact Kd.dM _ _ _ _ _|exact Kd.dK _ _ _ _ _|exact Kd.dJ _ _ _ _ _,by first|exact Kd.df _ _ _ _ _|exact Kd.dL _ _ _ _ _|exact Kd.dM _ _ _ _ _|exact Kd.dK _ _ _ _ _|exact Kd.dJ _ _ _ _ _,by with_reducible repeat(first|exact HB.out|apply ah|apply aa|apply ai|refine ae ?_ GE289.out|refine ae ?_ GE290.out|refine ae ?_ GE291.out)⟩
   ·replace c22:=Bool.eq_false_iff.mpr c22
    subst c22
    have H1:((spec_l5Within.f kj2 l0_1 a1_0 a1_1).bind fun t294=>(if t294<0 then (some (0,([]:List (S35)),([]:List (S35)),false)) else ((spec_l5Cut.f l0_1 t294 a1_0 a1_1).bind fun t295=>((spec_l5Of.f kj2 a0_0 t295).bind fun bt298=>((spec_GoodFree.f kj2 bt298.1 bt298.2.1 bt298.2.2).bind fun t306=>(if t306=true then (some (bt298.1,bt298.2.1,bt298.2.2,true)) else (some (0,([]:List (S35)),([]:List (S35)),false))))))))=some (r1,r2,r3,r4):=by rw[if_neg (show ¬ (false=true) by decide)] at H;exact H
    clear H
    have H:=H1
    clear H1
    replace H:=Option.bind_eq_some_iff.mp H
    obtain⟨t294,A260,H⟩:=H
    replace H:(if t294<0 then (some (0,([]:List (S35)),([]:List (S35)),false)) else ((spec_l5Cut.f l0_1 t294 a1_0 a1_1).bind fun t295=>((spec_l5Of.f kj2 a0_0 t295).bind fun bt298=>((spec_GoodFree.f kj2 bt298.1 bt298.2.1 bt298.2.2).bind fun t306=>(if t306=true then (some (bt298.1,bt298.2.1,bt298.2.2,true)) else (some (0,([]:List (S35)),([]:List (S35)),false)))))))=some (r1,r2,r3,r4):=H
    have A26:=au A260
    clear A260
    by_cases c27:t294<0
    ·rw[if_pos c27] at H
     have c27b0:decide (t294<0)=true:=decide_eq_true c27
     clear c27
     simp only[Option.some.injEq,Prod.mk.injEq] at H
     obtain⟨rfl,rfl,rfl,rfl⟩:=H
     have hnb28:=NB289_290.out
     have hnc28:=NB290_289.out
     have hnb29:=NB289_291.out
     have hnc29:=NB291_289.out
     have hcz30_0:wc.cell? ⟨gb289,0,none⟩=some (.int .i64 a0_0):=(ak BK289.out 0).trans rfl
     have hcz30_1:wc.cell? ⟨gb289,1,none⟩=some (.slice A0_1 l0_1.length c0_1):=(ak BK289.out 1).trans rfl
     have hcz30_2:wc.cell? ⟨gb289,2,none⟩=some (.slice A0_2 l0_2.length c0_2):=(ak BK289.out 2).trans rfl
     have hfz30_0:=av BK289.out 0
     have hfz30_1:=av BK289.out 1
     have hfz30_2:=av BK289.out 2
     have hnb31:=NB290_291.out
     have hnc31:=NB291_290.out
     have hcz32_0:wc.cell? ⟨gb290,0,none⟩=some (.int .i64 a1_0):=(ak BK290.out 0).trans rfl
     have hcz32_1:wc.cell? ⟨gb290,1,none⟩=some (.int .i64 a1_1):=(ak BK290.out 1).trans rfl
     have hfz32_0:=av BK290.out 0
     have hfz32_1:=av BK290.out 1
     go_wp2_with (first|((with_reducible refine aT (f:=58) rfl ?_);refine bK (some 22) rfl rfl Try.func58 (by kernel_rfl) rfl #[.slice A0_1 l0_1.length c0_1,.agg #[.int .i64 a1_0,.int .i64 a1_1]] rfl (by(try simp only[amp_]);first|done|rfl|(simp only[ald_];rfl)) ?_;(with_reducible refine(spec_l5Within.calls kj2 _ _ l0_1 a1_0 a1_1 t294 _ ?side1 ?side2 A26.out).mono ?_);(case side1=>repeat(first|exact(Kd.aN HR0_1.out HB.out)|(with_reducible first|apply Kd.aV|apply Kd.aW|apply Kd.bf)));(case side2=>exact HC0_1.out);rintro e w33 ⟨rfl,hb⟩;refine⟨_,rfl,?_⟩;replace BK289:=au (ay (g:=gb289) (o:=.cells #[.int .i64 a0_0,.slice A0_1 l0_1.length c0_1,.slice A0_2 l0_2.length c0_2] 24 (0,0)) (by(with_reducible repeat(first|apply ag|apply aj|apply af));exact BK289.out) hb);replace BK290:=au (ay (g:=gb290) (o:=.cells #[.int .i64 a1_0,.int .i64 a1_1] 35 (0,0)) (by(with_reducible repeat(first|apply ag|apply aj|apply af));exact BK290.out) hb);replace BK291:=au (ay (g:=gb291) (o:=.cells #[.int .i64 0,.slice none 0 0,.slice none 0 0] 24 (0,0)) (by(with_reducible repeat(first|apply ag|apply aj|apply af));exact BK291.out) hb);replace HB:=au (aA (by with_reducible repeat(first|exact HB.out|apply ah|apply aa|apply ai|refine ae ?_ GE289.out|refine ae ?_ GE290.out|refine ae ?_ GE291.out)) hb);(try clear hb);(try clear hb2);(try clear hk);(try clear hi);have hcz34_0:w33.cell? ⟨gb291,0,none⟩=some (.int .i64 0):=(ak BK291.out 0).trans rfl;have hcz34_1:w33.cell? ⟨gb291,1,none⟩=some (.slice none 0 0):=(ak BK291.out 1).trans rfl;have hcz34_2:w33.cell? ⟨gb291,2,none⟩=some (.slice none 0 0):=(ak BK291.out 2).trans rfl;have hfz34_0:=av BK291.out 0;have hfz34_1:=av BK291.out 1;have hfz34_2:=av BK291.out 2))
     refine bodyPost_ret (cK rfl _ _ gb291 24 #[.int .i64 0,.slice none 0 0,.slice none 0 0] (0,0) _ rfl (by(with_reducible repeat(first|apply ag|apply aj|apply af));refine aK (cs:=#[.int .i64 0,.slice none 0 0,.slice none 0 0]) ?_ 2 _ rfl;(with_reducible repeat(first|apply ag|apply aj|apply af));refine aK (cs:=#[.int .i64 0,.slice none 0 0,.slice none 0 0]) ?_ 1 _ rfl;(with_reducible repeat(first|apply ag|apply aj|apply af));refine aK (cs:=#[.int .i64 0,.slice none 0 0,.slice none 0 0]) ?_ 0 _ rfl;(with_reducible repeat(first|apply ag|apply aj|apply af));exact BK291.out) Try.underlying24 rfl (by kernel_rfl)) rfl ?_
     exact⟨_,_,by first|rfl|(simp <;> rfl)|(simp[*] <;> rfl),by first|exact Kd.df _ _ _ _ _|exact Kd.dL _ _ _ _ _|exact Kd.dM _ _ _ _ _|exact Kd.dK _ _ _ _ _|exact Kd.dJ _ _ _ _ _,by first|exact Kd.df _ _ _ _ _|exact Kd.dL _ _ _ _ _|exact Kd.dM _ _ _ _ _|exact Kd.dK _ _ _ _ _|exact Kd.dJ _ _ _ _ _,by with_reducible repeat(first|exact HB.out|apply ah|apply aa|apply ai|refine ae ?_ GE289.out|refine ae ?_ GE290.out|refine ae ?_ GE291.out)⟩
    ·rw [if_neg c27] at H
     have c27b0:decide (t294<0)=false:=decide_eq_false c27
     clear c27
     replace H:=Option.bind_eq_some_iff.mp H
     obtain⟨t295,A350,H⟩:=H
     replace H:((spec_l5Of.f kj2 a0_0 t295).bind fun bt298=>((spec_GoodFree.f kj2 bt298.1 bt298.2.1 bt298.2.2).bind fun t306=>(if t306=true then (some (bt298.1,bt298.2.1,bt298.2.2,true)) else (some (0,([]:List (S35)),([]:List (S35)),false)))))=some (r1,r2,r3,r4):=H
     have A35:=au A350
     clear A350
     replace H:=Option.bind_eq_some_iff.mp H
     obtain⟨⟨t298,t299,t302⟩,A360,H⟩:=H
     replace H:((spec_GoodFree.f kj2 t298 t299 t302).bind fun t306=>(if t306=true then (some (t298,t299,t302,true)) else (some (0,([]:List (S35)),([]:List (S35)),false))))=some (r1,r2,r3,r4):=H
     have A36:=au A360
     clear A360
     replace H:=Option.bind_eq_some_iff.mp H
     obtain⟨t306,A370,H⟩:=H
     replace H:(if t306=true then (some (t298,t299,t302,true)) else (some (0,([]:List (S35)),([]:List (S35)),false)))=some (r1,r2,r3,r4):=H
     have A37:=au A370
     clear A370
     have HQ256:=au H
     clear H
     have hnb39:=NB289_290.out
     have hnc39:=NB290_289.out
     have hnb40:=NB289_291.out
     have hnc40:=NB291_289.out
     have hcz41_0:wc.cell? ⟨gb289,0,none⟩=some (.int .i64 a0_0):=(ak BK289.out 0).trans rfl
     have hcz41_1:wc.cell? ⟨gb289,1,none⟩=some (.slice A0_1 l0_1.length c0_1):=(ak BK289.out 1).trans rfl
     have hcz41_2:wc.cell? ⟨gb289,2,none⟩=some (.slice A0_2 l0_2.length c0_2):=(ak BK289.out 2).trans rfl
     have hfz41_0:=av BK289.out 0
     have hfz41_1:=av BK289.out 1
     have hfz41_2:=av BK289.out 2
     have hnb42:=NB290_291.out
     have hnc42:=NB291_290.out
     have hcz43_0:wc.cell? ⟨gb290,0,none⟩=some (.int .i64 a1_0):=(ak BK290.out 0).trans rfl
     have hcz43_1:wc.cell? ⟨gb290,1,none⟩=some (.int .i64 a1_1):=(ak BK290.out 1).trans rfl
     have hfz43_0:=av BK290.out 0
     have hfz43_1:=av BK290.out 1
     try go_wp2_with (first|((with_reducible refine aT (f:=58) rfl ?_);refine bK (some 22) rfl rfl Try.func58 (by kernel_rfl) rfl #[.slice A0_1 l0_1.length c0_1,.agg #[.int .i64 a1_0,.int .i64 a1_1]] rfl (by(try simp only[amp_]);first|done|rfl|(simp only[ald_];rfl)) ?_;(with_reducible refine(spec_l5Within.calls kj2 _ _ l0_1 a1_0 a1_1 t294 _ ?side1 ?side2 A26.out).mono ?_);(case side1=>repeat(first|exact(Kd.aN HR0_1.out HB.out)|(with_reducible first|apply Kd.aV|apply Kd.aW|apply Kd.bf)));(case side2=>exact HC0_1.out);rintro e w44 ⟨rfl,hb⟩;refine⟨_,rfl,?_⟩;replace BK289:=au (ay (g:=gb289) (o:=.cells #[.int .i64 a0_0,.slice A0_1 l0_1.length c0_1,.slice A0_2 l0_2.length c0_2] 24 (0,0)) (by(with_reducible repeat(first|apply ag|apply aj|apply af));exact BK289.out) hb);replace BK290:=au (ay (g:=gb290) (o:=.cells #[.int .i64 a1_0,.int .i64 a1_1] 35 (0,0)) (by(with_reducible repeat(first|apply ag|apply aj|apply af));exact BK290.out) hb);replace BK291:=au (ay (g:=gb291) (o:=.cells #[.int .i64 0,.slice none 0 0,.slice none 0 0] 24 (0,0)) (by(with_reducible repeat(first|apply ag|apply aj|apply af));exact BK291.out) hb);replace HB:=au (aA (by with_reducible repeat(first|exact HB.out|apply ah|apply aa|apply ai|refine ae ?_ GE289.out|refine ae ?_ GE290.out|refine ae ?_ GE291.out)) hb);(try clear hb);(try clear hb2);(try clear hk);(try clear hi)))
     have n0_:=au (aj BK289.out)
     have n1_:=au (aj BK290.out)
     have n2_:=au (aj BK291.out)
     have n3_:=au (ai HB.out)
     clear BK289
     clear BK290
     clear BK291
     clear HB
     have BK289:=n0_
     have BK290:=n1_
     have BK291:=n2_
     have HB:=n3_
     clear n0_ n1_ n2_ n3_
     refine dW (n:=10) (S:=fun w'=>w'.cell? ⟨gb289,0,none⟩=some (.int .i64 a0_0)∧w'.cell? ⟨gb289,1,none⟩=some (.slice A0_1 l0_1.length c0_1)∧w'.cell? ⟨gb289,2,none⟩=some (.slice A0_2 l0_2.length c0_2)∧w'.cell? ⟨gb290,0,none⟩=some (.int .i64 a1_0)∧w'.cell? ⟨gb290,1,none⟩=some (.int .i64 a1_1)) (ds:=[]) #[false,false,false,false,false,false,false,false,false,false] (by kernel_rfl) rfl rfl ⟨(ak BK289.out 0).trans rfl,(ak BK289.out 1).trans rfl,(ak BK289.out 2).trans rfl,(ak BK290.out 0).trans rfl,(ak BK290.out 1).trans rfl⟩ (fun hHeld=>?_);refine fF spec_TakeExact.tab6 spec_TakeExact.bits6 (fun HT_ HW_=>?_)
     generalize w44.drew=w45 at BK289 BK290 BK291 HB hHeld ⊢
     refine aQ (i:=0) (N:=some 26) (v:=?_) (a':=?_) #[true,false,false,false,false,false,false,false,false,false] rfl rfl (bP HT_.out (by kernel_rfl)) (fun _ _ _ h=>h) (Or.inl ⟨by rfl,?_⟩) ?_ ?_
     rotate_left
     ·intro w'
      go_simp
      with_reducible rfl
     rotate_left
     ·simp only[apu_]
      rfl
     refine aQ (i:=2) (N:=some 28) (v:=?_) (a':=?_) #[true,false,true,false,false,false,false,false,false,false] rfl rfl (bP HT_.out (by kernel_rfl)) (fun _ _ _ h=>h) (Or.inl ⟨by rfl,?_⟩) ?_ ?_
     rotate_left
     ·intro w'
      go_simp
      with_reducible rfl
     rotate_left
     ·simp only[apu_]
      rfl
     refine aQ (i:=4) (N:=some 30) (v:=?_) (a':=?_) #[true,false,true,false,true,false,false,false,false,false] rfl rfl (bP HT_.out (by kernel_rfl)) (fun _ _ _ h=>h) (Or.inl ⟨by rfl,?_⟩) ?_ ?_
     rotate_left
     ·intro w'
      go_simp
      with_reducible rfl
     rotate_left
     ·simp only[apu_]
      rfl
     refine bv (i:=1) (N:=some 27) (v:=?_) (a':=?_) #[true,true,true,false,true,false,false,false,false,false] rfl rfl (dF HT_.out HW_.out (by kernel_rfl)) (fun _ _ _ h=>h) (Or.inl ⟨by rfl,?_⟩) hHeld ?_ ?_
     rotate_left
     ·rintro w' ⟨s0,s1,s2,s3,s4⟩
      go_simp
      with_reducible rfl
     rotate_left
     ·simp only[apu_]
      rfl
     refine bv (i:=3) (N:=some 29) (v:=?_) (a':=?_) #[true,true,true,true,true,false,false,false,false,false] rfl rfl (dF HT_.out HW_.out (by kernel_rfl)) (fun _ _ _ h=>h) (Or.inl ⟨by rfl,?_⟩) hHeld ?_ ?_
     rotate_left
     ·rintro w' ⟨s0,s1,s2,s3,s4⟩
      go_simp
      with_reducible rfl
     rotate_left
     ·simp only[apu_]
      rfl
     refine bv (i:=5) (N:=some 31) (v:=?_) (a':=?_) #[true,true,true,true,true,true,false,false,false,false] rfl rfl (dF HT_.out HW_.out (by kernel_rfl)) (fun _ _ _ h=>h) (Or.inl ⟨by rfl,?_⟩) hHeld ?_ ?_
     rotate_left
     ·rintro w' ⟨s0,s1,s2,s3,s4⟩
      go_simp
      with_reducible rfl
     rotate_left
     ·simp only[apu_]
      rfl
     refine o9 (σ:=Value×Value×Value×Nat) 1 #[true,true,true,true,true,true,true,true,true,false] (fun s_=>[(32,s_.1),(33,.agg #[.int .i64 t298,s_.2.1,s_.2.2.1]),(7,.pointer (some ⟨s_.2.2.2,0,none⟩))]) (fun s_ w'=>(w'.cell? ⟨gb289,0,none⟩=some (.int .i64 a0_0)∧w'.cell? ⟨gb289,1,none⟩=some (.slice A0_1 l0_1.length c0_1)∧w'.cell? ⟨gb289,2,none⟩=some (.slice A0_2 l0_2.length c0_2)∧w'.cell? ⟨gb290,0,none⟩=some (.int .i64 a1_0)∧w'.cell? ⟨gb290,1,none⟩=some (.int .i64 a1_1))∧(Kd.R k35 35 w' w.heap.size (fun k_=>some k_≠(s_.2.1:Value).ownBlock∧some k_≠(s_.2.2.1:Value).ownBlock∧k_≠gb290) s_.1 t295)∧(Kd.R k35 35 w' w.heap.size (fun k_=>some k_≠(s_.1:Value).ownBlock∧some k_≠(s_.2.2.1:Value).ownBlock∧k_≠gb290) s_.2.1 t299)∧(Kd.R k35 35 w' w.heap.size (fun k_=>some k_≠(s_.1:Value).ownBlock∧some k_≠(s_.2.1:Value).ownBlock∧k_≠gb290) s_.2.2.1 t302)∧(w'.heap[gb289]? = some (.cells #[.int .i64 a0_0,.slice A0_1 l0_1.length c0_1,.slice A0_2 l0_2.length c0_2] 24 (0,0)))∧(w'.heap[gb290]? = some (.cells #[.int .i64 a1_0,.int .i64 a1_1] 35 (0,0)))∧(w'.heap[gb291]? = some (.cells #[.int .i64 0,.slice none 0 0,.slice none 0 0] 24 (0,0)))∧(w'.heap[s_.2.2.2]? = some (.cells #[.int .i64 0,.slice none 0 0,.slice none 0 0] 24 (0,0)))∧(w.heap.size≤s_.2.2.2)∧(w.heap.size≤s_.2.2.2)∧(gb289≠s_.2.2.2)∧(s_.2.2.2≠gb289)∧(gb290≠s_.2.2.2)∧(s_.2.2.2≠gb290)∧(gb291≠s_.2.2.2)∧(s_.2.2.2≠gb291)∧(Below w.heap.size w w')) ?_ ?_
     rotate_left
     ·intro hCont
      refine mW (i:=6) (j:=8) (Ni:=some 32) (Nj:=some 7) #[true,true,true,true,true,true,true,false,false,false] #[true,true,true,true,true,true,false,false,true,false] rfl rfl rfl rfl (kD HT_.out (by kernel_rfl)) (by decide) (by decide) (fun K hK=>?_) (fun K hK=>?_)
      ·skip
       refine bZ Try.func57 (by kernel_rfl) rfl #[.slice A0_1 l0_1.length c0_1,.int .i64 t294,.agg #[.int .i64 a1_0,.int .i64 a1_1]] (by rfl) rfl rfl (by(try simp only[amp_]);first|done|rfl|(simp only[ald_];rfl)) ?_
       with_reducible refine(spec_l5Cut.calls _ _ l0_1 t294 a1_0 a1_1 t295 _ ?side1 ?side2 A35.out).mono ?_
       (case side1=>repeat(first|exact(Kd.aN HR0_1.out HB.out)|(with_reducible first|apply Kd.aV|apply Kd.aW|apply Kd.bf)))
       (case side2=>exact HC0_1.out)
       rintro e w46 ⟨v296,rfl,ho0,hb⟩
       refine⟨_,rfl,?_⟩
       have n0_:=au (Kd.bC (Kd.dI ho0 (g:=gb290) (o:=.cells #[.int .i64 a1_0,.int .i64 a1_1] 35 (0,0)) (by(with_reducible repeat(first|apply ag|apply aj|apply af));exact BK290.out)) (az (by with_reducible repeat(first|exact HB.out|apply ah|apply aa|apply ai|refine ae ?_ GE289.out|refine ae ?_ GE290.out|refine ae ?_ GE291.out))))
       have n1_:=au (ay (g:=gb289) (o:=.cells #[.int .i64 a0_0,.slice A0_1 l0_1.length c0_1,.slice A0_2 l0_2.length c0_2] 24 (0,0)) (by(with_reducible repeat(first|apply ag|apply aj|apply af));exact BK289.out) hb)
       have n2_:=au (ay (g:=gb290) (o:=.cells #[.int .i64 a1_0,.int .i64 a1_1] 35 (0,0)) (by(with_reducible repeat(first|apply ag|apply aj|apply af));exact BK290.out) hb)
       have n3_:=au (ay (g:=gb291) (o:=.cells #[.int .i64 0,.slice none 0 0,.slice none 0 0] 24 (0,0)) (by(with_reducible repeat(first|apply ag|apply aj|apply af));exact BK291.out) hb)
       have n4_:=au (aA (by with_reducible repeat(first|exact HB.out|apply ah|apply aa|apply ai|refine ae ?_ GE289.out|refine ae ?_ GE290.out|refine ae ?_ GE291.out)) hb)
       clear BK289
       clear BK290
       clear BK291
       clear HB
       have HO297:=n0_
       have BK289:=n1_
       have BK290:=n2_
       have BK291:=n3_
       have HB:=n4_
       clear n0_ n1_ n2_ n3_ n4_
       (try clear hb)
       (try clear hb2)
       (try clear hk)
       (try clear hi)
       (try clear ho0)
       obtain⟨Ao47,co47,eo47⟩:=Kd.bq HO297.out
       (first|subst eo47|(injection eo47 with f1_ f2_ f3_;have f4_:=f1_.symm;have f5_:=f3_.symm;clear f1_ f2_ f3_;subst f4_;subst f5_))
       refine hK.out _ _ ⟨(ak BK289.out 0).trans rfl,(ak BK289.out 1).trans rfl,(ak BK289.out 2).trans rfl,(ak BK290.out 0).trans rfl,(ak BK290.out 1).trans rfl⟩ (fun hHeld=>?_)
       clear hK K
       refine bN (a':=?_) ?_ ?_
       rotate_left
       ·show Act.put _ (some 32) _=_
        simp only[apu_]
        rfl
       refine mW (i:=7) (j:=8) (Ni:=some 33) (Nj:=some 7) #[true,true,true,true,true,true,true,true,false,false] #[true,true,true,true,true,true,true,false,true,false] rfl rfl rfl rfl (kD HT_.out (by kernel_rfl)) (by decide) (by decide) (fun K hK=>?_) (fun K hK=>?_)
       ·skip
        refine bZ Try.func33 (by kernel_rfl) rfl #[.int .i64 a0_0,.slice Ao47 t295.length co47] (by rfl) rfl rfl (by(try simp only[amp_]);first|done|rfl|(simp only[ald_];rfl)) ?_
        with_reducible refine(spec_l5Of.calls kj2 a0_0 _ _ t295 t298 t299 t302 _ ?side1 ?side2 A36.out).mono ?_
        (case side1=>repeat(first|exact(Kd.R_reads' HO297.out).2.2|(with_reducible first|apply Kd.aV|apply Kd.aW|apply Kd.bf)))
        (case side2=>exact(Kd.R_reads' HO297.out).2.1)
        rintro e w48 ⟨v300,v303,rfl,ho0,ho1,hb⟩
        refine⟨_,rfl,?_⟩
        have n0_:=au (Kd.aY (Kd.ed (Kd.ed (Kd.iV (by(with_reducible repeat(first|apply Kd.aD|apply Kd.aC|apply Kd.aJ));exact HO297.out) hb) (Kd.dP ho0)) (Kd.dP ho1)) (fun _ h_=>h_.1))
        have n1_:=au (Kd.bC (Kd.dI (Kd.R_new' ho0 (Kd.fB (by(with_reducible repeat(first|apply Kd.aD|apply Kd.aC|apply Kd.aJ));exact HO297.out))) (g:=gb290) (o:=.cells #[.int .i64 a1_0,.int .i64 a1_1] 35 (0,0)) (by(with_reducible repeat(first|apply ag|apply aj|apply af));exact BK290.out)) (az (by with_reducible repeat(first|exact HB.out|apply ah|apply aa|apply ai|refine ae ?_ GE289.out|refine ae ?_ GE290.out|refine ae ?_ GE291.out))))
        have n2_:=au (Kd.bC (Kd.dI (Kd.R_new' ho1 (Kd.fB (by(with_reducible repeat(first|apply Kd.aD|apply Kd.aC|apply Kd.aJ));exact HO297.out))) (g:=gb290) (o:=.cells #[.int .i64 a1_0,.int .i64 a1_1] 35 (0,0)) (by(with_reducible repeat(first|apply ag|apply aj|apply af));exact BK290.out)) (az (by with_reducible repeat(first|exact HB.out|apply ah|apply aa|apply ai|refine ae ?_ GE289.out|refine ae ?_ GE290.out|refine ae ?_ GE291.out))))
        have n3_:=au (ay (g:=gb289) (o:=.cells #[.int .i64 a0_0,.slice A0_1 l0_1.length c0_1,.slice A0_2 l0_2.length c0_2] 24 (0,0)) (by(with_reducible repeat(first|apply ag|apply aj|apply af));exact BK289.out) hb)
        have n4_:=au (ay (g:=gb290) (o:=.cells #[.int .i64 a1_0,.int .i64 a1_1] 35 (0,0)) (by(with_reducible repeat(first|apply ag|apply aj|apply af));exact BK290.out) hb)
        have n5_:=au (ay (g:=gb291) (o:=.cells #[.int .i64 0,.slice none 0 0,.slice none 0 0] 24 (0,0)) (by(with_reducible repeat(first|apply ag|apply aj|apply af));exact BK291.out) hb)
        have n6_:=au (aA (by with_reducible repeat(first|exact HB.out|apply ah|apply aa|apply ai|refine ae ?_ GE289.out|refine ae ?_ GE290.out|refine ae ?_ GE291.out)) hb)
        clear HO297
        clear BK289
        clear BK290
        clear BK291
        clear HB
        have HO297:=n0_
        have HO301:=n1_
        have HO304:=n2_
        have BK289:=n3_
        have BK290:=n4_
        have BK291:=n5_
        have HB:=n6_
        clear n0_ n1_ n2_ n3_ n4_ n5_ n6_
        (try clear hb)
        (try clear hb2)
        (try clear hk)
        (try clear hi)
        (try clear ho0)
        (try clear ho1)
        refine hK.out _ _ ⟨(ak BK289.out 0).trans rfl,(ak BK289.out 1).trans rfl,(ak BK289.out 2).trans rfl,(ak BK290.out 0).trans rfl,(ak BK290.out 1).trans rfl⟩ (fun hHeld=>?_)
        clear hK K
        refine bN (a':=?_) ?_ ?_
        rotate_left
        ·show Act.put _ (some 33) _=_
         simp only[apu_]
         rfl
        refine dD (i:=8) (N:=some 7) #[true,true,true,true,true,true,true,true,true,false] rfl rfl (eD HT_.out (by kernel_rfl)) (by decide) (fun K hK=>?_)
        refine gq ?hg (N:=7) ?hd (cs:=#[.int .i64 0,.slice none 0 0,.slice none 0 0]) (t:=24) ?hr ?_;(case hd=>rfl);(case hg=>rfl);(case hr=>first|(go_simp;done)|(go_simp;rfl))
        intro gb305 hg w49 hbox hb
        have n0_:=au (Kd.bu (by(with_reducible repeat(first|apply Kd.aD|apply Kd.aC|apply Kd.aJ));exact HO297.out) hb)
        have n1_:=au (Kd.bu (by(with_reducible repeat(first|apply Kd.aD|apply Kd.aC|apply Kd.aJ));exact HO301.out) hb)
        have n2_:=au (Kd.bu (by(with_reducible repeat(first|apply Kd.aD|apply Kd.aC|apply Kd.aJ));exact HO304.out) hb)
        have n3_:=au (ay (g:=gb289) (o:=.cells #[.int .i64 a0_0,.slice A0_1 l0_1.length c0_1,.slice A0_2 l0_2.length c0_2] 24 (0,0)) (by(with_reducible repeat(first|apply ag|apply aj|apply af));exact BK289.out) hb)
        have n4_:=au (ay (g:=gb290) (o:=.cells #[.int .i64 a1_0,.int .i64 a1_1] 35 (0,0)) (by(with_reducible repeat(first|apply ag|apply aj|apply af));exact BK290.out) hb)
        have n5_:=au (ay (g:=gb291) (o:=.cells #[.int .i64 0,.slice none 0 0,.slice none 0 0] 24 (0,0)) (by(with_reducible repeat(first|apply ag|apply aj|apply af));exact BK291.out) hb)
        have n6_:=au (aA (by with_reducible repeat(first|exact HB.out|apply ah|apply aa|apply ai|refine ae ?_ GE289.out|refine ae ?_ GE290.out|refine ae ?_ GE291.out)) hb)
        have n7_:=au (hbox)
        have n8_:=au ((by rw[hg];exact(az (by with_reducible repeat(first|exact HB.out|apply ah|apply aa|apply ai|refine ae ?_ GE289.out|refine ae ?_ GE290.out|refine ae ?_ GE291.out))):w.heap.size≤gb305))
        have n9_:=au ((by rw[hg];exact(az (by with_reducible repeat(first|exact HB.out|apply ah|apply aa|apply ai|refine ae ?_ GE289.out|refine ae ?_ GE290.out|refine ae ?_ GE291.out))):w.heap.size≤gb305))
        have n10_:=au ((by rw[hg];exact Nat.ne_of_lt (aG (g:=gb289) (o:=.cells #[.int .i64 a0_0,.slice A0_1 l0_1.length c0_1,.slice A0_2 l0_2.length c0_2] 24 (0,0)) (by(with_reducible repeat(first|apply ag|apply aj|apply af));exact BK289.out)):gb289≠gb305))
        have n11_:=au ((by rw[hg];exact Nat.ne_of_gt (aG (g:=gb289) (o:=.cells #[.int .i64 a0_0,.slice A0_1 l0_1.length c0_1,.slice A0_2 l0_2.length c0_2] 24 (0,0)) (by(with_reducible repeat(first|apply ag|apply aj|apply af));exact BK289.out)):gb305≠gb289))
        have n12_:=au ((by rw[hg];exact Nat.ne_of_lt (aG (g:=gb290) (o:=.cells #[.int .i64 a1_0,.int .i64 a1_1] 35 (0,0)) (by(with_reducible repeat(first|apply ag|apply aj|apply af));exact BK290.out)):gb290≠gb305))
        have n13_:=au ((by rw[hg];exact Nat.ne_of_gt (aG (g:=gb290) (o:=.cells #[.int .i64 a1_0,.int .i64 a1_1] 35 (0,0)) (by(with_reducible repeat(first|apply ag|apply aj|apply af));exact BK290.out)):gb305≠gb290))
        have n14_:=au ((by rw[hg];exact Nat.ne_of_lt (aG (g:=gb291) (o:=.cells #[.int .i64 0,.slice none 0 0,.slice none 0 0] 24 (0,0)) (by(with_reducible repeat(first|apply ag|apply aj|apply af));exact BK291.out)):gb291≠gb305))
        have n15_:=au ((by rw[hg];exact Nat.ne_of_gt (aG (g:=gb291) (o:=.cells #[.int .i64 0,.slice none 0 0,.slice none 0 0] 24 (0,0)) (by(with_reducible repeat(first|apply ag|apply aj|apply af));exact BK291.out)):gb305≠gb291))
        clear HO297
        clear HO301
        clear HO304
        clear BK289
        clear BK290
        clear BK291
        clear HB
        have HO297:=n0_
        have HO301:=n1_
        have HO304:=n2_
        have BK289:=n3_
        have BK290:=n4_
        have BK291:=n5_
        have HB:=n6_
        have BK305:=n7_
        have GW305:=n8_
        have GE305:=n9_
        have NB289_305:=n10_
        have NB305_289:=n11_
        have NB290_305:=n12_
        have NB305_290:=n13_
        have NB291_305:=n14_
        have NB305_291:=n15_
        clear n0_ n1_ n2_ n3_ n4_ n5_ n6_ n7_ n8_ n9_ n10_ n11_ n12_ n13_ n14_ n15_
        clear hb hbox hg
        refine hK.out _ _ ⟨(ak BK289.out 0).trans rfl,(ak BK289.out 1).trans rfl,(ak BK289.out 2).trans rfl,(ak BK290.out 0).trans rfl,(ak BK290.out 1).trans rfl⟩ (fun hHeld=>?_)
        clear hK K
        refine bN (a':=?_) ?_ ?_
        rotate_left
        ·show Act.put _ (some 7) _=_
         simp only[apu_]
         rfl
        exact bN (by simp only[fH,Act.put,List.setIfInBounds_toArray,List.set_cons_zero,List.set_cons_succ]) (hCont (.slice Ao47 t295.length co47,v300,v303,gb305) _ ⟨hHeld,(by(with_reducible repeat(first|apply Kd.aD|apply Kd.aC|apply Kd.aJ));exact Kd.aY HO297.out (fun _ hk=>⟨hk.1.2,⟨hk.2,hk.1.1.2⟩⟩)),(by(with_reducible repeat(first|apply Kd.aD|apply Kd.aC|apply Kd.aJ));exact Kd.aY HO301.out (fun _ hk=>⟨hk.1.2,⟨hk.1.1,hk.2⟩⟩)),(by(with_reducible repeat(first|apply Kd.aD|apply Kd.aC|apply Kd.aJ));exact Kd.aY HO304.out (fun _ hk=>⟨hk.1.2,⟨hk.1.1,hk.2⟩⟩)),(by(with_reducible repeat(first|apply ag|apply aj|apply af));exact BK289.out),(by(with_reducible repeat(first|apply ag|apply aj|apply af));exact BK290.out),(by(with_reducible repeat(first|apply ag|apply aj|apply af));exact BK291.out),(by(with_reducible repeat(first|apply ag|apply aj|apply af));exact BK305.out),GW305.out,GE305.out,NB289_305.out,NB305_289.out,NB290_305.out,NB305_290.out,NB291_305.out,NB305_291.out,(by with_reducible repeat(first|exact HB.out|apply ah|apply aa|apply ai|refine ae ?_ GE289.out|refine ae ?_ GE290.out|refine ae ?_ GE291.out|refine ae ?_ GE305.out))⟩)
       ·skip
        refine gq ?hg (N:=7) ?hd (cs:=#[.int .i64 0,.slice none 0 0,.slice none 0 0]) (t:=24) ?hr ?_;(case hd=>rfl);(case hg=>rfl);(case hr=>first|(go_simp;done)|(go_simp;rfl))
        intro gb305 hg w47 hbox hb
        have n0_:=au (Kd.bu (by(with_reducible repeat(first|apply Kd.aD|apply Kd.aC|apply Kd.aJ));exact HO297.out) hb)
        have n1_:=au (ay (g:=gb289) (o:=.cells #[.int .i64 a0_0,.slice A0_1 l0_1.length c0_1,.slice A0_2 l0_2.length c0_2] 24 (0,0)) (by(with_reducible repeat(first|apply ag|apply aj|apply af));exact BK289.out) hb)
        have n2_:=au (ay (g:=gb290) (o:=.cells #[.int .i64 a1_0,.int .i64 a1_1] 35 (0,0)) (by(with_reducible repeat(first|apply ag|apply aj|apply af));exact BK290.out) hb)
        have n3_:=au (ay (g:=gb291) (o:=.cells #[.int .i64 0,.slice none 0 0,.slice none 0 0] 24 (0,0)) (by(with_reducible repeat(first|apply ag|apply aj|apply af));exact BK291.out) hb)
        have n4_:=au (aA (by with_reducible repeat(first|exact HB.out|apply ah|apply aa|apply ai|refine ae ?_ GE289.out|refine ae ?_ GE290.out|refine ae ?_ GE291.out)) hb)
        have n5_:=au (hbox)
        have n6_:=au ((by rw[hg];exact(az (by with_reducible repeat(first|exact HB.out|apply ah|apply aa|apply ai|refine ae ?_ GE289.out|refine ae ?_ GE290.out|refine ae ?_ GE291.out))):w.heap.size≤gb305))
        have n7_:=au ((by rw[hg];exact(az (by with_reducible repeat(first|exact HB.out|apply ah|apply aa|apply ai|refine ae ?_ GE289.out|refine ae ?_ GE290.out|refine ae ?_ GE291.out))):w.heap.size≤gb305))
        have n8_:=au ((by rw[hg];exact Nat.ne_of_lt (aG (g:=gb289) (o:=.cells #[.int .i64 a0_0,.slice A0_1 l0_1.length c0_1,.slice A0_2 l0_2.length c0_2] 24 (0,0)) (by(with_reducible repeat(first|apply ag|apply aj|apply af));exact BK289.out)):gb289≠gb305))
        have n9_:=au ((by rw[hg];exact Nat.ne_of_gt (aG (g:=gb289) (o:=.cells #[.int .i64 a0_0,.slice A0_1 l0_1.length c0_1,.slice A0_2 l0_2.length c0_2] 24 (0,0)) (by(with_reducible repeat(first|apply ag|apply aj|apply af));exact BK289.out)):gb305≠gb289))
        have n10_:=au ((by rw[hg];exact Nat.ne_of_lt (aG (g:=gb290) (o:=.cells #[.int .i64 a1_0,.int .i64 a1_1] 35 (0,0)) (by(with_reducible repeat(first|apply ag|apply aj|apply af));exact BK290.out)):gb290≠gb305))
        have n11_:=au ((by rw[hg];exact Nat.ne_of_gt (aG (g:=gb290) (o:=.cells #[.int .i64 a1_0,.int .i64 a1_1] 35 (0,0)) (by(with_reducible repeat(first|apply ag|apply aj|apply af));exact BK290.out)):gb305≠gb290))
        have n12_:=au ((by rw[hg];exact Nat.ne_of_lt (aG (g:=gb291) (o:=.cells #[.int .i64 0,.slice none 0 0,.slice none 0 0] 24 (0,0)) (by(with_reducible repeat(first|apply ag|apply aj|apply af));exact BK291.out)):gb291≠gb305))
        have n13_:=au ((by rw[hg];exact Nat.ne_of_gt (aG (g:=gb291) (o:=.cells #[.int .i64 0,.slice none 0 0,.slice none 0 0] 24 (0,0)) (by(with_reducible repeat(first|apply ag|apply aj|apply af));exact BK291.out)):gb305≠gb291))
        clear HO297
        clear BK289
        clear BK290
        clear BK291
        clear HB
        have HO297:=n0_
        have BK289:=n1_
        have BK290:=n2_
        have BK291:=n3_
        have HB:=n4_
        have BK305:=n5_
        have GW305:=n6_
        have GE305:=n7_
        have NB289_305:=n8_
        have NB305_289:=n9_
        have NB290_305:=n10_
        have NB305_290:=n11_
        have NB291_305:=n12_
        have NB305_291:=n13_
        clear n0_ n1_ n2_ n3_ n4_ n5_ n6_ n7_ n8_ n9_ n10_ n11_ n12_ n13_
        clear hb hbox hg
        obtain⟨Ao48,co48,eo48⟩:=Kd.bq HO297.out
        (first|subst eo48|(injection eo48 with f1_ f2_ f3_;have f4_:=f1_.symm;have f5_:=f3_.symm;clear f1_ f2_ f3_;subst f4_;subst f5_))
        refine hK.out _ _ ⟨(ak BK289.out 0).trans rfl,(ak BK289.out 1).trans rfl,(ak BK289.out 2).trans rfl,(ak BK290.out 0).trans rfl,(ak BK290.out 1).trans rfl⟩ (fun hHeld=>?_)
        clear hK K
        refine bN (a':=?_) ?_ ?_
        rotate_left
        ·show Act.put _ (some 7) _=_
         simp only[apu_]
         rfl
        refine dD (i:=7) (N:=some 33) #[true,true,true,true,true,true,true,true,true,false] rfl rfl (eD HT_.out (by kernel_rfl)) (by decide) (fun K hK=>?_)
        refine bZ Try.func33 (by kernel_rfl) rfl #[.int .i64 a0_0,.slice Ao48 t295.length co48] (by rfl) rfl rfl (by(try simp only[amp_]);first|done|rfl|(simp only[ald_];rfl)) ?_
        with_reducible refine(spec_l5Of.calls kj2 a0_0 _ _ t295 t298 t299 t302 _ ?side1 ?side2 A36.out).mono ?_
        (case side1=>repeat(first|exact(Kd.R_reads' HO297.out).2.2|(with_reducible first|apply Kd.aV|apply Kd.aW|apply Kd.bf)))
        (case side2=>exact(Kd.R_reads' HO297.out).2.1)
        rintro e w49 ⟨v300,v303,rfl,ho0,ho1,hb⟩
        refine⟨_,rfl,?_⟩
        have n0_:=au (Kd.aY (Kd.ed (Kd.ed (Kd.iV (by(with_reducible repeat(first|apply Kd.aD|apply Kd.aC|apply Kd.aJ));exact HO297.out) hb) (Kd.dP ho0)) (Kd.dP ho1)) (fun _ h_=>h_.1))
        have n1_:=au (Kd.bC (Kd.dI (Kd.R_new' ho0 (Kd.fB (by(with_reducible repeat(first|apply Kd.aD|apply Kd.aC|apply Kd.aJ));exact HO297.out))) (g:=gb290) (o:=.cells #[.int .i64 a1_0,.int .i64 a1_1] 35 (0,0)) (by(with_reducible repeat(first|apply ag|apply aj|apply af));exact BK290.out)) (az (by with_reducible repeat(first|exact HB.out|apply ah|apply aa|apply ai|refine ae ?_ GE289.out|refine ae ?_ GE290.out|refine ae ?_ GE291.out|refine ae ?_ GE305.out))))
        have n2_:=au (Kd.bC (Kd.dI (Kd.R_new' ho1 (Kd.fB (by(with_reducible repeat(first|apply Kd.aD|apply Kd.aC|apply Kd.aJ));exact HO297.out))) (g:=gb290) (o:=.cells #[.int .i64 a1_0,.int .i64 a1_1] 35 (0,0)) (by(with_reducible repeat(first|apply ag|apply aj|apply af));exact BK290.out)) (az (by with_reducible repeat(first|exact HB.out|apply ah|apply aa|apply ai|refine ae ?_ GE289.out|refine ae ?_ GE290.out|refine ae ?_ GE291.out|refine ae ?_ GE305.out))))
        have n3_:=au (ay (g:=gb289) (o:=.cells #[.int .i64 a0_0,.slice A0_1 l0_1.length c0_1,.slice A0_2 l0_2.length c0_2] 24 (0,0)) (by(with_reducible repeat(first|apply ag|apply aj|apply af));exact BK289.out) hb)
        have n4_:=au (ay (g:=gb290) (o:=.cells #[.int .i64 a1_0,.int .i64 a1_1] 35 (0,0)) (by(with_reducible repeat(first|apply ag|apply aj|apply af));exact BK290.out) hb)
        have n5_:=au (ay (g:=gb291) (o:=.cells #[.int .i64 0,.slice none 0 0,.slice none 0 0] 24 (0,0)) (by(with_reducible repeat(first|apply ag|apply aj|apply af));exact BK291.out) hb)
        have n6_:=au (ay (g:=gb305) (o:=.cells #[.int .i64 0,.slice none 0 0,.slice none 0 0] 24 (0,0)) (by(with_reducible repeat(first|apply ag|apply aj|apply af));exact BK305.out) hb)
        have n7_:=au (aA (by with_reducible repeat(first|exact HB.out|apply ah|apply aa|apply ai|refine ae ?_ GE289.out|refine ae ?_ GE290.out|refine ae ?_ GE291.out|refine ae ?_ GE305.out)) hb)
        clear HO297
        clear BK289
        clear BK290
        clear BK291
        clear BK305
        clear HB
        have HO297:=n0_
        have HO301:=n1_
        have HO304:=n2_
        have BK289:=n3_
        have BK290:=n4_
        have BK291:=n5_
        have BK305:=n6_
        have HB:=n7_
        clear n0_ n1_ n2_ n3_ n4_ n5_ n6_ n7_
        (try clear hb)
        (try clear hb2)
        (try clear hk)
        (try clear hi)
        (try clear ho0)
        (try clear ho1)
        refine hK.out _ _ ⟨(ak BK289.out 0).trans rfl,(ak BK289.out 1).trans rfl,(ak BK289.out 2).trans rfl,(ak BK290.out 0).trans rfl,(ak BK290.out 1).trans rfl⟩ (fun hHeld=>?_)
        clear hK K
        refine bN (a':=?_) ?_ ?_
        rotate_left
        ·show Act.put _ (some 33) _=_
         simp only[apu_]
         rfl
        exact bN (by simp only[fH,Act.put,List.setIfInBounds_toArray,List.set_cons_zero,List.set_cons_succ]) (hCont (.slice Ao48 t295.length co48,v300,v303,gb305) _ ⟨hHeld,(by(with_reducible repeat(first|apply Kd.aD|apply Kd.aC|apply Kd.aJ));exact Kd.aY HO297.out (fun _ hk=>⟨hk.1.2,⟨hk.2,hk.1.1.2⟩⟩)),(by(with_reducible repeat(first|apply Kd.aD|apply Kd.aC|apply Kd.aJ));exact Kd.aY HO301.out (fun _ hk=>⟨hk.1.2,⟨hk.1.1,hk.2⟩⟩)),(by(with_reducible repeat(first|apply Kd.aD|apply Kd.aC|apply Kd.aJ));exact Kd.aY HO304.out (fun _ hk=>⟨hk.1.2,⟨hk.1.1,hk.2⟩⟩)),(by(with_reducible repeat(first|apply ag|apply aj|apply af));exact BK289.out),(by(with_reducible repeat(first|apply ag|apply aj|apply af));exact BK290.out),(by(with_reducible repeat(first|apply ag|apply aj|apply af));exact BK291.out),(by(with_reducible repeat(first|apply ag|apply aj|apply af));exact BK305.out),GW305.out,GE305.out,NB289_305.out,NB305_289.out,NB290_305.out,NB305_290.out,NB291_305.out,NB305_291.out,(by with_reducible repeat(first|exact HB.out|apply ah|apply aa|apply ai|refine ae ?_ GE289.out|refine ae ?_ GE290.out|refine ae ?_ GE291.out|refine ae ?_ GE305.out))⟩)
      ·skip
       refine gq ?hg (N:=7) ?hd (cs:=#[.int .i64 0,.slice none 0 0,.slice none 0 0]) (t:=24) ?hr ?_;(case hd=>rfl);(case hg=>rfl);(case hr=>first|(go_simp;done)|(go_simp;rfl))
       intro gb305 hg w46 hbox hb
       have n0_:=au (ay (g:=gb289) (o:=.cells #[.int .i64 a0_0,.slice A0_1 l0_1.length c0_1,.slice A0_2 l0_2.length c0_2] 24 (0,0)) (by(with_reducible repeat(first|apply ag|apply aj|apply af));exact BK289.out) hb)
       have n1_:=au (ay (g:=gb290) (o:=.cells #[.int .i64 a1_0,.int .i64 a1_1] 35 (0,0)) (by(with_reducible repeat(first|apply ag|apply aj|apply af));exact BK290.out) hb)
       have n2_:=au (ay (g:=gb291) (o:=.cells #[.int .i64 0,.slice none 0 0,.slice none 0 0] 24 (0,0)) (by(with_reducible repeat(first|apply ag|apply aj|apply af));exact BK291.out) hb)
       have n3_:=au (aA (by with_reducible repeat(first|exact HB.out|apply ah|apply aa|apply ai|refine ae ?_ GE289.out|refine ae ?_ GE290.out|refine ae ?_ GE291.out)) hb)
       have n4_:=au (hbox)
       have n5_:=au ((by rw[hg];exact(az (by with_reducible repeat(first|exact HB.out|apply ah|apply aa|apply ai|refine ae ?_ GE289.out|refine ae ?_ GE290.out|refine ae ?_ GE291.out))):w.heap.size≤gb305))
       have n6_:=au ((by rw[hg];exact(az (by with_reducible repeat(first|exact HB.out|apply ah|apply aa|apply ai|refine ae ?_ GE289.out|refine ae ?_ GE290.out|refine ae ?_ GE291.out))):w.heap.size≤gb305))
       have n7_:=au ((by rw[hg];exact Nat.ne_of_lt (aG (g:=gb289) (o:=.cells #[.int .i64 a0_0,.slice A0_1 l0_1.length c0_1,.slice A0_2 l0_2.length c0_2] 24 (0,0)) (by(with_reducible repeat(first|apply ag|apply aj|apply af));exact BK289.out)):gb289≠gb305))
       have n8_:=au ((by rw[hg];exact Nat.ne_of_gt (aG (g:=gb289) (o:=.cells #[.int .i64 a0_0,.slice A0_1 l0_1.length c0_1,.slice A0_2 l0_2.length c0_2] 24 (0,0)) (by(with_reducible repeat(first|apply ag|apply aj|apply af));exact BK289.out)):gb305≠gb289))
       have n9_:=au ((by rw[hg];exact Nat.ne_of_lt (aG (g:=gb290) (o:=.cells #[.int .i64 a1_0,.int .i64 a1_1] 35 (0,0)) (by(with_reducible repeat(first|apply ag|apply aj|apply af));exact BK290.out)):gb290≠gb305))
       have n10_:=au ((by rw[hg];exact Nat.ne_of_gt (aG (g:=gb290) (o:=.cells #[.int .i64 a1_0,.int .i64 a1_1] 35 (0,0)) (by(with_reducible repeat(first|apply ag|apply aj|apply af));exact BK290.out)):gb305≠gb290))
       have n11_:=au ((by rw[hg];exact Nat.ne_of_lt (aG (g:=gb291) (o:=.cells #[.int .i64 0,.slice none 0 0,.slice none 0 0] 24 (0,0)) (by(with_reducible repeat(first|apply ag|apply aj|apply af));exact BK291.out)):gb291≠gb305))
       have n12_:=au ((by rw[hg];exact Nat.ne_of_gt (aG (g:=gb291) (o:=.cells #[.int .i64 0,.slice none 0 0,.slice none 0 0] 24 (0,0)) (by(with_reducible repeat(first|apply ag|apply aj|apply af));exact BK291.out)):gb305≠gb291))
       clear BK289
       clear BK290
       clear BK291
       clear HB
       have BK289:=n0_
       have BK290:=n1_
       have BK291:=n2_
       have HB:=n3_
       have BK305:=n4_
       have GW305:=n5_
       have GE305:=n6_
       have NB289_305:=n7_
       have NB305_289:=n8_
       have NB290_305:=n9_
       have NB305_290:=n10_
       have NB291_305:=n11_
       have NB305_291:=n12_
       clear n0_ n1_ n2_ n3_ n4_ n5_ n6_ n7_ n8_ n9_ n10_ n11_ n12_
       clear hb hbox hg
       refine hK.out _ _ ⟨(ak BK289.out 0).trans rfl,(ak BK289.out 1).trans rfl,(ak BK289.out 2).trans rfl,(ak BK290.out 0).trans rfl,(ak BK290.out 1).trans rfl⟩ (fun hHeld=>?_)
       clear hK K
       refine bN (a':=?_) ?_ ?_
       rotate_left
       ·show Act.put _ (some 7) _=_
        simp only[apu_]
        rfl
       refine dD (i:=6) (N:=some 32) #[true,true,true,true,true,true,true,false,true,false] rfl rfl (eD HT_.out (by kernel_rfl)) (by decide) (fun K hK=>?_)
       refine bZ Try.func57 (by kernel_rfl) rfl #[.slice A0_1 l0_1.length c0_1,.int .i64 t294,.agg #[.int .i64 a1_0,.int .i64 a1_1]] (by rfl) rfl rfl (by(try simp only[amp_]);first|done|rfl|(simp only[ald_];rfl)) ?_
       with_reducible refine(spec_l5Cut.calls _ _ l0_1 t294 a1_0 a1_1 t295 _ ?side1 ?side2 A35.out).mono ?_
       (case side1=>repeat(first|exact(Kd.aN HR0_1.out HB.out)|(with_reducible first|apply Kd.aV|apply Kd.aW|apply Kd.bf)))
       (case side2=>exact HC0_1.out)
       rintro e w47 ⟨v296,rfl,ho0,hb⟩
       refine⟨_,rfl,?_⟩
       have n0_:=au (Kd.bC (Kd.dI ho0 (g:=gb290) (o:=.cells #[.int .i64 a1_0,.int .i64 a1_1] 35 (0,0)) (by(with_reducible repeat(first|apply ag|apply aj|apply af));exact BK290.out)) (az (by with_reducible repeat(first|exact HB.out|apply ah|apply aa|apply ai|refine ae ?_ GE289.out|refine ae ?_ GE290.out|refine ae ?_ GE291.out|refine ae ?_ GE305.out))))
       have n1_:=au (ay (g:=gb289) (o:=.cells #[.int .i64 a0_0,.slice A0_1 l0_1.length c0_1,.slice A0_2 l0_2.length c0_2] 24 (0,0)) (by(with_reducible repeat(first|apply ag|apply aj|apply af));exact BK289.out) hb)
       have n2_:=au (ay (g:=gb290) (o:=.cells #[.int .i64 a1_0,.int .i64 a1_1] 35 (0,0)) (by(with_reducible repeat(first|apply ag|apply aj|apply af));exact BK290.out) hb)
       have n3_:=au (ay (g:=gb291) (o:=.cells #[.int .i64 0,.slice none 0 0,.slice none 0 0] 24 (0,0)) (by(with_reducible repeat(first|apply ag|apply aj|apply af));exact BK291.out) hb)
       have n4_:=au (ay (g:=gb305) (o:=.cells #[.int .i64 0,.slice none 0 0,.slice none 0 0] 24 (0,0)) (by(with_reducible repeat(first|apply ag|apply aj|apply af));exact BK305.out) hb)
       have n5_:=au (aA (by with_reducible repeat(first|exact HB.out|apply ah|apply aa|apply ai|refine ae ?_ GE289.out|refine ae ?_ GE290.out|refine ae ?_ GE291.out|refine ae ?_ GE305.out)) hb)
       clear BK289
       clear BK290
       clear BK291
       clear BK305
       clear HB
       have HO297:=n0_
       have BK289:=n1_
       have BK290:=n2_
       have BK291:=n3_
       have BK305:=n4_
       have HB:=n5_
       clear n0_ n1_ n2_ n3_ n4_ n5_
       (try clear hb)
       (try clear hb2)
       (try clear hk)
       (try clear hi)
       (try clear ho0)
       obtain⟨Ao48,co48,eo48⟩:=Kd.bq HO297.out
       (first|subst eo48|(injection eo48 with f1_ f2_ f3_;have f4_:=f1_.symm;have f5_:=f3_.symm;clear f1_ f2_ f3_;subst f4_;subst f5_))
       refine hK.out _ _ ⟨(ak BK289.out 0).trans rfl,(ak BK289.out 1).trans rfl,(ak BK289.out 2).trans rfl,(ak BK290.out 0).trans rfl,(ak BK290.out 1).trans rfl⟩ (fun hHeld=>?_)
       clear hK K
       refine bN (a':=?_) ?_ ?_
       rotate_left
       ·show Act.put _ (some 32) _=_
        simp only[apu_]
        rfl
       refine dD (i:=7) (N:=some 33) #[true,true,true,true,true,true,true,true,true,false] rfl rfl (eD HT_.out (by kernel_rfl)) (by decide) (fun K hK=>?_)
       refine bZ Try.func33 (by kernel_rfl) rfl #[.int .i64 a0_0,.slice Ao48 t295.length co48] (by rfl) rfl rfl (by(try simp only[amp_]);first|done|rfl|(simp only[ald_];rfl)) ?_
       with_reducible refine(spec_l5Of.calls kj2 a0_0 _ _ t295 t298 t299 t302 _ ?side1 ?side2 A36.out).mono ?_
       (case side1=>repeat(first|exact(Kd.R_reads' HO297.out).2.2|(with_reducible first|apply Kd.aV|apply Kd.aW|apply Kd.bf)))
       (case side2=>exact(Kd.R_reads' HO297.out).2.1)
       rintro e w49 ⟨v300,v303,rfl,ho0,ho1,hb⟩
       refine⟨_,rfl,?_⟩
       have n0_:=au (Kd.aY (Kd.ed (Kd.ed (Kd.iV (by(with_reducible repeat(first|apply Kd.aD|apply Kd.aC|apply Kd.aJ));exact HO297.out) hb) (Kd.dP ho0)) (Kd.dP ho1)) (fun _ h_=>h_.1))
       have n1_:=au (Kd.bC (Kd.dI (Kd.R_new' ho0 (Kd.fB (by(with_reducible repeat(first|apply Kd.aD|apply Kd.aC|apply Kd.aJ));exact HO297.out))) (g:=gb290) (o:=.cells #[.int .i64 a1_0,.int .i64 a1_1] 35 (0,0)) (by(with_reducible repeat(first|apply ag|apply aj|apply af));exact BK290.out)) (az (by with_reducible repeat(first|exact HB.out|apply ah|apply aa|apply ai|refine ae ?_ GE289.out|refine ae ?_ GE290.out|refine ae ?_ GE291.out|refine ae ?_ GE305.out))))
       have n2_:=au (Kd.bC (Kd.dI (Kd.R_new' ho1 (Kd.fB (by(with_reducible repeat(first|apply Kd.aD|apply Kd.aC|apply Kd.aJ));exact HO297.out))) (g:=gb290) (o:=.cells #[.int .i64 a1_0,.int .i64 a1_1] 35 (0,0)) (by(with_reducible repeat(first|apply ag|apply aj|apply af));exact BK290.out)) (az (by with_reducible repeat(first|exact HB.out|apply ah|apply aa|apply ai|refine ae ?_ GE289.out|refine ae ?_ GE290.out|refine ae ?_ GE291.out|refine ae ?_ GE305.out))))
       have n3_:=au (ay (g:=gb289) (o:=.cells #[.int .i64 a0_0,.slice A0_1 l0_1.length c0_1,.slice A0_2 l0_2.length c0_2] 24 (0,0)) (by(with_reducible repeat(first|apply ag|apply aj|apply af));exact BK289.out) hb)
       have n4_:=au (ay (g:=gb290) (o:=.cells #[.int .i64 a1_0,.int .i64 a1_1] 35 (0,0)) (by(with_reducible repeat(first|apply ag|apply aj|apply af));exact BK290.out) hb)
       have n5_:=au (ay (g:=gb291) (o:=.cells #[.int .i64 0,.slice none 0 0,.slice none 0 0] 24 (0,0)) (by(with_reducible repeat(first|apply ag|apply aj|apply af));exact BK291.out) hb)
       have n6_:=au (ay (g:=gb305) (o:=.cells #[.int .i64 0,.slice none 0 0,.slice none 0 0] 24 (0,0)) (by(with_reducible repeat(first|apply ag|apply aj|apply af));exact BK305.out) hb)
       have n7_:=au (aA (by with_reducible repeat(first|exact HB.out|apply ah|apply aa|apply ai|refine ae ?_ GE289.out|refine ae ?_ GE290.out|refine ae ?_ GE291.out|refine ae ?_ GE305.out)) hb)
       clear HO297
       clear BK289
       clear BK290
       clear BK291
       clear BK305
       clear HB
       have HO297:=n0_
       have HO301:=n1_
       have HO304:=n2_
       have BK289:=n3_
       have BK290:=n4_
       have BK291:=n5_
       have BK305:=n6_
       have HB:=n7_
       clear n0_ n1_ n2_ n3_ n4_ n5_ n6_ n7_
       (try clear hb)
       (try clear hb2)
       (try clear hk)
       (try clear hi)
       (try clear ho0)
       (try clear ho1)
       refine hK.out _ _ ⟨(ak BK289.out 0).trans rfl,(ak BK289.out 1).trans rfl,(ak BK289.out 2).trans rfl,(ak BK290.out 0).trans rfl,(ak BK290.out 1).trans rfl⟩ (fun hHeld=>?_)
       clear hK K
       refine bN (a':=?_) ?_ ?_
       rotate_left
       ·show Act.put _ (some 33) _=_
        simp only[apu_]
        rfl
       exact bN (by simp only[fH,Act.put,List.setIfInBounds_toArray,List.set_cons_zero,List.set_cons_succ]) (hCont (.slice Ao48 t295.length co48,v300,v303,gb305) _ ⟨hHeld,(by(with_reducible repeat(first|apply Kd.aD|apply Kd.aC|apply Kd.aJ));exact Kd.aY HO297.out (fun _ hk=>⟨hk.1.2,⟨hk.2,hk.1.1.2⟩⟩)),(by(with_reducible repeat(first|apply Kd.aD|apply Kd.aC|apply Kd.aJ));exact Kd.aY HO301.out (fun _ hk=>⟨hk.1.2,⟨hk.1.1,hk.2⟩⟩)),(by(with_reducible repeat(first|apply Kd.aD|apply Kd.aC|apply Kd.aJ));exact Kd.aY HO304.out (fun _ hk=>⟨hk.1.2,⟨hk.1.1,hk.2⟩⟩)),(by(with_reducible repeat(first|apply ag|apply aj|apply af));exact BK289.out),(by(with_reducible repeat(first|apply ag|apply aj|apply af));exact BK290.out),(by(with_reducible repeat(first|apply ag|apply aj|apply af));exact BK291.out),(by(with_reducible repeat(first|apply ag|apply aj|apply af));exact BK305.out),GW305.out,GE305.out,NB289_305.out,NB305_289.out,NB290_305.out,NB305_290.out,NB291_305.out,NB305_291.out,(by with_reducible repeat(first|exact HB.out|apply ah|apply aa|apply ai|refine ae ?_ GE289.out|refine ae ?_ GE290.out|refine ae ?_ GE291.out|refine ae ?_ GE305.out))⟩)
     rintro⟨v296,v300,v303,gb305⟩ w50 ⟨hS_,h0_,h1_,h2_,h3_,h4_,h5_,h6_,h7_,h8_,h9_,h10_,h11_,h12_,h13_,h14_,h15_⟩
     have n0_:Aside0 (Kd.R k35 35 w50 w.heap.size (fun k_=>some k_≠(v300:Value).ownBlock∧some k_≠(v303:Value).ownBlock∧k_≠gb290) v296 t295):=⟨h0_⟩
     have n1_:Aside0 (Kd.R k35 35 w50 w.heap.size (fun k_=>some k_≠(v296:Value).ownBlock∧some k_≠(v303:Value).ownBlock∧k_≠gb290) v300 t299):=⟨h1_⟩
     have n2_:Aside0 (Kd.R k35 35 w50 w.heap.size (fun k_=>some k_≠(v296:Value).ownBlock∧some k_≠(v300:Value).ownBlock∧k_≠gb290) v303 t302):=⟨h2_⟩
     have n3_:Aside0 (w50.heap[gb289]? = some (.cells #[.int .i64 a0_0,.slice A0_1 l0_1.length c0_1,.slice A0_2 l0_2.length c0_2] 24 (0,0))):=⟨h3_⟩
     have n4_:Aside0 (w50.heap[gb290]? = some (.cells #[.int .i64 a1_0,.int .i64 a1_1] 35 (0,0))):=⟨h4_⟩
     have n5_:Aside0 (w50.heap[gb291]? = some (.cells #[.int .i64 0,.slice none 0 0,.slice none 0 0] 24 (0,0))):=⟨h5_⟩
     have n6_:Aside0 (w50.heap[gb305]? = some (.cells #[.int .i64 0,.slice none 0 0,.slice none 0 0] 24 (0,0))):=⟨h6_⟩
     have n7_:Aside0 (w.heap.size≤gb305):=⟨h7_⟩
     have n8_:Aside0 (w.heap.size≤gb305):=⟨h8_⟩
     have n9_:Aside0 (gb289≠gb305):=⟨h9_⟩
     have n10_:Aside0 (gb305≠gb289):=⟨h10_⟩
     have n11_:Aside0 (gb290≠gb305):=⟨h11_⟩
     have n12_:Aside0 (gb305≠gb290):=⟨h12_⟩
     have n13_:Aside0 (gb291≠gb305):=⟨h13_⟩
     have n14_:Aside0 (gb305≠gb291):=⟨h14_⟩
     have n15_:Aside0 (Below w.heap.size w w50):=⟨h15_⟩
     clear BK289
     clear BK290
     clear BK291
     clear HB
     clear h0_ h1_ h2_ h3_ h4_ h5_ h6_ h7_ h8_ h9_ h10_ h11_ h12_ h13_ h14_ h15_
     have HO297:=n0_
     have HO301:=n1_
     have HO304:=n2_
     have BK289:=n3_
     have BK290:=n4_
     have BK291:=n5_
     have BK305:=n6_
     have GW305:=n7_
     have GE305:=n8_
     have NB289_305:=n9_
     have NB305_289:=n10_
     have NB290_305:=n11_
     have NB305_290:=n12_
     have NB291_305:=n13_
     have NB305_291:=n14_
     have HB:=n15_
     clear n0_ n1_ n2_ n3_ n4_ n5_ n6_ n7_ n8_ n9_ n10_ n11_ n12_ n13_ n14_ n15_
     have hHeld:w50.cell? ⟨gb289,0,none⟩=some (.int .i64 a0_0)∧w50.cell? ⟨gb289,1,none⟩=some (.slice A0_1 l0_1.length c0_1)∧w50.cell? ⟨gb289,2,none⟩=some (.slice A0_2 l0_2.length c0_2)∧w50.cell? ⟨gb290,0,none⟩=some (.int .i64 a1_0)∧w50.cell? ⟨gb290,1,none⟩=some (.int .i64 a1_1):=hS_
     obtain⟨Ao52,co52,eo52⟩:=Kd.bq HO301.out
     (first|subst eo52|(injection eo52 with f1_ f2_ f3_;have f4_:=f1_.symm;have f5_:=f3_.symm;clear f1_ f2_ f3_;subst f4_;subst f5_))
     obtain⟨Ao54,co54,eo54⟩:=Kd.bq HO304.out
     (first|subst eo54|(injection eo54 with f1_ f2_ f3_;have f4_:=f1_.symm;have f5_:=f3_.symm;clear f1_ f2_ f3_;subst f4_;subst f5_))
     refine bN (a':=?_) ?_ ?_
     rotate_left
     ·simp only[fH,Act.put,List.setIfInBounds_toArray,List.set_cons_zero,List.set_cons_succ]
      rfl
     refine dD (i:=9) (N:=none) #[true,true,true,true,true,true,true,true,true,true] rfl rfl (eD HT_.out (by kernel_rfl)) (by decide) (fun K hK=>?_)
     have hs51:w50.cell? ⟨gb305,0,none⟩=some (.int .i64 0):=(ak BK305.out 0).trans rfl
     have hfs51:=av BK305.out 0
     have hns51_0:=NB289_305.out
     have hns51_1:=NB290_305.out
     have hns51_2:=NB291_305.out
     have hms51_0:=NB305_289.out
     have hms51_1:=NB305_290.out
     have hms51_2:=NB305_291.out
     have hs53:w50.cell? ⟨gb305,1,none⟩=some (.slice none 0 0):=(ak BK305.out 1).trans rfl
     have hfs53:=av BK305.out 1
     have hns53_0:=NB289_305.out
     have hns53_1:=NB290_305.out
     have hns53_2:=NB291_305.out
     have hms53_0:=NB305_289.out
     have hms53_1:=NB305_290.out
     have hms53_2:=NB305_291.out
     have hs55:w50.cell? ⟨gb305,2,none⟩=some (.slice none 0 0):=(ak BK305.out 2).trans rfl
     have hfs55:=av BK305.out 2
     have hns55_0:=NB289_305.out
     have hns55_1:=NB290_305.out
     have hns55_2:=NB291_305.out
     have hms55_0:=NB305_289.out
     have hms55_1:=NB305_290.out
     have hms55_2:=NB305_291.out
     refine iA (w1:=?_) (by rfl) rfl ?_ ?_
     rotate_left
     ·go_simp
      rfl
     refine hK.out _ _ ⟨((cell_far (p:=⟨gb305,_,none⟩) NB289_305.out _).trans (((cell_far (p:=⟨gb305,_,none⟩) NB289_305.out _).trans (((cell_far (p:=⟨gb305,_,none⟩) NB289_305.out _).trans (hHeld.1)))))),((cell_far (p:=⟨gb305,_,none⟩) NB289_305.out _).trans (((cell_far (p:=⟨gb305,_,none⟩) NB289_305.out _).trans (((cell_far (p:=⟨gb305,_,none⟩) NB289_305.out _).trans (hHeld.2.1)))))),((cell_far (p:=⟨gb305,_,none⟩) NB289_305.out _).trans (((cell_far (p:=⟨gb305,_,none⟩) NB289_305.out _).trans (((cell_far (p:=⟨gb305,_,none⟩) NB289_305.out _).trans (hHeld.2.2.1)))))),((cell_far (p:=⟨gb305,_,none⟩) NB290_305.out _).trans (((cell_far (p:=⟨gb305,_,none⟩) NB290_305.out _).trans (((cell_far (p:=⟨gb305,_,none⟩) NB290_305.out _).trans (hHeld.2.2.2.1)))))),((cell_far (p:=⟨gb305,_,none⟩) NB290_305.out _).trans (((cell_far (p:=⟨gb305,_,none⟩) NB290_305.out _).trans (((cell_far (p:=⟨gb305,_,none⟩) NB290_305.out _).trans (hHeld.2.2.2.2))))))⟩ (fun hHeld=>?_)
     clear hK K
     refine eP (gX HT_.out (by kernel_rfl)) ?_
     have hnb56:=NB305_289.out
     have hnc56:=NB289_305.out
     have hnb57:=NB305_290.out
     have hnc57:=NB290_305.out
     have hnb58:=NB305_291.out
     have hnc58:=NB291_305.out
     have hcz59_0:w50.cell? ⟨gb305,0,none⟩=some (.int .i64 0):=(ak BK305.out 0).trans rfl
     have hcz59_1:w50.cell? ⟨gb305,1,none⟩=some (.slice none 0 0):=(ak BK305.out 1).trans rfl
     have hcz59_2:w50.cell? ⟨gb305,2,none⟩=some (.slice none 0 0):=(ak BK305.out 2).trans rfl
     have hfz59_0:=av BK305.out 0
     have hfz59_1:=av BK305.out 1
     have hfz59_2:=av BK305.out 2
     have H:=HQ256.out
     clear HQ256
     by_cases c38:t306=true
     ·subst c38
      have H1:(some (t298,t299,t302,true))=some (r1,r2,r3,r4):=by rw[if_pos rfl] at H;exact H
      clear H
      have H:=H1
      clear H1
      simp only[Option.some.injEq,Prod.mk.injEq] at H
      obtain⟨rfl,rfl,rfl,rfl⟩:=H
      try go_wp2_with (first|((with_reducible refine aT (f:=25) rfl ?_);refine bK (some 35) rfl rfl Try.func25 (by kernel_rfl) rfl #[.agg #[.int .i64 t298,.slice Ao52 t299.length co52,.slice Ao54 t302.length co54]] rfl (by(try simp only[amp_]);first|done|rfl|(simp only[ald_];rfl)) ?_;(with_reducible refine(spec_GoodFree.calls kj2 t298 _ _ t299 _ _ t302 true _ ?side1 ?side2 ?side3 ?side4 A37.out).mono ?_);(case side1=>refine(Kd.R_reads' (e:=35) (base:=w.heap.size) (ok:=fun k_=>(some k_≠(v296:Value).ownBlock∧(some k_≠(.slice Ao54 t302.length co54:Value).ownBlock∧k_≠gb290))) (n:=t299.length) (c:=co52) ?_).2.2;exact(by(with_reducible repeat(first|apply Kd.aD|apply Kd.aC|apply Kd.aJ));exact(Kd.aY (Kd.aU (p:=⟨gb305,2,none⟩) (Kd.aU (p:=⟨gb305,1,none⟩) (Kd.aU (p:=⟨gb305,0,none⟩) (Kd.bG HO301.out BK305.out (by decide)) (fun _ hk=>hk.2) (.int .i64 t298)) (fun _ hk=>hk.2) (.slice Ao52 t299.length co52)) (fun _ hk=>hk.2) (.slice Ao54 t302.length co54)) (fun _ h_=>h_.1))));(case side2=>exact(Kd.R_reads' HO301.out).2.1);(case side3=>refine(Kd.R_reads' (e:=35) (base:=w.heap.size) (ok:=fun k_=>(some k_≠(v296:Value).ownBlock∧(some k_≠(.slice Ao52 t299.length co52:Value).ownBlock∧k_≠gb290))) (n:=t302.length) (c:=co54) ?_).2.2;exact(by(with_reducible repeat(first|apply Kd.aD|apply Kd.aC|apply Kd.aJ));exact(Kd.aY (Kd.aU (p:=⟨gb305,2,none⟩) (Kd.aU (p:=⟨gb305,1,none⟩) (Kd.aU (p:=⟨gb305,0,none⟩) (Kd.bG HO304.out BK305.out (by decide)) (fun _ hk=>hk.2) (.int .i64 t298)) (fun _ hk=>hk.2) (.slice Ao52 t299.length co52)) (fun _ hk=>hk.2) (.slice Ao54 t302.length co54)) (fun _ h_=>h_.1))));(case side4=>exact(Kd.R_reads' HO304.out).2.1);rintro e w60 ⟨rfl,hb⟩;refine⟨_,rfl,?_⟩;replace HO297:=au (Kd.bu (by(with_reducible repeat(first|apply Kd.aD|apply Kd.aC|apply Kd.aJ));exact(Kd.aY (Kd.aU (p:=⟨gb305,2,none⟩) (Kd.aU (p:=⟨gb305,1,none⟩) (Kd.aU (p:=⟨gb305,0,none⟩) (Kd.bG HO297.out BK305.out (by decide)) (fun _ hk=>hk.2) (.int .i64 t298)) (fun _ hk=>hk.2) (.slice Ao52 t299.length co52)) (fun _ hk=>hk.2) (.slice Ao54 t302.length co54)) (fun _ h_=>h_.1))) hb);replace HO301:=au (Kd.bu (by(with_reducible repeat(first|apply Kd.aD|apply Kd.aC|apply Kd.aJ));exact(Kd.aY (Kd.aU (p:=⟨gb305,2,none⟩) (Kd.aU (p:=⟨gb305,1,none⟩) (Kd.aU (p:=⟨gb305,0,none⟩) (Kd.bG HO301.out BK305.out (by decide)) (fun _ hk=>hk.2) (.int .i64 t298)) (fun _ hk=>hk.2) (.slice Ao52 t299.length co52)) (fun _ hk=>hk.2) (.slice Ao54 t302.length co54)) (fun _ h_=>h_.1))) hb);replace HO304:=au (Kd.bu (by(with_reducible repeat(first|apply Kd.aD|apply Kd.aC|apply Kd.aJ));exact(Kd.aY (Kd.aU (p:=⟨gb305,2,none⟩) (Kd.aU (p:=⟨gb305,1,none⟩) (Kd.aU (p:=⟨gb305,0,none⟩) (Kd.bG HO304.out BK305.out (by decide)) (fun _ hk=>hk.2) (.int .i64 t298)) (fun _ hk=>hk.2) (.slice Ao52 t299.length co52)) (fun _ hk=>hk.2) (.slice Ao54 t302.length co54)) (fun _ h_=>h_.1))) hb);replace BK289:=au (ay (g:=gb289) (o:=.cells #[.int .i64 a0_0,.slice A0_1 l0_1.length c0_1,.slice A0_2 l0_2.length c0_2] 24 (0,0)) (by(with_reducible repeat(first|apply ag|apply aj|apply af));refine aH ?_ NB289_305.out _;(with_reducible repeat(first|apply ag|apply aj|apply af));refine aH ?_ NB289_305.out _;(with_reducible repeat(first|apply ag|apply aj|apply af));refine aH ?_ NB289_305.out _;(with_reducible repeat(first|apply ag|apply aj|apply af));exact BK289.out) hb);replace BK290:=au (ay (g:=gb290) (o:=.cells #[.int .i64 a1_0,.int .i64 a1_1] 35 (0,0)) (by(with_reducible repeat(first|apply ag|apply aj|apply af));refine aH ?_ NB290_305.out _;(with_reducible repeat(first|apply ag|apply aj|apply af));refine aH ?_ NB290_305.out _;(with_reducible repeat(first|apply ag|apply aj|apply af));refine aH ?_ NB290_305.out _;(with_reducible repeat(first|apply ag|apply aj|apply af));exact BK290.out) hb);replace BK291:=au (ay (g:=gb291) (o:=.cells #[.int .i64 0,.slice none 0 0,.slice none 0 0] 24 (0,0)) (by(with_reducible repeat(first|apply ag|apply aj|apply af));refine aH ?_ NB291_305.out _;(with_reducible repeat(first|apply ag|apply aj|apply af));refine aH ?_ NB291_305.out _;(with_reducible repeat(first|apply ag|apply aj|apply af));refine aH ?_ NB291_305.out _;(with_reducible repeat(first|apply ag|apply aj|apply af));exact BK291.out) hb);replace BK305:=au (ay (g:=gb305) (o:=.cells #[.int .i64 t298,.slice Ao52 t299.length co52,.slice Ao54 t302.length co54] 24 (0,0)) (by(with_reducible repeat(first|apply ag|apply aj|apply af));refine aK (cs:=#[.int .i64 t298,.slice Ao52 t299.length co52,.slice none 0 0]) ?_ 2 _ rfl;(with_reducible repeat(first|apply ag|apply aj|apply af));refine aK (cs:=#[.int .i64 t298,.slice none 0 0,.slice none 0 0]) ?_ 1 _ rfl;(with_reducible repeat(first|apply ag|apply aj|apply af));refine aK (cs:=#[.int .i64 0,.slice none 0 0,.slice none 0 0]) ?_ 0 _ rfl;(with_reducible repeat(first|apply ag|apply aj|apply af));exact BK305.out) hb);replace HB:=au (aA (by with_reducible repeat(first|exact HB.out|apply ah|apply aa|apply ai|refine ae ?_ GE289.out|refine ae ?_ GE290.out|refine ae ?_ GE291.out|refine ae ?_ GE305.out)) hb);(try clear hb);(try clear hb2);(try clear hk);(try clear hi);have hcz61_0:w60.cell? ⟨gb305,0,none⟩=some (.int .i64 t298):=(ak BK305.out 0).trans rfl;have hcz61_1:w60.cell? ⟨gb305,1,none⟩=some (.slice Ao52 t299.length co52):=(ak BK305.out 1).trans rfl;have hcz61_2:w60.cell? ⟨gb305,2,none⟩=some (.slice Ao54 t302.length co54):=(ak BK305.out 2).trans rfl;have hfz61_0:=av BK305.out 0;have hfz61_1:=av BK305.out 1;have hfz61_2:=av BK305.out 2;have hcz62_0:w60.cell? ⟨gb291,0,none⟩=some (.int .i64 0):=(ak BK291.out 0).trans rfl;have hcz62_1:w60.cell? ⟨gb291,1,none⟩=some (.slice none 0 0):=(ak BK291.out 1).trans rfl;have hcz62_2:w60.cell? ⟨gb291,2,none⟩=some (.slice none 0 0):=(ak BK291.out 2).trans rfl;have hfz62_0:=av BK291.out 0;have hfz62_1:=av BK291.out 1;have hfz62_2:=av BK291.out 2))
      refine bodyPost_ret (cK rfl _ _ gb291 24 #[.int .i64 t298,.slice Ao52 t299.length co52,.slice Ao54 t302.length co54] (0,0) _ rfl (by(with_reducible repeat(first|apply ag|apply aj|apply af));refine aK (cs:=#[.int .i64 t298,.slice Ao52 t299.length co52,.slice none 0 0]) ?_ 2 _ rfl;(with_reducible repeat(first|apply ag|apply aj|apply af));refine aK (cs:=#[.int .i64 t298,.slice none 0 0,.slice none 0 0]) ?_ 1 _ rfl;(with_reducible repeat(first|apply ag|apply aj|apply af));refine aK (cs:=#[.int .i64 0,.slice none 0 0,.slice none 0 0]) ?_ 0 _ rfl;(with_reducible repeat(first|apply ag|apply aj|apply af));exact BK291.out) Try.underlying24 rfl (by kernel_rfl)) rfl ?_
      exact⟨_,_,by first|rfl|(simp <;> rfl)|(simp[*] <;> rfl),by(with_reducible repeat(first|apply Kd.aD|apply Kd.aC|apply Kd.aJ));exact Kd.aY (Kd.aU (p:=⟨gb291,2,none⟩) (Kd.aU (p:=⟨gb291,1,none⟩) (Kd.aU (p:=⟨gb291,0,none⟩) (Kd.bG HO301.out BK291.out (by decide)) (fun _ hk=>hk.2) (.int .i64 t298)) (fun _ hk=>hk.2) (.slice Ao52 t299.length co52)) (fun _ hk=>hk.2) (.slice Ao54 t302.length co54)) (fun _ hk=>hk.1.2.1),by(with_reducible repeat(first|apply Kd.aD|apply Kd.aC|apply Kd.aJ));exact Kd.aY (Kd.aU (p:=⟨gb291,2,none⟩) (Kd.aU (p:=⟨gb291,1,none⟩) (Kd.aU (p:=⟨gb291,0,none⟩) (Kd.bG HO304.out BK291.out (by decide)) (fun _ hk=>hk.2) (.int .i64 t298)) (fun _ hk=>hk.2) (.slice Ao52 t299.length co52)) (fun _ hk=>hk.2) (.slice Ao54 t302.length co54)) (fun _ hk=>hk.1.2.1),by with_reducible repeat(first|exact HB.out|apply ah|apply aa|apply ai|refine ae ?_ GE289.out|refine ae ?_ GE290.out|refine ae ?_ GE291.out|refine ae ?_ GE305.out)⟩
     ·replace c38:=Bool.eq_false_iff.mpr c38
      subst c38
      have H1:(some (0,([]:List (S35)),([]:List (S35)),false))=some (r1,r2,r3,r4):=by rw[if_neg (show ¬ (false=true) by decide)] at H;exact H
      clear H
      have H:=H1
      clear H1
      simp only[Option.some.injEq,Prod.mk.injEq] at H
      obtain⟨rfl,rfl,rfl,rfl⟩:=H
      try go_wp2_with (first|((with_reducible refine aT (f:=25) rfl ?_);refine bK (some 35) rfl rfl Try.func25 (by kernel_rfl) rfl #[.agg #[.int .i64 t298,.slice Ao52 t299.length co52,.slice Ao54 t302.length co54]] rfl (by(try simp only[amp_]);first|done|rfl|(simp only[ald_];rfl)) ?_;(with_reducible refine(spec_GoodFree.calls kj2 t298 _ _ t299 _ _ t302 false _ ?side1 ?side2 ?side3 ?side4 A37.out).mono ?_);(case side1=>refine(Kd.R_reads' (e:=35) (base:=w.heap.size) (ok:=fun k_=>(some k_≠(v296:Value).ownBlock∧(some k_≠(.slice Ao54 t302.length co54:Value).ownBlock∧k_≠gb290))) (n:=t299.length) (c:=co52) ?_).2.2;exact(by(with_reducible repeat(first|apply Kd.aD|apply Kd.aC|apply Kd.aJ));exact(Kd.aY (Kd.aU (p:=⟨gb305,2,none⟩) (Kd.aU (p:=⟨gb305,1,none⟩) (Kd.aU (p:=⟨gb305,0,none⟩) (Kd.bG HO301.out BK305.out (by decide)) (fun _ hk=>hk.2) (.int .i64 t298)) (fun _ hk=>hk.2) (.slice Ao52 t299.length co52)) (fun _ hk=>hk.2) (.slice Ao54 t302.length co54)) (fun _ h_=>h_.1))));(case side2=>exact(Kd.R_reads' HO301.out).2.1);(case side3=>refine(Kd.R_reads' (e:=35) (base:=w.heap.size) (ok:=fun k_=>(some k_≠(v296:Value).ownBlock∧(some k_≠(.slice Ao52 t299.length co52:Value).ownBlock∧k_≠gb290))) (n:=t302.length) (c:=co54) ?_).2.2;exact(by(with_reducible repeat(first|apply Kd.aD|apply Kd.aC|apply Kd.aJ));exact(Kd.aY (Kd.aU (p:=⟨gb305,2,none⟩) (Kd.aU (p:=⟨gb305,1,none⟩) (Kd.aU (p:=⟨gb305,0,none⟩) (Kd.bG HO304.out BK305.out (by decide)) (fun _ hk=>hk.2) (.int .i64 t298)) (fun _ hk=>hk.2) (.slice Ao52 t299.length co52)) (fun _ hk=>hk.2) (.slice Ao54 t302.length co54)) (fun _ h_=>h_.1))));(case side4=>exact(Kd.R_reads' HO304.out).2.1);rintro e w84 ⟨rfl,hb⟩;refine⟨_,rfl,?_⟩;replace HO297:=au (Kd.bu (by(with_reducible repeat(first|apply Kd.aD|apply Kd.aC|apply Kd.aJ));exact(Kd.aY (Kd.aU (p:=⟨gb305,2,none⟩) (Kd.aU (p:=⟨gb305,1,none⟩) (Kd.aU (p:=⟨gb305,0,none⟩) (Kd.bG HO297.out BK305.out (by decide)) (fun _ hk=>hk.2) (.int .i64 t298)) (fun _ hk=>hk.2) (.slice Ao52 t299.length co52)) (fun _ hk=>hk.2) (.slice Ao54 t302.length co54)) (fun _ h_=>h_.1))) hb);replace HO301:=au (Kd.bu (by(with_reducible repeat(first|apply Kd.aD|apply Kd.aC|apply Kd.aJ));exact(Kd.aY (Kd.aU (p:=⟨gb305,2,none⟩) (Kd.aU (p:=⟨gb305,1,none⟩) (Kd.aU (p:=⟨gb305,0,none⟩) (Kd.bG HO301.out BK305.out (by decide)) (fun _ hk=>hk.2) (.int .i64 t298)) (fun _ hk=>hk.2) (.slice Ao52 t299.length co52)) (fun _ hk=>hk.2) (.slice Ao54 t302.length co54)) (fun _ h_=>h_.1))) hb);replace HO304:=au (Kd.bu (by(with_reducible repeat(first|apply Kd.aD|apply Kd.aC|apply Kd.aJ));exact(Kd.aY (Kd.aU (p:=⟨gb305,2,none⟩) (Kd.aU (p:=⟨gb305,1,none⟩) (Kd.aU (p:=⟨gb305,0,none⟩) (Kd.bG HO304.out BK305.out (by decide)) (fun _ hk=>hk.2) (.int .i64 t298)) (fun _ hk=>hk.2) (.slice Ao52 t299.length co52)) (fun _ hk=>hk.2) (.slice Ao54 t302.length co54)) (fun _ h_=>h_.1))) hb);replace BK289:=au (ay (g:=gb289) (o:=.cells #[.int .i64 a0_0,.slice A0_1 l0_1.length c0_1,.slice A0_2 l0_2.length c0_2] 24 (0,0)) (by(with_reducible repeat(first|apply ag|apply aj|apply af));refine aH ?_ NB289_305.out _;(with_reducible repeat(first|apply ag|apply aj|apply af));refine aH ?_ NB289_305.out _;(with_reducible repeat(first|apply ag|apply aj|apply af));refine aH ?_ NB289_305.out _;(with_reducible repeat(first|apply ag|apply aj|apply af));exact BK289.out) hb);replace BK290:=au (ay (g:=gb290) (o:=.cells #[.int .i64 a1_0,.int .i64 a1_1] 35 (0,0)) (by(with_reducible repeat(first|apply ag|apply aj|apply af));refine aH ?_ NB290_305.out _;(with_reducible repeat(first|apply ag|apply aj|apply af));refine aH ?_ NB290_305.out _;(with_reducible repeat(first|apply ag|apply aj|apply af));refine aH ?_ NB290_305.out _;(with_reducible repeat(first|apply ag|apply aj|apply af));exact BK290.out) hb);replace BK291:=au (ay (g:=gb291) (o:=.cells #[.int .i64 0,.slice none 0 0,.slice none 0 0] 24 (0,0)) (by(with_reducible repeat(first|apply ag|apply aj|apply af));refine aH ?_ NB291_305.out _;(with_reducible repeat(first|apply ag|apply aj|apply af));refine aH ?_ NB291_305.out _;(with_reducible repeat(first|apply ag|apply aj|apply af));refine aH ?_ NB291_305.out _;(with_reducible repeat(first|apply ag|apply aj|apply af));exact BK291.out) hb);replace BK305:=au (ay (g:=gb305) (o:=.cells #[.int .i64 t298,.slice Ao52 t299.length co52,.slice Ao54 t302.length co54] 24 (0,0)) (by(with_reducible repeat(first|apply ag|apply aj|apply af));refine aK (cs:=#[.int .i64 t298,.slice Ao52 t299.length co52,.slice none 0 0]) ?_ 2 _ rfl;(with_reducible repeat(first|apply ag|apply aj|apply af));refine aK (cs:=#[.int .i64 t298,.slice none 0 0,.slice none 0 0]) ?_ 1 _ rfl;(with_reducible repeat(first|apply ag|apply aj|apply af));refine aK (cs:=#[.int .i64 0,.slice none 0 0,.slice none 0 0]) ?_ 0 _ rfl;(with_reducible repeat(first|apply ag|apply aj|apply af));exact BK305.out) hb);replace HB:=au (aA (by with_reducible repeat(first|exact HB.out|apply ah|apply aa|apply ai|refine ae ?_ GE289.out|refine ae ?_ GE290.out|refine ae ?_ GE291.out|refine ae ?_ GE305.out)) hb);(try clear hb);(try clear hb2);(try clear hk);(try clear hi);have hcz85_0:w84.cell? ⟨gb291,0,none⟩=some (.int .i64 0):=(ak BK291.out 0).trans rfl;have hcz85_1:w84.cell? ⟨gb291,1,none⟩=some (.slice none 0 0):=(ak BK291.out 1).trans rfl;have hcz85_2:w84.cell? ⟨gb291,2,none⟩=some (.slice none 0 0):=(ak BK291.out 2).trans rfl;have hfz85_0:=av BK291.out 0;have hfz85_1:=av BK291.out 1;have hfz85_2:=av BK291.out 2))
      refine bodyPost_ret (cK rfl _ _ gb291 24 #[.int .i64 0,.slice none 0 0,.slice none 0 0] (0,0) _ rfl (by(with_reducible repeat(first|apply ag|apply aj|apply af));refine aK (cs:=#[.int .i64 0,.slice none 0 0,.slice none 0 0]) ?_ 2 _ rfl;(with_reducible repeat(first|apply ag|apply aj|apply af));refine aK (cs:=#[.int .i64 0,.slice none 0 0,.slice none 0 0]) ?_ 1 _ rfl;(with_reducible repeat(first|apply ag|apply aj|apply af));refine aK (cs:=#[.int .i64 0,.slice none 0 0,.slice none 0 0]) ?_ 0 _ rfl;(with_reducible repeat(first|apply ag|apply aj|apply af));exact BK291.out) Try.underlying24 rfl (by kernel_rfl)) rfl ?_
      exact⟨_,_,by first|rfl|(simp <;> rfl)|(simp[*] <;> rfl),by first|exact Kd.df _ _ _ _ _|exact Kd.dL _ _ _ _ _|exact Kd.dM _ _ _ _ _|exact Kd.dK _ _ _ _ _|exact Kd.dJ _ _ _ _ _,by first|exact Kd.df _ _ _ _ _|exact Kd.dL _ _ _ _ _|exact Kd.dM _ _ _ _ _|exact Kd.dK _ _ _ _ _|exact Kd.dJ _ _ _ _ _,by with_reducible repeat(first|exact HB.out|apply ah|apply aa|apply ai|refine ae ?_ GE289.out|refine ae ?_ GE290.out|refine ae ?_ GE291.out|refine ae ?_ GE305.out)⟩
attribute [local go_sem] bJ bI bR bQ bA bz bM bL
set_option linter.unusedVariables false
set_option linter.unusedSimpArgs false
def impl_TakeExact.f (a0_0:Int) (l0_1:List (S35)) (l0_2:List (S35)) (a1_0:Int) (a1_1:Int):Option (Int×(List (S35))×(List (S35))×Bool):=(impl_GoodFree.f a0_0 l0_1 l0_2).bind fun t515=>(if t515=true then ((impl_isExtent.f a1_0 a1_1 a0_0).bind fun t516=>(if t516=true then ((impl_Free_changed.f a0_0 l0_1 l0_2 a1_0 a1_1 false).bind fun bt517=>(some (bt517.1,bt517.2.1,bt517.2.2.1,bt517.2.2.2))) else (some (0,([]:List (S35)),([]:List (S35)),false)))) else (some (0,([]:List (S35)),([]:List (S35)),false)))
set_option maxHeartbeats 8000000 in
set_option maxRecDepth 100000 in
theorem impl_TakeExact.calls (a0_0:Int) (A0_1:Option Addr) (c0_1:Nat) (l0_1:List (S35)) (A0_2:Option Addr) (c0_2:Nat) (l0_2:List (S35)) (a1_0:Int) (a1_1:Int) (r1:Int) (r2:List (S35)) (r3:List (S35)) (r4:Bool) (w:World) (hr0_1:Kd.C k35 w A0_1 l0_1.length l0_1) (hc0_1:l0_1.length≤c0_1) (hr0_2:Kd.C k35 w A0_2 l0_2.length l0_2) (hc0_2:l0_2.length≤c0_2) (h:impl_TakeExact.f a0_0 l0_1 l0_2 a1_0 a1_1=some (r1,r2,r3,r4)) :
  Calls Try.prog 30 #[.agg #[.int .i64 a0_0,.slice A0_1 l0_1.length c0_1,.slice A0_2 l0_2.length c0_2],.agg #[.int .i64 a1_0,.int .i64 a1_1]] w fun e w'=>∃ v1_ v2_:Value,e = .returned (.tuple #[.agg #[.int .i64 r1,v1_,v2_],.bool r4])∧Kd.R k35 35 w' w.heap.size (fun k_=>some k_≠(v2_:Value).ownBlock) v1_ r2∧Kd.R k35 35 w' w.heap.size (fun k_=>some k_≠(v1_:Value).ownBlock) v2_ r3∧Below w.heap.size w w':=by
 have hu24:=Try.underlying24
 have hu35:=Try.underlying35
 have HR0_1:=au hr0_1
 have HC0_1:=au hc0_1
 clear hr0_1 hc0_1
 have HR0_2:=au hr0_2
 have HC0_2:=au hc0_2
 clear hr0_2 hc0_2
 have HB:=au (Below.refl w.heap.size w)
 have H:((impl_GoodFree.f a0_0 l0_1 l0_2).bind fun t515=>(if t515=true then ((impl_isExtent.f a1_0 a1_1 a0_0).bind fun t516=>(if t516=true then ((impl_Free_changed.f a0_0 l0_1 l0_2 a1_0 a1_1 false).bind fun bt517=>(some (bt517.1,bt517.2.1,bt517.2.2.1,bt517.2.2.2))) else (some (0,([]:List (S35)),([]:List (S35)),false)))) else (some (0,([]:List (S35)),([]:List (S35)),false))))=some (r1,r2,r3,r4):=h
 clear h
 replace H:=Option.bind_eq_some_iff.mp H
 obtain⟨t515,A30,H⟩:=H
 replace H:(if t515=true then ((impl_isExtent.f a1_0 a1_1 a0_0).bind fun t516=>(if t516=true then ((impl_Free_changed.f a0_0 l0_1 l0_2 a1_0 a1_1 false).bind fun bt517=>(some (bt517.1,bt517.2.1,bt517.2.2.1,bt517.2.2.2))) else (some (0,([]:List (S35)),([]:List (S35)),false)))) else (some (0,([]:List (S35)),([]:List (S35)),false)))=some (r1,r2,r3,r4):=H
 have A3:=au A30
 clear A30
 by_cases c4:t515=true
 ·subst c4
  have H1:((impl_isExtent.f a1_0 a1_1 a0_0).bind fun t516=>(if t516=true then ((impl_Free_changed.f a0_0 l0_1 l0_2 a1_0 a1_1 false).bind fun bt517=>(some (bt517.1,bt517.2.1,bt517.2.2.1,bt517.2.2.2))) else (some (0,([]:List (S35)),([]:List (S35)),false))))=some (r1,r2,r3,r4):=by rw[if_pos rfl] at H;exact H
  clear H
  have H:=H1
  clear H1
  replace H:=Option.bind_eq_some_iff.mp H
  obtain⟨t516,A50,H⟩:=H
  replace H:(if t516=true then ((impl_Free_changed.f a0_0 l0_1 l0_2 a1_0 a1_1 false).bind fun bt517=>(some (bt517.1,bt517.2.1,bt517.2.2.1,bt517.2.2.2))) else (some (0,([]:List (S35)),([]:List (S35)),false)))=some (r1,r2,r3,r4):=H
  have A5:=au A50
  clear A50
  by_cases c6:t516=true
  ·subst c6
   have H1:((impl_Free_changed.f a0_0 l0_1 l0_2 a1_0 a1_1 false).bind fun bt517=>(some (bt517.1,bt517.2.1,bt517.2.2.1,bt517.2.2.2)))=some (r1,r2,r3,r4):=by rw[if_pos rfl] at H;exact H
   clear H
   have H:=H1
   clear H1
   replace H:=Option.bind_eq_some_iff.mp H
   obtain⟨⟨t517,t518,t521,t524⟩,A70,H⟩:=H
   replace H:(some (t517,t518,t521,t524))=some (r1,r2,r3,r4):=H
   have A7:=au A70
   clear A70
   simp only[Option.some.injEq,Prod.mk.injEq] at H
   obtain⟨rfl,rfl,rfl,rfl⟩:=H
   go_enter Try.func30,Try.ntmps30
   go_wp2_with (first|((with_reducible refine aM (N:=2) rfl ?_);refine aI ?hg (N:=2) ?hd (cs:=#[.int .i64 a0_0,.slice A0_1 l0_1.length c0_1,.slice A0_2 l0_2.length c0_2]) (t:=24) ?hr ?_;(case hd=>rfl);(case hg=>rfl);(case hr=>first|(go_simp;done)|(go_simp;rfl));intro gb512 hg w8 hbox hb;have BK512:=au (hbox);have GW512:=au ((by rw[hg];exact(az (by with_reducible repeat(first|exact HB.out|apply ah|apply aa|apply ai))):w.heap.size≤gb512));have GE512:=au ((by rw[hg];exact(az (by with_reducible repeat(first|exact HB.out|apply ah|apply aa|apply ai))):w.heap.size≤gb512));replace HB:=au (aA (by with_reducible repeat(first|exact HB.out|apply ah|apply aa|apply ai)) hb);clear hb hbox hg)|((with_reducible refine aM (N:=3) rfl ?_);refine aI ?hg (N:=3) ?hd (cs:=#[.int .i64 a1_0,.int .i64 a1_1]) (t:=35) ?hr ?_;(case hd=>rfl);(case hg=>rfl);(case hr=>first|(go_simp;done)|(go_simp;rfl));intro gb513 hg w9 hbox hb;have BK513:=au (hbox);have GW513:=au ((by rw[hg];exact(az (by with_reducible repeat(first|exact HB.out|apply ah|apply aa|apply ai|refine ae ?_ GE512.out))):w.heap.size≤gb513));have GE513:=au ((by rw[hg];exact(az (by with_reducible repeat(first|exact HB.out|apply ah|apply aa|apply ai|refine ae ?_ GE512.out))):w.heap.size≤gb513));replace HB:=au (aA (by with_reducible repeat(first|exact HB.out|apply ah|apply aa|apply ai|refine ae ?_ GE512.out)) hb);have NB512_513:=au ((by rw[hg];exact Nat.ne_of_lt (aG (g:=gb512) (o:=.cells #[.int .i64 a0_0,.slice A0_1 l0_1.length c0_1,.slice A0_2 l0_2.length c0_2] 24 (0,0)) (by(with_reducible repeat(first|apply ag|apply aj|apply af));exact BK512.out)):gb512≠gb513));have NB513_512:=au ((by rw[hg];exact Nat.ne_of_gt (aG (g:=gb512) (o:=.cells #[.int .i64 a0_0,.slice A0_1 l0_1.length c0_1,.slice A0_2 l0_2.length c0_2] 24 (0,0)) (by(with_reducible repeat(first|apply ag|apply aj|apply af));exact BK512.out)):gb513≠gb512));replace BK512:=au (ay (g:=gb512) (o:=.cells #[.int .i64 a0_0,.slice A0_1 l0_1.length c0_1,.slice A0_2 l0_2.length c0_2] 24 (0,0)) (by(with_reducible repeat(first|apply ag|apply aj|apply af));exact BK512.out) hb);clear hb hbox hg)|((with_reducible refine aM (N:=4) rfl ?_);refine aI ?hg (N:=4) ?hd (cs:=#[.int .i64 0,.slice none 0 0,.slice none 0 0]) (t:=24) ?hr ?_;(case hd=>rfl);(case hg=>rfl);(case hr=>first|(go_simp;done)|(go_simp;rfl));intro gb514 hg w10 hbox hb;have BK514:=au (hbox);have GW514:=au ((by rw[hg];exact(az (by with_reducible repeat(first|exact HB.out|apply ah|apply aa|apply ai|refine ae ?_ GE512.out|refine ae ?_ GE513.out))):w.heap.size≤gb514));have GE514:=au ((by rw[hg];exact(az (by with_reducible repeat(first|exact HB.out|apply ah|apply aa|apply ai|refine ae ?_ GE512.out|refine ae ?_ GE513.out))):w.heap.size≤gb514));replace HB:=au (aA (by with_reducible repeat(first|exact HB.out|apply ah|apply aa|apply ai|refine ae ?_ GE512.out|refine ae ?_ GE513.out)) hb);have NB512_514:=au ((by rw[hg];exact Nat.ne_of_lt (aG (g:=gb512) (o:=.cells #[.int .i64 a0_0,.slice A0_1 l0_1.length c0_1,.slice A0_2 l0_2.length c0_2] 24 (0,0)) (by(with_reducible repeat(first|apply ag|apply aj|apply af));exact BK512.out)):gb512≠gb514));have NB514_512:=au ((by rw[hg];exact Nat.ne_of_gt (aG (g:=gb512) (o:=.cells #[.int .i64 a0_0,.slice A0_1 l0_1.length c0_1,.slice A0_2 l0_2.length c0_2] 24 (0,0)) (by(with_reducible repeat(first|apply ag|apply aj|apply af));exact BK512.out)):gb514≠gb512));replace BK512:=au (ay (g:=gb512) (o:=.cells #[.int .i64 a0_0,.slice A0_1 l0_1.length c0_1,.slice A0_2 l0_2.length c0_2] 24 (0,0)) (by(with_reducible repeat(first|apply ag|apply aj|apply af));exact BK512.out) hb);have NB513_514:=au ((by rw[hg];exact Nat.ne_of_lt (aG (g:=gb513) (o:=.cells #[.int .i64 a1_0,.int .i64 a1_1] 35 (0,0)) (by(with_reducible repeat(first|apply ag|apply aj|apply af));exact BK513.out)):gb513≠gb514));have NB514_513:=au ((by rw[hg];exact Nat.ne_of_gt (aG (g:=gb513) (o:=.cells #[.int .i64 a1_0,.int .i64 a1_1] 35 (0,0)) (by(with_reducible repeat(first|apply ag|apply aj|apply af));exact BK513.out)):gb514≠gb513));replace BK513:=au (ay (g:=gb513) (o:=.cells #[.int .i64 a1_0,.int .i64 a1_1] 35 (0,0)) (by(with_reducible repeat(first|apply ag|apply aj|apply af));exact BK513.out) hb);clear hb hbox hg;have hnb11:=NB512_513.out;have hnc11:=NB513_512.out;have hnb12:=NB512_514.out;have hnc12:=NB514_512.out;have hcz13_0:w10.cell? ⟨gb512,0,none⟩=some (.int .i64 a0_0):=(ak BK512.out 0).trans rfl;have hcz13_1:w10.cell? ⟨gb512,1,none⟩=some (.slice A0_1 l0_1.length c0_1):=(ak BK512.out 1).trans rfl;have hcz13_2:w10.cell? ⟨gb512,2,none⟩=some (.slice A0_2 l0_2.length c0_2):=(ak BK512.out 2).trans rfl;have hfz13_0:=av BK512.out 0;have hfz13_1:=av BK512.out 1;have hfz13_2:=av BK512.out 2)|((with_reducible refine aT (f:=17) rfl ?_);refine bK (some 7) rfl rfl Try.func17 (by kernel_rfl) rfl #[.agg #[.int .i64 a0_0,.slice A0_1 l0_1.length c0_1,.slice A0_2 l0_2.length c0_2]] rfl (by(try simp only[amp_]);first|done|rfl|(simp only[ald_];rfl)) ?_;(with_reducible refine(impl_GoodFree.calls a0_0 _ _ l0_1 _ _ l0_2 true _ ?side1 ?side2 ?side3 ?side4 A3.out).mono ?_);(case side1=>repeat(first|exact(Kd.aN HR0_1.out HB.out)|(with_reducible first|apply Kd.aV|apply Kd.aW|apply Kd.bf)));(case side2=>exact HC0_1.out);(case side3=>repeat(first|exact(Kd.aN HR0_2.out HB.out)|(with_reducible first|apply Kd.aV|apply Kd.aW|apply Kd.bf)));(case side4=>exact HC0_2.out);rintro e w14 ⟨rfl,hb⟩;refine⟨_,rfl,?_⟩;replace BK512:=au (ay (g:=gb512) (o:=.cells #[.int .i64 a0_0,.slice A0_1 l0_1.length c0_1,.slice A0_2 l0_2.length c0_2] 24 (0,0)) (by(with_reducible repeat(first|apply ag|apply aj|apply af));exact BK512.out) hb);replace BK513:=au (ay (g:=gb513) (o:=.cells #[.int .i64 a1_0,.int .i64 a1_1] 35 (0,0)) (by(with_reducible repeat(first|apply ag|apply aj|apply af));exact BK513.out) hb);replace BK514:=au (ay (g:=gb514) (o:=.cells #[.int .i64 0,.slice none 0 0,.slice none 0 0] 24 (0,0)) (by(with_reducible repeat(first|apply ag|apply aj|apply af));exact BK514.out) hb);replace HB:=au (aA (by with_reducible repeat(first|exact HB.out|apply ah|apply aa|apply ai|refine ae ?_ GE512.out|refine ae ?_ GE513.out|refine ae ?_ GE514.out)) hb);(try clear hb);(try clear hb2);(try clear hk);(try clear hi);have hnb15:=NB513_514.out;have hnc15:=NB514_513.out;have hcz16_0:w14.cell? ⟨gb513,0,none⟩=some (.int .i64 a1_0):=(ak BK513.out 0).trans rfl;have hcz16_1:w14.cell? ⟨gb513,1,none⟩=some (.int .i64 a1_1):=(ak BK513.out 1).trans rfl;have hfz16_0:=av BK513.out 0;have hfz16_1:=av BK513.out 1;have hcz17_0:w14.cell? ⟨gb512,0,none⟩=some (.int .i64 a0_0):=(ak BK512.out 0).trans rfl;have hcz17_1:w14.cell? ⟨gb512,1,none⟩=some (.slice A0_1 l0_1.length c0_1):=(ak BK512.out 1).trans rfl;have hcz17_2:w14.cell? ⟨gb512,2,none⟩=some (.slice A0_2 l0_2.length c0_2):=(ak BK512.out 2).trans rfl;have hfz17_0:=av BK512.out 0;have hfz17_1:=av BK512.out 1;have hfz17_2:=av BK512.out 2)|(go_at_call 48;(with_reducible refine(impl_isExtent.calls a1_0 a1_1 a0_0 true _ A5.out).mono ?_);rintro e w18 ⟨rfl,hb⟩;replace BK512:=au (ay (g:=gb512) (o:=.cells #[.int .i64 a0_0,.slice A0_1 l0_1.length c0_1,.slice A0_2 l0_2.length c0_2] 24 (0,0)) (by(with_reducible repeat(first|apply ag|apply aj|apply af));exact BK512.out) hb);replace BK513:=au (ay (g:=gb513) (o:=.cells #[.int .i64 a1_0,.int .i64 a1_1] 35 (0,0)) (by(with_reducible repeat(first|apply ag|apply aj|apply af));exact BK513.out) hb);replace BK514:=au (ay (g:=gb514) (o:=.cells #[.int .i64 0,.slice none 0 0,.slice none 0 0] 24 (0,0)) (by(with_reducible repeat(first|apply ag|apply aj|apply af));exact BK514.out) hb);replace HB:=au (aA (by with_reducible repeat(first|exact HB.out|apply ah|apply aa|apply ai|refine ae ?_ GE512.out|refine ae ?_ GE513.out|refine ae ?_ GE514.out)) hb);(try clear hb);(try clear hb2);(try clear hk);(try clear hi);have hcz19_0:w18.cell? ⟨gb512,0,none⟩=some (.int .i64 a0_0):=(ak BK512.out 0).trans rfl;have hcz19_1:w18.cell? ⟨gb512,1,none⟩=some (.slice A0_1 l0_1.length c0_1):=(ak BK512.out 1).trans rfl;have hcz19_2:w18.cell? ⟨gb512,2,none⟩=some (.slice A0_2 l0_2.length c0_2):=(ak BK512.out 2).trans rfl;have hfz19_0:=av BK512.out 0;have hfz19_1:=av BK512.out 1;have hfz19_2:=av BK512.out 2;have hcz20_0:w18.cell? ⟨gb513,0,none⟩=some (.int .i64 a1_0):=(ak BK513.out 0).trans rfl;have hcz20_1:w18.cell? ⟨gb513,1,none⟩=some (.int .i64 a1_1):=(ak BK513.out 1).trans rfl;have hfz20_0:=av BK513.out 0;have hfz20_1:=av BK513.out 1)|((with_reducible refine aT (f:=49) rfl ?_);refine bK (some 19) rfl rfl Try.func49 (by kernel_rfl) rfl #[.agg #[.int .i64 a0_0,.slice A0_1 l0_1.length c0_1,.slice A0_2 l0_2.length c0_2],.agg #[.int .i64 a1_0,.int .i64 a1_1],.bool false] rfl (by(try simp only[amp_]);first|done|rfl|(simp only[ald_];rfl)) ?_;(with_reducible refine(impl_Free_changed.calls a0_0 _ _ l0_1 _ _ l0_2 a1_0 a1_1 false t517 t518 t521 t524 _ ?side1 ?side2 ?side3 ?side4 A7.out).mono ?_);(case side1=>repeat(first|exact(Kd.aN HR0_1.out HB.out)|(with_reducible first|apply Kd.aV|apply Kd.aW|apply Kd.bf)));(case side2=>exact HC0_1.out);(case side3=>repeat(first|exact(Kd.aN HR0_2.out HB.out)|(with_reducible first|apply Kd.aV|apply Kd.aW|apply Kd.bf)));(case side4=>exact HC0_2.out);rintro e w21 ⟨v519,v522,rfl,ho0,ho1,hb⟩;refine⟨_,rfl,?_⟩;have HO520:=au (Kd.bC (Kd.dI ho0 (g:=gb513) (o:=.cells #[.int .i64 a1_0,.int .i64 a1_1] 35 (0,0)) (by(with_reducible repeat(first|apply ag|apply aj|apply af));exact BK513.out)) (az (by with_reducible repeat(first|exact HB.out|apply ah|apply aa|apply ai|refine ae ?_ GE512.out|refine ae ?_ GE513.out|refine ae ?_ GE514.out))));have HO523:=au (Kd.bC (Kd.dI ho1 (g:=gb513) (o:=.cells #[.int .i64 a1_0,.int .i64 a1_1] 35 (0,0)) (by(with_reducible repeat(first|apply ag|apply aj|apply af));exact BK513.out)) (az (by with_reducible repeat(first|exact HB.out|apply ah|apply aa|apply ai|refine ae ?_ GE512.out|refine ae ?_ GE513.out|refine ae ?_ GE514.out))));replace BK512:=au (ay (g:=gb512) (o:=.cells #[.int .i64 a0_0,.slice A0_1 l0_1.length c0_1,.slice A0_2 l0_2.length c0_2] 24 (0,0)) (by(with_reducible repeat(first|apply ag|apply aj|apply af));exact BK512.out) hb);replace BK513:=au (ay (g:=gb513) (o:=.cells #[.int .i64 a1_0,.int .i64 a1_1] 35 (0,0)) (by(with_reducible repeat(first|apply ag|apply aj|apply af));exact BK513.out) hb);replace BK514:=au (ay (g:=gb514) (o:=.cells #[.int .i64 0,.slice none 0 0,.slice none 0 0] 24 (0,0)) (by(with_reducible repeat(first|apply ag|apply aj|apply af));exact BK514.out) hb);replace HB:=au (aA (by with_reducible repeat(first|exact HB.out|apply ah|apply aa|apply ai|refine ae ?_ GE512.out|refine ae ?_ GE513.out|refine ae ?_ GE514.out)) hb);(try clear hb);(try clear hb2);(try clear hk);(try clear hi);(try clear ho0);(try clear ho1);have hcz22_0:w21.cell? ⟨gb514,0,none⟩=some (.int .i64 0):=(ak BK514.out 0).trans rfl;have hcz22_1:w21.cell? ⟨gb514,1,none⟩=some (.slice none 0 0):=(ak BK514.out 1).trans rfl;have hcz22_2:w21.cell? ⟨gb514,2,none⟩=some (.slice none 0 0):=(ak BK514.out 2).trans rfl;have hfz22_0:=av BK514.out 0;have hfz22_1:=av BK514.out 1;have hfz22_2:=av BK514.out 2;obtain⟨Ao23,co23,eo23⟩:=Kd.bq HO520.out;subst eo23;obtain⟨Ao24,co24,eo24⟩:=Kd.bq HO523.out;subst eo24))
   refine bodyPost_ret (cK rfl _ _ gb514 24 #[.int .i64 t517,.slice Ao23 t518.length co23,.slice Ao24 t521.length co24] (0,0) _ rfl (by(with_reducible repeat(first|apply ag|apply aj|apply af));refine aK (cs:=#[.int .i64 t517,.slice Ao23 t518.length co23,.slice none 0 0]) ?_ 2 _ rfl;(with_reducible repeat(first|apply ag|apply aj|apply af));refine aK (cs:=#[.int .i64 t517,.slice none 0 0,.slice none 0 0]) ?_ 1 _ rfl;(with_reducible repeat(first|apply ag|apply aj|apply af));refine aK (cs:=#[.int .i64 0,.slice none 0 0,.slice none 0 0]) ?_ 0 _ rfl;(with_reducible repeat(first|apply ag|apply aj|apply af));exact BK514.out) Try.underlying24 rfl (by kernel_rfl)) rfl ?_
   exact⟨_,_,by first|rfl|(simp <;> rfl)|(simp[*] <;> rfl),by(with_reducible repeat(first|apply Kd.aD|apply Kd.aC|apply Kd.aJ));exact Kd.aY (Kd.aU (p:=⟨gb514,2,none⟩) (Kd.aU (p:=⟨gb514,1,none⟩) (Kd.aU (p:=⟨gb514,0,none⟩) (Kd.bG HO520.out BK514.out (by decide)) (fun _ hk=>hk.2) (.int .i64 t517)) (fun _ hk=>hk.2) (.slice Ao23 t518.length co23)) (fun _ hk=>hk.2) (.slice Ao24 t521.length co24)) (fun _ hk=>hk.1.1),by(with_reducible repeat(first|apply Kd.aD|apply Kd.aC|apply Kd.aJ));exact Kd.aY (Kd.aU (p:=⟨gb514,2,none⟩) (Kd.aU (p:=⟨gb514,1,none⟩) (Kd.aU (p:=⟨gb514,0,none⟩) (Kd.bG HO523.out BK514.out (by decide)) (fun _ hk=>hk.2) (.int .i64 t517)) (fun _ hk=>hk.2) (.slice Ao23 t518.length co23)) (fun _ hk=>hk.2) (.slice Ao24 t521.length co24)) (fun _ hk=>hk.1.1),by with_reducible repeat(first|exact HB.out|apply ah|apply aa|apply ai|refine ae ?_ GE512.out|refine ae ?_ GE513.out|refine ae ?_ GE514.out)⟩
  ·replace c6:=Bool.eq_false_iff.mpr c6
   subst c6
   have H1:(some (0,([]:List (S35)),([]:List (S35)),false))=some (r1,r2,r3,r4):=by rw[if_neg (show ¬ (false=true) by decide)] at H;exact H
   clear H
   have H:=H1
   clear H1
   simp only[Option.some.injEq,Prod.mk.injEq] at H
   obtain⟨rfl,rfl,rfl,rfl⟩:=H
   go_enter Try.func30,Try.ntmps30
   go_wp2_with (first|((with_reducible refine aM (N:=2) rfl ?_);refine aI ?hg (N:=2) ?hd (cs:=#[.int .i64 a0_0,.slice A0_1 l0_1.length c0_1,.slice A0_2 l0_2.length c0_2]) (t:=24) ?hr ?_;(case hd=>rfl);(case hg=>rfl);(case hr=>first|(go_simp;done)|(go_simp;rfl));intro gb512 hg w25 hbox hb;have BK512:=au (hbox);have GW512:=au ((by rw[hg];exact(az (by with_reducible repeat(first|exact HB.out|apply ah|apply aa|apply ai))):w.heap.size≤gb512));have GE512:=au ((by rw[hg];exact(az (by with_reducible repeat(first|exact HB.out|apply ah|apply aa|apply ai))):w.heap.size≤gb512));replace HB:=au (aA (by with_reducible repeat(first|exact HB.out|apply ah|apply aa|apply ai)) hb);clear hb hbox hg)|((with_reducible refine aM (N:=3) rfl ?_);refine aI ?hg (N:=3) ?hd (cs:=#[.int .i64 a1_0,.int .i64 a1_1]) (t:=35) ?hr ?_;(case hd=>rfl);(case hg=>rfl);(case hr=>first|(go_simp;done)|(go_simp;rfl));intro gb513 hg w26 hbox hb;have BK513:=au (hbox);have GW513:=au ((by rw[hg];exact(az (by with_reducible repeat(first|exact HB.out|apply ah|apply aa|apply ai|refine ae ?_ GE512.out))):w.heap.size≤gb513));have GE513:=au ((by rw[hg];exact(az (by with_reducible repeat(first|exact HB.out|apply ah|apply aa|apply ai|refine ae ?_ GE512.out))):w.heap.size≤gb513));replace HB:=au (aA (by with_reducible repeat(first|exact HB.out|apply ah|apply aa|apply ai|refine ae ?_ GE512.out)) hb);have NB512_513:=au ((by rw[hg];exact Nat.ne_of_lt (aG (g:=gb512) (o:=.cells #[.int .i64 a0_0,.slice A0_1 l0_1.length c0_1,.slice A0_2 l0_2.length c0_2] 24 (0,0)) (by(with_reducible repeat(first|apply ag|apply aj|apply af));exact BK512.out)):gb512≠gb513));have NB513_512:=au ((by rw[hg];exact Nat.ne_of_gt (aG (g:=gb512) (o:=.cells #[.int .i64 a0_0,.slice A0_1 l0_1.length c0_1,.slice A0_2 l0_2.length c0_2] 24 (0,0)) (by(with_reducible repeat(first|apply ag|apply aj|apply af));exact BK512.out)):gb513≠gb512));replace BK512:=au (ay (g:=gb512) (o:=.cells #[.int .i64 a0_0,.slice A0_1 l0_1.length c0_1,.slice A0_2 l0_2.length c0_2] 24 (0,0)) (by(with_reducible repeat(first|apply ag|apply aj|apply af));exact BK512.out) hb);clear hb hbox hg)|((with_reducible refine aM (N:=4) rfl ?_);refine aI ?hg (N:=4) ?hd (cs:=#[.int .i64 0,.slice none 0 0,.slice none 0 0]) (t:=24) ?hr ?_;(case hd=>rfl);(case hg=>rfl);(case hr=>first|(go_simp;done)|(go_simp;rfl));intro gb514 hg w27 hbox hb;have BK514:=au (hbox);have GW514:=au ((by rw[hg];exact(az (by with_reducible repeat(first|exact HB.out|apply ah|apply aa|apply ai|refine ae ?_ GE512.out|refine ae ?_ GE513.out))):w.heap.size≤gb514));have GE514:=au ((by rw[hg];exact(az (by with_reducible repeat(first|exact HB.out|apply ah|apply aa|apply ai|refine ae ?_ GE512.out|refine ae ?_ GE513.out))):w.heap.size≤gb514));replace HB:=au (aA (by with_reducible repeat(first|exact HB.out|apply ah|apply aa|apply ai|refine ae ?_ GE512.out|refine ae ?_ GE513.out)) hb);have NB512_514:=au ((by rw[hg];exact Nat.ne_of_lt (aG (g:=gb512) (o:=.cells #[.int .i64 a0_0,.slice A0_1 l0_1.length c0_1,.slice A0_2 l0_2.length c0_2] 24 (0,0)) (by(with_reducible repeat(first|apply ag|apply aj|apply af));exact BK512.out)):gb512≠gb514));have NB514_512:=au ((by rw[hg];exact Nat.ne_of_gt (aG (g:=gb512) (o:=.cells #[.int .i64 a0_0,.slice A0_1 l0_1.length c0_1,.slice A0_2 l0_2.length c0_2] 24 (0,0)) (by(with_reducible repeat(first|apply ag|apply aj|apply af));exact BK512.out)):gb514≠gb512));replace BK512:=au (ay (g:=gb512) (o:=.cells #[.int .i64 a0_0,.slice A0_1 l0_1.length c0_1,.slice A0_2 l0_2.length c0_2] 24 (0,0)) (by(with_reducible repeat(first|apply ag|apply aj|apply af));exact BK512.out) hb);have NB513_514:=au ((by rw[hg];exact Nat.ne_of_lt (aG (g:=gb513) (o:=.cells #[.int .i64 a1_0,.int .i64 a1_1] 35 (0,0)) (by(with_reducible repeat(first|apply ag|apply aj|apply af));exact BK513.out)):gb513≠gb514));have NB514_513:=au ((by rw[hg];exact Nat.ne_of_gt (aG (g:=gb513) (o:=.cells #[.int .i64 a1_0,.int .i64 a1_1] 35 (0,0)) (by(with_reducible repeat(first|apply ag|apply aj|apply af));exact BK513.out)):gb514≠gb513));replace BK513:=au (ay (g:=gb513) (o:=.cells #[.int .i64 a1_0,.int .i64 a1_1] 35 (0,0)) (by(with_reducible repeat(first|apply ag|apply aj|apply af));exact BK513.out) hb);clear hb hbox hg;have hnb28:=NB512_513.out;have hnc28:=NB513_512.out;have hnb29:=NB512_514.out;have hnc29:=NB514_512.out;have hcz30_0:w27.cell? ⟨gb512,0,none⟩=some (.int .i64 a0_0):=(ak BK512.out 0).trans rfl;have hcz30_1:w27.cell? ⟨gb512,1,none⟩=some (.slice A0_1 l0_1.length c0_1):=(ak BK512.out 1).trans rfl;have hcz30_2:w27.cell? ⟨gb512,2,none⟩=some (.slice A0_2 l0_2.length c0_2):=(ak BK512.out 2).trans rfl;have hfz30_0:=av BK512.out 0;have hfz30_1:=av BK512.out 1;have hfz30_2:=av BK512.out 2)|((with_reducible refine aT (f:=17) rfl ?_);refine bK (some 7) rfl rfl Try.func17 (by kernel_rfl) rfl #[.agg #[.int .i64 a0_0,.slice A0_1 l0_1.length c0_1,.slice A0_2 l0_2.length c0_2]] rfl (by(try simp only[amp_]);first|done|rfl|(simp only[ald_];rfl)) ?_;(with_reducible refine(impl_GoodFree.calls a0_0 _ _ l0_1 _ _ l0_2 true _ ?side1 ?side2 ?side3 ?side4 A3.out).mono ?_);(case side1=>repeat(first|exact(Kd.aN HR0_1.out HB.out)|(with_reducible first|apply Kd.aV|apply Kd.aW|apply Kd.bf)));(case side2=>exact HC0_1.out);(case side3=>repeat(first|exact(Kd.aN HR0_2.out HB.out)|(with_reducible first|apply Kd.aV|apply Kd.aW|apply Kd.bf)));(case side4=>exact HC0_2.out);rintro e w31 ⟨rfl,hb⟩;refine⟨_,rfl,?_⟩;replace BK512:=au (ay (g:=gb512) (o:=.cells #[.int .i64 a0_0,.slice A0_1 l0_1.length c0_1,.slice A0_2 l0_2.length c0_2] 24 (0,0)) (by(with_reducible repeat(first|apply ag|apply aj|apply af));exact BK512.out) hb);replace BK513:=au (ay (g:=gb513) (o:=.cells #[.int .i64 a1_0,.int .i64 a1_1] 35 (0,0)) (by(with_reducible repeat(first|apply ag|apply aj|apply af));exact BK513.out) hb);replace BK514:=au (ay (g:=gb514) (o:=.cells #[.int .i64 0,.slice none 0 0,.slice none 0 0] 24 (0,0)) (by(with_reducible repeat(first|apply ag|apply aj|apply af));exact BK514.out) hb);replace HB:=au (aA (by with_reducible repeat(first|exact HB.out|apply ah|apply aa|apply ai|refine ae ?_ GE512.out|refine ae ?_ GE513.out|refine ae ?_ GE514.out)) hb);(try clear hb);(try clear hb2);(try clear hk);(try clear hi);have hnb32:=NB513_514.out;have hnc32:=NB514_513.out;have hcz33_0:w31.cell? ⟨gb513,0,none⟩=some (.int .i64 a1_0):=(ak BK513.out 0).trans rfl;have hcz33_1:w31.cell? ⟨gb513,1,none⟩=some (.int .i64 a1_1):=(ak BK513.out 1).trans rfl;have hfz33_0:=av BK513.out 0;have hfz33_1:=av BK513.out 1;have hcz34_0:w31.cell? ⟨gb512,0,none⟩=some (.int .i64 a0_0):=(ak BK512.out 0).trans rfl;have hcz34_1:w31.cell? ⟨gb512,1,none⟩=some (.slice A0_1 l0_1.length c0_1):=(ak BK512.out 1).trans rfl;have hcz34_2:w31.cell? ⟨gb512,2,none⟩=some (.slice A0_2 l0_2.length c0_2):=(ak BK512.out 2).trans rfl;have hfz34_0:=av BK512.out 0;have hfz34_1:=av BK512.out 1;have hfz34_2:=av BK512.out 2)|(go_at_call 48;(with_reducible refine(impl_isExtent.calls a1_0 a1_1 a0_0 false _ A5.out).mono ?_);rintro e w35 ⟨rfl,hb⟩;replace BK512:=au (ay (g:=gb512) (o:=.cells #[.int .i64 a0_0,.slice A0_1 l0_1.length c0_1,.slice A0_2 l0_2.length c0_2] 24 (0,0)) (by(with_reducible repeat(first|apply ag|apply aj|apply af));exact BK512.out) hb);replace BK513:=au (ay (g:=gb513) (o:=.cells #[.int .i64 a1_0,.int .i64 a1_1] 35 (0,0)) (by(with_reducible repeat(first|apply ag|apply aj|apply af));exact BK513.out) hb);replace BK514:=au (ay (g:=gb514) (o:=.cells #[.int .i64 0,.slice none 0 0,.slice none 0 0] 24 (0,0)) (by(with_reducible repeat(first|apply ag|apply aj|apply af));exact BK514.out) hb);replace HB:=au (aA (by with_reducible repeat(first|exact HB.out|apply ah|apply aa|apply ai|refine ae ?_ GE512.out|refine ae ?_ GE513.out|refine ae ?_ GE514.out)) hb);(try clear hb);(try clear hb2);(try clear hk);(try clear hi);have hcz36_0:w35.cell? ⟨gb514,0,none⟩=some (.int .i64 0):=(ak BK514.out 0).trans rfl;have hcz36_1:w35.cell? ⟨gb514,1,none⟩=some (.slice none 0 0):=(ak BK514.out 1).trans rfl;have hcz36_2:w35.cell? ⟨gb514,2,none⟩=some (.slice none 0 0):=(ak BK514.out 2).trans rfl;have hfz36_0:=av BK514.out 0;have hfz36_1:=av BK514.out 1;have hfz36_2:=av BK514.out 2))
   refine bodyPost_ret (cK rfl _ _ gb514 24 #[.int .i64 0,.slice none 0 0,.slice none 0 0] (0,0) _ rfl (by(with_reducible repeat(first|apply ag|apply aj|apply af));refine aK (cs:=#[.int .i64 0,.slice none 0 0,.slice none 0 0]) ?_ 2 _ rfl;(with_reducible repeat(first|apply ag|apply aj|apply af));refine aK (cs:=#[.int .i64 0,.slice none 0 0,.slice none 0 0]) ?_ 1 _ rfl;(with_reducible repeat(first|apply ag|apply aj|apply af));refine aK (cs:=#[.int .i64 0,.slice none 0 0,.slice none 0 0]) ?_ 0 _ rfl;(with_reducible repeat(first|apply ag|apply aj|apply af));exact BK514.out) Try.underlying24 rfl (by kernel_rfl)) rfl ?_
   exact⟨_,_,by first|rfl|(simp <;> rfl)|(simp[*] <;> rfl),by first|exact Kd.df _ _ _ _ _|exact Kd.dL _ _ _ _ _|exact Kd.dM _ _ _ _ _|exact Kd.dK _ _ _ _ _|exact Kd.dJ _ _ _ _ _,by first|exact Kd.df _ _ _ _ _|exact Kd.dL _ _ _ _ _|exact Kd.dM _ _ _ _ _|exact Kd.dK _ _ _ _ _|exact Kd.dJ _ _ _ _ _,by with_reducible repeat(first|exact HB.out|apply ah|apply aa|apply ai|refine ae ?_ GE512.out|refine ae ?_ GE513.out|refine ae ?_ GE514.out)⟩
 ·replace c4:=Bool.eq_false_iff.mpr c4
  subst c4
  have H1:(some (0,([]:List (S35)),([]:List (S35)),false))=some (r1,r2,r3,r4):=by rw[if_neg (show ¬ (false=true) by decide)] at H;exact H
  clear H
  have H:=H1
  clear H1
  simp only[Option.some.injEq,Prod.mk.injEq] at H
  obtain⟨rfl,rfl,rfl,rfl⟩:=H
  go_enter Try.func30,Try.ntmps30
  go_wp2_with (first|((with_reducible refine aM (N:=2) rfl ?_);refine aI ?hg (N:=2) ?hd (cs:=#[.int .i64 a0_0,.slice A0_1 l0_1.length c0_1,.slice A0_2 l0_2.length c0_2]) (t:=24) ?hr ?_;(case hd=>rfl);(case hg=>rfl);(case hr=>first|(go_simp;done)|(go_simp;rfl));intro gb512 hg w37 hbox hb;have BK512:=au (hbox);have GW512:=au ((by rw[hg];exact(az (by with_reducible repeat(first|exact HB.out|apply ah|apply aa|apply ai))):w.heap.size≤gb512));have GE512:=au ((by rw[hg];exact(az (by with_reducible repeat(first|exact HB.out|apply ah|apply aa|apply ai))):w.heap.size≤gb512));replace HB:=au (aA (by with_reducible repeat(first|exact HB.out|apply ah|apply aa|apply ai)) hb);clear hb hbox hg)|((with_reducible refine aM (N:=3) rfl ?_);refine aI ?hg (N:=3) ?hd (cs:=#[.int .i64 a1_0,.int .i64 a1_1]) (t:=35) ?hr ?_;(case hd=>rfl);(case hg=>rfl);(case hr=>first|(go_simp;done)|(go_simp;rfl));intro gb513 hg w38 hbox hb;have BK513:=au (hbox);have GW513:=au ((by rw[hg];exact(az (by with_reducible repeat(first|exact HB.out|apply ah|apply aa|apply ai|refine ae ?_ GE512.out))):w.heap.size≤gb513));have GE513:=au ((by rw[hg];exact(az (by with_reducible repeat(first|exact HB.out|apply ah|apply aa|apply ai|refine ae ?_ GE512.out))):w.heap.size≤gb513));replace HB:=au (aA (by with_reducible repeat(first|exact HB.out|apply ah|apply aa|apply ai|refine ae ?_ GE512.out)) hb);have NB512_513:=au ((by rw[hg];exact Nat.ne_of_lt (aG (g:=gb512) (o:=.cells #[.int .i64 a0_0,.slice A0_1 l0_1.length c0_1,.slice A0_2 l0_2.length c0_2] 24 (0,0)) (by(with_reducible repeat(first|apply ag|apply aj|apply af));exact BK512.out)):gb512≠gb513));have NB513_512:=au ((by rw[hg];exact Nat.ne_of_gt (aG (g:=gb512) (o:=.cells #[.int .i64 a0_0,.slice A0_1 l0_1.length c0_1,.slice A0_2 l0_2.length c0_2] 24 (0,0)) (by(with_reducible repeat(first|apply ag|apply aj|apply af));exact BK512.out)):gb513≠gb512));replace BK512:=au (ay (g:=gb512) (o:=.cells #[.int .i64 a0_0,.slice A0_1 l0_1.length c0_1,.slice A0_2 l0_2.length c0_2] 24 (0,0)) (by(with_reducible repeat(first|apply ag|apply aj|apply af));exact BK512.out) hb);clear hb hbox hg)|((with_reducible refine aM (N:=4) rfl ?_);refine aI ?hg (N:=4) ?hd (cs:=#[.int .i64 0,.slice none 0 0,.slice none 0 0]) (t:=24) ?hr ?_;(case hd=>rfl);(case hg=>rfl);(case hr=>first|(go_simp;done)|(go_simp;rfl));intro gb514 hg w39 hbox hb;have BK514:=au (hbox);have GW514:=au ((by rw[hg];exact(az (by with_reducible repeat(first|exact HB.out|apply ah|apply aa|apply ai|refine ae ?_ GE512.out|refine ae ?_ GE513.out))):w.heap.size≤gb514));have GE514:=au ((by rw[hg];exact(az (by with_reducible repeat(first|exact HB.out|apply ah|apply aa|apply ai|refine ae ?_ GE512.out|refine ae ?_ GE513.out))):w.heap.size≤gb514));replace HB:=au (aA (by with_reducible repeat(first|exact HB.out|apply ah|apply aa|apply ai|refine ae ?_ GE512.out|refine ae ?_ GE513.out)) hb);have NB512_514:=au ((by rw[hg];exact Nat.ne_of_lt (aG (g:=gb512) (o:=.cells #[.int .i64 a0_0,.slice A0_1 l0_1.length c0_1,.slice A0_2 l0_2.length c0_2] 24 (0,0)) (by(with_reducible repeat(first|apply ag|apply aj|apply af));exact BK512.out)):gb512≠gb514));have NB514_512:=au ((by rw[hg];exact Nat.ne_of_gt (aG (g:=gb512) (o:=.cells #[.int .i64 a0_0,.slice A0_1 l0_1.length c0_1,.slice A0_2 l0_2.length c0_2] 24 (0,0)) (by(with_reducible repeat(first|apply ag|apply aj|apply af));exact BK512.out)):gb514≠gb512));replace BK512:=au (ay (g:=gb512) (o:=.cells #[.int .i64 a0_0,.slice A0_1 l0_1.length c0_1,.slice A0_2 l0_2.length c0_2] 24 (0,0)) (by(with_reducible repeat(first|apply ag|apply aj|apply af));exact BK512.out) hb);have NB513_514:=au ((by rw[hg];exact Nat.ne_of_lt (aG (g:=gb513) (o:=.cells #[.int .i64 a1_0,.int .i64 a1_1] 35 (0,0)) (by(with_reducible repeat(first|apply ag|apply aj|apply af));exact BK513.out)):gb513≠gb514));have NB514_513:=au ((by rw[hg];exact Nat.ne_of_gt (aG (g:=gb513) (o:=.cells #[.int .i64 a1_0,.int .i64 a1_1] 35 (0,0)) (by(with_reducible repeat(first|apply ag|apply aj|apply af));exact BK513.out)):gb514≠gb513));replace BK513:=au (ay (g:=gb513) (o:=.cells #[.int .i64 a1_0,.int .i64 a1_1] 35 (0,0)) (by(with_reducible repeat(first|apply ag|apply aj|apply af));exact BK513.out) hb);clear hb hbox hg;have hnb40:=NB512_513.out;have hnc40:=NB513_512.out;have hnb41:=NB512_514.out;have hnc41:=NB514_512.out;have hcz42_0:w39.cell? ⟨gb512,0,none⟩=some (.int .i64 a0_0):=(ak BK512.out 0).trans rfl;have hcz42_1:w39.cell? ⟨gb512,1,none⟩=some (.slice A0_1 l0_1.length c0_1):=(ak BK512.out 1).trans rfl;have hcz42_2:w39.cell? ⟨gb512,2,none⟩=some (.slice A0_2 l0_2.length c0_2):=(ak BK512.out 2).trans rfl;have hfz42_0:=av BK512.out 0;have hfz42_1:=av BK512.out 1;have hfz42_2:=av BK512.out 2)|((with_reducible refine aT (f:=17) rfl ?_);refine bK (some 7) rfl rfl Try.func17 (by kernel_rfl) rfl #[.agg #[.int .i64 a0_0,.slice A0_1 l0_1.length c0_1,.slice A0_2 l0_2.length c0_2]] rfl (by(try simp only[amp_]);first|done|rfl|(simp only[ald_];rfl)) ?_;(with_reducible refine(impl_GoodFree.calls a0_0 _ _ l0_1 _ _ l0_2 false _ ?side1 ?side2 ?side3 ?side4 A3.out).mono ?_);(case side1=>repeat(first|exact(Kd.aN HR0_1.out HB.out)|(with_reducible first|apply Kd.aV|apply Kd.aW|apply Kd.bf)));(case side2=>exact HC0_1.out);(case side3=>repeat(first|exact(Kd.aN HR0_2.out HB.out)|(with_reducible first|apply Kd.aV|apply Kd.aW|apply Kd.bf)));(case side4=>exact HC0_2.out);rintro e w43 ⟨rfl,hb⟩;refine⟨_,rfl,?_⟩;replace BK512:=au (ay (g:=gb512) (o:=.cells #[.int .i64 a0_0,.slice A0_1 l0_1.length c0_1,.slice A0_2 l0_2.length c0_2] 24 (0,0)) (by(with_reducible repeat(first|apply ag|apply aj|apply af));exact BK512.out) hb);replace BK513:=au (ay (g:=gb513) (o:=.cells #[.int .i64 a1_0,.int .i64 a1_1] 35 (0,0)) (by(with_reducible repeat(first|apply ag|apply aj|apply af));exact BK513.out) hb);replace BK514:=au (ay (g:=gb514) (o:=.cells #[.int .i64 0,.slice none 0 0,.slice none 0 0] 24 (0,0)) (by(with_reducible repeat(first|apply ag|apply aj|apply af));exact BK514.out) hb);replace HB:=au (aA (by with_reducible repeat(first|exact HB.out|apply ah|apply aa|apply ai|refine ae ?_ GE512.out|refine ae ?_ GE513.out|refine ae ?_ GE514.out)) hb);(try clear hb);(try clear hb2);(try clear hk);(try clear hi);have hnb44:=NB514_513.out;have hnc44:=NB513_514.out;have hcz45_0:w43.cell? ⟨gb514,0,none⟩=some (.int .i64 0):=(ak BK514.out 0).trans rfl;have hcz45_1:w43.cell? ⟨gb514,1,none⟩=some (.slice none 0 0):=(ak BK514.out 1).trans rfl;have hcz45_2:w43.cell? ⟨gb514,2,none⟩=some (.slice none 0 0):=(ak BK514.out 2).trans rfl;have hfz45_0:=av BK514.out 0;have hfz45_1:=av BK514.out 1;have hfz45_2:=av BK514.out 2))
  refine bodyPost_ret (cK rfl _ _ gb514 24 #[.int .i64 0,.slice none 0 0,.slice none 0 0] (0,0) _ rfl (by(with_reducible repeat(first|apply ag|apply aj|apply af));refine aK (cs:=#[.int .i64 0,.slice none 0 0,.slice none 0 0]) ?_ 2 _ rfl;(with_reducible repeat(first|apply ag|apply aj|apply af));refine aK (cs:=#[.int .i64 0,.slice none 0 0,.slice none 0 0]) ?_ 1 _ rfl;(with_reducible repeat(first|apply ag|apply aj|apply af));refine aK (cs:=#[.int .i64 0,.slice none 0 0,.slice none 0 0]) ?_ 0 _ rfl;(with_reducible repeat(first|apply ag|apply aj|apply af));exact BK514.out) Try.underlying24 rfl (by kernel_rfl)) rfl ?_
  exact⟨_,_,by first|rfl|(simp <;> rfl)|(simp[*] <;> rfl),by first|exact Kd.df _ _ _ _ _|exact Kd.dL _ _ _ _ _|exact Kd.dM _ _ _ _ _|exact Kd.dK _ _ _ _ _|exact Kd.dJ _ _ _ _ _,by first|exact Kd.df _ _ _ _ _|exact Kd.dL _ _ _ _ _|exact Kd.dM _ _ _ _ _|exact Kd.dK _ _ _ _ _|exact Kd.dJ _ _ _ _ _,by with_reducible repeat(first|exact HB.out|apply ah|apply aa|apply ai|refine ae ?_ GE512.out|refine ae ?_ GE513.out|refine ae ?_ GE514.out)⟩
open Go.RowKit Go.Proofs.YtelblhkbogljnaaW.PrintWords Go.Proofs.YtelblhkbogljnaaW.PrintLast Go.Proofs.YtelblhkbogljnaaW.PrintMore Go.Proofs.Ytelblhkbogljnaa.E
theorem l5 {P:List EX} {i:Nat} (h:i<P.length):P=P.take i++P[i]::P.drop (i+1):=by
  rw[List.getElem_cons_drop,List.take_append_drop]
def mP (A:List EX) (o x:EX) (D:List EX):List EX:=A ++ ((if x.f0 > o.f0 then [⟨o.f0,x.f0 - o.f0⟩] else []) ++ ((if x.f0+x.f1<o.f0+o.f1 then [⟨x.f0+x.f1,o.f0+o.f1 - (x.f0+x.f1)⟩] else [])++D))
section
variable {B:Int} {P S:List EX}
theorem qj {A D : List EX} {o x : EX} (hs : Sep B (A ++ o :: D)) (h0 : o.f0 ≤ x.f0) (h1 : 1 ≤ x.f1) (h2 : x.f0 + x.f1 ≤ o.f0 + o.f1) : Sep B (mP A o x D) ∧ ∀ k, cov (mP A o x D) k = kP (A ++ o :: D) x false k := by
  have ho:=hs.a o (by simp)
  have hA:=hs.left
  have hD:=hs.right.tail
  have hoD:∀ y∈D,o.f0+o.f1<y.f0:=(List.pairwise_cons.1 hs.right.p).1
  have hAo:∀ y∈A,y.f0+y.f1<o.f0:=fun y hy=>hs.between y hy o (List.mem_cons_self ..)
  have hAD:∀ y∈A,∀ z∈D,y.f0+y.f1<z.f0:=fun y hy z hz=>hs.between y hy z (List.mem_cons_of_mem _ hz)
  have one:∀ y:EX,(0≤y.f0∧1≤y.f1∧y.f0+y.f1≤B)→Sep B [y]:=fun y hy=>⟨fun z hz=>by obtain rfl:=List.mem_singleton.1 hz;exact hy,List.pairwise_singleton ..⟩
  have hl:Sep B (if x.f0 > o.f0 then [(⟨o.f0,x.f0 - o.f0⟩:EX)] else [])∧(∀ y∈(if x.f0 > o.f0 then [(⟨o.f0,x.f0 - o.f0⟩:EX)] else []),y.f0=o.f0∧y.f0+y.f1=x.f0)∧∀ k,cov (if x.f0 > o.f0 then [(⟨o.f0,x.f0 - o.f0⟩:EX)] else []) k=decide (o.f0≤k∧k<x.f0):=by
    by_cases c:x.f0 > o.f0
    · rw[if_pos c]
      refine⟨one _ ⟨ho.1,by show 1≤x.f0 - o.f0;omega,by show o.f0 + (x.f0 - o.f0)≤B;omega⟩,fun y hy=>by obtain rfl:=List.mem_singleton.1 hy;exact⟨rfl,by show o.f0 + (x.f0 - o.f0)=x.f0;omega⟩,fun k=>?_⟩
      rw[iG]
      show decide (o.f0≤k∧k<o.f0 + (x.f0 - o.f0))=_
      rw[decide_eq_decide];omega
    · rw[if_neg c]
      exact⟨Sep.nil B,fun y hy=>(by cases hy),fun k=>by rw[fU,decide_eq_false (by omega)]⟩
  have hr:Sep B (if x.f0+x.f1<o.f0+o.f1 then [(⟨x.f0+x.f1,o.f0+o.f1 - (x.f0+x.f1)⟩:EX)] else [])∧(∀ y∈(if x.f0+x.f1<o.f0+o.f1 then [(⟨x.f0+x.f1,o.f0+o.f1 - (x.f0+x.f1)⟩:EX)] else []),y.f0=x.f0+x.f1∧y.f0+y.f1=o.f0+o.f1)∧∀ k,cov (if x.f0+x.f1<o.f0+o.f1 then [(⟨x.f0+x.f1,o.f0+o.f1 - (x.f0+x.f1)⟩:EX)] else []) k=decide (x.f0+x.f1≤k∧k<o.f0+o.f1):=by
    by_cases c:x.f0+x.f1<o.f0+o.f1
    · rw[if_pos c]
      refine⟨one _ ⟨by show 0≤x.f0+x.f1;omega,by show 1≤o.f0+o.f1 - (x.f0+x.f1);omega,by show x.f0+x.f1 + (o.f0+o.f1 - (x.f0+x.f1))≤B;omega⟩,fun y hy=>by obtain rfl:=List.mem_singleton.1 hy;exact⟨rfl,by show x.f0+x.f1 + (o.f0+o.f1 - (x.f0+x.f1))=_;omega⟩,fun k=>?_⟩
      rw[iG]
      show decide (x.f0+x.f1≤k∧k<x.f0+x.f1 + (o.f0+o.f1 - (x.f0+x.f1)))=_
      rw[decide_eq_decide];omega
    · rw[if_neg c]
      exact⟨Sep.nil B,fun y hy=>(by cases hy),fun k=>by rw[fU,decide_eq_false (by omega)]⟩
  unfold mP
  generalize (if x.f0 > o.f0 then [(⟨o.f0,x.f0 - o.f0⟩:EX)] else [])=U at hl
  generalize (if x.f0+x.f1<o.f0+o.f1 then [(⟨x.f0+x.f1,o.f0+o.f1 - (x.f0+x.f1)⟩:EX)] else [])=V at hr
  refine⟨hA.append (hl.1.append (hr.1.append hD (fun y hy z hz=>?_)) (fun y hy z hz=>?_)) (fun y hy z hz=>?_),fun k=>?_⟩
  · have:=(hr.2.1 y hy).2;have:=hoD z hz;omega
  · have h3:=(hl.2.1 y hy).2
    rcases List.mem_append.1 hz with h|h
    · have:=(hr.2.1 z h).1;omega
    · have:=hoD z h;omega
  · have h3:=hAo y hy
    rcases List.mem_append.1 hz with h|h
    · have:=(hl.2.1 z h).1;omega
    · rcases List.mem_append.1 h with h|h
      · have:=(hr.2.1 z h).1;omega
      · exact hAD y hy z h
  · rw [dR, dR, dR, hl.2.2, hr.2.2]
    unfold kP
    rw[dR]
    show _=if inX x k=true then false else (cov A k || (inX o k || cov D k))
    have hAk:cov A k=true→k<o.f0:=fun h=>by
      obtain⟨y,hy,_,h4⟩:=gW.1 h
      have:=hAo y hy;omega
    have hDk:cov D k=true→o.f0+o.f1<k:=fun h=>hs.right.far h
    by_cases c:inX x k=true
    · rw[if_pos c]
      rw[dx] at c
      have e1:cov A k=false:=by cases hb:cov A k with|false=>rfl|true=>have:=hAk hb;omega
      have e2:cov D k=false:=by cases hb:cov D k with|false=>rfl|true=>have:=hDk hb;omega
      rw[e1,e2,decide_eq_false (by omega),decide_eq_false (by omega)];rfl
    · rw[if_neg c]
      rw[dx] at c
      have:inX o k = (decide (o.f0≤k∧k<x.f0) || decide (x.f0+x.f1≤k∧k<o.f0+o.f1)):=by
        rw[Bool.eq_iff_iff,Bool.or_eq_true,dx,decide_eq_true_iff,decide_eq_true_iff]
        omega
      rw[this,Bool.or_assoc]
theorem o7 {i:Nat} (hi:i<P.length) (hP:P.length≤60) {x:EX} (hb:B≤400) (ho:0≤P[i].f0∧1≤P[i].f1∧P[i].f0+P[i].f1≤B) (h0:P[i].f0≤x.f0) (h1:1≤x.f1) (h2:x.f0+x.f1≤P[i].f0+P[i].f1) :
    spec_l5Cut.f P (i:Int) x.f0 x.f1=some (mP (P.take i) P[i] x (P.drop (i+1))):=by
  have er:=iU hi
  have e1:wrap64 ((i:Int)+1) = ((i+1:Nat):Int):=by rw[w64 (by omega) (by omega)];omega
  unfold spec_l5Cut.f mP
  rw[er]
  generalize P[i]=o at ho h0 h2
  have w1:wrap64 (x.f0 - o.f0)=x.f0 - o.f0:=w64 (by omega) (by omega)
  have w2:wrap64 (x.f0+x.f1)=x.f0+x.f1:=w64 (by omega) (by omega)
  have w3:wrap64 (o.f0+o.f1)=o.f0+o.f1:=w64 (by omega) (by omega)
  have w4:wrap64 (o.f0+o.f1 - (x.f0+x.f1))=o.f0+o.f1 - (x.f0+x.f1):=w64 (by omega) (by omega)
  rw[e1,w2,w3,w1,w4]
  have t1:(P.take i).length=i:=by rw[List.length_take];omega
  have t2:(P.drop (i+1)).length=P.length - (i+1):=List.length_drop
  simp only[Option.bind_some,List.nil_append,Int.toNat_natCast,List.length_nil,List.length_append,List.length_singleton,t1,t2]
  rw[if_pos (by omega),if_pos (by omega),if_pos (by omega),if_pos (by omega)]
  by_cases c:x.f0 > o.f0
  · rw[if_pos c,if_pos c,if_pos (by omega)]
    by_cases d:x.f0+x.f1<o.f0+o.f1
    · rw[if_pos d,if_pos d,if_pos (by omega),if_pos (by omega),if_pos (by omega),if_pos (by omega)]
      simp
    · rw[if_neg d,if_neg d,if_pos (by omega),if_pos (by omega),if_pos (by omega)]
      simp
  · rw[if_neg c,if_neg c]
    by_cases d:x.f0+x.f1<o.f0+o.f1
    · rw[if_pos d,if_pos d,if_pos (by omega),if_pos (by omega),if_pos (by omega),if_pos (by omega)]
      simp
    · rw[if_neg d,if_neg d,if_pos (by omega),if_pos (by omega),if_pos (by omega)]
      simp
def fT:List EX→Int→EX→Int
  | [],_,_=>-1
  | o::r,i,x=>if o.f0≤x.f0∧x.f0+x.f1≤o.f0+o.f1 then i else fT r (i+1) x
theorem ja:∀ (l:List EX) (i:Int) (x:EX),0≤i→(fT l i x = -1∧∀ o∈l,¬ (o.f0≤x.f0∧x.f0+x.f1≤o.f0+o.f1))∨∃ (j:Nat) (h:j<l.length),fT l i x=i + (j:Int)∧l[j].f0≤x.f0∧x.f0+x.f1≤l[j].f0+l[j].f1
  | [],i,x,_=>.inl ⟨rfl,fun o h=>by cases h⟩
  | o :: r, i, x, h => by
    rw[fT]
    by_cases c:o.f0≤x.f0∧x.f0+x.f1≤o.f0+o.f1
    · rw[if_pos c]
      exact .inr ⟨0,by simp,by omega,c⟩
    · rw[if_neg c]
      rcases ja r (i+1) x (by omega) with⟨e,h1⟩|⟨j,hj,e,h1⟩
      · exact .inl ⟨e,fun y hy=>by rcases List.mem_cons.1 hy with h2|h2;exact h2▸c;exact h1 y h2⟩
      · exact .inr ⟨j+1,by simp;omega,by rw[e];omega,h1⟩
theorem jJ (hB : B ≤ 400) (hP : P.length ≤ 60) (hS : Sep B P) {x : EX} (hx : 0 ≤ x.f0 ∧ x.f0 ≤ 400 ∧ 0 ≤ x.f1 ∧ x.f1 ≤ 400) : ∀ (f i : Nat), i + f = P.length → Ev (fun k => spec_l5Within.l0 k P (P.length : Int) (i : Int) x.f0 x.f1) (fT (P.drop i) (i : Int) x) := by
  intro f
  induction f with
  | zero=>
    intro i hi
    refine Ev.step (fun _=>spec_l5Within.l0.eq_2 ..) (bH (by omega) (bU ?_))
    rw[List.drop_of_length_le (by omega),fT]
  | succ f ih=>
    intro i hi
    have hil:i<P.length:=by omega
    have ho:=hS.a _ (List.getElem_mem hil)
    have er:=iU hil
    refine Ev.step (fun _=>spec_l5Within.l0.eq_2 ..) (aZ (by omega) (aZ (by omega) (aZ (by omega) ?_)))
    rw[fI hil,er,fT]
    generalize P[i]=o at ho
    have ei:wrap64 ((i:Int)+1) = ((i+1:Nat):Int):=by rw[w64 (by omega) (by omega)];omega
    rw[ei,w64 (x:=x.f0+x.f1) (by omega) (by omega),w64 (x:=o.f0+o.f1) (by omega) (by omega)]
    have hn:=ih (i+1) (by omega)
    rw[show((i+1:Nat):Int) = (i:Int)+1 by omega] at hn ⊢
    by_cases c0:o.f0≤x.f0
    · refine aZ c0 ?_
      by_cases c1:x.f0+x.f1≤o.f0+o.f1
      · exact aZ c1 (bU (by rw[if_pos ⟨c0,c1⟩]))
      · rw[if_neg (fun h=>c1 h.2)]
        exact bH c1 hn
    · rw[if_neg (fun h=>c0 h.1)]
      exact bH c0 hn
structure Took (B:Int) (P S:List EX) (x:EX) (Q:List EX):Prop where
  g:dn B P S=true
  ok:0≤x.f0∧1≤x.f1∧x.f0+x.f1≤B
  s:Sep B Q
  n:Q.length≤60
  c:∀ k,cov Q k=kP P x false k
  d:∀ k,inX x k=true→cov P k=true
theorem mX (m:List EX) (hB:1≤B∧B≤400) (hm:m.length≤10000):Ev (fun k=>spec_l5Of.f k B m) (B,m,bD m):=by
  unfold spec_l5Of.f
  exact fQ (aZ (by simp;omega) (Ev.bind (jA m (by omega)) (bU rfl)))
theorem oL (A D:List EX) (o x:EX):(mP A o x D).length≤A.length+D.length+2:=by
  unfold mP
  rw[List.length_append,List.length_append,List.length_append]
  split <;> split <;> simp <;> omega
theorem mK (hg:dn B P S=true) {x:EX} (hx:0≤x.f0∧1≤x.f1∧x.f0+x.f1≤B) (hc:∀ k,inX x k=true→cov P k=true) :
    ∃ (j:Nat) (Q:List EX),Ev (fun k=>spec_l5Within.f k P x.f0 x.f1) (j:Int)∧spec_l5Cut.f P (j:Int) x.f0 x.f1=some Q∧Q.length≤200∧Sep B Q∧(∀ k,cov Q k=kP P x false k)∧impl_Free_changed.f B P S x.f0 x.f1 false=some (kR B Q):=by
  obtain⟨hB,hP,hS,hSS⟩:=dX.1 hg
  obtain⟨y,hy,y1,y2⟩:=nT hS hx.2.1 hc
  have hw:=jJ hB.2 hP hS (x:=x) (by omega) P.length 0 (by omega)
  rw[List.drop_zero] at hw
  rcases ja P 0 x (Int.le_refl _) with⟨_,h⟩|⟨j,hj,e,h1,h2⟩
  · exact absurd ⟨y1,y2⟩ (h y hy)
  · have ho:=hS.a _ (List.getElem_mem hj)
    have hcut:=o7 hj hP hB.2 ho h1 hx.2.1 h2
    have hs2:=hS
    rw[l5 hj] at hs2
    obtain⟨q1,q2⟩:=qj hs2 h1 hx.2.1 h2
    rw[← l5 hj] at q2
    have hl:=oL (P.take j) (P.drop (j+1)) P[j] x
    rw[List.length_take,List.length_drop] at hl
    refine⟨j,_,?_,hcut,by omega,q1,q2,?_⟩
    · have:fT P ((0:Nat):Int) x = (j:Int):=by rw[show((0:Nat):Int)=0 from rfl,e];omega
      rw[this] at hw
      exact hw
    · exact iy hB hP hS S hx false (fun k hk=>by rw[hc k hk];rfl) q1 (fun k _ _=>q2 k)
theorem j5 (B : Int) (P S : List EX) (x : EX) (hsB : -4611686018427387904 ≤ B ∧ B ≤ 4611686018427387904) (hsP : P.length ≤ 100000) : ∃ r, Ev (fun k => spec_TakeExact.f k B P S x.f0 x.f1) r ∧ impl_TakeExact.f B P S x.f0 x.f1 = some r ∧ (r = (0, [], [], false) ∨ ∃ Q, r = (B, Q, bD Q, true) ∧ Took B P S x Q) := by
  have hg:=fe B P S hsB hsP
  unfold impl_TakeExact.f impl_GoodFree.f
  have no:Ev (fun k=>spec_TakeExact.j0 k true B P S x.f0 x.f1) (0,[],[],false):=Ev.step (fun _=>spec_TakeExact.j0.eq_2 ..) (bV rfl (bU rfl))
  cases hb:dn B P S with
  | false=>
    rw[hb] at hg
    exact⟨_,Ev.bind hg (dE rfl no),rfl,.inl rfl⟩
  | true=>
    rw[hb] at hg
    obtain⟨hB,hP,hS,hSS⟩:=dX.1 hb
    rw[Option.bind_some,if_pos rfl,gV B x hB,Option.bind_some]
    cases hok:okX B x with
    | false=>exact⟨_,Ev.bind hg (bV rfl (bO (gT hB x) (by rw[hok];exact no))),rfl,.inl rfl⟩
    | true=>
      have hx:=eO.1 hok
      rw[if_pos rfl]
      by_cases hall:∀ k,inX x k=true→cov P k=true
      · obtain⟨j,Q,e1,e2,e3,e4,e5,e6⟩:=mK hb hx hall
        have hs:Ev (fun k=>spec_TakeExact.f k B P S x.f0 x.f1) (kR B Q):=by
          unfold spec_TakeExact.f
          refine Ev.bind hg (bV rfl (bO (gT hB x) ?_))
          rw[hok]
          refine Ev.step (fun _=>spec_TakeExact.j0.eq_2 ..) (bH (by decide) (Ev.bind e1 (bH (by omega) (bO e2 (Ev.bind (mX Q hB (by omega)) (Ev.bind (fe B Q (bD Q) (by omega) (by omega)) ?_))))))
          rw[fV hB e4]
          unfold kR
          by_cases hn:Q.length≤60
          · rw[if_pos hn];exact bV (decide_eq_true hn) (bU rfl)
          · rw[if_neg hn];exact dE (decide_eq_false hn) (bU rfl)
        rw[e6]
        refine⟨_,hs,rfl,?_⟩
        unfold kR
        by_cases hn:Q.length≤60
        · rw[if_pos hn];exact .inr ⟨Q,rfl,⟨hb,hx,e4,hn,e5,hall⟩⟩
        · rw[if_neg hn];exact .inl rfl
      · have hno:∃ k,inX x k=true∧cov P k=false:=by
          refine Classical.byContradiction fun h=>hall fun k hk=>?_
          cases hc:cov P k with
          | true=>rfl
          | false=>exact absurd ⟨k,hk,hc⟩ h
        rw[jU hB hP hS S hx false hno]
        refine⟨_,?_,rfl,.inl rfl⟩
        unfold spec_TakeExact.f
        refine Ev.bind hg (bV rfl (bO (gT hB x) ?_))
        rw[hok]
        have hw:=jJ hB.2 hP hS (x:=x) (by omega) P.length 0 (by omega)
        rw[List.drop_zero] at hw
        rcases ja P 0 x (Int.le_refl _) with⟨e,_⟩|⟨j,hj,e,h1,h2⟩
        · rw[show fT P ((0:Nat):Int) x = -1 from e] at hw
          exact Ev.step (fun _=>spec_TakeExact.j0.eq_2 ..) (bH (by decide) (Ev.bind (show Ev (fun k=>spec_l5Within.f k P x.f0 x.f1) (-1) from hw) (aZ (by omega) (bU rfl))))
        · exfalso
          obtain⟨k,hk,hck⟩:=hno
          rw[dx] at hk
          have:cov P k=true:=gW.2 ⟨_,List.getElem_mem hj,by omega⟩
          rw[this] at hck;cases hck
end
attribute [local go_sem] bJ bI bR bQ bA bz bM bL
set_option linter.unusedVariables false
set_option linter.unusedSimpArgs false
def spec_l5Gap.f (a0:Int) (a1:Int):Option (Int):=if a0<a1 then (some (wrap64 (a1 - a0))) else (some (wrap64 (a0 - a1)))
set_option maxHeartbeats 8000000 in
set_option maxRecDepth 100000 in
theorem spec_l5Gap.calls (a0:Int) (a1:Int) (r:Int) (w:World) (h:spec_l5Gap.f a0 a1=some r) :
  Calls Try.prog 78 #[.int .i64 a0,.int .i64 a1] w fun e w'=>e = .returned (.int .i64 r)∧Drawn0 w w':=by
 have H:(if a0<a1 then (some (wrap64 (a1 - a0))) else (some (wrap64 (a0 - a1))))=some r:=h
 clear h
 by_cases c3:a0<a1
 ·rw[if_pos c3] at H
  have c3b0:decide (a0<a1)=true:=decide_eq_true c3
  clear c3
  obtain rfl:=Option.some.inj H
  go_enter Try.func78,Try.ntmps78
  go_wp2
  go_ret
  exact⟨by first|rfl|(simp;done)|(simp[*];done),by repeat(first|exact Drawn0.refl _|apply Drawn0.step)⟩
 ·rw[if_neg c3] at H
  have c3b0:decide (a0<a1)=false:=decide_eq_false c3
  clear c3
  obtain rfl:=Option.some.inj H
  go_enter Try.func78,Try.ntmps78
  go_wp2
  go_ret
  exact⟨by first|rfl|(simp;done)|(simp[*];done),by repeat(first|exact Drawn0.refl _|apply Drawn0.step)⟩
attribute [local go_sem] bJ bI bR bQ bA bz bM bL
set_option linter.unusedVariables false
set_option linter.unusedSimpArgs false
mutual
def spec_l5Pick.l0:Nat→Int→Int→List (S35)→Int→Int→Option (Int)
 | 0,_,_,_,_,_=>none
 | k+1,x1,x9,x55,x56,x57=>if x57<x56 then (if 0≤x57 then (if x57 < (x55.length:Int) then (if ((ax x55 x57).f1)≥x1 then (some ((ax x55 x57).f0)) else (spec_l5Pick.l0 k x1 x9 x55 x56 (wrap64 (x57+1)))) else (none)) else (none)) else (some x9)
def spec_l5Pick.l1:Nat→Int→Int→List (S35)→Int→Int→Option (Int)
 | 0,_,_,_,_,_=>none
 | k+1,x1,x9,x71,x72,x73=>if x73<x72 then (if 0≤x73 then (if x73 < (x71.length:Int) then (if ((ax x71 x73).f1)≥x1 then (some ((ax x71 x73).f0)) else (spec_l5Pick.l1 k x1 x9 x71 x72 (wrap64 (x73+1)))) else (none)) else (none)) else (some x9)
def spec_l5Pick.l2:Nat→Int→Int→Int→List (S35)→Int→Int→Option (Int)
 | 0,_,_,_,_,_,_=>none
 | k+1,x1,x3,x9,x20,x21,x22=>if x22<x21 then (if 0≤x22 then (if x22 < (x20.length:Int) then (spec_l5Pick.l3 k x1 x3 x9 ((ax x20 x22).f0) x20 x21 x22 ((ax x20 x22).f0) ((ax x20 x22).f1)) else (none)) else (none)) else (some x9)
def spec_l5Pick.l3:Nat→Int→Int→Int→Int→List (S35)→Int→Int→Int→Int→Option (Int)
 | 0,_,_,_,_,_,_,_,_,_=>none
 | k+1,x1,x3,x9,x17,x20,x21,x22,x216000,x216001=>if (wrap64 (x17+x1))≤(wrap64 (x216000+x216001)) then (if x9<0 then (spec_l5Pick.l3 k x1 x3 x17 (wrap64 (x17+1)) x20 x21 x22 x216000 x216001) else ((spec_l5Gap.f x17 x3).bind fun t216=>((spec_l5Gap.f x9 x3).bind fun t217=>(if t216<t217 then (spec_l5Pick.l3 k x1 x3 x17 (wrap64 (x17+1)) x20 x21 x22 x216000 x216001) else (spec_l5Pick.l3 k x1 x3 x9 (wrap64 (x17+1)) x20 x21 x22 x216000 x216001))))) else (spec_l5Pick.l2 k x1 x3 x9 x20 x21 (wrap64 (x22+1)))
end
def spec_l5Pick.f (k:Nat) (a0_0:Int) (l0_1:List (S35)) (l0_2:List (S35)) (a1:Int) (a2:Int) (a3:Int):Option (Int):=if a2=1 then (spec_l5Pick.l0 k a1 (-1) l0_1 (l0_1.length:Int) 0) else (if a2=2 then (spec_l5Pick.l1 k a1 (-1) l0_2 (l0_2.length:Int) 0) else (if a2=3 then (if (l0_2.length:Int) > 0 then (if 0≤(wrap64 ((l0_2.length:Int) - 1)) then (if (wrap64 ((l0_2.length:Int) - 1)) < (l0_2.length:Int) then (if ((ax l0_2 (wrap64 ((l0_2.length:Int) - 1))).f1)≥a1 then (some ((ax l0_2 (wrap64 ((l0_2.length:Int) - 1))).f0)) else (some (-1))) else (none)) else (none)) else (some (-1))) else (spec_l5Pick.l2 k a1 a3 (-1) l0_1 (l0_1.length:Int) 0)))
set_option maxHeartbeats 8000000 in
set_option maxRecDepth 100000 in
theorem spec_l5Pick.calls (k : Nat) (a0_0 : Int) (A0_1 : Option Addr) (c0_1 : Nat) (l0_1 : List (S35)) (A0_2 : Option Addr) (c0_2 : Nat) (l0_2 : List (S35)) (a1 : Int) (a2 : Int) (a3 : Int) (r : Int) (w : World) (hr0_1 : Kd.C k35 w A0_1 l0_1.length l0_1) (hc0_1 : l0_1.length ≤ c0_1) (hr0_2 : Kd.C k35 w A0_2 l0_2.length l0_2) (hc0_2 : l0_2.length ≤ c0_2) (h : spec_l5Pick.f k a0_0 l0_1 l0_2 a1 a2 a3 = some r) :
  Calls Try.prog 56 #[.agg #[.int .i64 a0_0,.slice A0_1 l0_1.length c0_1,.slice A0_2 l0_2.length c0_2],.int .i64 a1,.int .i64 a2,.int .i64 a3] w fun e w'=>e = .returned (.int .i64 r)∧Below w.heap.size w w':=by
 have hu24:=Try.underlying24
 have hu35:=Try.underlying35
 have HR0_1:=au hr0_1
 have HC0_1:=au hc0_1
 clear hr0_1 hc0_1
 have HR0_2:=au hr0_2
 have HC0_2:=au hc0_2
 clear hr0_2 hc0_2
 have HB:=au (Below.refl w.heap.size w)
 have H:(if a2=1 then (spec_l5Pick.l0 k a1 (-1) l0_1 (l0_1.length:Int) 0) else (if a2=2 then (spec_l5Pick.l1 k a1 (-1) l0_2 (l0_2.length:Int) 0) else (if a2=3 then (if (l0_2.length:Int) > 0 then (if 0≤(wrap64 ((l0_2.length:Int) - 1)) then (if (wrap64 ((l0_2.length:Int) - 1)) < (l0_2.length:Int) then (if ((ax l0_2 (wrap64 ((l0_2.length:Int) - 1))).f1)≥a1 then (some ((ax l0_2 (wrap64 ((l0_2.length:Int) - 1))).f0)) else (some (-1))) else (none)) else (none)) else (some (-1))) else (spec_l5Pick.l2 k a1 a3 (-1) l0_1 (l0_1.length:Int) 0))))=some r:=h
 clear h
 by_cases c5:a2=1
 ·rw [if_pos c5] at H
  have c5b0:(a2 == 1)=true:=beq_iff_eq.mpr c5
  have c5b1:(a2 != 1)=false:=bne_eq_false_iff_eq.mpr c5
  clear c5
  have H':=au H
  clear H
  go_enter Try.func56,Try.ntmps56
  go_wp2_with (first|((with_reducible refine aM (N:=4) rfl ?_);refine aI ?hg (N:=4) ?hd (cs:=#[.int .i64 a0_0,.slice A0_1 l0_1.length c0_1,.slice A0_2 l0_2.length c0_2]) (t:=24) ?hr ?_;(case hd=>rfl);(case hg=>rfl);(case hr=>first|(go_simp;done)|(go_simp;rfl));intro gb207 hg w6 hbox hb;have BK207:=au (hbox);have GW207:=au ((by rw[hg];exact(az (by with_reducible repeat(first|exact HB.out|apply ah|apply aa|apply ai))):w.heap.size≤gb207));have GE207:=au ((by rw[hg];exact(az (by with_reducible repeat(first|exact HB.out|apply ah|apply aa|apply ai))):w.heap.size≤gb207));replace HB:=au (aA (by with_reducible repeat(first|exact HB.out|apply ah|apply aa|apply ai)) hb);clear hb hbox hg;have hcz7_0:w6.cell? ⟨gb207,0,none⟩=some (.int .i64 a0_0):=(ak BK207.out 0).trans rfl;have hcz7_1:w6.cell? ⟨gb207,1,none⟩=some (.slice A0_1 l0_1.length c0_1):=(ak BK207.out 1).trans rfl;have hcz7_2:w6.cell? ⟨gb207,2,none⟩=some (.slice A0_2 l0_2.length c0_2):=(ak BK207.out 2).trans rfl;have hfz7_0:=av BK207.out 0;have hfz7_1:=av BK207.out 1;have hfz7_2:=av BK207.out 2))
  go_loopg [57] k (fun kq v57 w'=>∃ (x57_1:Int),v57 = .int .i64 x57_1∧Aside0 (spec_l5Pick.l0 kq a1 (-1) l0_1 (l0_1.length:Int) x57_1=some r)∧Aside0 (kq≤k)∧Aside0 (w'.heap[gb207]? = some (.cells #[.int .i64 a0_0,(.slice A0_1 l0_1.length c0_1),(.slice A0_2 l0_2.length c0_2)] 24 (0,0)))∧Aside0 (Below w.heap.size w w'))
  case atStart=>exact⟨(0),(by first|rfl|(simp;done)|(simp[*];done)),H',⟨Nat.le_refl _⟩,⟨by(with_reducible repeat(first|apply ag|apply aj|apply af));exact BK207.out⟩,⟨by with_reducible repeat(first|exact HB.out|apply ah|apply aa|apply ai|refine ae ?_ GE207.out)⟩⟩
  case round =>
   clear H'
   try clear p2
   try clear c5
   try clear c5b0
   try clear c5b1
   try clear p6
   try clear hcz7_0
   try clear hcz7_1
   try clear hcz7_2
   try clear hfz7_0
   try clear hfz7_1
   try clear hfz7_2
   obtain⟨x57_1,rfl,HA,HK1,BK207,HB⟩:=hrel
   cases gk with
   | zero=>exact absurd HA.out (by simp[spec_l5Pick.l0])
   | succ k1=>
    have H:=HA.out
    clear HA
    simp only[spec_l5Pick.l0] at H
    by_cases c8:x57_1 < (l0_1.length:Int)
    ·rw [if_pos c8] at H
     have c8b0:decide (x57_1 < (l0_1.length:Int))=true:=decide_eq_true c8
     clear c8
     by_cases c9:0≤x57_1
     ·rw[if_pos c9] at H
      have c9b0:decide (0≤x57_1)=true:=decide_eq_true c9
      clear c9
      by_cases c10:x57_1 < (l0_1.length:Int)
      ·rw[if_pos c10] at H
       have c10b0:decide (x57_1 < (l0_1.length:Int))=true:=decide_eq_true c10
       clear c10
       by_cases c11:((ax l0_1 x57_1).f1)≥a1
       ·rw[if_pos c11] at H
        have c11b0:decide (a1≤((ax l0_1 x57_1).f1))=true:=decide_eq_true c11
        clear c11
        obtain rfl:=Option.some.inj H
        have p208:0≤(x57_1:Int):=of_decide_eq_true (by assumption)
        have q208:x57_1 < (l0_1.length:Int):=of_decide_eq_true (by assumption)
        obtain⟨ad208,e208,hx208_0,hx208_1⟩:=bE HR0_1.out x57_1 p208 q208
        cases e208
        replace hx208_0:=(HB.out.cell (World.block_lt_of_cell? w _ hx208_0)).trans hx208_0
        replace hx208_1:=(HB.out.cell (World.block_lt_of_cell? w _ hx208_1)).trans hx208_1
        replace p208:=eq_true p208
        replace q208:=eq_true q208
        go_wp2_with (first|((with_reducible refine aM (N:=11) rfl ?_);refine aI ?hg (N:=11) ?hd (cs:=#[.int .i64 0,.int .i64 0]) (t:=35) ?hr ?_;(case hd=>rfl);(case hg=>rfl);(case hr=>first|(go_simp;done)|(go_simp;rfl));intro gb209 hg w12 hbox hb;have BK209:=au (hbox);have GW209:=au ((by rw[hg];exact(az (by with_reducible repeat(first|exact HB.out|apply ah|apply aa|apply ai|refine ae ?_ GE207.out))):w.heap.size≤gb209));have GE209:=au ((by rw[hg];exact(az (by with_reducible repeat(first|exact HB.out|apply ah|apply aa|apply ai|refine ae ?_ GE207.out))):w.heap.size≤gb209));replace HB:=au (aA (by with_reducible repeat(first|exact HB.out|apply ah|apply aa|apply ai|refine ae ?_ GE207.out)) hb);have NB207_209:=au ((by rw[hg];exact Nat.ne_of_lt (aG (g:=gb207) (o:=.cells #[.int .i64 a0_0,.slice (some ad208) l0_1.length c0_1,.slice A0_2 l0_2.length c0_2] 24 (0,0)) (by(with_reducible repeat(first|apply ag|apply aj|apply af));exact BK207.out)):gb207≠gb209));have NB209_207:=au ((by rw[hg];exact Nat.ne_of_gt (aG (g:=gb207) (o:=.cells #[.int .i64 a0_0,.slice (some ad208) l0_1.length c0_1,.slice A0_2 l0_2.length c0_2] 24 (0,0)) (by(with_reducible repeat(first|apply ag|apply aj|apply af));exact BK207.out)):gb209≠gb207));replace BK207:=au (ay (g:=gb207) (o:=.cells #[.int .i64 a0_0,.slice (some ad208) l0_1.length c0_1,.slice A0_2 l0_2.length c0_2] 24 (0,0)) (by(with_reducible repeat(first|apply ag|apply aj|apply af));exact BK207.out) hb);clear hb hbox hg;have hnb13:=NB209_207.out;have hnc13:=NB207_209.out;have hcz14_0:w12.cell? ⟨gb209,0,none⟩=some (.int .i64 0):=(ak BK209.out 0).trans rfl;have hcz14_1:w12.cell? ⟨gb209,1,none⟩=some (.int .i64 0):=(ak BK209.out 1).trans rfl;have hfz14_0:=av BK209.out 0;have hfz14_1:=av BK209.out 1))
        go_ret
        exact⟨by first|rfl|(simp <;> rfl)|(simp[*] <;> rfl),by with_reducible repeat(first|exact HB.out|apply ah|apply aa|apply ai|refine ae ?_ GE207.out|refine ae ?_ GE209.out)⟩
       ·rw[if_neg c11] at H
        have c11b0:decide (a1≤((ax l0_1 x57_1).f1))=false:=decide_eq_false c11
        clear c11
        have H':=au H
        clear H
        have p208:0≤(x57_1:Int):=of_decide_eq_true (by assumption)
        have q208:x57_1 < (l0_1.length:Int):=of_decide_eq_true (by assumption)
        obtain⟨ad208,e208,hx208_0,hx208_1⟩:=bE HR0_1.out x57_1 p208 q208
        cases e208
        replace hx208_0:=(HB.out.cell (World.block_lt_of_cell? w _ hx208_0)).trans hx208_0
        replace hx208_1:=(HB.out.cell (World.block_lt_of_cell? w _ hx208_1)).trans hx208_1
        replace p208:=eq_true p208
        replace q208:=eq_true q208
        go_wp2_with (first|((with_reducible refine aM (N:=11) rfl ?_);refine aI ?hg (N:=11) ?hd (cs:=#[.int .i64 0,.int .i64 0]) (t:=35) ?hr ?_;(case hd=>rfl);(case hg=>rfl);(case hr=>first|(go_simp;done)|(go_simp;rfl));intro gb209 hg w15 hbox hb;have BK209:=au (hbox);have GW209:=au ((by rw[hg];exact(az (by with_reducible repeat(first|exact HB.out|apply ah|apply aa|apply ai|refine ae ?_ GE207.out))):w.heap.size≤gb209));have GE209:=au ((by rw[hg];exact(az (by with_reducible repeat(first|exact HB.out|apply ah|apply aa|apply ai|refine ae ?_ GE207.out))):w.heap.size≤gb209));replace HB:=au (aA (by with_reducible repeat(first|exact HB.out|apply ah|apply aa|apply ai|refine ae ?_ GE207.out)) hb);have NB207_209:=au ((by rw[hg];exact Nat.ne_of_lt (aG (g:=gb207) (o:=.cells #[.int .i64 a0_0,.slice (some ad208) l0_1.length c0_1,.slice A0_2 l0_2.length c0_2] 24 (0,0)) (by(with_reducible repeat(first|apply ag|apply aj|apply af));exact BK207.out)):gb207≠gb209));have NB209_207:=au ((by rw[hg];exact Nat.ne_of_gt (aG (g:=gb207) (o:=.cells #[.int .i64 a0_0,.slice (some ad208) l0_1.length c0_1,.slice A0_2 l0_2.length c0_2] 24 (0,0)) (by(with_reducible repeat(first|apply ag|apply aj|apply af));exact BK207.out)):gb209≠gb207));replace BK207:=au (ay (g:=gb207) (o:=.cells #[.int .i64 a0_0,.slice (some ad208) l0_1.length c0_1,.slice A0_2 l0_2.length c0_2] 24 (0,0)) (by(with_reducible repeat(first|apply ag|apply aj|apply af));exact BK207.out) hb);clear hb hbox hg;have hnb16:=NB209_207.out;have hnc16:=NB207_209.out;have hcz17_0:w15.cell? ⟨gb209,0,none⟩=some (.int .i64 0):=(ak BK209.out 0).trans rfl;have hcz17_1:w15.cell? ⟨gb209,1,none⟩=some (.int .i64 0):=(ak BK209.out 1).trans rfl;have hfz17_0:=av BK209.out 0;have hfz17_1:=av BK209.out 1))
        go_roundg k1
        case measure=>have:=HK1.out;omega
        case rel=>exact⟨(wrap64 (x57_1+1)),(by first|rfl|(simp;done)|(simp[*];done)),H',⟨by have:=HK1.out;omega⟩,⟨by(with_reducible repeat(first|apply ag|apply aj|apply af));refine aH ?_ NB207_209.out _;(with_reducible repeat(first|apply ag|apply aj|apply af));refine aH ?_ NB207_209.out _;(with_reducible repeat(first|apply ag|apply aj|apply af));exact BK207.out⟩,⟨by with_reducible repeat(first|exact HB.out|apply ah|apply aa|apply ai|refine ae ?_ GE207.out|refine ae ?_ GE209.out)⟩⟩
      ·rw[if_neg c10] at H
       exact absurd H (by simp)
     ·rw[if_neg c9] at H
      exact absurd H (by simp)
    ·rw[if_neg c8] at H
     have c8b0:decide (x57_1 < (l0_1.length:Int))=false:=decide_eq_false c8
     clear c8
     obtain rfl:=Option.some.inj H
     go_wp2
     go_ret
     exact⟨by first|rfl|(simp <;> rfl)|(simp[*] <;> rfl),by with_reducible repeat(first|exact HB.out|apply ah|apply aa|apply ai|refine ae ?_ GE207.out)⟩
 ·rw [if_neg c5] at H
  have c5b0:(a2 == 1)=false:=beq_eq_false_iff_ne.mpr c5
  have c5b1:(a2 != 1)=true:=bne_iff_ne.mpr c5
  by_cases c18:a2=2
  ·rw [if_pos c18] at H
   have c18b0:(a2 == 2)=true:=beq_iff_eq.mpr c18
   have c18b1:(a2 != 2)=false:=bne_eq_false_iff_eq.mpr c18
   clear c18
   have H':=au H
   clear H
   go_enter Try.func56,Try.ntmps56
   go_wp2_with (first|((with_reducible refine aM (N:=4) rfl ?_);refine aI ?hg (N:=4) ?hd (cs:=#[.int .i64 a0_0,.slice A0_1 l0_1.length c0_1,.slice A0_2 l0_2.length c0_2]) (t:=24) ?hr ?_;(case hd=>rfl);(case hg=>rfl);(case hr=>first|(go_simp;done)|(go_simp;rfl));intro gb207 hg w19 hbox hb;have BK207:=au (hbox);have GW207:=au ((by rw[hg];exact(az (by with_reducible repeat(first|exact HB.out|apply ah|apply aa|apply ai))):w.heap.size≤gb207));have GE207:=au ((by rw[hg];exact(az (by with_reducible repeat(first|exact HB.out|apply ah|apply aa|apply ai))):w.heap.size≤gb207));replace HB:=au (aA (by with_reducible repeat(first|exact HB.out|apply ah|apply aa|apply ai)) hb);clear hb hbox hg;have hcz20_0:w19.cell? ⟨gb207,0,none⟩=some (.int .i64 a0_0):=(ak BK207.out 0).trans rfl;have hcz20_1:w19.cell? ⟨gb207,1,none⟩=some (.slice A0_1 l0_1.length c0_1):=(ak BK207.out 1).trans rfl;have hcz20_2:w19.cell? ⟨gb207,2,none⟩=some (.slice A0_2 l0_2.length c0_2):=(ak BK207.out 2).trans rfl;have hfz20_0:=av BK207.out 0;have hfz20_1:=av BK207.out 1;have hfz20_2:=av BK207.out 2))
   go_loopg [73] k (fun kq v73 w'=>∃ (x73_1:Int),v73 = .int .i64 x73_1∧Aside0 (spec_l5Pick.l1 kq a1 (-1) l0_2 (l0_2.length:Int) x73_1=some r)∧Aside0 (kq≤k)∧Aside0 (w'.heap[gb207]? = some (.cells #[.int .i64 a0_0,(.slice A0_1 l0_1.length c0_1),(.slice A0_2 l0_2.length c0_2)] 24 (0,0)))∧Aside0 (Below w.heap.size w w'))
   case atStart=>exact⟨(0),(by first|rfl|(simp;done)|(simp[*];done)),H',⟨Nat.le_refl _⟩,⟨by(with_reducible repeat(first|apply ag|apply aj|apply af));exact BK207.out⟩,⟨by with_reducible repeat(first|exact HB.out|apply ah|apply aa|apply ai|refine ae ?_ GE207.out)⟩⟩
   case round =>
    clear H'
    try clear c1
    try clear p2
    try clear q2
    try clear hx2
    try clear c5
    try clear c5b0
    try clear c5b1
    try clear p6
    try clear c8
    try clear c8b0
    try clear c9
    try clear c9b0
    try clear c10
    try clear c10b0
    try clear c11
    try clear c11b0
    try clear c13
    try clear c16
    try clear c18
    try clear c18b0
    try clear c18b1
    try clear p20
    try clear q20
    try clear hx20
    try clear hcz14_0
    try clear hcz14_1
    try clear hcz17_0
    try clear hcz17_1
    try clear hcz20_0
    try clear hcz20_1
    try clear hcz20_2
    try clear hcz7_0
    try clear hcz7_1
    try clear hcz7_2
    try clear hfz14_0
    try clear hfz14_1
    try clear hfz17_0
    try clear hfz17_1
    try clear hfz20_0
    try clear hfz20_1
    try clear hfz20_2
    try clear hfz7_0
    try clear hfz7_1
    try clear hfz7_2
    try clear hx208_0
    try clear hx208_1
    try clear p2
    try clear p208
    try clear p6
    try clear q208
    obtain⟨x73_1,rfl,HA,HK1,BK207,HB⟩:=hrel
    cases gk with
    | zero=>exact absurd HA.out (by simp[spec_l5Pick.l1])
    | succ k1=>
     have H:=HA.out
     clear HA
     simp only[spec_l5Pick.l1] at H
     by_cases c21:x73_1 < (l0_2.length:Int)
     ·rw [if_pos c21] at H
      have c21b0:decide (x73_1 < (l0_2.length:Int))=true:=decide_eq_true c21
      clear c21
      by_cases c22:0≤x73_1
      ·rw[if_pos c22] at H
       have c22b0:decide (0≤x73_1)=true:=decide_eq_true c22
       clear c22
       by_cases c23:x73_1 < (l0_2.length:Int)
       ·rw[if_pos c23] at H
        have c23b0:decide (x73_1 < (l0_2.length:Int))=true:=decide_eq_true c23
        clear c23
        by_cases c24:((ax l0_2 x73_1).f1)≥a1
        ·rw[if_pos c24] at H
         have c24b0:decide (a1≤((ax l0_2 x73_1).f1))=true:=decide_eq_true c24
         clear c24
         obtain rfl:=Option.some.inj H
         have p210:0≤(x73_1:Int):=of_decide_eq_true (by assumption)
         have q210:x73_1 < (l0_2.length:Int):=of_decide_eq_true (by assumption)
         obtain⟨ad210,e210,hx210_0,hx210_1⟩:=bE HR0_2.out x73_1 p210 q210
         cases e210
         replace hx210_0:=(HB.out.cell (World.block_lt_of_cell? w _ hx210_0)).trans hx210_0
         replace hx210_1:=(HB.out.cell (World.block_lt_of_cell? w _ hx210_1)).trans hx210_1
         replace p210:=eq_true p210
         replace q210:=eq_true q210
         go_wp2_with (first|((with_reducible refine aM (N:=13) rfl ?_);refine aI ?hg (N:=13) ?hd (cs:=#[.int .i64 0,.int .i64 0]) (t:=35) ?hr ?_;(case hd=>rfl);(case hg=>rfl);(case hr=>first|(go_simp;done)|(go_simp;rfl));intro gb211 hg w25 hbox hb;have BK211:=au (hbox);have GW211:=au ((by rw[hg];exact(az (by with_reducible repeat(first|exact HB.out|apply ah|apply aa|apply ai|refine ae ?_ GE207.out))):w.heap.size≤gb211));have GE211:=au ((by rw[hg];exact(az (by with_reducible repeat(first|exact HB.out|apply ah|apply aa|apply ai|refine ae ?_ GE207.out))):w.heap.size≤gb211));replace HB:=au (aA (by with_reducible repeat(first|exact HB.out|apply ah|apply aa|apply ai|refine ae ?_ GE207.out)) hb);have NB207_211:=au ((by rw[hg];exact Nat.ne_of_lt (aG (g:=gb207) (o:=.cells #[.int .i64 a0_0,.slice A0_1 l0_1.length c0_1,.slice (some ad210) l0_2.length c0_2] 24 (0,0)) (by(with_reducible repeat(first|apply ag|apply aj|apply af));exact BK207.out)):gb207≠gb211));have NB211_207:=au ((by rw[hg];exact Nat.ne_of_gt (aG (g:=gb207) (o:=.cells #[.int .i64 a0_0,.slice A0_1 l0_1.length c0_1,.slice (some ad210) l0_2.length c0_2] 24 (0,0)) (by(with_reducible repeat(first|apply ag|apply aj|apply af));exact BK207.out)):gb211≠gb207));replace BK207:=au (ay (g:=gb207) (o:=.cells #[.int .i64 a0_0,.slice A0_1 l0_1.length c0_1,.slice (some ad210) l0_2.length c0_2] 24 (0,0)) (by(with_reducible repeat(first|apply ag|apply aj|apply af));exact BK207.out) hb);clear hb hbox hg;have hnb26:=NB211_207.out;have hnc26:=NB207_211.out;have hcz27_0:w25.cell? ⟨gb211,0,none⟩=some (.int .i64 0):=(ak BK211.out 0).trans rfl;have hcz27_1:w25.cell? ⟨gb211,1,none⟩=some (.int .i64 0):=(ak BK211.out 1).trans rfl;have hfz27_0:=av BK211.out 0;have hfz27_1:=av BK211.out 1))
         go_ret
         exact⟨by first|rfl|(simp <;> rfl)|(simp[*] <;> rfl),by with_reducible repeat(first|exact HB.out|apply ah|apply aa|apply ai|refine ae ?_ GE207.out|refine ae ?_ GE211.out)⟩
        ·rw[if_neg c24] at H
         have c24b0:decide (a1≤((ax l0_2 x73_1).f1))=false:=decide_eq_false c24
         clear c24
         have H':=au H
         clear H
         have p210:0≤(x73_1:Int):=of_decide_eq_true (by assumption)
         have q210:x73_1 < (l0_2.length:Int):=of_decide_eq_true (by assumption)
         obtain⟨ad210,e210,hx210_0,hx210_1⟩:=bE HR0_2.out x73_1 p210 q210
         cases e210
         replace hx210_0:=(HB.out.cell (World.block_lt_of_cell? w _ hx210_0)).trans hx210_0
         replace hx210_1:=(HB.out.cell (World.block_lt_of_cell? w _ hx210_1)).trans hx210_1
         replace p210:=eq_true p210
         replace q210:=eq_true q210
         go_wp2_with (first|((with_reducible refine aM (N:=13) rfl ?_);refine aI ?hg (N:=13) ?hd (cs:=#[.int .i64 0,.int .i64 0]) (t:=35) ?hr ?_;(case hd=>rfl);(case hg=>rfl);(case hr=>first|(go_simp;done)|(go_simp;rfl));intro gb211 hg w28 hbox hb;have BK211:=au (hbox);have GW211:=au ((by rw[hg];exact(az (by with_reducible repeat(first|exact HB.out|apply ah|apply aa|apply ai|refine ae ?_ GE207.out))):w.heap.size≤gb211));have GE211:=au ((by rw[hg];exact(az (by with_reducible repeat(first|exact HB.out|apply ah|apply aa|apply ai|refine ae ?_ GE207.out))):w.heap.size≤gb211));replace HB:=au (aA (by with_reducible repeat(first|exact HB.out|apply ah|apply aa|apply ai|refine ae ?_ GE207.out)) hb);have NB207_211:=au ((by rw[hg];exact Nat.ne_of_lt (aG (g:=gb207) (o:=.cells #[.int .i64 a0_0,.slice A0_1 l0_1.length c0_1,.slice (some ad210) l0_2.length c0_2] 24 (0,0)) (by(with_reducible repeat(first|apply ag|apply aj|apply af));exact BK207.out)):gb207≠gb211));have NB211_207:=au ((by rw[hg];exact Nat.ne_of_gt (aG (g:=gb207) (o:=.cells #[.int .i64 a0_0,.slice A0_1 l0_1.length c0_1,.slice (some ad210) l0_2.length c0_2] 24 (0,0)) (by(with_reducible repeat(first|apply ag|apply aj|apply af));exact BK207.out)):gb211≠gb207));replace BK207:=au (ay (g:=gb207) (o:=.cells #[.int .i64 a0_0,.slice A0_1 l0_1.length c0_1,.slice (some ad210) l0_2.length c0_2] 24 (0,0)) (by(with_reducible repeat(first|apply ag|apply aj|apply af));exact BK207.out) hb);clear hb hbox hg;have hnb29:=NB211_207.out;have hnc29:=NB207_211.out;have hcz30_0:w28.cell? ⟨gb211,0,none⟩=some (.int .i64 0):=(ak BK211.out 0).trans rfl;have hcz30_1:w28.cell? ⟨gb211,1,none⟩=some (.int .i64 0):=(ak BK211.out 1).trans rfl;have hfz30_0:=av BK211.out 0;have hfz30_1:=av BK211.out 1))
         go_roundg k1
         case measure=>have:=HK1.out;omega
         case rel=>exact⟨(wrap64 (x73_1+1)),(by first|rfl|(simp;done)|(simp[*];done)),H',⟨by have:=HK1.out;omega⟩,⟨by(with_reducible repeat(first|apply ag|apply aj|apply af));refine aH ?_ NB207_211.out _;(with_reducible repeat(first|apply ag|apply aj|apply af));refine aH ?_ NB207_211.out _;(with_reducible repeat(first|apply ag|apply aj|apply af));exact BK207.out⟩,⟨by with_reducible repeat(first|exact HB.out|apply ah|apply aa|apply ai|refine ae ?_ GE207.out|refine ae ?_ GE211.out)⟩⟩
       ·rw[if_neg c23] at H
        exact absurd H (by simp)
      ·rw[if_neg c22] at H
       exact absurd H (by simp)
     ·rw[if_neg c21] at H
      have c21b0:decide (x73_1 < (l0_2.length:Int))=false:=decide_eq_false c21
      clear c21
      obtain rfl:=Option.some.inj H
      go_wp2
      go_ret
      exact⟨by first|rfl|(simp <;> rfl)|(simp[*] <;> rfl),by with_reducible repeat(first|exact HB.out|apply ah|apply aa|apply ai|refine ae ?_ GE207.out)⟩
  ·rw [if_neg c18] at H
   have c18b0:(a2 == 2)=false:=beq_eq_false_iff_ne.mpr c18
   have c18b1:(a2 != 2)=true:=bne_iff_ne.mpr c18
   by_cases c31:a2=3
   ·rw [if_pos c31] at H
    have c31b0:(a2 == 3)=true:=beq_iff_eq.mpr c31
    have c31b1:(a2 != 3)=false:=bne_eq_false_iff_eq.mpr c31
    clear c31
    by_cases c32:(l0_2.length:Int) > 0
    ·rw [if_pos c32] at H
     have c32b0:decide (0 < (l0_2.length:Int))=true:=decide_eq_true c32
     have c32b1:decide (0<l0_2.length)=true:=decide_eq_true (by omega)
     clear c32
     obtain⟨ji33,hji33⟩:∃ j_:Int,(wrap64 ((l0_2.length:Int) - 1))=j_:=⟨_,rfl⟩
     replace H:(if 0≤(ji33) then (if (ji33) < (l0_2.length:Int) then (if ((ax l0_2 (ji33)).f1)≥a1 then (some ((ax l0_2 (ji33)).f0)) else (some (-1))) else (none)) else (none))=some r:=by first|(rw[hji33] at H;exact H)|(simp only[hji33] at H ⊢;exact H)
     have hji33w:(IntKind.i64.wrap ((l0_2.length:Int) - 1))=ji33:=(jW _).trans hji33
     by_cases c34:0≤(ji33)
     ·rw[if_pos c34] at H
      have c34b0:decide (0≤(ji33))=true:=decide_eq_true c34
      clear c34
      by_cases c35:(ji33) < (l0_2.length:Int)
      ·rw[if_pos c35] at H
       have c35b0:decide ((ji33) < (l0_2.length:Int))=true:=decide_eq_true c35
       clear c35
       by_cases c36:((ax l0_2 (ji33)).f1)≥a1
       ·rw[if_pos c36] at H
        have c36b0:decide (a1≤((ax l0_2 (ji33)).f1))=true:=decide_eq_true c36
        clear c36
        obtain rfl:=Option.some.inj H
        go_enter Try.func56,Try.ntmps56
        go_wp2_with (first|((with_reducible refine aM (N:=4) rfl ?_);refine aI ?hg (N:=4) ?hd (cs:=#[.int .i64 a0_0,.slice A0_1 l0_1.length c0_1,.slice A0_2 l0_2.length c0_2]) (t:=24) ?hr ?_;(case hd=>rfl);(case hg=>rfl);(case hr=>first|(go_simp;done)|(go_simp;rfl));intro gb207 hg w37 hbox hb;have BK207:=au (hbox);have GW207:=au ((by rw[hg];exact(az (by with_reducible repeat(first|exact HB.out|apply ah|apply aa|apply ai))):w.heap.size≤gb207));have GE207:=au ((by rw[hg];exact(az (by with_reducible repeat(first|exact HB.out|apply ah|apply aa|apply ai))):w.heap.size≤gb207));replace HB:=au (aA (by with_reducible repeat(first|exact HB.out|apply ah|apply aa|apply ai)) hb);clear hb hbox hg;have hcz38_0:w37.cell? ⟨gb207,0,none⟩=some (.int .i64 a0_0):=(ak BK207.out 0).trans rfl;have hcz38_1:w37.cell? ⟨gb207,1,none⟩=some (.slice A0_1 l0_1.length c0_1):=(ak BK207.out 1).trans rfl;have hcz38_2:w37.cell? ⟨gb207,2,none⟩=some (.slice A0_2 l0_2.length c0_2):=(ak BK207.out 2).trans rfl;have hfz38_0:=av BK207.out 0;have hfz38_1:=av BK207.out 1;have hfz38_2:=av BK207.out 2;have p212:0≤((ji33):Int):=of_decide_eq_true (by assumption);have q212:(ji33) < (l0_2.length:Int):=of_decide_eq_true (by assumption);obtain⟨ad212,e212,hx212_0,hx212_1⟩:=bE HR0_2.out (ji33) p212 q212;cases e212;replace hx212_0:=(HB.out.cell (World.block_lt_of_cell? w _ hx212_0)).trans hx212_0;replace hx212_1:=(HB.out.cell (World.block_lt_of_cell? w _ hx212_1)).trans hx212_1;replace p212:=eq_true p212;replace q212:=eq_true q212;have p213:0≤((ji33):Int):=of_decide_eq_true (by assumption);have q213:(ji33) < (l0_2.length:Int):=of_decide_eq_true (by assumption);obtain⟨ad213,e213,hx213_0,hx213_1⟩:=bE HR0_2.out (ji33) p213 q213;obtain rfl:ad212=ad213:=(by injection e213);replace hx213_0:=(HB.out.cell (World.block_lt_of_cell? w _ hx213_0)).trans hx213_0;replace hx213_1:=(HB.out.cell (World.block_lt_of_cell? w _ hx213_1)).trans hx213_1;replace p213:=eq_true p213;replace q213:=eq_true q213))
        go_ret
        exact⟨by first|rfl|(simp[cO,cZ] <;> rfl)|(simp only[← hji33];first|rfl|(simp[cO,cZ] <;> rfl))|(simp[*,cO,cZ] <;> rfl)|(simp[E.eH];done)|(rw[E.fG]),by with_reducible repeat(first|exact HB.out|apply ah|apply aa|apply ai|refine ae ?_ GE207.out)⟩
       ·rw[if_neg c36] at H
        have c36b0:decide (a1≤((ax l0_2 (ji33)).f1))=false:=decide_eq_false c36
        clear c36
        obtain rfl:=Option.some.inj H
        go_enter Try.func56,Try.ntmps56
        go_wp2_with (first|((with_reducible refine aM (N:=4) rfl ?_);refine aI ?hg (N:=4) ?hd (cs:=#[.int .i64 a0_0,.slice A0_1 l0_1.length c0_1,.slice A0_2 l0_2.length c0_2]) (t:=24) ?hr ?_;(case hd=>rfl);(case hg=>rfl);(case hr=>first|(go_simp;done)|(go_simp;rfl));intro gb207 hg w39 hbox hb;have BK207:=au (hbox);have GW207:=au ((by rw[hg];exact(az (by with_reducible repeat(first|exact HB.out|apply ah|apply aa|apply ai))):w.heap.size≤gb207));have GE207:=au ((by rw[hg];exact(az (by with_reducible repeat(first|exact HB.out|apply ah|apply aa|apply ai))):w.heap.size≤gb207));replace HB:=au (aA (by with_reducible repeat(first|exact HB.out|apply ah|apply aa|apply ai)) hb);clear hb hbox hg;have hcz40_0:w39.cell? ⟨gb207,0,none⟩=some (.int .i64 a0_0):=(ak BK207.out 0).trans rfl;have hcz40_1:w39.cell? ⟨gb207,1,none⟩=some (.slice A0_1 l0_1.length c0_1):=(ak BK207.out 1).trans rfl;have hcz40_2:w39.cell? ⟨gb207,2,none⟩=some (.slice A0_2 l0_2.length c0_2):=(ak BK207.out 2).trans rfl;have hfz40_0:=av BK207.out 0;have hfz40_1:=av BK207.out 1;have hfz40_2:=av BK207.out 2;have p212:0≤((ji33):Int):=of_decide_eq_true (by assumption);have q212:(ji33) < (l0_2.length:Int):=of_decide_eq_true (by assumption);obtain⟨ad212,e212,hx212_0,hx212_1⟩:=bE HR0_2.out (ji33) p212 q212;cases e212;replace hx212_0:=(HB.out.cell (World.block_lt_of_cell? w _ hx212_0)).trans hx212_0;replace hx212_1:=(HB.out.cell (World.block_lt_of_cell? w _ hx212_1)).trans hx212_1;replace p212:=eq_true p212;replace q212:=eq_true q212))
        go_ret
        exact⟨by first|rfl|(simp[cO,cZ] <;> rfl)|(simp only[← hji33];first|rfl|(simp[cO,cZ] <;> rfl))|(simp[*,cO,cZ] <;> rfl)|(simp[E.eH];done)|(rw[E.fG]),by with_reducible repeat(first|exact HB.out|apply ah|apply aa|apply ai|refine ae ?_ GE207.out)⟩
      ·rw[if_neg c35] at H
       exact absurd H (by simp)
     ·rw[if_neg c34] at H
      exact absurd H (by simp)
    ·rw[if_neg c32] at H
     have c32b0:decide (0 < (l0_2.length:Int))=false:=decide_eq_false c32
     have c32b1:decide (0<l0_2.length)=false:=decide_eq_false (by omega)
     clear c32
     obtain rfl:=Option.some.inj H
     go_enter Try.func56,Try.ntmps56
     go_wp2_with (first|((with_reducible refine aM (N:=4) rfl ?_);refine aI ?hg (N:=4) ?hd (cs:=#[.int .i64 a0_0,.slice A0_1 l0_1.length c0_1,.slice A0_2 l0_2.length c0_2]) (t:=24) ?hr ?_;(case hd=>rfl);(case hg=>rfl);(case hr=>first|(go_simp;done)|(go_simp;rfl));intro gb207 hg w41 hbox hb;have BK207:=au (hbox);have GW207:=au ((by rw[hg];exact(az (by with_reducible repeat(first|exact HB.out|apply ah|apply aa|apply ai))):w.heap.size≤gb207));have GE207:=au ((by rw[hg];exact(az (by with_reducible repeat(first|exact HB.out|apply ah|apply aa|apply ai))):w.heap.size≤gb207));replace HB:=au (aA (by with_reducible repeat(first|exact HB.out|apply ah|apply aa|apply ai)) hb);clear hb hbox hg;have hcz42_0:w41.cell? ⟨gb207,0,none⟩=some (.int .i64 a0_0):=(ak BK207.out 0).trans rfl;have hcz42_1:w41.cell? ⟨gb207,1,none⟩=some (.slice A0_1 l0_1.length c0_1):=(ak BK207.out 1).trans rfl;have hcz42_2:w41.cell? ⟨gb207,2,none⟩=some (.slice A0_2 l0_2.length c0_2):=(ak BK207.out 2).trans rfl;have hfz42_0:=av BK207.out 0;have hfz42_1:=av BK207.out 1;have hfz42_2:=av BK207.out 2))
     go_ret
     exact⟨by first|rfl|(simp <;> rfl)|(simp[*] <;> rfl),by with_reducible repeat(first|exact HB.out|apply ah|apply aa|apply ai|refine ae ?_ GE207.out)⟩
   ·rw [if_neg c31] at H
    have c31b0:(a2 == 3)=false:=beq_eq_false_iff_ne.mpr c31
    have c31b1:(a2 != 3)=true:=bne_iff_ne.mpr c31
    have H':=au H
    clear H
    go_enter Try.func56,Try.ntmps56
    go_wp2_with (first|((with_reducible refine aM (N:=4) rfl ?_);refine aI ?hg (N:=4) ?hd (cs:=#[.int .i64 a0_0,.slice A0_1 l0_1.length c0_1,.slice A0_2 l0_2.length c0_2]) (t:=24) ?hr ?_;(case hd=>rfl);(case hg=>rfl);(case hr=>first|(go_simp;done)|(go_simp;rfl));intro gb207 hg w43 hbox hb;have BK207:=au (hbox);have GW207:=au ((by rw[hg];exact(az (by with_reducible repeat(first|exact HB.out|apply ah|apply aa|apply ai))):w.heap.size≤gb207));have GE207:=au ((by rw[hg];exact(az (by with_reducible repeat(first|exact HB.out|apply ah|apply aa|apply ai))):w.heap.size≤gb207));replace HB:=au (aA (by with_reducible repeat(first|exact HB.out|apply ah|apply aa|apply ai)) hb);clear hb hbox hg;have hcz44_0:w43.cell? ⟨gb207,0,none⟩=some (.int .i64 a0_0):=(ak BK207.out 0).trans rfl;have hcz44_1:w43.cell? ⟨gb207,1,none⟩=some (.slice A0_1 l0_1.length c0_1):=(ak BK207.out 1).trans rfl;have hcz44_2:w43.cell? ⟨gb207,2,none⟩=some (.slice A0_2 l0_2.length c0_2):=(ak BK207.out 2).trans rfl;have hfz44_0:=av BK207.out 0;have hfz44_1:=av BK207.out 1;have hfz44_2:=av BK207.out 2))
    go_loopg [9,22] k (fun kq v9 v22 w'=>∃ (x9_1:Int) (x22_1:Int),v9 = .int .i64 x9_1∧v22 = .int .i64 x22_1∧Aside0 (spec_l5Pick.l2 kq a1 a3 x9_1 l0_1 (l0_1.length:Int) x22_1=some r)∧Aside0 (kq≤k)∧Aside0 (w'.heap[gb207]? = some (.cells #[.int .i64 a0_0,(.slice A0_1 l0_1.length c0_1),(.slice A0_2 l0_2.length c0_2)] 24 (0,0)))∧Aside0 (Below w.heap.size w w'))
    case atStart=>exact⟨((-1)),(0),(by first|rfl|(simp;done)|(simp[*];done)),(by first|rfl|(simp;done)|(simp[*];done)),H',⟨Nat.le_refl _⟩,⟨by(with_reducible repeat(first|apply ag|apply aj|apply af));exact BK207.out⟩,⟨by with_reducible repeat(first|exact HB.out|apply ah|apply aa|apply ai|refine ae ?_ GE207.out)⟩⟩
    case round =>
     clear H'
     try clear c1
     try clear c2
     try clear p2
     try clear q2
     try clear hx2
     try clear c3
     try clear c5
     try clear c5b0
     try clear c5b1
     try clear p6
     try clear c8
     try clear c8b0
     try clear c9
     try clear c9b0
     try clear c10
     try clear c10b0
     try clear c11
     try clear c11b0
     try clear c13
     try clear c16
     try clear c18
     try clear c18b0
     try clear c18b1
     try clear p20
     try clear q20
     try clear hx20
     try clear c21
     try clear c21b0
     try clear p21
     try clear q21
     try clear hx21
     try clear c22
     try clear c22b0
     try clear c23
     try clear c23b0
     try clear c24
     try clear c24b0
     try clear c26
     try clear c29
     try clear c31
     try clear c31b0
     try clear c31b1
     try clear c32
     try clear c32b0
     try clear c32b1
     try clear c34
     try clear c34b0
     try clear c35
     try clear c35b0
     try clear c36
     try clear c36b0
     try clear hcz14_0
     try clear hcz14_1
     try clear hcz17_0
     try clear hcz17_1
     try clear hcz20_0
     try clear hcz20_1
     try clear hcz20_2
     try clear hcz27_0
     try clear hcz27_1
     try clear hcz30_0
     try clear hcz30_1
     try clear hcz38_0
     try clear hcz38_1
     try clear hcz38_2
     try clear hcz40_0
     try clear hcz40_1
     try clear hcz40_2
     try clear hcz42_0
     try clear hcz42_1
     try clear hcz42_2
     try clear hcz44_0
     try clear hcz44_1
     try clear hcz44_2
     try clear hcz7_0
     try clear hcz7_1
     try clear hcz7_2
     try clear hfz14_0
     try clear hfz14_1
     try clear hfz17_0
     try clear hfz17_1
     try clear hfz20_0
     try clear hfz20_1
     try clear hfz20_2
     try clear hfz27_0
     try clear hfz27_1
     try clear hfz30_0
     try clear hfz30_1
     try clear hfz38_0
     try clear hfz38_1
     try clear hfz38_2
     try clear hfz40_0
     try clear hfz40_1
     try clear hfz40_2
     try clear hfz42_0
     try clear hfz42_1
     try clear hfz42_2
     try clear hfz44_0
     try clear hfz44_1
     try clear hfz44_2
     try clear hfz7_0
     try clear hfz7_1
     try clear hfz7_2
     try clear hx208_0
     try clear hx208_1
     try clear hx210_0
     try clear hx210_1
     try clear hx212_0
     try clear hx212_1
     try clear hx213_0
     try clear hx213_1
     try clear p2
     try clear p20
     try clear p208
     try clear p210
     try clear p212
     try clear p213
     try clear p6
     try clear q2
     try clear q20
     try clear q208
     try clear q210
     try clear q212
     try clear q213
     obtain⟨x9_1,x22_1,rfl,rfl,HA,HK1,BK207,HB⟩:=hrel
     cases gk with
     | zero=>exact absurd HA.out (by simp[spec_l5Pick.l2])
     | succ k1 =>
      have H:=HA.out
      clear HA
      simp only[spec_l5Pick.l2] at H
      by_cases c45:x22_1 < (l0_1.length:Int)
      ·rw [if_pos c45] at H
       have c45b0:decide (x22_1 < (l0_1.length:Int))=true:=decide_eq_true c45
       clear c45
       by_cases c46:0≤x22_1
       ·rw [if_pos c46] at H
        have c46b0:decide (0≤x22_1)=true:=decide_eq_true c46
        clear c46
        by_cases c47:x22_1 < (l0_1.length:Int)
        ·rw [if_pos c47] at H
         have c47b0:decide (x22_1 < (l0_1.length:Int))=true:=decide_eq_true c47
         clear c47
         have H':=au H
         clear H
         have p214:0≤(x22_1:Int):=of_decide_eq_true (by assumption)
         have q214:x22_1 < (l0_1.length:Int):=of_decide_eq_true (by assumption)
         obtain⟨ad214,e214,hx214_0,hx214_1⟩:=bE HR0_1.out x22_1 p214 q214
         cases e214
         replace hx214_0:=(HB.out.cell (World.block_lt_of_cell? w _ hx214_0)).trans hx214_0
         replace hx214_1:=(HB.out.cell (World.block_lt_of_cell? w _ hx214_1)).trans hx214_1
         replace p214:=eq_true p214
         replace q214:=eq_true q214
         go_wp2_with (first|((with_reducible refine aM (N:=16) rfl ?_);refine aI ?hg (N:=16) ?hd (cs:=#[.int .i64 0,.int .i64 0]) (t:=35) ?hr ?_;(case hd=>rfl);(case hg=>rfl);(case hr=>first|(go_simp;done)|(go_simp;rfl));intro gb215 hg w48 hbox hb;have BK215:=au (hbox);have GW215:=au ((by rw[hg];exact(az (by with_reducible repeat(first|exact HB.out|apply ah|apply aa|apply ai|refine ae ?_ GE207.out))):w.heap.size≤gb215));have GE215:=au ((by rw[hg];exact(az (by with_reducible repeat(first|exact HB.out|apply ah|apply aa|apply ai|refine ae ?_ GE207.out))):w.heap.size≤gb215));replace HB:=au (aA (by with_reducible repeat(first|exact HB.out|apply ah|apply aa|apply ai|refine ae ?_ GE207.out)) hb);have NB207_215:=au ((by rw[hg];exact Nat.ne_of_lt (aG (g:=gb207) (o:=.cells #[.int .i64 a0_0,.slice (some ad214) l0_1.length c0_1,.slice A0_2 l0_2.length c0_2] 24 (0,0)) (by(with_reducible repeat(first|apply ag|apply aj|apply af));exact BK207.out)):gb207≠gb215));have NB215_207:=au ((by rw[hg];exact Nat.ne_of_gt (aG (g:=gb207) (o:=.cells #[.int .i64 a0_0,.slice (some ad214) l0_1.length c0_1,.slice A0_2 l0_2.length c0_2] 24 (0,0)) (by(with_reducible repeat(first|apply ag|apply aj|apply af));exact BK207.out)):gb215≠gb207));replace BK207:=au (ay (g:=gb207) (o:=.cells #[.int .i64 a0_0,.slice (some ad214) l0_1.length c0_1,.slice A0_2 l0_2.length c0_2] 24 (0,0)) (by(with_reducible repeat(first|apply ag|apply aj|apply af));exact BK207.out) hb);clear hb hbox hg;have hnb49:=NB215_207.out;have hnc49:=NB207_215.out;have hcz50_0:w48.cell? ⟨gb215,0,none⟩=some (.int .i64 0):=(ak BK215.out 0).trans rfl;have hcz50_1:w48.cell? ⟨gb215,1,none⟩=some (.int .i64 0):=(ak BK215.out 1).trans rfl;have hfz50_0:=av BK215.out 0;have hfz50_1:=av BK215.out 1))
         go_loopg [9,17] k1 (fun kq v9 v17 w'=>∃ (x9_2:Int) (x17_2:Int),v9 = .int .i64 x9_2∧v17 = .int .i64 x17_2∧Aside0 (spec_l5Pick.l3 kq a1 a3 x9_2 x17_2 l0_1 (l0_1.length:Int) x22_1 ((ax l0_1 x22_1).f0) ((ax l0_1 x22_1).f1)=some r)∧Aside0 (kq≤k1)∧Aside0 (w'.heap[gb207]? = some (.cells #[.int .i64 a0_0,(.slice (some ad214) l0_1.length c0_1),(.slice A0_2 l0_2.length c0_2)] 24 (0,0)))∧Aside0 (w'.heap[gb215]? = some (.cells #[.int .i64 ((ax l0_1 x22_1).f0),.int .i64 ((ax l0_1 x22_1).f1)] 35 (0,0)))∧Aside0 (Below w.heap.size w w'))
         case atStart=>exact⟨(x9_1),((ax l0_1 x22_1).f0),(by first|rfl|(simp;done)|(simp[*];done)),(by first|rfl|(simp;done)|(simp[*];done)),H',⟨Nat.le_refl _⟩,⟨by(with_reducible repeat(first|apply ag|apply aj|apply af));refine aH ?_ NB207_215.out _;(with_reducible repeat(first|apply ag|apply aj|apply af));refine aH ?_ NB207_215.out _;(with_reducible repeat(first|apply ag|apply aj|apply af));exact BK207.out⟩,⟨by(with_reducible repeat(first|apply ag|apply aj|apply af));refine aK (cs:=#[.int .i64 ((ax l0_1 x22_1).f0),.int .i64 0]) ?_ 1 _ rfl;(with_reducible repeat(first|apply ag|apply aj|apply af));refine aK (cs:=#[.int .i64 0,.int .i64 0]) ?_ 0 _ rfl;(with_reducible repeat(first|apply ag|apply aj|apply af));exact BK215.out⟩,⟨by with_reducible repeat(first|exact HB.out|apply ah|apply aa|apply ai|refine ae ?_ GE207.out|refine ae ?_ GE215.out)⟩⟩
         case round =>
          clear H'
          try clear c1
          try clear c2
          try clear p2
          try clear q2
          try clear hx2
          try clear c3
          try clear c4
          try clear c5
          try clear c5b0
          try clear c5b1
          try clear p6
          try clear c8
          try clear c8b0
          try clear c9
          try clear c9b0
          try clear c10
          try clear c10b0
          try clear c11
          try clear c11b0
          try clear c13
          try clear c16
          try clear c18
          try clear c18b0
          try clear c18b1
          try clear p20
          try clear q20
          try clear hx20
          try clear c21
          try clear c21b0
          try clear p21
          try clear q21
          try clear hx21
          try clear c22
          try clear c22b0
          try clear c23
          try clear c23b0
          try clear c24
          try clear c24b0
          try clear c26
          try clear c29
          try clear c31
          try clear c31b0
          try clear c31b1
          try clear c32
          try clear c32b0
          try clear c32b1
          try clear c34
          try clear c34b0
          try clear c35
          try clear c35b0
          try clear c36
          try clear c36b0
          try clear c45
          try clear c45b0
          try clear c46
          try clear c46b0
          try clear c47
          try clear c47b0
          try clear c49
          try clear hcz14_0
          try clear hcz14_1
          try clear hcz17_0
          try clear hcz17_1
          try clear hcz20_0
          try clear hcz20_1
          try clear hcz20_2
          try clear hcz27_0
          try clear hcz27_1
          try clear hcz30_0
          try clear hcz30_1
          try clear hcz38_0
          try clear hcz38_1
          try clear hcz38_2
          try clear hcz40_0
          try clear hcz40_1
          try clear hcz40_2
          try clear hcz42_0
          try clear hcz42_1
          try clear hcz42_2
          try clear hcz44_0
          try clear hcz44_1
          try clear hcz44_2
          try clear hcz50_0
          try clear hcz50_1
          try clear hcz7_0
          try clear hcz7_1
          try clear hcz7_2
          try clear hfz14_0
          try clear hfz14_1
          try clear hfz17_0
          try clear hfz17_1
          try clear hfz20_0
          try clear hfz20_1
          try clear hfz20_2
          try clear hfz27_0
          try clear hfz27_1
          try clear hfz30_0
          try clear hfz30_1
          try clear hfz38_0
          try clear hfz38_1
          try clear hfz38_2
          try clear hfz40_0
          try clear hfz40_1
          try clear hfz40_2
          try clear hfz42_0
          try clear hfz42_1
          try clear hfz42_2
          try clear hfz44_0
          try clear hfz44_1
          try clear hfz44_2
          try clear hfz50_0
          try clear hfz50_1
          try clear hfz7_0
          try clear hfz7_1
          try clear hfz7_2
          try clear hx208_0
          try clear hx208_1
          try clear hx210_0
          try clear hx210_1
          try clear hx212_0
          try clear hx212_1
          try clear hx213_0
          try clear hx213_1
          try clear hx214_0
          try clear hx214_1
          try clear p2
          try clear p20
          try clear p208
          try clear p21
          try clear p210
          try clear p212
          try clear p213
          try clear p214
          try clear p6
          try clear q2
          try clear q20
          try clear q208
          try clear q21
          try clear q210
          try clear q212
          try clear q213
          try clear q214
          obtain⟨x9_2,x17_2,rfl,rfl,HA,HK2,BK207,BK215,HB⟩:=hrel
          cases gk with
          | zero=>exact absurd HA.out (by simp[spec_l5Pick.l3])
          | succ k2=>
           have H:=HA.out
           clear HA
           simp only[spec_l5Pick.l3] at H
           by_cases c51:(wrap64 (x17_2+a1))≤(wrap64 (((ax l0_1 x22_1).f0) + ((ax l0_1 x22_1).f1)))
           ·rw[if_pos c51] at H
            have c51b0:decide ((wrap64 (x17_2+a1))≤(wrap64 (((ax l0_1 x22_1).f0) + ((ax l0_1 x22_1).f1))))=true:=decide_eq_true c51
            clear c51
            by_cases c52:x9_2<0
            ·rw[if_pos c52] at H
             have c52b0:decide (x9_2<0)=true:=decide_eq_true c52
             clear c52
             have H':=au H
             clear H
             have hnb53:=NB215_207.out
             have hnc53:=NB207_215.out
             have hcz54_0:wr.cell? ⟨gb215,0,none⟩=some (.int .i64 ((ax l0_1 x22_1).f0)):=(ak BK215.out 0).trans rfl
             have hcz54_1:wr.cell? ⟨gb215,1,none⟩=some (.int .i64 ((ax l0_1 x22_1).f1)):=(ak BK215.out 1).trans rfl
             have hfz54_0:=av BK215.out 0
             have hfz54_1:=av BK215.out 1
             go_wp2
             go_roundg k2
             case measure=>have:=HK1.out;have:=HK2.out;omega
             case rel=>exact⟨(x17_2),(wrap64 (x17_2+1)),(by first|rfl|(simp;done)|(simp[*];done)),(by first|rfl|(simp;done)|(simp[*];done)),H',⟨by have:=HK1.out;have:=HK2.out;omega⟩,⟨by(with_reducible repeat(first|apply ag|apply aj|apply af));exact BK207.out⟩,⟨by(with_reducible repeat(first|apply ag|apply aj|apply af));exact BK215.out⟩,⟨by with_reducible repeat(first|exact HB.out|apply ah|apply aa|apply ai|refine ae ?_ GE207.out|refine ae ?_ GE215.out)⟩⟩
            ·rw[if_neg c52] at H
             have c52b0:decide (x9_2<0)=false:=decide_eq_false c52
             clear c52
             replace H:=Option.bind_eq_some_iff.mp H
             obtain⟨t216,A550,H⟩:=H
             replace H:((spec_l5Gap.f x9_2 a3).bind fun t217=>(if t216<t217 then (spec_l5Pick.l3 k2 a1 a3 x17_2 (wrap64 (x17_2+1)) l0_1 (l0_1.length:Int) x22_1 ((ax l0_1 x22_1).f0) ((ax l0_1 x22_1).f1)) else (spec_l5Pick.l3 k2 a1 a3 x9_2 (wrap64 (x17_2+1)) l0_1 (l0_1.length:Int) x22_1 ((ax l0_1 x22_1).f0) ((ax l0_1 x22_1).f1))))=some r:=H
             have A55:=au A550
             clear A550
             replace H:=Option.bind_eq_some_iff.mp H
             obtain⟨t217,A560,H⟩:=H
             replace H:(if t216<t217 then (spec_l5Pick.l3 k2 a1 a3 x17_2 (wrap64 (x17_2+1)) l0_1 (l0_1.length:Int) x22_1 ((ax l0_1 x22_1).f0) ((ax l0_1 x22_1).f1)) else (spec_l5Pick.l3 k2 a1 a3 x9_2 (wrap64 (x17_2+1)) l0_1 (l0_1.length:Int) x22_1 ((ax l0_1 x22_1).f0) ((ax l0_1 x22_1).f1)))=some r:=H
             have A56:=au A560
             clear A560
             by_cases c57:t216<t217
             ·rw[if_pos c57] at H
              have c57b0:decide (t216<t217)=true:=decide_eq_true c57
              clear c57
              have H':=au H
              clear H
              have hnb58:=NB215_207.out
              have hnc58:=NB207_215.out
              have hcz59_0:wr.cell? ⟨gb215,0,none⟩=some (.int .i64 ((ax l0_1 x22_1).f0)):=(ak BK215.out 0).trans rfl
              have hcz59_1:wr.cell? ⟨gb215,1,none⟩=some (.int .i64 ((ax l0_1 x22_1).f1)):=(ak BK215.out 1).trans rfl
              have hfz59_0:=av BK215.out 0
              have hfz59_1:=av BK215.out 1
              go_wp2_with (first|(go_at_call 78;(with_reducible refine(spec_l5Gap.calls x17_2 a3 t216 _ A55.out).mono ?_);rintro e w' ⟨rfl,⟨nd,rfl⟩⟩)|(go_at_call 78;(with_reducible refine(spec_l5Gap.calls x9_2 a3 t217 _ A56.out).mono ?_);rintro e w' ⟨rfl,⟨nd,rfl⟩⟩))
              go_roundg k2
              case measure=>have:=HK1.out;have:=HK2.out;omega
              case rel=>exact⟨(x17_2),(wrap64 (x17_2+1)),(by first|rfl|(simp;done)|(simp[*];done)),(by first|rfl|(simp;done)|(simp[*];done)),H',⟨by have:=HK1.out;have:=HK2.out;omega⟩,⟨by(with_reducible repeat(first|apply ag|apply aj|apply af));exact BK207.out⟩,⟨by(with_reducible repeat(first|apply ag|apply aj|apply af));exact BK215.out⟩,⟨by with_reducible repeat(first|exact HB.out|apply ah|apply aa|apply ai|refine ae ?_ GE207.out|refine ae ?_ GE215.out)⟩⟩
             ·rw[if_neg c57] at H
              have c57b0:decide (t216<t217)=false:=decide_eq_false c57
              clear c57
              have H':=au H
              clear H
              have hnb60:=NB215_207.out
              have hnc60:=NB207_215.out
              have hcz61_0:wr.cell? ⟨gb215,0,none⟩=some (.int .i64 ((ax l0_1 x22_1).f0)):=(ak BK215.out 0).trans rfl
              have hcz61_1:wr.cell? ⟨gb215,1,none⟩=some (.int .i64 ((ax l0_1 x22_1).f1)):=(ak BK215.out 1).trans rfl
              have hfz61_0:=av BK215.out 0
              have hfz61_1:=av BK215.out 1
              go_wp2_with (first|(go_at_call 78;(with_reducible refine(spec_l5Gap.calls x17_2 a3 t216 _ A55.out).mono ?_);rintro e w' ⟨rfl,⟨nd,rfl⟩⟩)|(go_at_call 78;(with_reducible refine(spec_l5Gap.calls x9_2 a3 t217 _ A56.out).mono ?_);rintro e w' ⟨rfl,⟨nd,rfl⟩⟩))
              go_roundg k2
              case measure=>have:=HK1.out;have:=HK2.out;omega
              case rel=>exact⟨(x9_2),(wrap64 (x17_2+1)),(by first|rfl|(simp;done)|(simp[*];done)),(by first|rfl|(simp;done)|(simp[*];done)),H',⟨by have:=HK1.out;have:=HK2.out;omega⟩,⟨by(with_reducible repeat(first|apply ag|apply aj|apply af));exact BK207.out⟩,⟨by(with_reducible repeat(first|apply ag|apply aj|apply af));exact BK215.out⟩,⟨by with_reducible repeat(first|exact HB.out|apply ah|apply aa|apply ai|refine ae ?_ GE207.out|refine ae ?_ GE215.out)⟩⟩
           ·rw[if_neg c51] at H
            have c51b0:decide ((wrap64 (x17_2+a1))≤(wrap64 (((ax l0_1 x22_1).f0) + ((ax l0_1 x22_1).f1))))=false:=decide_eq_false c51
            clear c51
            have H':=au H
            clear H
            have hnb62:=NB215_207.out
            have hnc62:=NB207_215.out
            have hcz63_0:wr.cell? ⟨gb215,0,none⟩=some (.int .i64 ((ax l0_1 x22_1).f0)):=(ak BK215.out 0).trans rfl
            have hcz63_1:wr.cell? ⟨gb215,1,none⟩=some (.int .i64 ((ax l0_1 x22_1).f1)):=(ak BK215.out 1).trans rfl
            have hfz63_0:=av BK215.out 0
            have hfz63_1:=av BK215.out 1
            go_wp2
            go_roundg k2
            case measure=>have:=HK1.out;have:=HK2.out;omega
            case rel=>exact⟨(x9_2),(wrap64 (x22_1+1)),(by first|rfl|(simp;done)|(simp[*];done)),(by first|rfl|(simp;done)|(simp[*];done)),H',⟨by have:=HK1.out;have:=HK2.out;omega⟩,⟨by(with_reducible repeat(first|apply ag|apply aj|apply af));exact BK207.out⟩,⟨by with_reducible repeat(first|exact HB.out|apply ah|apply aa|apply ai|refine ae ?_ GE207.out|refine ae ?_ GE215.out)⟩⟩
        ·rw[if_neg c47] at H
         exact absurd H (by simp)
       ·rw[if_neg c46] at H
        exact absurd H (by simp)
      ·rw[if_neg c45] at H
       have c45b0:decide (x22_1 < (l0_1.length:Int))=false:=decide_eq_false c45
       clear c45
       obtain rfl:=Option.some.inj H
       go_wp2
       go_ret
       exact⟨by first|rfl|(simp <;> rfl)|(simp[*] <;> rfl),by with_reducible repeat(first|exact HB.out|apply ah|apply aa|apply ai|refine ae ?_ GE207.out)⟩
end Go.Proofs.Ytelblhkbogljnaa.PFre
