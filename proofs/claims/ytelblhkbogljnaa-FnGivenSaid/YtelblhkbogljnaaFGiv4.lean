import Derived.Test.YtelblhkbogljnaaFGiv3
namespace Go.Proofs.Ytelblhkbogljnaa.PFre
open Go.RowKit Go.Proofs.YtelblhkbogljnaaW.PrintWords Go.Proofs.YtelblhkbogljnaaW.PrintLast Go.Proofs.YtelblhkbogljnaaW.PrintMore
attribute [local go_sem] bG bH bS bT bB bA bJ bI
set_option linter.unusedVariables false
set_option linter.unusedSimpArgs false
mutual
def spec_GiveRoom.j0:Nat→Bool→Int→List (S35)→List (S35)→Int→Int→Option (Int×(List (S35))×(List (S35))×Bool)
 | 0,_,_,_,_,_,_=>none
 | k+1,x20,x177000,x177001,x177002,x178000,x178001=>if x20=true then (some (0,([]:List (S35)),([]:List (S35)),false)) else (spec_GiveRoom.l0 k ([]:List (S35)) false x177001 (x177001.length:Int) 0 x177000 x177001 x177002 x178000 x178001)
def spec_GiveRoom.l0:Nat→List (S35)→Bool→List (S35)→Int→Int→Int→List (S35)→List (S35)→Int→Int→Option (Int×(List (S35))×(List (S35))×Bool)
 | 0,_,_,_,_,_,_,_,_,_,_=>none
 | k+1,x6,x7,x23,x24,x25,x177000,x177001,x177002,x178000,x178001=>if x25<x24 then (if 0≤x25 then (if x25 < (x23.length:Int) then (if (wrap64 (((ax x23 x25).f0) + ((ax x23 x25).f1)))<x178000 then (if x6.length<8796093022208 then (spec_GiveRoom.l0 k (x6++[(⟨(ax x23 x25).f0,(ax x23 x25).f1⟩:S35)]) x7 x23 x24 (wrap64 (x25+1)) x177000 x177001 x177002 x178000 x178001) else (none)) else (if ((ax x23 x25).f0) > (wrap64 (x178000+x178001)) then (if x7=true then (if x6.length<8796093022208 then (spec_GiveRoom.l0 k (x6++[(⟨(ax x23 x25).f0,(ax x23 x25).f1⟩:S35)]) x7 x23 x24 (wrap64 (x25+1)) x177000 x177001 x177002 x178000 x178001) else (none)) else (if x6.length<8796093022208 then ((some (x6++[(⟨x178000,x178001⟩:S35)]:List (S35))).bind fun y189=>(if y189.length<8796093022208 then (spec_GiveRoom.l0 k (y189++[(⟨(ax x23 x25).f0,(ax x23 x25).f1⟩:S35)]) true x23 x24 (wrap64 (x25+1)) x177000 x177001 x177002 x178000 x178001) else (none))) else (none))) else (if (wrap64 (((ax x23 x25).f0) + ((ax x23 x25).f1)))=x178000 then (spec_GiveRoom.l0 k x6 x7 x23 x24 (wrap64 (x25+1)) x177000 x177001 x177002 ((ax x23 x25).f0) (wrap64 (((ax x23 x25).f1)+x178001))) else (if ((ax x23 x25).f0) = (wrap64 (x178000+x178001)) then (spec_GiveRoom.l0 k x6 x7 x23 x24 (wrap64 (x25+1)) x177000 x177001 x177002 x178000 (wrap64 (x178001 + ((ax x23 x25).f1)))) else (some (0,([]:List (S35)),([]:List (S35)),false)))))) else (none)) else (none)) else (if x7=true then (spec_GiveRoom.j2 k x6 x177000 x177001 x177002) else (if x6.length<8796093022208 then (spec_GiveRoom.j2 k (x6++[(⟨x178000,x178001⟩:S35)]) x177000 x177001 x177002) else (none)))
def spec_GiveRoom.j2:Nat→List (S35)→Int→List (S35)→List (S35)→Option (Int×(List (S35))×(List (S35))×Bool)
 | 0,_,_,_,_=>none
 | k+1,x6,x177000,x177001,x177002=>(spec_l5Of.f k x177000 x6).bind fun bt198=>((spec_GoodFree.f k bt198.1 bt198.2.1 bt198.2.2).bind fun t206=>(if t206=true then (some (bt198.1,bt198.2.1,bt198.2.2,true)) else (some (0,([]:List (S35)),([]:List (S35)),false))))
end
def spec_GiveRoom.f (k:Nat) (a0_0:Int) (l0_1:List (S35)) (l0_2:List (S35)) (a1_0:Int) (a1_1:Int):Option (Int×(List (S35))×(List (S35))×Bool):=(spec_GoodFree.f k a0_0 l0_1 l0_2).bind fun t179=>(if t179=true then ((spec_l5Extent.f a1_0 a1_1 a0_0).bind fun t180=>(spec_GiveRoom.j0 k (!t180) a0_0 l0_1 l0_2 a1_0 a1_1)) else (spec_GiveRoom.j0 k true a0_0 l0_1 l0_2 a1_0 a1_1))
set_option maxHeartbeats 8000000 in
set_option maxRecDepth 100000 in
theorem spec_GiveRoom.calls (k : Nat) (a0_0 : Int) (A0_1 : Option Addr) (c0_1 : Nat) (l0_1 : List (S35)) (A0_2 : Option Addr) (c0_2 : Nat) (l0_2 : List (S35)) (a1_0 : Int) (a1_1 : Int) (r1 : Int) (r2 : List (S35)) (r3 : List (S35)) (r4 : Bool) (w : World) (hr0_1 : Kd.C k35 w A0_1 l0_1.length l0_1) (hc0_1 : l0_1.length ≤ c0_1) (hr0_2 : Kd.C k35 w A0_2 l0_2.length l0_2) (hc0_2 : l0_2.length ≤ c0_2) (h : spec_GiveRoom.f k a0_0 l0_1 l0_2 a1_0 a1_1 = some (r1, r2, r3, r4)) :
  Calls Try.prog 14 #[.agg #[.int .i64 a0_0,.slice A0_1 l0_1.length c0_1,.slice A0_2 l0_2.length c0_2],.agg #[.int .i64 a1_0,.int .i64 a1_1]] w fun e w'=>∃ v1_ v2_:Value,e = .returned (.tuple #[.agg #[.int .i64 r1,v1_,v2_],.bool r4])∧Kd.R k35 35 w' w.heap.size (fun k_=>some k_≠(v2_:Value).ownBlock) v1_ r2∧Kd.R k35 35 w' w.heap.size (fun k_=>some k_≠(v1_:Value).ownBlock) v2_ r3∧Below w.heap.size w w':=by
 have hu24:=Try.underlying24
 have hu35:=Try.underlying35
 have HR0_1:=au hr0_1
 have HC0_1:=au hc0_1
 clear hr0_1 hc0_1
 have HR0_2:=au hr0_2
 have HC0_2:=au hc0_2
 clear hr0_2 hc0_2
 have HB:=au (Below.refl w.heap.size w)
 have H:((spec_GoodFree.f k a0_0 l0_1 l0_2).bind fun t179=>(if t179=true then ((spec_l5Extent.f a1_0 a1_1 a0_0).bind fun t180=>(spec_GiveRoom.j0 k (!t180) a0_0 l0_1 l0_2 a1_0 a1_1)) else (spec_GiveRoom.j0 k true a0_0 l0_1 l0_2 a1_0 a1_1)))=some (r1,r2,r3,r4):=h
 clear h
 have HC3:=au H
 clear H
 go_enter Try.func14,Try.ntmps14
 go_upto_region 1 with(first|((with_reducible refine aM (N:=2) rfl ?_);refine aJ ?hg (N:=2) ?hd (cs:=#[.int .i64 a0_0,.slice A0_1 l0_1.length c0_1,.slice A0_2 l0_2.length c0_2]) (t:=24) ?hr ?_;(case hd=>rfl);(case hg=>rfl);(case hr=>first|(go_simp;done)|(go_simp;rfl));intro gb176 hg w4 hbox hb;have BK176:=au (hbox);have GW176:=au ((by rw[hg];exact(az (by with_reducible repeat(first|exact HB.out|apply ah|apply aa|apply ai))):w.heap.size≤gb176));have GE176:=au ((by rw[hg];exact(az (by with_reducible repeat(first|exact HB.out|apply ah|apply aa|apply ai))):w.heap.size≤gb176));replace HB:=au (aA (by with_reducible repeat(first|exact HB.out|apply ah|apply aa|apply ai)) hb);clear hb hbox hg)|((with_reducible refine aM (N:=3) rfl ?_);refine aJ ?hg (N:=3) ?hd (cs:=#[.int .i64 a1_0,.int .i64 a1_1]) (t:=35) ?hr ?_;(case hd=>rfl);(case hg=>rfl);(case hr=>first|(go_simp;done)|(go_simp;rfl));intro gb177 hg w5 hbox hb;have BK177:=au (hbox);have GW177:=au ((by rw[hg];exact(az (by with_reducible repeat(first|exact HB.out|apply ah|apply aa|apply ai|refine ae ?_ GE176.out))):w.heap.size≤gb177));have GE177:=au ((by rw[hg];exact(az (by with_reducible repeat(first|exact HB.out|apply ah|apply aa|apply ai|refine ae ?_ GE176.out))):w.heap.size≤gb177));replace HB:=au (aA (by with_reducible repeat(first|exact HB.out|apply ah|apply aa|apply ai|refine ae ?_ GE176.out)) hb);have NB176_177:=au ((by rw[hg];exact Nat.ne_of_lt (aH (g:=gb176) (o:=.cells #[.int .i64 a0_0,.slice A0_1 l0_1.length c0_1,.slice A0_2 l0_2.length c0_2] 24 (0,0)) (by(with_reducible repeat(first|apply ag|apply aj|apply af));exact BK176.out)):gb176≠gb177));have NB177_176:=au ((by rw[hg];exact Nat.ne_of_gt (aH (g:=gb176) (o:=.cells #[.int .i64 a0_0,.slice A0_1 l0_1.length c0_1,.slice A0_2 l0_2.length c0_2] 24 (0,0)) (by(with_reducible repeat(first|apply ag|apply aj|apply af));exact BK176.out)):gb177≠gb176));replace BK176:=au (ay (g:=gb176) (o:=.cells #[.int .i64 a0_0,.slice A0_1 l0_1.length c0_1,.slice A0_2 l0_2.length c0_2] 24 (0,0)) (by(with_reducible repeat(first|apply ag|apply aj|apply af));exact BK176.out) hb);clear hb hbox hg)|((with_reducible refine aM (N:=4) rfl ?_);refine aJ ?hg (N:=4) ?hd (cs:=#[.int .i64 0,.slice none 0 0,.slice none 0 0]) (t:=24) ?hr ?_;(case hd=>rfl);(case hg=>rfl);(case hr=>first|(go_simp;done)|(go_simp;rfl));intro gb178 hg w6 hbox hb;have BK178:=au (hbox);have GW178:=au ((by rw[hg];exact(az (by with_reducible repeat(first|exact HB.out|apply ah|apply aa|apply ai|refine ae ?_ GE176.out|refine ae ?_ GE177.out))):w.heap.size≤gb178));have GE178:=au ((by rw[hg];exact(az (by with_reducible repeat(first|exact HB.out|apply ah|apply aa|apply ai|refine ae ?_ GE176.out|refine ae ?_ GE177.out))):w.heap.size≤gb178));replace HB:=au (aA (by with_reducible repeat(first|exact HB.out|apply ah|apply aa|apply ai|refine ae ?_ GE176.out|refine ae ?_ GE177.out)) hb);have NB176_178:=au ((by rw[hg];exact Nat.ne_of_lt (aH (g:=gb176) (o:=.cells #[.int .i64 a0_0,.slice A0_1 l0_1.length c0_1,.slice A0_2 l0_2.length c0_2] 24 (0,0)) (by(with_reducible repeat(first|apply ag|apply aj|apply af));exact BK176.out)):gb176≠gb178));have NB178_176:=au ((by rw[hg];exact Nat.ne_of_gt (aH (g:=gb176) (o:=.cells #[.int .i64 a0_0,.slice A0_1 l0_1.length c0_1,.slice A0_2 l0_2.length c0_2] 24 (0,0)) (by(with_reducible repeat(first|apply ag|apply aj|apply af));exact BK176.out)):gb178≠gb176));replace BK176:=au (ay (g:=gb176) (o:=.cells #[.int .i64 a0_0,.slice A0_1 l0_1.length c0_1,.slice A0_2 l0_2.length c0_2] 24 (0,0)) (by(with_reducible repeat(first|apply ag|apply aj|apply af));exact BK176.out) hb);have NB177_178:=au ((by rw[hg];exact Nat.ne_of_lt (aH (g:=gb177) (o:=.cells #[.int .i64 a1_0,.int .i64 a1_1] 35 (0,0)) (by(with_reducible repeat(first|apply ag|apply aj|apply af));exact BK177.out)):gb177≠gb178));have NB178_177:=au ((by rw[hg];exact Nat.ne_of_gt (aH (g:=gb177) (o:=.cells #[.int .i64 a1_0,.int .i64 a1_1] 35 (0,0)) (by(with_reducible repeat(first|apply ag|apply aj|apply af));exact BK177.out)):gb178≠gb177));replace BK177:=au (ay (g:=gb177) (o:=.cells #[.int .i64 a1_0,.int .i64 a1_1] 35 (0,0)) (by(with_reducible repeat(first|apply ag|apply aj|apply af));exact BK177.out) hb);clear hb hbox hg))
 (try simp only[apu_])
 go_cut [20] (fun v20 wc=>∃ (kq:Nat) (x20_2:Bool),v20 = .bool x20_2∧Aside0 (spec_GiveRoom.j0 kq x20_2 a0_0 l0_1 l0_2 a1_0 a1_1=some (r1,r2,r3,r4))∧Aside0 (kq≤k)∧Aside0 (wc.heap[gb176]? = some (.cells #[.int .i64 a0_0,(.slice A0_1 l0_1.length c0_1),(.slice A0_2 l0_2.length c0_2)] 24 (0,0)))∧Aside0 (wc.heap[gb177]? = some (.cells #[.int .i64 a1_0,.int .i64 a1_1] 35 (0,0)))∧Aside0 (wc.heap[gb178]? = some (.cells #[.int .i64 0,(.slice none 0 0),(.slice none 0 0)] 24 (0,0)))∧Aside0 (Below w.heap.size w wc))
 case first=>
  have H:=HC3.out
  clear HC3
  replace H:=Option.bind_eq_some_iff.mp H
  obtain⟨t179,A70,H⟩:=H
  replace H:(if t179=true then ((spec_l5Extent.f a1_0 a1_1 a0_0).bind fun t180=>(spec_GiveRoom.j0 k (!t180) a0_0 l0_1 l0_2 a1_0 a1_1)) else (spec_GiveRoom.j0 k true a0_0 l0_1 l0_2 a1_0 a1_1))=some (r1,r2,r3,r4):=H
  have A7:=au A70
  clear A70
  by_cases c8:t179=true
  ·subst c8
   have H1:((spec_l5Extent.f a1_0 a1_1 a0_0).bind fun t180=>(spec_GiveRoom.j0 k (!t180) a0_0 l0_1 l0_2 a1_0 a1_1))=some (r1,r2,r3,r4):=by rw[if_pos rfl] at H;exact H
   clear H
   have H:=H1
   clear H1
   replace H:=Option.bind_eq_some_iff.mp H
   obtain⟨t180,A90,H⟩:=H
   replace H:(spec_GiveRoom.j0 k (!t180) a0_0 l0_1 l0_2 a1_0 a1_1)=some (r1,r2,r3,r4):=H
   have A9:=au A90
   clear A90
   have H':=au H
   clear H
   have hnb10:=NB176_177.out
   have hnc10:=NB177_176.out
   have hnb11:=NB176_178.out
   have hnc11:=NB178_176.out
   have hcz12_0:w6.cell? ⟨gb176,0,none⟩=some (.int .i64 a0_0):=(ak BK176.out 0).trans rfl
   have hcz12_1:w6.cell? ⟨gb176,1,none⟩=some (.slice A0_1 l0_1.length c0_1):=(ak BK176.out 1).trans rfl
   have hcz12_2:w6.cell? ⟨gb176,2,none⟩=some (.slice A0_2 l0_2.length c0_2):=(ak BK176.out 2).trans rfl
   have hfz12_0:=av BK176.out 0
   have hfz12_1:=av BK176.out 1
   have hfz12_2:=av BK176.out 2
   go_wp2_with (first|((with_reducible refine aW (f:=25) rfl ?_);refine bO (some 12) rfl rfl Try.func25 (by kernel_rfl) rfl #[.agg #[.int .i64 a0_0,.slice A0_1 l0_1.length c0_1,.slice A0_2 l0_2.length c0_2]] rfl (by(try simp only[amp_]);first|done|rfl|(simp only[ald_];rfl)) ?_;(with_reducible refine(spec_GoodFree.calls k a0_0 _ _ l0_1 _ _ l0_2 true _ ?side1 ?side2 ?side3 ?side4 A7.out).mono ?_);(case side1=>repeat(first|exact(Kd.aN HR0_1.out HB.out)|(with_reducible first|apply Kd.aY|apply Kd.aZ|apply Kd.bn)));(case side2=>exact HC0_1.out);(case side3=>repeat(first|exact(Kd.aN HR0_2.out HB.out)|(with_reducible first|apply Kd.aY|apply Kd.aZ|apply Kd.bn)));(case side4=>exact HC0_2.out);rintro e w13 ⟨rfl,hb⟩;refine⟨_,rfl,?_⟩;replace BK176:=au (ay (g:=gb176) (o:=.cells #[.int .i64 a0_0,.slice A0_1 l0_1.length c0_1,.slice A0_2 l0_2.length c0_2] 24 (0,0)) (by(with_reducible repeat(first|apply ag|apply aj|apply af));exact BK176.out) hb);replace BK177:=au (ay (g:=gb177) (o:=.cells #[.int .i64 a1_0,.int .i64 a1_1] 35 (0,0)) (by(with_reducible repeat(first|apply ag|apply aj|apply af));exact BK177.out) hb);replace BK178:=au (ay (g:=gb178) (o:=.cells #[.int .i64 0,.slice none 0 0,.slice none 0 0] 24 (0,0)) (by(with_reducible repeat(first|apply ag|apply aj|apply af));exact BK178.out) hb);replace HB:=au (aA (by with_reducible repeat(first|exact HB.out|apply ah|apply aa|apply ai|refine ae ?_ GE176.out|refine ae ?_ GE177.out|refine ae ?_ GE178.out)) hb);(try clear hb);(try clear hb2);(try clear hk);(try clear hi);have hnb14:=NB177_178.out;have hnc14:=NB178_177.out;have hcz15_0:w13.cell? ⟨gb177,0,none⟩=some (.int .i64 a1_0):=(ak BK177.out 0).trans rfl;have hcz15_1:w13.cell? ⟨gb177,1,none⟩=some (.int .i64 a1_1):=(ak BK177.out 1).trans rfl;have hfz15_0:=av BK177.out 0;have hfz15_1:=av BK177.out 1;have hcz16_0:w13.cell? ⟨gb176,0,none⟩=some (.int .i64 a0_0):=(ak BK176.out 0).trans rfl;have hcz16_1:w13.cell? ⟨gb176,1,none⟩=some (.slice A0_1 l0_1.length c0_1):=(ak BK176.out 1).trans rfl;have hcz16_2:w13.cell? ⟨gb176,2,none⟩=some (.slice A0_2 l0_2.length c0_2):=(ak BK176.out 2).trans rfl;have hfz16_0:=av BK176.out 0;have hfz16_1:=av BK176.out 1;have hfz16_2:=av BK176.out 2)|(go_at_call 50;(with_reducible refine(spec_l5Extent.calls a1_0 a1_1 a0_0 t180 _ A9.out).mono ?_);rintro e w17 ⟨rfl,hb⟩;replace BK176:=au (ay (g:=gb176) (o:=.cells #[.int .i64 a0_0,.slice A0_1 l0_1.length c0_1,.slice A0_2 l0_2.length c0_2] 24 (0,0)) (by(with_reducible repeat(first|apply ag|apply aj|apply af));exact BK176.out) hb);replace BK177:=au (ay (g:=gb177) (o:=.cells #[.int .i64 a1_0,.int .i64 a1_1] 35 (0,0)) (by(with_reducible repeat(first|apply ag|apply aj|apply af));exact BK177.out) hb);replace BK178:=au (ay (g:=gb178) (o:=.cells #[.int .i64 0,.slice none 0 0,.slice none 0 0] 24 (0,0)) (by(with_reducible repeat(first|apply ag|apply aj|apply af));exact BK178.out) hb);replace HB:=au (aA (by with_reducible repeat(first|exact HB.out|apply ah|apply aa|apply ai|refine ae ?_ GE176.out|refine ae ?_ GE177.out|refine ae ?_ GE178.out)) hb);(try clear hb);(try clear hb2);(try clear hk);(try clear hi)))
   go_meet
   case rel=>exact⟨_,(!t180),(by first|rfl|(simp;done)|(simp[*];done)),H',⟨by first|omega|exact Nat.le_refl _⟩,⟨by(with_reducible repeat(first|apply ag|apply aj|apply af));exact BK176.out⟩,⟨by(with_reducible repeat(first|apply ag|apply aj|apply af));exact BK177.out⟩,⟨by(with_reducible repeat(first|apply ag|apply aj|apply af));exact BK178.out⟩,⟨by with_reducible repeat(first|exact HB.out|apply ah|apply aa|apply ai|refine ae ?_ GE176.out|refine ae ?_ GE177.out|refine ae ?_ GE178.out)⟩⟩
  ·replace c8:=Bool.eq_false_iff.mpr c8
   subst c8
   have H1:(spec_GiveRoom.j0 k true a0_0 l0_1 l0_2 a1_0 a1_1)=some (r1,r2,r3,r4):=by rw[if_neg (show ¬ (false=true) by decide)] at H;exact H
   clear H
   have H:=H1
   clear H1
   have H':=au H
   clear H
   have hnb18:=NB176_177.out
   have hnc18:=NB177_176.out
   have hnb19:=NB176_178.out
   have hnc19:=NB178_176.out
   have hcz20_0:w6.cell? ⟨gb176,0,none⟩=some (.int .i64 a0_0):=(ak BK176.out 0).trans rfl
   have hcz20_1:w6.cell? ⟨gb176,1,none⟩=some (.slice A0_1 l0_1.length c0_1):=(ak BK176.out 1).trans rfl
   have hcz20_2:w6.cell? ⟨gb176,2,none⟩=some (.slice A0_2 l0_2.length c0_2):=(ak BK176.out 2).trans rfl
   have hfz20_0:=av BK176.out 0
   have hfz20_1:=av BK176.out 1
   have hfz20_2:=av BK176.out 2
   go_wp2_with (first|((with_reducible refine aW (f:=25) rfl ?_);refine bO (some 12) rfl rfl Try.func25 (by kernel_rfl) rfl #[.agg #[.int .i64 a0_0,.slice A0_1 l0_1.length c0_1,.slice A0_2 l0_2.length c0_2]] rfl (by(try simp only[amp_]);first|done|rfl|(simp only[ald_];rfl)) ?_;(with_reducible refine(spec_GoodFree.calls k a0_0 _ _ l0_1 _ _ l0_2 false _ ?side1 ?side2 ?side3 ?side4 A7.out).mono ?_);(case side1=>repeat(first|exact(Kd.aN HR0_1.out HB.out)|(with_reducible first|apply Kd.aY|apply Kd.aZ|apply Kd.bn)));(case side2=>exact HC0_1.out);(case side3=>repeat(first|exact(Kd.aN HR0_2.out HB.out)|(with_reducible first|apply Kd.aY|apply Kd.aZ|apply Kd.bn)));(case side4=>exact HC0_2.out);rintro e w21 ⟨rfl,hb⟩;refine⟨_,rfl,?_⟩;replace BK176:=au (ay (g:=gb176) (o:=.cells #[.int .i64 a0_0,.slice A0_1 l0_1.length c0_1,.slice A0_2 l0_2.length c0_2] 24 (0,0)) (by(with_reducible repeat(first|apply ag|apply aj|apply af));exact BK176.out) hb);replace BK177:=au (ay (g:=gb177) (o:=.cells #[.int .i64 a1_0,.int .i64 a1_1] 35 (0,0)) (by(with_reducible repeat(first|apply ag|apply aj|apply af));exact BK177.out) hb);replace BK178:=au (ay (g:=gb178) (o:=.cells #[.int .i64 0,.slice none 0 0,.slice none 0 0] 24 (0,0)) (by(with_reducible repeat(first|apply ag|apply aj|apply af));exact BK178.out) hb);replace HB:=au (aA (by with_reducible repeat(first|exact HB.out|apply ah|apply aa|apply ai|refine ae ?_ GE176.out|refine ae ?_ GE177.out|refine ae ?_ GE178.out)) hb);(try clear hb);(try clear hb2);(try clear hk);(try clear hi)))
   go_meet
   case rel=>exact⟨_,(true),(by first|rfl|(simp;done)|(simp[*];done)),H',⟨by first|omega|exact Nat.le_refl _⟩,⟨by(with_reducible repeat(first|apply ag|apply aj|apply af));exact BK176.out⟩,⟨by(with_reducible repeat(first|apply ag|apply aj|apply af));exact BK177.out⟩,⟨by(with_reducible repeat(first|apply ag|apply aj|apply af));exact BK178.out⟩,⟨by with_reducible repeat(first|exact HB.out|apply ah|apply aa|apply ai|refine ae ?_ GE176.out|refine ae ?_ GE177.out|refine ae ?_ GE178.out)⟩⟩
 case rest =>
  clear HC3
  try clear c1
  try clear c2
  try clear p2
  try clear c8
  try clear c10
  try clear c11
  try clear c14
  try clear c18
  try clear c19
  try clear hcz12_0
  try clear hcz12_1
  try clear hcz12_2
  try clear hcz15_0
  try clear hcz15_1
  try clear hcz16_0
  try clear hcz16_1
  try clear hcz16_2
  try clear hcz20_0
  try clear hcz20_1
  try clear hcz20_2
  try clear hfz12_0
  try clear hfz12_1
  try clear hfz12_2
  try clear hfz15_0
  try clear hfz15_1
  try clear hfz16_0
  try clear hfz16_1
  try clear hfz16_2
  try clear hfz20_0
  try clear hfz20_1
  try clear hfz20_2
  obtain⟨kq,x20_2,rfl,HA,HJ2,BK176,BK177,BK178,HB⟩:=hcut
  cases kq with
  | zero=>exact absurd HA.out (by simp[spec_GiveRoom.j0])
  | succ kj2 =>
   have H:=HA.out
   clear HA
   simp only[spec_GiveRoom.j0] at H
   by_cases c22:x20_2=true
   ·subst c22
    have H1:(some (0,([]:List (S35)),([]:List (S35)),false))=some (r1,r2,r3,r4):=by rw[if_pos rfl] at H;exact H
    clear H
    have H:=H1
    clear H1
    simp only[Option.some.injEq,Prod.mk.injEq] at H
    obtain⟨rfl,rfl,rfl,rfl⟩:=H
    have hnb23:=NB178_176.out
    have hnc23:=NB176_178.out
    have hnb24:=NB178_177.out
    have hnc24:=NB177_178.out
    have hcz25_0:wc.cell? ⟨gb178,0,none⟩=some (.int .i64 0):=(ak BK178.out 0).trans rfl
    have hcz25_1:wc.cell? ⟨gb178,1,none⟩=some (.slice none 0 0):=(ak BK178.out 1).trans rfl
    have hcz25_2:wc.cell? ⟨gb178,2,none⟩=some (.slice none 0 0):=(ak BK178.out 2).trans rfl
    have hfz25_0:=av BK178.out 0
    have hfz25_1:=av BK178.out 1
    have hfz25_2:=av BK178.out 2
    go_wp2
    refine bodyPost_ret (di rfl _ _ gb178 24 #[.int .i64 0,.slice none 0 0,.slice none 0 0] (0,0) _ rfl (by(with_reducible repeat(first|apply ag|apply aj|apply af));refine aK (cs:=#[.int .i64 0,.slice none 0 0,.slice none 0 0]) ?_ 2 _ rfl;(with_reducible repeat(first|apply ag|apply aj|apply af));refine aK (cs:=#[.int .i64 0,.slice none 0 0,.slice none 0 0]) ?_ 1 _ rfl;(with_reducible repeat(first|apply ag|apply aj|apply af));refine aK (cs:=#[.int .i64 0,.slice none 0 0,.slice none 0 0]) ?_ 0 _ rfl;(with_reducible repeat(first|apply ag|apply aj|apply af));exact BK178.out) Try.underlying24 rfl (by kernel_rfl)) rfl ?_
    exact⟨_,_,by first|rfl|(simp <;> rfl)|(simp[*] <;> rfl),by first|exact Kd.dn _ _ _ _ _|exact Kd.dU _ _ _ _ _|exact Kd.dQ _ _ _ _ _|exact Kd.dR _ _ _ _ _|exact Kd.dS _ _ _ _ _,by first|exact Kd.dn _ _ _ _ _|exact Kd.dU _ _ _ _ _|exact Kd.dQ _ _ _ _ _|exact Kd.dR _ _ _ _ _|exact Kd.dS _ _ _ _ _,by with_reducible repeat(first|exact HB.out|apply ah|apply aa|apply ai|refine ae ?_ GE176.out|refine ae ?_ GE177.out|refine ae ?_ GE178.out)⟩
   ·replace c22 := Bool.eq_false_iff.mpr c22
    subst c22
    have H1:(spec_GiveRoom.l0 kj2 ([]:List (S35)) false l0_1 (l0_1.length:Int) 0 a0_0 l0_1 l0_2 a1_0 a1_1)=some (r1,r2,r3,r4):=by rw[if_neg (show ¬ (false=true) by decide)] at H;exact H
    clear H
    have H:=H1
    clear H1
    have H':=au H
    clear H
    have hnb26:=NB176_177.out
    have hnc26:=NB177_176.out
    have hnb27:=NB176_178.out
    have hnc27:=NB178_176.out
    have hcz28_0:wc.cell? ⟨gb176,0,none⟩=some (.int .i64 a0_0):=(ak BK176.out 0).trans rfl
    have hcz28_1:wc.cell? ⟨gb176,1,none⟩=some (.slice A0_1 l0_1.length c0_1):=(ak BK176.out 1).trans rfl
    have hcz28_2:wc.cell? ⟨gb176,2,none⟩=some (.slice A0_2 l0_2.length c0_2):=(ak BK176.out 2).trans rfl
    have hfz28_0:=av BK176.out 0
    have hfz28_1:=av BK176.out 1
    have hfz28_2:=av BK176.out 2
    go_wp2
    go_loopg [6,7,25] kj2 (fun kq v6 v7 v25 w'=>∃ (x6_2:List (S35)) (x7_2:Bool) (x25_2:Int) (x178000_2:Int) (x178001_2:Int) (x179000_2:Int),v7 = .bool x7_2∧v25 = .int .i64 x25_2∧Aside0 (spec_GiveRoom.l0 kq x6_2 x7_2 l0_1 (l0_1.length:Int) x25_2 a0_0 l0_1 l0_2 x178000_2 x178001_2=some (r1,r2,r3,r4))∧Aside0 (kq≤kj2)∧Aside0 (Kd.R k35 35 w' w.heap.size (fun k_=>k_≠gb177) v6 x6_2)∧Aside0 (w'.heap[gb176]? = some (.cells #[.int .i64 a0_0,(.slice A0_1 l0_1.length c0_1),(.slice A0_2 l0_2.length c0_2)] 24 (0,0)))∧Aside0 (w'.heap[gb177]? = some (.cells #[.int .i64 x178000_2,.int .i64 x178001_2] 35 (0,0)))∧Aside0 (w'.heap[gb178]? = some (.cells #[.int .i64 x179000_2,(.slice none 0 0),(.slice none 0 0)] 24 (0,0)))∧Aside0 (Below w.heap.size w w'))
    case atStart=>exact⟨(([]:List (S35))),(false),(0),(a1_0),(a1_1),(0),(by first|rfl|(simp;done)|(simp[*];done)),(by first|rfl|(simp;done)|(simp[*];done)),H',⟨Nat.le_refl _⟩,⟨by first|exact Kd.dn _ _ _ _ _|exact Kd.dU _ _ _ _ _|exact Kd.dQ _ _ _ _ _|exact Kd.dR _ _ _ _ _|exact Kd.dS _ _ _ _ _⟩,⟨by(with_reducible repeat(first|apply ag|apply aj|apply af));exact BK176.out⟩,⟨by(with_reducible repeat(first|apply ag|apply aj|apply af));exact BK177.out⟩,⟨by(with_reducible repeat(first|apply ag|apply aj|apply af));exact BK178.out⟩,⟨by with_reducible repeat(first|exact HB.out|apply ah|apply aa|apply ai|refine ae ?_ GE176.out|refine ae ?_ GE177.out|refine ae ?_ GE178.out)⟩⟩
    case round =>
     clear H'
     try clear c1
     try clear c2
     try clear p2
     try clear c8
     try clear c10
     try clear c11
     try clear c14
     try clear c18
     try clear c19
     try clear c22
     try clear c23
     try clear c24
     try clear c25
     try clear c26
     try clear c27
     try clear hcz12_0
     try clear hcz12_1
     try clear hcz12_2
     try clear hcz15_0
     try clear hcz15_1
     try clear hcz16_0
     try clear hcz16_1
     try clear hcz16_2
     try clear hcz20_0
     try clear hcz20_1
     try clear hcz20_2
     try clear hcz25_0
     try clear hcz25_1
     try clear hcz25_2
     try clear hcz28_0
     try clear hcz28_1
     try clear hcz28_2
     try clear hfz12_0
     try clear hfz12_1
     try clear hfz12_2
     try clear hfz15_0
     try clear hfz15_1
     try clear hfz16_0
     try clear hfz16_1
     try clear hfz16_2
     try clear hfz20_0
     try clear hfz20_1
     try clear hfz20_2
     try clear hfz25_0
     try clear hfz25_1
     try clear hfz25_2
     try clear hfz28_0
     try clear hfz28_1
     try clear hfz28_2
     try clear p2
     obtain⟨x6_2,x7_2,x25_2,x178000_2,x178001_2,x179000_2,rfl,rfl,HA,HK2,HO_6,BK176,BK177,BK178,HB⟩:=hrel
     cases gk with
     | zero=>exact absurd HA.out (by simp[spec_GiveRoom.l0])
     | succ k2 =>
      have H:=HA.out
      clear HA
      simp only[spec_GiveRoom.l0] at H
      by_cases c29:x25_2 < (l0_1.length:Int)
      ·rw [if_pos c29] at H
       have c29b0:decide (x25_2 < (l0_1.length:Int))=true:=decide_eq_true c29
       clear c29
       by_cases c30:0≤x25_2
       ·rw [if_pos c30] at H
        have c30b0:decide (0≤x25_2)=true:=decide_eq_true c30
        clear c30
        by_cases c31:x25_2 < (l0_1.length:Int)
        ·rw [if_pos c31] at H
         have c31b0:decide (x25_2 < (l0_1.length:Int))=true:=decide_eq_true c31
         clear c31
         by_cases c32:(wrap64 (((ax l0_1 x25_2).f0) + ((ax l0_1 x25_2).f1)))<x178000_2
         ·rw[if_pos c32] at H
          have c32b0:decide ((wrap64 (((ax l0_1 x25_2).f0) + ((ax l0_1 x25_2).f1)))<x178000_2)=true:=decide_eq_true c32
          clear c32
          by_cases c33:x6_2.length<8796093022208
          ·rw[if_pos c33] at H
           have LMc33:=au c33
           clear c33
           obtain⟨y183,hy183⟩:∃ y_:List (S35),y_ = (x6_2++[(⟨(ax l0_1 x25_2).f0,(ax l0_1 x25_2).f1⟩:S35)]):=⟨_,rfl⟩
           replace H:(spec_GiveRoom.l0 k2 y183 x7_2 l0_1 (l0_1.length:Int) (wrap64 (x25_2+1)) a0_0 l0_1 l0_2 x178000_2 x178001_2)=some (r1,r2,r3,r4):=by first|(rw[hy183];with_reducible exact H)|(have H2_:=(Option.bind_some _ _).symm.trans H;rw[hy183];with_reducible exact H2_)|(have H2_:=(Option.bind_some _ _).symm.trans H;with_reducible exact H2_)|with_reducible exact H|(rw[hy183];exact H)|exact H
           have Ny183:=au hy183
           clear hy183
           have H':=au H
           clear H
           have p181:0≤(x25_2:Int):=of_decide_eq_true (by assumption)
           have q181:x25_2 < (l0_1.length:Int):=of_decide_eq_true (by assumption)
           obtain⟨ad181,e181,hx181_0,hx181_1⟩:=bF HR0_1.out x25_2 p181 q181
           cases e181
           replace hx181_0:=(HB.out.cell (World.block_lt_of_cell? w _ hx181_0)).trans hx181_0
           replace hx181_1:=(HB.out.cell (World.block_lt_of_cell? w _ hx181_1)).trans hx181_1
           replace p181:=eq_true p181
           replace q181:=eq_true q181
           go_wp2_with (first|((with_reducible refine aM (N:=9) rfl ?_);refine aJ ?hg (N:=9) ?hd (cs:=#[.int .i64 0,.int .i64 0]) (t:=35) ?hr ?_;(case hd=>rfl);(case hg=>rfl);(case hr=>first|(go_simp;done)|(go_simp;rfl));intro gb182 hg w34 hbox hb;replace HO_6:=au (Kd.bi (Kd.eX (by(with_reducible repeat(first|apply Kd.aD|apply Kd.aC|apply Kd.aI));exact HO_6.out) gb182 (Nat.le_of_eq hg.symm)) hb);have BK182:=au (hbox);have GW182:=au ((by rw[hg];exact(az (by with_reducible repeat(first|exact HB.out|apply ah|apply aa|apply ai|refine ae ?_ GE176.out|refine ae ?_ GE177.out|refine ae ?_ GE178.out))):w.heap.size≤gb182));have GE182:=au ((by rw[hg];exact(az (by with_reducible repeat(first|exact HB.out|apply ah|apply aa|apply ai|refine ae ?_ GE176.out|refine ae ?_ GE177.out|refine ae ?_ GE178.out))):w.heap.size≤gb182));replace HB:=au (aA (by with_reducible repeat(first|exact HB.out|apply ah|apply aa|apply ai|refine ae ?_ GE176.out|refine ae ?_ GE177.out|refine ae ?_ GE178.out)) hb);have NB176_182:=au ((by rw[hg];exact Nat.ne_of_lt (aH (g:=gb176) (o:=.cells #[.int .i64 a0_0,.slice (some ad181) l0_1.length c0_1,.slice A0_2 l0_2.length c0_2] 24 (0,0)) (by(with_reducible repeat(first|apply ag|apply aj|apply af));exact BK176.out)):gb176≠gb182));have NB182_176:=au ((by rw[hg];exact Nat.ne_of_gt (aH (g:=gb176) (o:=.cells #[.int .i64 a0_0,.slice (some ad181) l0_1.length c0_1,.slice A0_2 l0_2.length c0_2] 24 (0,0)) (by(with_reducible repeat(first|apply ag|apply aj|apply af));exact BK176.out)):gb182≠gb176));replace BK176:=au (ay (g:=gb176) (o:=.cells #[.int .i64 a0_0,.slice (some ad181) l0_1.length c0_1,.slice A0_2 l0_2.length c0_2] 24 (0,0)) (by(with_reducible repeat(first|apply ag|apply aj|apply af));exact BK176.out) hb);have NB177_182:=au ((by rw[hg];exact Nat.ne_of_lt (aH (g:=gb177) (o:=.cells #[.int .i64 x178000_2,.int .i64 x178001_2] 35 (0,0)) (by(with_reducible repeat(first|apply ag|apply aj|apply af));exact BK177.out)):gb177≠gb182));have NB182_177:=au ((by rw[hg];exact Nat.ne_of_gt (aH (g:=gb177) (o:=.cells #[.int .i64 x178000_2,.int .i64 x178001_2] 35 (0,0)) (by(with_reducible repeat(first|apply ag|apply aj|apply af));exact BK177.out)):gb182≠gb177));replace BK177:=au (ay (g:=gb177) (o:=.cells #[.int .i64 x178000_2,.int .i64 x178001_2] 35 (0,0)) (by(with_reducible repeat(first|apply ag|apply aj|apply af));exact BK177.out) hb);have NB178_182:=au ((by rw[hg];exact Nat.ne_of_lt (aH (g:=gb178) (o:=.cells #[.int .i64 x179000_2,.slice none 0 0,.slice none 0 0] 24 (0,0)) (by(with_reducible repeat(first|apply ag|apply aj|apply af));exact BK178.out)):gb178≠gb182));have NB182_178:=au ((by rw[hg];exact Nat.ne_of_gt (aH (g:=gb178) (o:=.cells #[.int .i64 x179000_2,.slice none 0 0,.slice none 0 0] 24 (0,0)) (by(with_reducible repeat(first|apply ag|apply aj|apply af));exact BK178.out)):gb182≠gb178));replace BK178:=au (ay (g:=gb178) (o:=.cells #[.int .i64 x179000_2,.slice none 0 0,.slice none 0 0] 24 (0,0)) (by(with_reducible repeat(first|apply ag|apply aj|apply af));exact BK178.out) hb);clear hb hbox hg;have hnb35:=NB182_176.out;have hnc35:=NB176_182.out;have hnb36:=NB182_177.out;have hnc36:=NB177_182.out;have hnb37:=NB182_178.out;have hnc37:=NB178_182.out;have hcz38_0:w34.cell? ⟨gb182,0,none⟩=some (.int .i64 0):=(ak BK182.out 0).trans rfl;have hcz38_1:w34.cell? ⟨gb182,1,none⟩=some (.int .i64 0):=(ak BK182.out 1).trans rfl;have hfz38_0:=av BK182.out 0;have hfz38_1:=av BK182.out 1;have hnb39:=NB177_176.out;have hnc39:=NB176_177.out;have hnb40:=NB177_178.out;have hnc40:=NB178_177.out;have hcz41_0:w34.cell? ⟨gb177,0,none⟩=some (.int .i64 x178000_2):=(ak BK177.out 0).trans rfl;have hcz41_1:w34.cell? ⟨gb177,1,none⟩=some (.int .i64 x178001_2):=(ak BK177.out 1).trans rfl;have hfz41_0:=av BK177.out 0;have hfz41_1:=av BK177.out 1)|((with_reducible refine bu (b:=.append) (xs:=#[.tmp 39,.tmp 41]) rfl ?_);at_builtin;refine Kd.dH k35 (w0:=w) w.heap.size rfl (.tmp 39) (.tmp 41) 22 35 (.agg #[(.int .i64 0),(.int .i64 0)]) 16 rfl Try.underlying22 bV rfl (by decide) (by omega) u6 x6_2 (⟨(ax l0_1 x25_2).f0,(ax l0_1 x25_2).f1⟩:S35) [.int .i64 ((ax l0_1 x25_2).f0),.int .i64 ((ax l0_1 x25_2).f1)] (fun k_=>k_≠gb177∧k_≠gb182) (fun _=>False) rfl (by first|(go_simp;done)|(go_simp;rfl)) ?aP (fun _ hk=>hk.elim) ?aF ?aO ?aB ?aS ?aL ?_;(case aP=>exact eu _ _ _ (⟨(ax l0_1 x25_2).f0,(ax l0_1 x25_2).f1⟩:S35));(case aB=>exact(by with_reducible repeat(first|exact HB.out|apply ah|apply aa|apply ai|refine ae ?_ GE176.out|refine ae ?_ GE177.out|refine ae ?_ GE178.out|refine ae ?_ GE182.out)));(case aF=>exact(fun k_ hk=>⟨Kd.bZ (g:=gb177) (o:=.cells #[.int .i64 x178000_2,.int .i64 x178001_2] 35 (0,0)) (by(with_reducible repeat(first|apply ag|apply aj|apply af));refine aG ?_ NB177_182.out _;(with_reducible repeat(first|apply ag|apply aj|apply af));refine aG ?_ NB177_182.out _;(with_reducible repeat(first|apply ag|apply aj|apply af));exact BK177.out) k_ hk,Kd.bZ (g:=gb182) (o:=.cells #[.int .i64 ((ax l0_1 x25_2).f0),.int .i64 ((ax l0_1 x25_2).f1)] 35 (0,0)) (by(with_reducible repeat(first|apply ag|apply aj|apply af));refine aK (cs:=#[.int .i64 ((ax l0_1 x25_2).f0),.int .i64 0]) ?_ 1 _ rfl;(with_reducible repeat(first|apply ag|apply aj|apply af));refine aK (cs:=#[.int .i64 0,.int .i64 0]) ?_ 0 _ rfl;(with_reducible repeat(first|apply ag|apply aj|apply af));exact BK182.out) k_ hk⟩));(case aO=>exact(by(with_reducible repeat(first|apply Kd.aD|apply Kd.aC|apply Kd.aI));exact Kd.aT (Kd.aV (p:=⟨gb182,1,none⟩) (Kd.aV (p:=⟨gb182,0,none⟩) (Kd.aT HO_6.out (fun k_ hk=>(⟨hk,hk.2⟩:_∧k_≠gb182))) (fun _ hk=>hk.2) (.int .i64 ((ax l0_1 x25_2).f0))) (fun _ hk=>hk.2) (.int .i64 ((ax l0_1 x25_2).f1))) (fun _ hk=>⟨hk.1.1,hk.1.2⟩)));(case aS=>exact(az (by with_reducible repeat(first|exact HB.out|apply ah|apply aa|apply ai|refine ae ?_ GE176.out|refine ae ?_ GE177.out|refine ae ?_ GE178.out|refine ae ?_ GE182.out))));(case aL=>have:=LMc33.out;omega);intro v184 w42 ho hb hg hat;rw[← Ny183.out] at ho;replace BK176:=au (bf (g:=gb176) (o:=.cells #[.int .i64 a0_0,.slice (some ad181) l0_1.length c0_1,.slice A0_2 l0_2.length c0_2] 24 (0,0)) (by(with_reducible repeat(first|apply ag|apply aj|apply af));refine aG ?_ NB176_182.out _;(with_reducible repeat(first|apply ag|apply aj|apply af));refine aG ?_ NB176_182.out _;(with_reducible repeat(first|apply ag|apply aj|apply af));exact BK176.out) hg (Kd.gN HO_6.out BK176.out (by decide)));replace BK177:=au (bf (g:=gb177) (o:=.cells #[.int .i64 x178000_2,.int .i64 x178001_2] 35 (0,0)) (by(with_reducible repeat(first|apply ag|apply aj|apply af));refine aG ?_ NB177_182.out _;(with_reducible repeat(first|apply ag|apply aj|apply af));refine aG ?_ NB177_182.out _;(with_reducible repeat(first|apply ag|apply aj|apply af));exact BK177.out) hg (Kd.dA HO_6.out (fun _ hk=>hk.1)));replace BK178:=au (bf (g:=gb178) (o:=.cells #[.int .i64 x179000_2,.slice none 0 0,.slice none 0 0] 24 (0,0)) (by(with_reducible repeat(first|apply ag|apply aj|apply af));refine aG ?_ NB178_182.out _;(with_reducible repeat(first|apply ag|apply aj|apply af));refine aG ?_ NB178_182.out _;(with_reducible repeat(first|apply ag|apply aj|apply af));exact BK178.out) hg (Kd.gN HO_6.out BK178.out (by decide)));replace BK182:=au (bf (g:=gb182) (o:=.cells #[.int .i64 ((ax l0_1 x25_2).f0),.int .i64 ((ax l0_1 x25_2).f1)] 35 (0,0)) (by(with_reducible repeat(first|apply ag|apply aj|apply af));refine aK (cs:=#[.int .i64 ((ax l0_1 x25_2).f0),.int .i64 0]) ?_ 1 _ rfl;(with_reducible repeat(first|apply ag|apply aj|apply af));refine aK (cs:=#[.int .i64 0,.int .i64 0]) ?_ 0 _ rfl;(with_reducible repeat(first|apply ag|apply aj|apply af));exact BK182.out) hg (Kd.dA HO_6.out (fun _ hk=>hk.2)));replace HB:=au (hb);have HO185:=au (ho);clear HO_6;clear ho hb hg hat))
           go_roundg k2
           case measure=>have:=HJ2.out;have:=HK2.out;omega
           case rel=>exact⟨(y183),(x7_2),(wrap64 (x25_2+1)),(x178000_2),(x178001_2),(x179000_2),(by first|rfl|(simp;done)|(simp[*];done)),(by first|rfl|(simp;done)|(simp[*];done)),H',⟨by have:=HJ2.out;have:=HK2.out;omega⟩,⟨by(with_reducible repeat(first|apply Kd.aD|apply Kd.aC|apply Kd.aI));exact Kd.aT HO185.out (fun _ hk=>hk.1)⟩,⟨by(with_reducible repeat(first|apply ag|apply aj|apply af));exact BK176.out⟩,⟨by(with_reducible repeat(first|apply ag|apply aj|apply af));exact BK177.out⟩,⟨by(with_reducible repeat(first|apply ag|apply aj|apply af));exact BK178.out⟩,⟨by with_reducible repeat(first|exact HB.out|apply ah|apply aa|apply ai|refine ae ?_ GE176.out|refine ae ?_ GE177.out|refine ae ?_ GE178.out|refine ae ?_ GE182.out)⟩⟩
          ·rw[if_neg c33] at H
           exact absurd H (by simp)
         ·rw [if_neg c32] at H
          have c32b0:decide ((wrap64 (((ax l0_1 x25_2).f0) + ((ax l0_1 x25_2).f1)))<x178000_2)=false:=decide_eq_false c32
          clear c32
          by_cases c43:((ax l0_1 x25_2).f0) > (wrap64 (x178000_2+x178001_2))
          ·rw [if_pos c43] at H
           have c43b0:decide ((wrap64 (x178000_2+x178001_2)) < ((ax l0_1 x25_2).f0))=true:=decide_eq_true c43
           clear c43
           by_cases c44:x7_2=true
           ·subst c44
            have H1:(if x6_2.length<8796093022208 then (spec_GiveRoom.l0 k2 (x6_2++[(⟨(ax l0_1 x25_2).f0,(ax l0_1 x25_2).f1⟩:S35)]) true l0_1 (l0_1.length:Int) (wrap64 (x25_2+1)) a0_0 l0_1 l0_2 x178000_2 x178001_2) else (none))=some (r1,r2,r3,r4):=by rw[if_pos rfl] at H;exact H
            clear H
            have H:=H1
            clear H1
            by_cases c45:x6_2.length<8796093022208
            ·rw[if_pos c45] at H
             have LMc45:=au c45
             clear c45
             obtain⟨y186,hy186⟩:∃ y_:List (S35),y_ = (x6_2++[(⟨(ax l0_1 x25_2).f0,(ax l0_1 x25_2).f1⟩:S35)]):=⟨_,rfl⟩
             replace H:(spec_GiveRoom.l0 k2 y186 true l0_1 (l0_1.length:Int) (wrap64 (x25_2+1)) a0_0 l0_1 l0_2 x178000_2 x178001_2)=some (r1,r2,r3,r4):=by first|(rw[hy186];with_reducible exact H)|(have H2_:=(Option.bind_some _ _).symm.trans H;rw[hy186];with_reducible exact H2_)|(have H2_:=(Option.bind_some _ _).symm.trans H;with_reducible exact H2_)|with_reducible exact H|(rw[hy186];exact H)|exact H
             have Ny186:=au hy186
             clear hy186
             have H':=au H
             clear H
             have p181:0≤(x25_2:Int):=of_decide_eq_true (by assumption)
             have q181:x25_2 < (l0_1.length:Int):=of_decide_eq_true (by assumption)
             obtain⟨ad181,e181,hx181_0,hx181_1⟩:=bF HR0_1.out x25_2 p181 q181
             cases e181
             replace hx181_0:=(HB.out.cell (World.block_lt_of_cell? w _ hx181_0)).trans hx181_0
             replace hx181_1:=(HB.out.cell (World.block_lt_of_cell? w _ hx181_1)).trans hx181_1
             replace p181:=eq_true p181
             replace q181:=eq_true q181
             go_wp2_with (first|((with_reducible refine aM (N:=9) rfl ?_);refine aJ ?hg (N:=9) ?hd (cs:=#[.int .i64 0,.int .i64 0]) (t:=35) ?hr ?_;(case hd=>rfl);(case hg=>rfl);(case hr=>first|(go_simp;done)|(go_simp;rfl));intro gb182 hg w46 hbox hb;replace HO_6:=au (Kd.bi (Kd.eX (by(with_reducible repeat(first|apply Kd.aD|apply Kd.aC|apply Kd.aI));exact HO_6.out) gb182 (Nat.le_of_eq hg.symm)) hb);have BK182:=au (hbox);have GW182:=au ((by rw[hg];exact(az (by with_reducible repeat(first|exact HB.out|apply ah|apply aa|apply ai|refine ae ?_ GE176.out|refine ae ?_ GE177.out|refine ae ?_ GE178.out))):w.heap.size≤gb182));have GE182:=au ((by rw[hg];exact(az (by with_reducible repeat(first|exact HB.out|apply ah|apply aa|apply ai|refine ae ?_ GE176.out|refine ae ?_ GE177.out|refine ae ?_ GE178.out))):w.heap.size≤gb182));replace HB:=au (aA (by with_reducible repeat(first|exact HB.out|apply ah|apply aa|apply ai|refine ae ?_ GE176.out|refine ae ?_ GE177.out|refine ae ?_ GE178.out)) hb);have NB176_182:=au ((by rw[hg];exact Nat.ne_of_lt (aH (g:=gb176) (o:=.cells #[.int .i64 a0_0,.slice (some ad181) l0_1.length c0_1,.slice A0_2 l0_2.length c0_2] 24 (0,0)) (by(with_reducible repeat(first|apply ag|apply aj|apply af));exact BK176.out)):gb176≠gb182));have NB182_176:=au ((by rw[hg];exact Nat.ne_of_gt (aH (g:=gb176) (o:=.cells #[.int .i64 a0_0,.slice (some ad181) l0_1.length c0_1,.slice A0_2 l0_2.length c0_2] 24 (0,0)) (by(with_reducible repeat(first|apply ag|apply aj|apply af));exact BK176.out)):gb182≠gb176));replace BK176:=au (ay (g:=gb176) (o:=.cells #[.int .i64 a0_0,.slice (some ad181) l0_1.length c0_1,.slice A0_2 l0_2.length c0_2] 24 (0,0)) (by(with_reducible repeat(first|apply ag|apply aj|apply af));exact BK176.out) hb);have NB177_182:=au ((by rw[hg];exact Nat.ne_of_lt (aH (g:=gb177) (o:=.cells #[.int .i64 x178000_2,.int .i64 x178001_2] 35 (0,0)) (by(with_reducible repeat(first|apply ag|apply aj|apply af));exact BK177.out)):gb177≠gb182));have NB182_177:=au ((by rw[hg];exact Nat.ne_of_gt (aH (g:=gb177) (o:=.cells #[.int .i64 x178000_2,.int .i64 x178001_2] 35 (0,0)) (by(with_reducible repeat(first|apply ag|apply aj|apply af));exact BK177.out)):gb182≠gb177));replace BK177:=au (ay (g:=gb177) (o:=.cells #[.int .i64 x178000_2,.int .i64 x178001_2] 35 (0,0)) (by(with_reducible repeat(first|apply ag|apply aj|apply af));exact BK177.out) hb);have NB178_182:=au ((by rw[hg];exact Nat.ne_of_lt (aH (g:=gb178) (o:=.cells #[.int .i64 x179000_2,.slice none 0 0,.slice none 0 0] 24 (0,0)) (by(with_reducible repeat(first|apply ag|apply aj|apply af));exact BK178.out)):gb178≠gb182));have NB182_178:=au ((by rw[hg];exact Nat.ne_of_gt (aH (g:=gb178) (o:=.cells #[.int .i64 x179000_2,.slice none 0 0,.slice none 0 0] 24 (0,0)) (by(with_reducible repeat(first|apply ag|apply aj|apply af));exact BK178.out)):gb182≠gb178));replace BK178:=au (ay (g:=gb178) (o:=.cells #[.int .i64 x179000_2,.slice none 0 0,.slice none 0 0] 24 (0,0)) (by(with_reducible repeat(first|apply ag|apply aj|apply af));exact BK178.out) hb);clear hb hbox hg;have hnb47:=NB182_176.out;have hnc47:=NB176_182.out;have hnb48:=NB182_177.out;have hnc48:=NB177_182.out;have hnb49:=NB182_178.out;have hnc49:=NB178_182.out;have hcz50_0:w46.cell? ⟨gb182,0,none⟩=some (.int .i64 0):=(ak BK182.out 0).trans rfl;have hcz50_1:w46.cell? ⟨gb182,1,none⟩=some (.int .i64 0):=(ak BK182.out 1).trans rfl;have hfz50_0:=av BK182.out 0;have hfz50_1:=av BK182.out 1;have hnb51:=NB177_176.out;have hnc51:=NB176_177.out;have hnb52:=NB177_178.out;have hnc52:=NB178_177.out;have hcz53_0:w46.cell? ⟨gb177,0,none⟩=some (.int .i64 x178000_2):=(ak BK177.out 0).trans rfl;have hcz53_1:w46.cell? ⟨gb177,1,none⟩=some (.int .i64 x178001_2):=(ak BK177.out 1).trans rfl;have hfz53_0:=av BK177.out 0;have hfz53_1:=av BK177.out 1)|((with_reducible refine bu (b:=.append) (xs:=#[.tmp 58,.tmp 60]) rfl ?_);at_builtin;refine Kd.dH k35 (w0:=w) w.heap.size rfl (.tmp 58) (.tmp 60) 22 35 (.agg #[(.int .i64 0),(.int .i64 0)]) 16 rfl Try.underlying22 bV rfl (by decide) (by omega) u6 x6_2 (⟨(ax l0_1 x25_2).f0,(ax l0_1 x25_2).f1⟩:S35) [.int .i64 ((ax l0_1 x25_2).f0),.int .i64 ((ax l0_1 x25_2).f1)] (fun k_=>k_≠gb177∧k_≠gb182) (fun _=>False) rfl (by first|(go_simp;done)|(go_simp;rfl)) ?aP (fun _ hk=>hk.elim) ?aF ?aO ?aB ?aS ?aL ?_;(case aP=>exact eu _ _ _ (⟨(ax l0_1 x25_2).f0,(ax l0_1 x25_2).f1⟩:S35));(case aB=>exact(by with_reducible repeat(first|exact HB.out|apply ah|apply aa|apply ai|refine ae ?_ GE176.out|refine ae ?_ GE177.out|refine ae ?_ GE178.out|refine ae ?_ GE182.out)));(case aF=>exact(fun k_ hk=>⟨Kd.bZ (g:=gb177) (o:=.cells #[.int .i64 x178000_2,.int .i64 x178001_2] 35 (0,0)) (by(with_reducible repeat(first|apply ag|apply aj|apply af));refine aG ?_ NB177_182.out _;(with_reducible repeat(first|apply ag|apply aj|apply af));refine aG ?_ NB177_182.out _;(with_reducible repeat(first|apply ag|apply aj|apply af));exact BK177.out) k_ hk,Kd.bZ (g:=gb182) (o:=.cells #[.int .i64 ((ax l0_1 x25_2).f0),.int .i64 ((ax l0_1 x25_2).f1)] 35 (0,0)) (by(with_reducible repeat(first|apply ag|apply aj|apply af));refine aK (cs:=#[.int .i64 ((ax l0_1 x25_2).f0),.int .i64 0]) ?_ 1 _ rfl;(with_reducible repeat(first|apply ag|apply aj|apply af));refine aK (cs:=#[.int .i64 0,.int .i64 0]) ?_ 0 _ rfl;(with_reducible repeat(first|apply ag|apply aj|apply af));exact BK182.out) k_ hk⟩));(case aO=>exact(by(with_reducible repeat(first|apply Kd.aD|apply Kd.aC|apply Kd.aI));exact Kd.aT (Kd.aV (p:=⟨gb182,1,none⟩) (Kd.aV (p:=⟨gb182,0,none⟩) (Kd.aT HO_6.out (fun k_ hk=>(⟨hk,hk.2⟩:_∧k_≠gb182))) (fun _ hk=>hk.2) (.int .i64 ((ax l0_1 x25_2).f0))) (fun _ hk=>hk.2) (.int .i64 ((ax l0_1 x25_2).f1))) (fun _ hk=>⟨hk.1.1,hk.1.2⟩)));(case aS=>exact(az (by with_reducible repeat(first|exact HB.out|apply ah|apply aa|apply ai|refine ae ?_ GE176.out|refine ae ?_ GE177.out|refine ae ?_ GE178.out|refine ae ?_ GE182.out))));(case aL=>have:=LMc45.out;omega);intro v187 w54 ho hb hg hat;rw[← Ny186.out] at ho;replace BK176:=au (bf (g:=gb176) (o:=.cells #[.int .i64 a0_0,.slice (some ad181) l0_1.length c0_1,.slice A0_2 l0_2.length c0_2] 24 (0,0)) (by(with_reducible repeat(first|apply ag|apply aj|apply af));refine aG ?_ NB176_182.out _;(with_reducible repeat(first|apply ag|apply aj|apply af));refine aG ?_ NB176_182.out _;(with_reducible repeat(first|apply ag|apply aj|apply af));exact BK176.out) hg (Kd.gN HO_6.out BK176.out (by decide)));replace BK177:=au (bf (g:=gb177) (o:=.cells #[.int .i64 x178000_2,.int .i64 x178001_2] 35 (0,0)) (by(with_reducible repeat(first|apply ag|apply aj|apply af));refine aG ?_ NB177_182.out _;(with_reducible repeat(first|apply ag|apply aj|apply af));refine aG ?_ NB177_182.out _;(with_reducible repeat(first|apply ag|apply aj|apply af));exact BK177.out) hg (Kd.dA HO_6.out (fun _ hk=>hk.1)));replace BK178:=au (bf (g:=gb178) (o:=.cells #[.int .i64 x179000_2,.slice none 0 0,.slice none 0 0] 24 (0,0)) (by(with_reducible repeat(first|apply ag|apply aj|apply af));refine aG ?_ NB178_182.out _;(with_reducible repeat(first|apply ag|apply aj|apply af));refine aG ?_ NB178_182.out _;(with_reducible repeat(first|apply ag|apply aj|apply af));exact BK178.out) hg (Kd.gN HO_6.out BK178.out (by decide)));replace BK182:=au (bf (g:=gb182) (o:=.cells #[.int .i64 ((ax l0_1 x25_2).f0),.int .i64 ((ax l0_1 x25_2).f1)] 35 (0,0)) (by(with_reducible repeat(first|apply ag|apply aj|apply af));refine aK (cs:=#[.int .i64 ((ax l0_1 x25_2).f0),.int .i64 0]) ?_ 1 _ rfl;(with_reducible repeat(first|apply ag|apply aj|apply af));refine aK (cs:=#[.int .i64 0,.int .i64 0]) ?_ 0 _ rfl;(with_reducible repeat(first|apply ag|apply aj|apply af));exact BK182.out) hg (Kd.dA HO_6.out (fun _ hk=>hk.2)));replace HB:=au (hb);have HO188:=au (ho);clear HO_6;clear ho hb hg hat))
             go_roundg k2
             case measure=>have:=HJ2.out;have:=HK2.out;omega
             case rel=>exact⟨(y186),(true),(wrap64 (x25_2+1)),(x178000_2),(x178001_2),(x179000_2),(by first|rfl|(simp;done)|(simp[*];done)),(by first|rfl|(simp;done)|(simp[*];done)),H',⟨by have:=HJ2.out;have:=HK2.out;omega⟩,⟨by(with_reducible repeat(first|apply Kd.aD|apply Kd.aC|apply Kd.aI));exact Kd.aT HO188.out (fun _ hk=>hk.1)⟩,⟨by(with_reducible repeat(first|apply ag|apply aj|apply af));exact BK176.out⟩,⟨by(with_reducible repeat(first|apply ag|apply aj|apply af));exact BK177.out⟩,⟨by(with_reducible repeat(first|apply ag|apply aj|apply af));exact BK178.out⟩,⟨by with_reducible repeat(first|exact HB.out|apply ah|apply aa|apply ai|refine ae ?_ GE176.out|refine ae ?_ GE177.out|refine ae ?_ GE178.out|refine ae ?_ GE182.out)⟩⟩
            ·rw[if_neg c45] at H
             exact absurd H (by simp)
           ·replace c44:=Bool.eq_false_iff.mpr c44
            subst c44
            have H1:(if x6_2.length<8796093022208 then ((some (x6_2++[(⟨x178000_2,x178001_2⟩:S35)]:List (S35))).bind fun y189=>(if y189.length<8796093022208 then (spec_GiveRoom.l0 k2 (y189++[(⟨(ax l0_1 x25_2).f0,(ax l0_1 x25_2).f1⟩:S35)]) true l0_1 (l0_1.length:Int) (wrap64 (x25_2+1)) a0_0 l0_1 l0_2 x178000_2 x178001_2) else (none))) else (none))=some (r1,r2,r3,r4):=by rw[if_neg (show ¬ (false=true) by decide)] at H;exact H
            clear H
            have H:=H1
            clear H1
            by_cases c55:x6_2.length<8796093022208
            ·rw[if_pos c55] at H
             have LMc55:=au c55
             clear c55
             obtain⟨y189,hy189⟩:∃ y_:List (S35),y_ = (x6_2++[(⟨x178000_2,x178001_2⟩:S35)]):=⟨_,rfl⟩
             replace H:(if y189.length<8796093022208 then (spec_GiveRoom.l0 k2 (y189++[(⟨(ax l0_1 x25_2).f0,(ax l0_1 x25_2).f1⟩:S35)]) true l0_1 (l0_1.length:Int) (wrap64 (x25_2+1)) a0_0 l0_1 l0_2 x178000_2 x178001_2) else (none))=some (r1,r2,r3,r4):=by first|(rw[hy189];with_reducible exact H)|(have H2_:=(Option.bind_some _ _).symm.trans H;rw[hy189];with_reducible exact H2_)|(have H2_:=(Option.bind_some _ _).symm.trans H;with_reducible exact H2_)|with_reducible exact H|(rw[hy189];exact H)|exact H
             have Ny189:=au hy189
             clear hy189
             by_cases c56:y189.length<8796093022208
             ·rw[if_pos c56] at H
              have LMc56:=au c56
              clear c56
              obtain⟨y192,hy192⟩:∃ y_:List (S35),y_ = (y189++[(⟨(ax l0_1 x25_2).f0,(ax l0_1 x25_2).f1⟩:S35)]):=⟨_,rfl⟩
              replace H:(spec_GiveRoom.l0 k2 y192 true l0_1 (l0_1.length:Int) (wrap64 (x25_2+1)) a0_0 l0_1 l0_2 x178000_2 x178001_2)=some (r1,r2,r3,r4):=by first|(rw[hy192];with_reducible exact H)|(have H2_:=(Option.bind_some _ _).symm.trans H;rw[hy192];with_reducible exact H2_)|(have H2_:=(Option.bind_some _ _).symm.trans H;with_reducible exact H2_)|with_reducible exact H|(rw[hy192];exact H)|exact H
              have Ny192:=au hy192
              clear hy192
              have H':=au H
              clear H
              have p181:0≤(x25_2:Int):=of_decide_eq_true (by assumption)
              have q181:x25_2 < (l0_1.length:Int):=of_decide_eq_true (by assumption)
              obtain⟨ad181,e181,hx181_0,hx181_1⟩:=bF HR0_1.out x25_2 p181 q181
              cases e181
              replace hx181_0:=(HB.out.cell (World.block_lt_of_cell? w _ hx181_0)).trans hx181_0
              replace hx181_1:=(HB.out.cell (World.block_lt_of_cell? w _ hx181_1)).trans hx181_1
              replace p181:=eq_true p181
              replace q181:=eq_true q181
              go_wp2_with (first|((with_reducible refine aM (N:=9) rfl ?_);refine aJ ?hg (N:=9) ?hd (cs:=#[.int .i64 0,.int .i64 0]) (t:=35) ?hr ?_;(case hd=>rfl);(case hg=>rfl);(case hr=>first|(go_simp;done)|(go_simp;rfl));intro gb182 hg w57 hbox hb;replace HO_6:=au (Kd.bi (Kd.eX (by(with_reducible repeat(first|apply Kd.aD|apply Kd.aC|apply Kd.aI));exact HO_6.out) gb182 (Nat.le_of_eq hg.symm)) hb);have BK182:=au (hbox);have GW182:=au ((by rw[hg];exact(az (by with_reducible repeat(first|exact HB.out|apply ah|apply aa|apply ai|refine ae ?_ GE176.out|refine ae ?_ GE177.out|refine ae ?_ GE178.out))):w.heap.size≤gb182));have GE182:=au ((by rw[hg];exact(az (by with_reducible repeat(first|exact HB.out|apply ah|apply aa|apply ai|refine ae ?_ GE176.out|refine ae ?_ GE177.out|refine ae ?_ GE178.out))):w.heap.size≤gb182));replace HB:=au (aA (by with_reducible repeat(first|exact HB.out|apply ah|apply aa|apply ai|refine ae ?_ GE176.out|refine ae ?_ GE177.out|refine ae ?_ GE178.out)) hb);have NB176_182:=au ((by rw[hg];exact Nat.ne_of_lt (aH (g:=gb176) (o:=.cells #[.int .i64 a0_0,.slice (some ad181) l0_1.length c0_1,.slice A0_2 l0_2.length c0_2] 24 (0,0)) (by(with_reducible repeat(first|apply ag|apply aj|apply af));exact BK176.out)):gb176≠gb182));have NB182_176:=au ((by rw[hg];exact Nat.ne_of_gt (aH (g:=gb176) (o:=.cells #[.int .i64 a0_0,.slice (some ad181) l0_1.length c0_1,.slice A0_2 l0_2.length c0_2] 24 (0,0)) (by(with_reducible repeat(first|apply ag|apply aj|apply af));exact BK176.out)):gb182≠gb176));replace BK176:=au (ay (g:=gb176) (o:=.cells #[.int .i64 a0_0,.slice (some ad181) l0_1.length c0_1,.slice A0_2 l0_2.length c0_2] 24 (0,0)) (by(with_reducible repeat(first|apply ag|apply aj|apply af));exact BK176.out) hb);have NB177_182:=au ((by rw[hg];exact Nat.ne_of_lt (aH (g:=gb177) (o:=.cells #[.int .i64 x178000_2,.int .i64 x178001_2] 35 (0,0)) (by(with_reducible repeat(first|apply ag|apply aj|apply af));exact BK177.out)):gb177≠gb182));have NB182_177:=au ((by rw[hg];exact Nat.ne_of_gt (aH (g:=gb177) (o:=.cells #[.int .i64 x178000_2,.int .i64 x178001_2] 35 (0,0)) (by(with_reducible repeat(first|apply ag|apply aj|apply af));exact BK177.out)):gb182≠gb177));replace BK177:=au (ay (g:=gb177) (o:=.cells #[.int .i64 x178000_2,.int .i64 x178001_2] 35 (0,0)) (by(with_reducible repeat(first|apply ag|apply aj|apply af));exact BK177.out) hb);have NB178_182:=au ((by rw[hg];exact Nat.ne_of_lt (aH (g:=gb178) (o:=.cells #[.int .i64 x179000_2,.slice none 0 0,.slice none 0 0] 24 (0,0)) (by(with_reducible repeat(first|apply ag|apply aj|apply af));exact BK178.out)):gb178≠gb182));have NB182_178:=au ((by rw[hg];exact Nat.ne_of_gt (aH (g:=gb178) (o:=.cells #[.int .i64 x179000_2,.slice none 0 0,.slice none 0 0] 24 (0,0)) (by(with_reducible repeat(first|apply ag|apply aj|apply af));exact BK178.out)):gb182≠gb178));replace BK178:=au (ay (g:=gb178) (o:=.cells #[.int .i64 x179000_2,.slice none 0 0,.slice none 0 0] 24 (0,0)) (by(with_reducible repeat(first|apply ag|apply aj|apply af));exact BK178.out) hb);clear hb hbox hg;have hnb58:=NB182_176.out;have hnc58:=NB176_182.out;have hnb59:=NB182_177.out;have hnc59:=NB177_182.out;have hnb60:=NB182_178.out;have hnc60:=NB178_182.out;have hcz61_0:w57.cell? ⟨gb182,0,none⟩=some (.int .i64 0):=(ak BK182.out 0).trans rfl;have hcz61_1:w57.cell? ⟨gb182,1,none⟩=some (.int .i64 0):=(ak BK182.out 1).trans rfl;have hfz61_0:=av BK182.out 0;have hfz61_1:=av BK182.out 1;have hnb62:=NB177_176.out;have hnc62:=NB176_177.out;have hnb63:=NB177_178.out;have hnc63:=NB178_177.out;have hcz64_0:w57.cell? ⟨gb177,0,none⟩=some (.int .i64 x178000_2):=(ak BK177.out 0).trans rfl;have hcz64_1:w57.cell? ⟨gb177,1,none⟩=some (.int .i64 x178001_2):=(ak BK177.out 1).trans rfl;have hfz64_0:=av BK177.out 0;have hfz64_1:=av BK177.out 1)|((with_reducible refine bu (b:=.append) (xs:=#[.tmp 54,.tmp 56]) rfl ?_);at_builtin;refine Kd.dH k35 (w0:=w) w.heap.size rfl (.tmp 54) (.tmp 56) 22 35 (.agg #[(.int .i64 0),(.int .i64 0)]) 16 rfl Try.underlying22 bV rfl (by decide) (by omega) u6 x6_2 (⟨x178000_2,x178001_2⟩:S35) [.int .i64 x178000_2,.int .i64 x178001_2] (fun k_=>k_≠gb177∧k_≠gb182) (fun _=>False) rfl (by first|(go_simp;done)|(go_simp;rfl)) ?aP (fun _ hk=>hk.elim) ?aF ?aO ?aB ?aS ?aL ?_;(case aP=>exact eu _ _ _ (⟨x178000_2,x178001_2⟩:S35));(case aB=>exact(by with_reducible repeat(first|exact HB.out|apply ah|apply aa|apply ai|refine ae ?_ GE176.out|refine ae ?_ GE177.out|refine ae ?_ GE178.out|refine ae ?_ GE182.out)));(case aF=>exact(fun k_ hk=>⟨Kd.bZ (g:=gb177) (o:=.cells #[.int .i64 x178000_2,.int .i64 x178001_2] 35 (0,0)) (by(with_reducible repeat(first|apply ag|apply aj|apply af));refine aG ?_ NB177_182.out _;(with_reducible repeat(first|apply ag|apply aj|apply af));refine aG ?_ NB177_182.out _;(with_reducible repeat(first|apply ag|apply aj|apply af));exact BK177.out) k_ hk,Kd.bZ (g:=gb182) (o:=.cells #[.int .i64 ((ax l0_1 x25_2).f0),.int .i64 ((ax l0_1 x25_2).f1)] 35 (0,0)) (by(with_reducible repeat(first|apply ag|apply aj|apply af));refine aK (cs:=#[.int .i64 ((ax l0_1 x25_2).f0),.int .i64 0]) ?_ 1 _ rfl;(with_reducible repeat(first|apply ag|apply aj|apply af));refine aK (cs:=#[.int .i64 0,.int .i64 0]) ?_ 0 _ rfl;(with_reducible repeat(first|apply ag|apply aj|apply af));exact BK182.out) k_ hk⟩));(case aO=>exact(by(with_reducible repeat(first|apply Kd.aD|apply Kd.aC|apply Kd.aI));exact Kd.aT (Kd.aV (p:=⟨gb182,1,none⟩) (Kd.aV (p:=⟨gb182,0,none⟩) (Kd.aT HO_6.out (fun k_ hk=>(⟨hk,hk.2⟩:_∧k_≠gb182))) (fun _ hk=>hk.2) (.int .i64 ((ax l0_1 x25_2).f0))) (fun _ hk=>hk.2) (.int .i64 ((ax l0_1 x25_2).f1))) (fun _ hk=>⟨hk.1.1,hk.1.2⟩)));(case aS=>exact(az (by with_reducible repeat(first|exact HB.out|apply ah|apply aa|apply ai|refine ae ?_ GE176.out|refine ae ?_ GE177.out|refine ae ?_ GE178.out|refine ae ?_ GE182.out))));(case aL=>have:=LMc55.out;omega);intro v190 w65 ho hb hg hat;rw[← Ny189.out] at ho;replace BK176:=au (bf (g:=gb176) (o:=.cells #[.int .i64 a0_0,.slice (some ad181) l0_1.length c0_1,.slice A0_2 l0_2.length c0_2] 24 (0,0)) (by(with_reducible repeat(first|apply ag|apply aj|apply af));refine aG ?_ NB176_182.out _;(with_reducible repeat(first|apply ag|apply aj|apply af));refine aG ?_ NB176_182.out _;(with_reducible repeat(first|apply ag|apply aj|apply af));exact BK176.out) hg (Kd.gN HO_6.out BK176.out (by decide)));replace BK177:=au (bf (g:=gb177) (o:=.cells #[.int .i64 x178000_2,.int .i64 x178001_2] 35 (0,0)) (by(with_reducible repeat(first|apply ag|apply aj|apply af));refine aG ?_ NB177_182.out _;(with_reducible repeat(first|apply ag|apply aj|apply af));refine aG ?_ NB177_182.out _;(with_reducible repeat(first|apply ag|apply aj|apply af));exact BK177.out) hg (Kd.dA HO_6.out (fun _ hk=>hk.1)));replace BK178:=au (bf (g:=gb178) (o:=.cells #[.int .i64 x179000_2,.slice none 0 0,.slice none 0 0] 24 (0,0)) (by(with_reducible repeat(first|apply ag|apply aj|apply af));refine aG ?_ NB178_182.out _;(with_reducible repeat(first|apply ag|apply aj|apply af));refine aG ?_ NB178_182.out _;(with_reducible repeat(first|apply ag|apply aj|apply af));exact BK178.out) hg (Kd.gN HO_6.out BK178.out (by decide)));replace BK182:=au (bf (g:=gb182) (o:=.cells #[.int .i64 ((ax l0_1 x25_2).f0),.int .i64 ((ax l0_1 x25_2).f1)] 35 (0,0)) (by(with_reducible repeat(first|apply ag|apply aj|apply af));refine aK (cs:=#[.int .i64 ((ax l0_1 x25_2).f0),.int .i64 0]) ?_ 1 _ rfl;(with_reducible repeat(first|apply ag|apply aj|apply af));refine aK (cs:=#[.int .i64 0,.int .i64 0]) ?_ 0 _ rfl;(with_reducible repeat(first|apply ag|apply aj|apply af));exact BK182.out) hg (Kd.dA HO_6.out (fun _ hk=>hk.2)));replace HB:=au (hb);have HO191:=au (ho);clear HO_6;clear ho hb hg hat;have hcz66_0:w65.cell? ⟨gb182,0,none⟩=some (.int .i64 ((ax l0_1 x25_2).f0)):=(ak BK182.out 0).trans rfl;have hcz66_1:w65.cell? ⟨gb182,1,none⟩=some (.int .i64 ((ax l0_1 x25_2).f1)):=(ak BK182.out 1).trans rfl;have hfz66_0:=av BK182.out 0;have hfz66_1:=av BK182.out 1)|((with_reducible refine bu (b:=.append) (xs:=#[.tmp 58,.tmp 60]) rfl ?_);at_builtin;refine Kd.dH k35 (w0:=w) w.heap.size rfl (.tmp 58) (.tmp 60) 22 35 (.agg #[(.int .i64 0),(.int .i64 0)]) 16 rfl Try.underlying22 bV rfl (by decide) (by omega) v190 y189 (⟨(ax l0_1 x25_2).f0,(ax l0_1 x25_2).f1⟩:S35) [.int .i64 ((ax l0_1 x25_2).f0),.int .i64 ((ax l0_1 x25_2).f1)] (fun k_=>k_≠gb177∧k_≠gb182) (fun _=>False) rfl rfl ?aP (fun _ hk=>hk.elim) ?aF ?aO ?aB ?aS ?aL ?_;(case aP=>exact eu _ _ _ (⟨(ax l0_1 x25_2).f0,(ax l0_1 x25_2).f1⟩:S35));(case aB=>exact(by with_reducible repeat(first|exact HB.out|apply ah|apply aa|apply ai|refine ae ?_ GE176.out|refine ae ?_ GE177.out|refine ae ?_ GE178.out|refine ae ?_ GE182.out)));(case aF=>exact(fun k_ hk=>⟨Kd.bZ (g:=gb177) (o:=.cells #[.int .i64 x178000_2,.int .i64 x178001_2] 35 (0,0)) (by(with_reducible repeat(first|apply ag|apply aj|apply af));exact BK177.out) k_ hk,Kd.bZ (g:=gb182) (o:=.cells #[.int .i64 ((ax l0_1 x25_2).f0),.int .i64 ((ax l0_1 x25_2).f1)] 35 (0,0)) (by(with_reducible repeat(first|apply ag|apply aj|apply af));exact BK182.out) k_ hk⟩));(case aO=>exact(by(with_reducible repeat(first|apply Kd.aD|apply Kd.aC|apply Kd.aI));exact HO191.out));(case aS=>exact(az (by with_reducible repeat(first|exact HB.out|apply ah|apply aa|apply ai|refine ae ?_ GE176.out|refine ae ?_ GE177.out|refine ae ?_ GE178.out|refine ae ?_ GE182.out))));(case aL=>have:=LMc56.out;omega);intro v193 w67 ho hb hg hat;rw[← Ny192.out] at ho;replace BK176:=au (bf (g:=gb176) (o:=.cells #[.int .i64 a0_0,.slice (some ad181) l0_1.length c0_1,.slice A0_2 l0_2.length c0_2] 24 (0,0)) (by(with_reducible repeat(first|apply ag|apply aj|apply af));exact BK176.out) hg (Kd.gN HO191.out BK176.out (by decide)));replace BK177:=au (bf (g:=gb177) (o:=.cells #[.int .i64 x178000_2,.int .i64 x178001_2] 35 (0,0)) (by(with_reducible repeat(first|apply ag|apply aj|apply af));exact BK177.out) hg (Kd.dA HO191.out (fun _ hk=>hk.1)));replace BK178:=au (bf (g:=gb178) (o:=.cells #[.int .i64 x179000_2,.slice none 0 0,.slice none 0 0] 24 (0,0)) (by(with_reducible repeat(first|apply ag|apply aj|apply af));exact BK178.out) hg (Kd.gN HO191.out BK178.out (by decide)));replace BK182:=au (bf (g:=gb182) (o:=.cells #[.int .i64 ((ax l0_1 x25_2).f0),.int .i64 ((ax l0_1 x25_2).f1)] 35 (0,0)) (by(with_reducible repeat(first|apply ag|apply aj|apply af));exact BK182.out) hg (Kd.dA HO191.out (fun _ hk=>hk.2)));replace HB:=au (hb);have HO194:=au (ho);clear HO191;clear ho hb hg hat))
              go_roundg k2
              case measure=>have:=HJ2.out;have:=HK2.out;omega
              case rel=>exact⟨(y192),(true),(wrap64 (x25_2+1)),(x178000_2),(x178001_2),(x179000_2),(by first|rfl|(simp;done)|(simp[*];done)),(by first|rfl|(simp;done)|(simp[*];done)),H',⟨by have:=HJ2.out;have:=HK2.out;omega⟩,⟨by(with_reducible repeat(first|apply Kd.aD|apply Kd.aC|apply Kd.aI));exact Kd.aT HO194.out (fun _ hk=>hk.1)⟩,⟨by(with_reducible repeat(first|apply ag|apply aj|apply af));exact BK176.out⟩,⟨by(with_reducible repeat(first|apply ag|apply aj|apply af));exact BK177.out⟩,⟨by(with_reducible repeat(first|apply ag|apply aj|apply af));exact BK178.out⟩,⟨by with_reducible repeat(first|exact HB.out|apply ah|apply aa|apply ai|refine ae ?_ GE176.out|refine ae ?_ GE177.out|refine ae ?_ GE178.out|refine ae ?_ GE182.out)⟩⟩
             ·rw[if_neg c56] at H
              exact absurd H (by simp)
            ·rw[if_neg c55] at H
             exact absurd H (by simp)
          ·rw[if_neg c43] at H
           have c43b0:decide ((wrap64 (x178000_2+x178001_2)) < ((ax l0_1 x25_2).f0))=false:=decide_eq_false c43
           clear c43
           by_cases c68:(wrap64 (((ax l0_1 x25_2).f0) + ((ax l0_1 x25_2).f1)))=x178000_2
           ·rw[if_pos c68] at H
            have c68b0:((wrap64 (((ax l0_1 x25_2).f0) + ((ax l0_1 x25_2).f1))) == x178000_2)=true:=beq_iff_eq.mpr c68
            have c68b1:((wrap64 (((ax l0_1 x25_2).f0) + ((ax l0_1 x25_2).f1))) != x178000_2)=false:=bne_eq_false_iff_eq.mpr c68
            clear c68
            have H':=au H
            clear H
            have p181:0≤(x25_2:Int):=of_decide_eq_true (by assumption)
            have q181:x25_2 < (l0_1.length:Int):=of_decide_eq_true (by assumption)
            obtain⟨ad181,e181,hx181_0,hx181_1⟩:=bF HR0_1.out x25_2 p181 q181
            cases e181
            replace hx181_0:=(HB.out.cell (World.block_lt_of_cell? w _ hx181_0)).trans hx181_0
            replace hx181_1:=(HB.out.cell (World.block_lt_of_cell? w _ hx181_1)).trans hx181_1
            replace p181:=eq_true p181
            replace q181:=eq_true q181
            go_wp2_with (first|((with_reducible refine aM (N:=9) rfl ?_);refine aJ ?hg (N:=9) ?hd (cs:=#[.int .i64 0,.int .i64 0]) (t:=35) ?hr ?_;(case hd=>rfl);(case hg=>rfl);(case hr=>first|(go_simp;done)|(go_simp;rfl));intro gb182 hg w69 hbox hb;replace HO_6:=au (Kd.bi (Kd.eX (by(with_reducible repeat(first|apply Kd.aD|apply Kd.aC|apply Kd.aI));exact HO_6.out) gb182 (Nat.le_of_eq hg.symm)) hb);have BK182:=au (hbox);have GW182:=au ((by rw[hg];exact(az (by with_reducible repeat(first|exact HB.out|apply ah|apply aa|apply ai|refine ae ?_ GE176.out|refine ae ?_ GE177.out|refine ae ?_ GE178.out))):w.heap.size≤gb182));have GE182:=au ((by rw[hg];exact(az (by with_reducible repeat(first|exact HB.out|apply ah|apply aa|apply ai|refine ae ?_ GE176.out|refine ae ?_ GE177.out|refine ae ?_ GE178.out))):w.heap.size≤gb182));replace HB:=au (aA (by with_reducible repeat(first|exact HB.out|apply ah|apply aa|apply ai|refine ae ?_ GE176.out|refine ae ?_ GE177.out|refine ae ?_ GE178.out)) hb);have NB176_182:=au ((by rw[hg];exact Nat.ne_of_lt (aH (g:=gb176) (o:=.cells #[.int .i64 a0_0,.slice (some ad181) l0_1.length c0_1,.slice A0_2 l0_2.length c0_2] 24 (0,0)) (by(with_reducible repeat(first|apply ag|apply aj|apply af));exact BK176.out)):gb176≠gb182));have NB182_176:=au ((by rw[hg];exact Nat.ne_of_gt (aH (g:=gb176) (o:=.cells #[.int .i64 a0_0,.slice (some ad181) l0_1.length c0_1,.slice A0_2 l0_2.length c0_2] 24 (0,0)) (by(with_reducible repeat(first|apply ag|apply aj|apply af));exact BK176.out)):gb182≠gb176));replace BK176:=au (ay (g:=gb176) (o:=.cells #[.int .i64 a0_0,.slice (some ad181) l0_1.length c0_1,.slice A0_2 l0_2.length c0_2] 24 (0,0)) (by(with_reducible repeat(first|apply ag|apply aj|apply af));exact BK176.out) hb);have NB177_182:=au ((by rw[hg];exact Nat.ne_of_lt (aH (g:=gb177) (o:=.cells #[.int .i64 x178000_2,.int .i64 x178001_2] 35 (0,0)) (by(with_reducible repeat(first|apply ag|apply aj|apply af));exact BK177.out)):gb177≠gb182));have NB182_177:=au ((by rw[hg];exact Nat.ne_of_gt (aH (g:=gb177) (o:=.cells #[.int .i64 x178000_2,.int .i64 x178001_2] 35 (0,0)) (by(with_reducible repeat(first|apply ag|apply aj|apply af));exact BK177.out)):gb182≠gb177));replace BK177:=au (ay (g:=gb177) (o:=.cells #[.int .i64 x178000_2,.int .i64 x178001_2] 35 (0,0)) (by(with_reducible repeat(first|apply ag|apply aj|apply af));exact BK177.out) hb);have NB178_182:=au ((by rw[hg];exact Nat.ne_of_lt (aH (g:=gb178) (o:=.cells #[.int .i64 x179000_2,.slice none 0 0,.slice none 0 0] 24 (0,0)) (by(with_reducible repeat(first|apply ag|apply aj|apply af));exact BK178.out)):gb178≠gb182));have NB182_178:=au ((by rw[hg];exact Nat.ne_of_gt (aH (g:=gb178) (o:=.cells #[.int .i64 x179000_2,.slice none 0 0,.slice none 0 0] 24 (0,0)) (by(with_reducible repeat(first|apply ag|apply aj|apply af));exact BK178.out)):gb182≠gb178));replace BK178:=au (ay (g:=gb178) (o:=.cells #[.int .i64 x179000_2,.slice none 0 0,.slice none 0 0] 24 (0,0)) (by(with_reducible repeat(first|apply ag|apply aj|apply af));exact BK178.out) hb);clear hb hbox hg;have hnb70:=NB182_176.out;have hnc70:=NB176_182.out;have hnb71:=NB182_177.out;have hnc71:=NB177_182.out;have hnb72:=NB182_178.out;have hnc72:=NB178_182.out;have hcz73_0:w69.cell? ⟨gb182,0,none⟩=some (.int .i64 0):=(ak BK182.out 0).trans rfl;have hcz73_1:w69.cell? ⟨gb182,1,none⟩=some (.int .i64 0):=(ak BK182.out 1).trans rfl;have hfz73_0:=av BK182.out 0;have hfz73_1:=av BK182.out 1;have hnb74:=NB177_176.out;have hnc74:=NB176_177.out;have hnb75:=NB177_178.out;have hnc75:=NB178_177.out;have hcz76_0:w69.cell? ⟨gb177,0,none⟩=some (.int .i64 x178000_2):=(ak BK177.out 0).trans rfl;have hcz76_1:w69.cell? ⟨gb177,1,none⟩=some (.int .i64 x178001_2):=(ak BK177.out 1).trans rfl;have hfz76_0:=av BK177.out 0;have hfz76_1:=av BK177.out 1))
            go_roundg k2
            case measure=>have:=HJ2.out;have:=HK2.out;omega
            case rel=>exact⟨(x6_2),(x7_2),(wrap64 (x25_2+1)),((ax l0_1 x25_2).f0),(wrap64 (((ax l0_1 x25_2).f1)+x178001_2)),(x179000_2),(by first|rfl|(simp;done)|(simp[*];done)),(by first|rfl|(simp;done)|(simp[*];done)),H',⟨by have:=HJ2.out;have:=HK2.out;omega⟩,⟨by(with_reducible repeat(first|apply Kd.aD|apply Kd.aC|apply Kd.aI));exact Kd.aT (Kd.aV (p:=⟨gb177,1,none⟩) (Kd.aV (p:=⟨gb177,0,none⟩) (Kd.aV (p:=⟨gb182,1,none⟩) (Kd.aV (p:=⟨gb182,0,none⟩) (Kd.aT (Kd.aT HO_6.out (fun k_ hk=>(⟨hk,hk.2⟩:_∧k_≠gb182))) (fun k_ hk=>(⟨hk,hk.1.1⟩:_∧k_≠gb177))) (fun _ hk=>hk.1.2) (.int .i64 ((ax l0_1 x25_2).f0))) (fun _ hk=>hk.1.2) (.int .i64 ((ax l0_1 x25_2).f1))) (fun _ hk=>hk.2) (.int .i64 ((ax l0_1 x25_2).f0))) (fun _ hk=>hk.2) (.int .i64 (wrap64 (((ax l0_1 x25_2).f1)+x178001_2)))) (fun _ hk=>hk.1.1.1)⟩,⟨by(with_reducible repeat(first|apply ag|apply aj|apply af));refine aG ?_ NB176_177.out _;(with_reducible repeat(first|apply ag|apply aj|apply af));refine aG ?_ NB176_177.out _;(with_reducible repeat(first|apply ag|apply aj|apply af));refine aG ?_ NB176_182.out _;(with_reducible repeat(first|apply ag|apply aj|apply af));refine aG ?_ NB176_182.out _;(with_reducible repeat(first|apply ag|apply aj|apply af));exact BK176.out⟩,⟨by(with_reducible repeat(first|apply ag|apply aj|apply af));refine aK (cs:=#[.int .i64 ((ax l0_1 x25_2).f0),.int .i64 x178001_2]) ?_ 1 _ rfl;(with_reducible repeat(first|apply ag|apply aj|apply af));refine aK (cs:=#[.int .i64 x178000_2,.int .i64 x178001_2]) ?_ 0 _ rfl;(with_reducible repeat(first|apply ag|apply aj|apply af));refine aG ?_ NB177_182.out _;(with_reducible repeat(first|apply ag|apply aj|apply af));refine aG ?_ NB177_182.out _;(with_reducible repeat(first|apply ag|apply aj|apply af));exact BK177.out⟩,⟨by(with_reducible repeat(first|apply ag|apply aj|apply af));refine aG ?_ NB178_177.out _;(with_reducible repeat(first|apply ag|apply aj|apply af));refine aG ?_ NB178_177.out _;(with_reducible repeat(first|apply ag|apply aj|apply af));refine aG ?_ NB178_182.out _;(with_reducible repeat(first|apply ag|apply aj|apply af));refine aG ?_ NB178_182.out _;(with_reducible repeat(first|apply ag|apply aj|apply af));exact BK178.out⟩,⟨by with_reducible repeat(first|exact HB.out|apply ah|apply aa|apply ai|refine ae ?_ GE176.out|refine ae ?_ GE177.out|refine ae ?_ GE178.out|refine ae ?_ GE182.out)⟩⟩
           ·rw[if_neg c68] at H
            have c68b0:((wrap64 (((ax l0_1 x25_2).f0) + ((ax l0_1 x25_2).f1))) == x178000_2)=false:=beq_eq_false_iff_ne.mpr c68
            have c68b1:((wrap64 (((ax l0_1 x25_2).f0) + ((ax l0_1 x25_2).f1))) != x178000_2)=true:=bne_iff_ne.mpr c68
            by_cases c77:((ax l0_1 x25_2).f0) = (wrap64 (x178000_2+x178001_2))
            ·rw[if_pos c77] at H
             have c77b0:(((ax l0_1 x25_2).f0) == (wrap64 (x178000_2+x178001_2)))=true:=beq_iff_eq.mpr c77
             have c77b1:(((ax l0_1 x25_2).f0) != (wrap64 (x178000_2+x178001_2)))=false:=bne_eq_false_iff_eq.mpr c77
             clear c77
             have H':=au H
             clear H
             have p181:0≤(x25_2:Int):=of_decide_eq_true (by assumption)
             have q181:x25_2 < (l0_1.length:Int):=of_decide_eq_true (by assumption)
             obtain⟨ad181,e181,hx181_0,hx181_1⟩:=bF HR0_1.out x25_2 p181 q181
             cases e181
             replace hx181_0:=(HB.out.cell (World.block_lt_of_cell? w _ hx181_0)).trans hx181_0
             replace hx181_1:=(HB.out.cell (World.block_lt_of_cell? w _ hx181_1)).trans hx181_1
             replace p181:=eq_true p181
             replace q181:=eq_true q181
             go_wp2_with (first|((with_reducible refine aM (N:=9) rfl ?_);refine aJ ?hg (N:=9) ?hd (cs:=#[.int .i64 0,.int .i64 0]) (t:=35) ?hr ?_;(case hd=>rfl);(case hg=>rfl);(case hr=>first|(go_simp;done)|(go_simp;rfl));intro gb182 hg w78 hbox hb;replace HO_6:=au (Kd.bi (Kd.eX (by(with_reducible repeat(first|apply Kd.aD|apply Kd.aC|apply Kd.aI));exact HO_6.out) gb182 (Nat.le_of_eq hg.symm)) hb);have BK182:=au (hbox);have GW182:=au ((by rw[hg];exact(az (by with_reducible repeat(first|exact HB.out|apply ah|apply aa|apply ai|refine ae ?_ GE176.out|refine ae ?_ GE177.out|refine ae ?_ GE178.out))):w.heap.size≤gb182));have GE182:=au ((by rw[hg];exact(az (by with_reducible repeat(first|exact HB.out|apply ah|apply aa|apply ai|refine ae ?_ GE176.out|refine ae ?_ GE177.out|refine ae ?_ GE178.out))):w.heap.size≤gb182));replace HB:=au (aA (by with_reducible repeat(first|exact HB.out|apply ah|apply aa|apply ai|refine ae ?_ GE176.out|refine ae ?_ GE177.out|refine ae ?_ GE178.out)) hb);have NB176_182:=au ((by rw[hg];exact Nat.ne_of_lt (aH (g:=gb176) (o:=.cells #[.int .i64 a0_0,.slice (some ad181) l0_1.length c0_1,.slice A0_2 l0_2.length c0_2] 24 (0,0)) (by(with_reducible repeat(first|apply ag|apply aj|apply af));exact BK176.out)):gb176≠gb182));have NB182_176:=au ((by rw[hg];exact Nat.ne_of_gt (aH (g:=gb176) (o:=.cells #[.int .i64 a0_0,.slice (some ad181) l0_1.length c0_1,.slice A0_2 l0_2.length c0_2] 24 (0,0)) (by(with_reducible repeat(first|apply ag|apply aj|apply af));exact BK176.out)):gb182≠gb176));replace BK176:=au (ay (g:=gb176) (o:=.cells #[.int .i64 a0_0,.slice (some ad181) l0_1.length c0_1,.slice A0_2 l0_2.length c0_2] 24 (0,0)) (by(with_reducible repeat(first|apply ag|apply aj|apply af));exact BK176.out) hb);have NB177_182:=au ((by rw[hg];exact Nat.ne_of_lt (aH (g:=gb177) (o:=.cells #[.int .i64 x178000_2,.int .i64 x178001_2] 35 (0,0)) (by(with_reducible repeat(first|apply ag|apply aj|apply af));exact BK177.out)):gb177≠gb182));have NB182_177:=au ((by rw[hg];exact Nat.ne_of_gt (aH (g:=gb177) (o:=.cells #[.int .i64 x178000_2,.int .i64 x178001_2] 35 (0,0)) (by(with_reducible repeat(first|apply ag|apply aj|apply af));exact BK177.out)):gb182≠gb177));replace BK177:=au (ay (g:=gb177) (o:=.cells #[.int .i64 x178000_2,.int .i64 x178001_2] 35 (0,0)) (by(with_reducible repeat(first|apply ag|apply aj|apply af));exact BK177.out) hb);have NB178_182:=au ((by rw[hg];exact Nat.ne_of_lt (aH (g:=gb178) (o:=.cells #[.int .i64 x179000_2,.slice none 0 0,.slice none 0 0] 24 (0,0)) (by(with_reducible repeat(first|apply ag|apply aj|apply af));exact BK178.out)):gb178≠gb182));have NB182_178:=au ((by rw[hg];exact Nat.ne_of_gt (aH (g:=gb178) (o:=.cells #[.int .i64 x179000_2,.slice none 0 0,.slice none 0 0] 24 (0,0)) (by(with_reducible repeat(first|apply ag|apply aj|apply af));exact BK178.out)):gb182≠gb178));replace BK178:=au (ay (g:=gb178) (o:=.cells #[.int .i64 x179000_2,.slice none 0 0,.slice none 0 0] 24 (0,0)) (by(with_reducible repeat(first|apply ag|apply aj|apply af));exact BK178.out) hb);clear hb hbox hg;have hnb79:=NB182_176.out;have hnc79:=NB176_182.out;have hnb80:=NB182_177.out;have hnc80:=NB177_182.out;have hnb81:=NB182_178.out;have hnc81:=NB178_182.out;have hcz82_0:w78.cell? ⟨gb182,0,none⟩=some (.int .i64 0):=(ak BK182.out 0).trans rfl;have hcz82_1:w78.cell? ⟨gb182,1,none⟩=some (.int .i64 0):=(ak BK182.out 1).trans rfl;have hfz82_0:=av BK182.out 0;have hfz82_1:=av BK182.out 1;have hnb83:=NB177_176.out;have hnc83:=NB176_177.out;have hnb84:=NB177_178.out;have hnc84:=NB178_177.out;have hcz85_0:w78.cell? ⟨gb177,0,none⟩=some (.int .i64 x178000_2):=(ak BK177.out 0).trans rfl;have hcz85_1:w78.cell? ⟨gb177,1,none⟩=some (.int .i64 x178001_2):=(ak BK177.out 1).trans rfl;have hfz85_0:=av BK177.out 0;have hfz85_1:=av BK177.out 1))
             go_roundg k2
             case measure=>have:=HJ2.out;have:=HK2.out;omega
             case rel=>exact⟨(x6_2),(x7_2),(wrap64 (x25_2+1)),(x178000_2),(wrap64 (x178001_2 + ((ax l0_1 x25_2).f1))),(x179000_2),(by first|rfl|(simp;done)|(simp[*];done)),(by first|rfl|(simp;done)|(simp[*];done)),H',⟨by have:=HJ2.out;have:=HK2.out;omega⟩,⟨by(with_reducible repeat(first|apply Kd.aD|apply Kd.aC|apply Kd.aI));exact Kd.aT (Kd.aV (p:=⟨gb177,1,none⟩) (Kd.aV (p:=⟨gb182,1,none⟩) (Kd.aV (p:=⟨gb182,0,none⟩) (Kd.aT (Kd.aT HO_6.out (fun k_ hk=>(⟨hk,hk.2⟩:_∧k_≠gb182))) (fun k_ hk=>(⟨hk,hk.1.1⟩:_∧k_≠gb177))) (fun _ hk=>hk.1.2) (.int .i64 ((ax l0_1 x25_2).f0))) (fun _ hk=>hk.1.2) (.int .i64 ((ax l0_1 x25_2).f1))) (fun _ hk=>hk.2) (.int .i64 (wrap64 (x178001_2 + ((ax l0_1 x25_2).f1))))) (fun _ hk=>hk.1.1.1)⟩,⟨by(with_reducible repeat(first|apply ag|apply aj|apply af));refine aG ?_ NB176_177.out _;(with_reducible repeat(first|apply ag|apply aj|apply af));refine aG ?_ NB176_182.out _;(with_reducible repeat(first|apply ag|apply aj|apply af));refine aG ?_ NB176_182.out _;(with_reducible repeat(first|apply ag|apply aj|apply af));exact BK176.out⟩,⟨by(with_reducible repeat(first|apply ag|apply aj|apply af));refine aK (cs:=#[.int .i64 x178000_2,.int .i64 x178001_2]) ?_ 1 _ rfl;(with_reducible repeat(first|apply ag|apply aj|apply af));refine aG ?_ NB177_182.out _;(with_reducible repeat(first|apply ag|apply aj|apply af));refine aG ?_ NB177_182.out _;(with_reducible repeat(first|apply ag|apply aj|apply af));exact BK177.out⟩,⟨by(with_reducible repeat(first|apply ag|apply aj|apply af));refine aG ?_ NB178_177.out _;(with_reducible repeat(first|apply ag|apply aj|apply af));refine aG ?_ NB178_182.out _;(with_reducible repeat(first|apply ag|apply aj|apply af));refine aG ?_ NB178_182.out _;(with_reducible repeat(first|apply ag|apply aj|apply af));exact BK178.out⟩,⟨by with_reducible repeat(first|exact HB.out|apply ah|apply aa|apply ai|refine ae ?_ GE176.out|refine ae ?_ GE177.out|refine ae ?_ GE178.out|refine ae ?_ GE182.out)⟩⟩
            ·rw[if_neg c77] at H
             have c77b0:(((ax l0_1 x25_2).f0) == (wrap64 (x178000_2+x178001_2)))=false:=beq_eq_false_iff_ne.mpr c77
             have c77b1:(((ax l0_1 x25_2).f0) != (wrap64 (x178000_2+x178001_2)))=true:=bne_iff_ne.mpr c77
             simp only[Option.some.injEq,Prod.mk.injEq] at H
             obtain⟨rfl,rfl,rfl,rfl⟩:=H
             have p181:0≤(x25_2:Int):=of_decide_eq_true (by assumption)
             have q181:x25_2 < (l0_1.length:Int):=of_decide_eq_true (by assumption)
             obtain⟨ad181,e181,hx181_0,hx181_1⟩:=bF HR0_1.out x25_2 p181 q181
             cases e181
             replace hx181_0:=(HB.out.cell (World.block_lt_of_cell? w _ hx181_0)).trans hx181_0
             replace hx181_1:=(HB.out.cell (World.block_lt_of_cell? w _ hx181_1)).trans hx181_1
             replace p181:=eq_true p181
             replace q181:=eq_true q181
             go_wp2_with (first|((with_reducible refine aM (N:=9) rfl ?_);refine aJ ?hg (N:=9) ?hd (cs:=#[.int .i64 0,.int .i64 0]) (t:=35) ?hr ?_;(case hd=>rfl);(case hg=>rfl);(case hr=>first|(go_simp;done)|(go_simp;rfl));intro gb182 hg w86 hbox hb;replace HO_6:=au (Kd.bi (Kd.eX (by(with_reducible repeat(first|apply Kd.aD|apply Kd.aC|apply Kd.aI));exact HO_6.out) gb182 (Nat.le_of_eq hg.symm)) hb);have BK182:=au (hbox);have GW182:=au ((by rw[hg];exact(az (by with_reducible repeat(first|exact HB.out|apply ah|apply aa|apply ai|refine ae ?_ GE176.out|refine ae ?_ GE177.out|refine ae ?_ GE178.out))):w.heap.size≤gb182));have GE182:=au ((by rw[hg];exact(az (by with_reducible repeat(first|exact HB.out|apply ah|apply aa|apply ai|refine ae ?_ GE176.out|refine ae ?_ GE177.out|refine ae ?_ GE178.out))):w.heap.size≤gb182));replace HB:=au (aA (by with_reducible repeat(first|exact HB.out|apply ah|apply aa|apply ai|refine ae ?_ GE176.out|refine ae ?_ GE177.out|refine ae ?_ GE178.out)) hb);have NB176_182:=au ((by rw[hg];exact Nat.ne_of_lt (aH (g:=gb176) (o:=.cells #[.int .i64 a0_0,.slice (some ad181) l0_1.length c0_1,.slice A0_2 l0_2.length c0_2] 24 (0,0)) (by(with_reducible repeat(first|apply ag|apply aj|apply af));exact BK176.out)):gb176≠gb182));have NB182_176:=au ((by rw[hg];exact Nat.ne_of_gt (aH (g:=gb176) (o:=.cells #[.int .i64 a0_0,.slice (some ad181) l0_1.length c0_1,.slice A0_2 l0_2.length c0_2] 24 (0,0)) (by(with_reducible repeat(first|apply ag|apply aj|apply af));exact BK176.out)):gb182≠gb176));replace BK176:=au (ay (g:=gb176) (o:=.cells #[.int .i64 a0_0,.slice (some ad181) l0_1.length c0_1,.slice A0_2 l0_2.length c0_2] 24 (0,0)) (by(with_reducible repeat(first|apply ag|apply aj|apply af));exact BK176.out) hb);have NB177_182:=au ((by rw[hg];exact Nat.ne_of_lt (aH (g:=gb177) (o:=.cells #[.int .i64 x178000_2,.int .i64 x178001_2] 35 (0,0)) (by(with_reducible repeat(first|apply ag|apply aj|apply af));exact BK177.out)):gb177≠gb182));have NB182_177:=au ((by rw[hg];exact Nat.ne_of_gt (aH (g:=gb177) (o:=.cells #[.int .i64 x178000_2,.int .i64 x178001_2] 35 (0,0)) (by(with_reducible repeat(first|apply ag|apply aj|apply af));exact BK177.out)):gb182≠gb177));replace BK177:=au (ay (g:=gb177) (o:=.cells #[.int .i64 x178000_2,.int .i64 x178001_2] 35 (0,0)) (by(with_reducible repeat(first|apply ag|apply aj|apply af));exact BK177.out) hb);have NB178_182:=au ((by rw[hg];exact Nat.ne_of_lt (aH (g:=gb178) (o:=.cells #[.int .i64 x179000_2,.slice none 0 0,.slice none 0 0] 24 (0,0)) (by(with_reducible repeat(first|apply ag|apply aj|apply af));exact BK178.out)):gb178≠gb182));have NB182_178:=au ((by rw[hg];exact Nat.ne_of_gt (aH (g:=gb178) (o:=.cells #[.int .i64 x179000_2,.slice none 0 0,.slice none 0 0] 24 (0,0)) (by(with_reducible repeat(first|apply ag|apply aj|apply af));exact BK178.out)):gb182≠gb178));replace BK178:=au (ay (g:=gb178) (o:=.cells #[.int .i64 x179000_2,.slice none 0 0,.slice none 0 0] 24 (0,0)) (by(with_reducible repeat(first|apply ag|apply aj|apply af));exact BK178.out) hb);clear hb hbox hg;have hnb87:=NB182_176.out;have hnc87:=NB176_182.out;have hnb88:=NB182_177.out;have hnc88:=NB177_182.out;have hnb89:=NB182_178.out;have hnc89:=NB178_182.out;have hcz90_0:w86.cell? ⟨gb182,0,none⟩=some (.int .i64 0):=(ak BK182.out 0).trans rfl;have hcz90_1:w86.cell? ⟨gb182,1,none⟩=some (.int .i64 0):=(ak BK182.out 1).trans rfl;have hfz90_0:=av BK182.out 0;have hfz90_1:=av BK182.out 1;have hnb91:=NB177_176.out;have hnc91:=NB176_177.out;have hnb92:=NB177_178.out;have hnc92:=NB178_177.out;have hcz93_0:w86.cell? ⟨gb177,0,none⟩=some (.int .i64 x178000_2):=(ak BK177.out 0).trans rfl;have hcz93_1:w86.cell? ⟨gb177,1,none⟩=some (.int .i64 x178001_2):=(ak BK177.out 1).trans rfl;have hfz93_0:=av BK177.out 0;have hfz93_1:=av BK177.out 1;have hnb94:=NB178_176.out;have hnc94:=NB176_178.out;have hcz95_0:w86.cell? ⟨gb178,0,none⟩=some (.int .i64 x179000_2):=(ak BK178.out 0).trans rfl;have hcz95_1:w86.cell? ⟨gb178,1,none⟩=some (.slice none 0 0):=(ak BK178.out 1).trans rfl;have hcz95_2:w86.cell? ⟨gb178,2,none⟩=some (.slice none 0 0):=(ak BK178.out 2).trans rfl;have hfz95_0:=av BK178.out 0;have hfz95_1:=av BK178.out 1;have hfz95_2:=av BK178.out 2))
             refine bodyPost_ret (di rfl _ _ gb178 24 #[.int .i64 0,.slice none 0 0,.slice none 0 0] (0,0) _ rfl (by(with_reducible repeat(first|apply ag|apply aj|apply af));refine aK (cs:=#[.int .i64 0,.slice none 0 0,.slice none 0 0]) ?_ 2 _ rfl;(with_reducible repeat(first|apply ag|apply aj|apply af));refine aK (cs:=#[.int .i64 0,.slice none 0 0,.slice none 0 0]) ?_ 1 _ rfl;(with_reducible repeat(first|apply ag|apply aj|apply af));refine aK (cs:=#[.int .i64 x179000_2,.slice none 0 0,.slice none 0 0]) ?_ 0 _ rfl;(with_reducible repeat(first|apply ag|apply aj|apply af));refine aG ?_ NB178_182.out _;(with_reducible repeat(first|apply ag|apply aj|apply af));refine aG ?_ NB178_182.out _;(with_reducible repeat(first|apply ag|apply aj|apply af));exact BK178.out) Try.underlying24 rfl (by kernel_rfl)) rfl ?_
             exact⟨_,_,by first|rfl|(simp <;> rfl)|(simp[*] <;> rfl),by first|exact Kd.dn _ _ _ _ _|exact Kd.dU _ _ _ _ _|exact Kd.dQ _ _ _ _ _|exact Kd.dR _ _ _ _ _|exact Kd.dS _ _ _ _ _,by first|exact Kd.dn _ _ _ _ _|exact Kd.dU _ _ _ _ _|exact Kd.dQ _ _ _ _ _|exact Kd.dR _ _ _ _ _|exact Kd.dS _ _ _ _ _,by with_reducible repeat(first|exact HB.out|apply ah|apply aa|apply ai|refine ae ?_ GE176.out|refine ae ?_ GE177.out|refine ae ?_ GE178.out|refine ae ?_ GE182.out)⟩
        ·rw[if_neg c31] at H
         exact absurd H (by simp)
       ·rw[if_neg c30] at H
        exact absurd H (by simp)
      ·rw [if_neg c29] at H
       have c29b0:decide (x25_2 < (l0_1.length:Int))=false:=decide_eq_false c29
       clear c29
       have HC96:=au H
       clear H
       go_upto_if 96 with(fail)
       go_cut [6] (fun v6 wc=>∃ (kq:Nat) (x6_95:List (S35)),Aside0 (spec_GiveRoom.j2 kq x6_95 a0_0 l0_1 l0_2=some (r1,r2,r3,r4))∧Aside0 (kq≤k2)∧Aside0 (Kd.R k35 35 wc w.heap.size (fun k_=>k_≠gb177) v6 x6_95)∧Aside0 (wc.heap[gb176]? = some (.cells #[.int .i64 a0_0,(.slice A0_1 l0_1.length c0_1),(.slice A0_2 l0_2.length c0_2)] 24 (0,0)))∧Aside0 (wc.heap[gb177]? = some (.cells #[.int .i64 x178000_2,.int .i64 x178001_2] 35 (0,0)))∧Aside0 (wc.heap[gb178]? = some (.cells #[.int .i64 x179000_2,(.slice none 0 0),(.slice none 0 0)] 24 (0,0)))∧Aside0 (Below w.heap.size w wc))
       case first=>
        have H:=HC96.out
        clear HC96
        by_cases c97:x7_2=true
        ·subst c97
         have H1:(spec_GiveRoom.j2 k2 x6_2 a0_0 l0_1 l0_2)=some (r1,r2,r3,r4):=by rw[if_pos rfl] at H;exact H
         clear H
         have H:=H1
         clear H1
         have H':=au H
         clear H
         go_wp2
         go_meet
         case rel=>exact⟨_,(x6_2),H',⟨by have:=HJ2.out;have:=HK2.out;first|omega|exact Nat.le_refl _⟩,⟨by(with_reducible repeat(first|apply Kd.aD|apply Kd.aC|apply Kd.aI));exact HO_6.out⟩,⟨by(with_reducible repeat(first|apply ag|apply aj|apply af));exact BK176.out⟩,⟨by(with_reducible repeat(first|apply ag|apply aj|apply af));exact BK177.out⟩,⟨by(with_reducible repeat(first|apply ag|apply aj|apply af));exact BK178.out⟩,⟨by with_reducible repeat(first|exact HB.out|apply ah|apply aa|apply ai|refine ae ?_ GE176.out|refine ae ?_ GE177.out|refine ae ?_ GE178.out)⟩⟩
        ·replace c97:=Bool.eq_false_iff.mpr c97
         subst c97
         have H1:(if x6_2.length<8796093022208 then (spec_GiveRoom.j2 k2 (x6_2++[(⟨x178000_2,x178001_2⟩:S35)]) a0_0 l0_1 l0_2) else (none))=some (r1,r2,r3,r4):=by rw[if_neg (show ¬ (false=true) by decide)] at H;exact H
         clear H
         have H:=H1
         clear H1
         by_cases c98:x6_2.length<8796093022208
         ·rw[if_pos c98] at H
          have LMc98:=au c98
          clear c98
          obtain⟨y195,hy195⟩:∃ y_:List (S35),y_ = (x6_2++[(⟨x178000_2,x178001_2⟩:S35)]):=⟨_,rfl⟩
          replace H:(spec_GiveRoom.j2 k2 y195 a0_0 l0_1 l0_2)=some (r1,r2,r3,r4):=by first|(rw[hy195];with_reducible exact H)|(have H2_:=(Option.bind_some _ _).symm.trans H;rw[hy195];with_reducible exact H2_)|(have H2_:=(Option.bind_some _ _).symm.trans H;with_reducible exact H2_)|with_reducible exact H|(rw[hy195];exact H)|exact H
          have Ny195:=au hy195
          clear hy195
          have H':=au H
          clear H
          have hnb99:=NB177_176.out
          have hnc99:=NB176_177.out
          have hnb100:=NB177_178.out
          have hnc100:=NB178_177.out
          have hcz101_0:wr.cell? ⟨gb177,0,none⟩=some (.int .i64 x178000_2):=(ak BK177.out 0).trans rfl
          have hcz101_1:wr.cell? ⟨gb177,1,none⟩=some (.int .i64 x178001_2):=(ak BK177.out 1).trans rfl
          have hfz101_0:=av BK177.out 0
          have hfz101_1:=av BK177.out 1
          go_wp2_with (first|((with_reducible refine bu (b:=.append) (xs:=#[.tmp 97,.tmp 99]) rfl ?_);at_builtin;refine Kd.dH k35 (w0:=w) w.heap.size rfl (.tmp 97) (.tmp 99) 22 35 (.agg #[(.int .i64 0),(.int .i64 0)]) 16 rfl Try.underlying22 bV rfl (by decide) (by omega) u6 x6_2 (⟨x178000_2,x178001_2⟩:S35) [.int .i64 x178000_2,.int .i64 x178001_2] (fun k_=>k_≠gb177) (fun _=>False) rfl rfl ?aP (fun _ hk=>hk.elim) ?aF ?aO ?aB ?aS ?aL ?_;(case aP=>exact eu _ _ _ (⟨x178000_2,x178001_2⟩:S35));(case aB=>exact(by with_reducible repeat(first|exact HB.out|apply ah|apply aa|apply ai|refine ae ?_ GE176.out|refine ae ?_ GE177.out|refine ae ?_ GE178.out)));(case aF=>exact(fun k_ hk=>Kd.bZ (g:=gb177) (o:=.cells #[.int .i64 x178000_2,.int .i64 x178001_2] 35 (0,0)) (by(with_reducible repeat(first|apply ag|apply aj|apply af));exact BK177.out) k_ hk));(case aO=>exact(by(with_reducible repeat(first|apply Kd.aD|apply Kd.aC|apply Kd.aI));exact HO_6.out));(case aS=>exact(az (by with_reducible repeat(first|exact HB.out|apply ah|apply aa|apply ai|refine ae ?_ GE176.out|refine ae ?_ GE177.out|refine ae ?_ GE178.out))));(case aL=>have:=LMc98.out;omega);intro v196 w102 ho hb hg hat;rw[← Ny195.out] at ho;replace BK176:=au (bf (g:=gb176) (o:=.cells #[.int .i64 a0_0,.slice A0_1 l0_1.length c0_1,.slice A0_2 l0_2.length c0_2] 24 (0,0)) (by(with_reducible repeat(first|apply ag|apply aj|apply af));exact BK176.out) hg (Kd.gN HO_6.out BK176.out (by decide)));replace BK177:=au (bf (g:=gb177) (o:=.cells #[.int .i64 x178000_2,.int .i64 x178001_2] 35 (0,0)) (by(with_reducible repeat(first|apply ag|apply aj|apply af));exact BK177.out) hg (Kd.dA HO_6.out (fun _ hk=>hk)));replace BK178:=au (bf (g:=gb178) (o:=.cells #[.int .i64 x179000_2,.slice none 0 0,.slice none 0 0] 24 (0,0)) (by(with_reducible repeat(first|apply ag|apply aj|apply af));exact BK178.out) hg (Kd.gN HO_6.out BK178.out (by decide)));replace HB:=au (hb);have HO197:=au (ho);clear HO_6;clear ho hb hg hat))
          go_meet
          case rel=>exact⟨_,(y195),H',⟨by have:=HJ2.out;have:=HK2.out;first|omega|exact Nat.le_refl _⟩,⟨by(with_reducible repeat(first|apply Kd.aD|apply Kd.aC|apply Kd.aI));exact HO197.out⟩,⟨by(with_reducible repeat(first|apply ag|apply aj|apply af));exact BK176.out⟩,⟨by(with_reducible repeat(first|apply ag|apply aj|apply af));exact BK177.out⟩,⟨by(with_reducible repeat(first|apply ag|apply aj|apply af));exact BK178.out⟩,⟨by with_reducible repeat(first|exact HB.out|apply ah|apply aa|apply ai|refine ae ?_ GE176.out|refine ae ?_ GE177.out|refine ae ?_ GE178.out)⟩⟩
         ·rw[if_neg c98] at H
          exact absurd H (by simp)
       case rest=>
        clear HC96
        try clear c1
        try clear p1
        try clear q1
        try clear hx1
        try clear c2
        try clear p2
        try clear c3
        try clear c4
        try clear c5
        try clear c6
        try clear p6
        try clear c7
        try clear c8
        try clear c9
        try clear c10
        try clear c11
        try clear c14
        try clear c18
        try clear p18
        try clear q18
        try clear hx18
        try clear c19
        try clear c22
        try clear c23
        try clear c24
        try clear c25
        try clear c26
        try clear c27
        try clear c29
        try clear c29b0
        try clear c30
        try clear c30b0
        try clear c31
        try clear c31b0
        try clear c32
        try clear c32b0
        try clear c33
        try clear c35
        try clear c36
        try clear c37
        try clear c39
        try clear c40
        try clear c43
        try clear c43b0
        try clear c44
        try clear c45
        try clear c47
        try clear c48
        try clear c49
        try clear c51
        try clear c52
        try clear c55
        try clear c56
        try clear c58
        try clear c59
        try clear c60
        try clear c62
        try clear c63
        try clear p64
        try clear c68
        try clear c68b0
        try clear c68b1
        try clear c70
        try clear c71
        try clear c72
        try clear c74
        try clear c75
        try clear c77
        try clear c77b0
        try clear c77b1
        try clear c79
        try clear c80
        try clear c81
        try clear c83
        try clear c84
        try clear c87
        try clear c88
        try clear c89
        try clear c91
        try clear c92
        try clear c94
        try clear c97
        try clear c98
        try clear c99
        try clear c100
        try clear hcz101_0
        try clear hcz101_1
        try clear hcz12_0
        try clear hcz12_1
        try clear hcz12_2
        try clear hcz15_0
        try clear hcz15_1
        try clear hcz16_0
        try clear hcz16_1
        try clear hcz16_2
        try clear hcz20_0
        try clear hcz20_1
        try clear hcz20_2
        try clear hcz25_0
        try clear hcz25_1
        try clear hcz25_2
        try clear hcz28_0
        try clear hcz28_1
        try clear hcz28_2
        try clear hcz38_0
        try clear hcz38_1
        try clear hcz41_0
        try clear hcz41_1
        try clear hcz50_0
        try clear hcz50_1
        try clear hcz53_0
        try clear hcz53_1
        try clear hcz61_0
        try clear hcz61_1
        try clear hcz64_0
        try clear hcz64_1
        try clear hcz66_0
        try clear hcz66_1
        try clear hcz73_0
        try clear hcz73_1
        try clear hcz76_0
        try clear hcz76_1
        try clear hcz82_0
        try clear hcz82_1
        try clear hcz85_0
        try clear hcz85_1
        try clear hcz90_0
        try clear hcz90_1
        try clear hcz93_0
        try clear hcz93_1
        try clear hcz95_0
        try clear hcz95_1
        try clear hcz95_2
        try clear hfz101_0
        try clear hfz101_1
        try clear hfz12_0
        try clear hfz12_1
        try clear hfz12_2
        try clear hfz15_0
        try clear hfz15_1
        try clear hfz16_0
        try clear hfz16_1
        try clear hfz16_2
        try clear hfz20_0
        try clear hfz20_1
        try clear hfz20_2
        try clear hfz25_0
        try clear hfz25_1
        try clear hfz25_2
        try clear hfz28_0
        try clear hfz28_1
        try clear hfz28_2
        try clear hfz38_0
        try clear hfz38_1
        try clear hfz41_0
        try clear hfz41_1
        try clear hfz50_0
        try clear hfz50_1
        try clear hfz53_0
        try clear hfz53_1
        try clear hfz61_0
        try clear hfz61_1
        try clear hfz64_0
        try clear hfz64_1
        try clear hfz66_0
        try clear hfz66_1
        try clear hfz73_0
        try clear hfz73_1
        try clear hfz76_0
        try clear hfz76_1
        try clear hfz82_0
        try clear hfz82_1
        try clear hfz85_0
        try clear hfz85_1
        try clear hfz90_0
        try clear hfz90_1
        try clear hfz93_0
        try clear hfz93_1
        try clear hfz95_0
        try clear hfz95_1
        try clear hfz95_2
        try clear hx181_0
        try clear hx181_1
        try clear p181
        try clear p2
        try clear q181
        obtain⟨kq,x6_95,HA,HJ95,HO_6,BK176,BK177,BK178,HB⟩:=hcut
        cases kq with
        | zero=>exact absurd HA.out (by simp[spec_GiveRoom.j2])
        | succ kj95=>
         have H:=HA.out
         clear HA
         simp only[spec_GiveRoom.j2] at H
         replace H:=Option.bind_eq_some_iff.mp H
         obtain⟨⟨t198,t199,t202⟩,A1030,H⟩:=H
         replace H:((spec_GoodFree.f kj95 t198 t199 t202).bind fun t206=>(if t206=true then (some (t198,t199,t202,true)) else (some (0,([]:List (S35)),([]:List (S35)),false))))=some (r1,r2,r3,r4):=H
         have A103:=au A1030
         clear A1030
         replace H:=Option.bind_eq_some_iff.mp H
         obtain⟨t206,A1040,H⟩:=H
         replace H:(if t206=true then (some (t198,t199,t202,true)) else (some (0,([]:List (S35)),([]:List (S35)),false)))=some (r1,r2,r3,r4):=H
         have A104:=au A1040
         clear A1040
         by_cases c105:t206=true
         ·subst c105
          have H1:(some (t198,t199,t202,true))=some (r1,r2,r3,r4):=by rw[if_pos rfl] at H;exact H
          clear H
          have H:=H1
          clear H1
          simp only[Option.some.injEq,Prod.mk.injEq] at H
          obtain⟨rfl,rfl,rfl,rfl⟩:=H
          have hnb106:=NB176_177.out
          have hnc106:=NB177_176.out
          have hnb107:=NB176_178.out
          have hnc107:=NB178_176.out
          have hcz108_0:wc.cell? ⟨gb176,0,none⟩=some (.int .i64 a0_0):=(ak BK176.out 0).trans rfl
          have hcz108_1:wc.cell? ⟨gb176,1,none⟩=some (.slice A0_1 l0_1.length c0_1):=(ak BK176.out 1).trans rfl
          have hcz108_2:wc.cell? ⟨gb176,2,none⟩=some (.slice A0_2 l0_2.length c0_2):=(ak BK176.out 2).trans rfl
          have hfz108_0:=av BK176.out 0
          have hfz108_1:=av BK176.out 1
          have hfz108_2:=av BK176.out 2
          obtain⟨Ao109,co109,eo109⟩:=Kd.bq HO_6.out
          subst eo109
          go_wp2_with (first|((with_reducible refine aW (f:=33) rfl ?_);refine bO (some 104) rfl rfl Try.func33 (by kernel_rfl) rfl #[.int .i64 a0_0,.slice Ao109 x6_95.length co109] rfl (by(try simp only[amp_]);first|done|rfl|(simp only[ald_];rfl)) ?_;(with_reducible refine(spec_l5Of.calls kj95 a0_0 _ _ x6_95 t198 t199 t202 _ ?side1 ?side2 A103.out).mono ?_);(case side1=>repeat(first|exact(Kd.R_reads' HO_6.out).2.2|(with_reducible first|apply Kd.aY|apply Kd.aZ|apply Kd.bn)));(case side2=>exact(Kd.R_reads' HO_6.out).2.1);rintro e w110 ⟨v200,v203,rfl,ho0,ho1,hb⟩;refine⟨_,rfl,?_⟩;have HO201:=au (Kd.bz (Kd.dK (Kd.R_new' ho0 (Kd.fq (by(with_reducible repeat(first|apply Kd.aD|apply Kd.aC|apply Kd.aI));exact HO_6.out))) (g:=gb177) (o:=.cells #[.int .i64 x178000_2,.int .i64 x178001_2] 35 (0,0)) (by(with_reducible repeat(first|apply ag|apply aj|apply af));exact BK177.out)) (az (by with_reducible repeat(first|exact HB.out|apply ah|apply aa|apply ai|refine ae ?_ GE176.out|refine ae ?_ GE177.out|refine ae ?_ GE178.out))));have HO204:=au (Kd.bz (Kd.dK (Kd.R_new' ho1 (Kd.fq (by(with_reducible repeat(first|apply Kd.aD|apply Kd.aC|apply Kd.aI));exact HO_6.out))) (g:=gb177) (o:=.cells #[.int .i64 x178000_2,.int .i64 x178001_2] 35 (0,0)) (by(with_reducible repeat(first|apply ag|apply aj|apply af));exact BK177.out)) (az (by with_reducible repeat(first|exact HB.out|apply ah|apply aa|apply ai|refine ae ?_ GE176.out|refine ae ?_ GE177.out|refine ae ?_ GE178.out))));replace HO_6:=au (Kd.aT (Kd.dX (Kd.dX (Kd.iN (by(with_reducible repeat(first|apply Kd.aD|apply Kd.aC|apply Kd.aI));exact HO_6.out) hb) (Kd.dI ho0)) (Kd.dI ho1)) (fun _ h_=>h_.1));replace BK176:=au (ay (g:=gb176) (o:=.cells #[.int .i64 a0_0,.slice A0_1 l0_1.length c0_1,.slice A0_2 l0_2.length c0_2] 24 (0,0)) (by(with_reducible repeat(first|apply ag|apply aj|apply af));exact BK176.out) hb);replace BK177:=au (ay (g:=gb177) (o:=.cells #[.int .i64 x178000_2,.int .i64 x178001_2] 35 (0,0)) (by(with_reducible repeat(first|apply ag|apply aj|apply af));exact BK177.out) hb);replace BK178:=au (ay (g:=gb178) (o:=.cells #[.int .i64 x179000_2,.slice none 0 0,.slice none 0 0] 24 (0,0)) (by(with_reducible repeat(first|apply ag|apply aj|apply af));exact BK178.out) hb);replace HB:=au (aA (by with_reducible repeat(first|exact HB.out|apply ah|apply aa|apply ai|refine ae ?_ GE176.out|refine ae ?_ GE177.out|refine ae ?_ GE178.out)) hb);(try clear hb);(try clear hb2);(try clear hk);(try clear hi);(try clear ho0);(try clear ho1))|((with_reducible refine aM (N:=10) rfl ?_);refine aJ ?hg (N:=10) ?hd (cs:=#[.int .i64 0,.slice none 0 0,.slice none 0 0]) (t:=24) ?hr ?_;(case hd=>rfl);(case hg=>rfl);(case hr=>first|(go_simp;done)|(go_simp;rfl));intro gb205 hg w111 hbox hb;replace HO_6:=au (Kd.bi (by(with_reducible repeat(first|apply Kd.aD|apply Kd.aC|apply Kd.aI));exact HO_6.out) hb);replace HO201:=au (Kd.bi (by(with_reducible repeat(first|apply Kd.aD|apply Kd.aC|apply Kd.aI));exact HO201.out) hb);replace HO204:=au (Kd.bi (by(with_reducible repeat(first|apply Kd.aD|apply Kd.aC|apply Kd.aI));exact HO204.out) hb);have BK205:=au (hbox);have GW205:=au ((by rw[hg];exact(az (by with_reducible repeat(first|exact HB.out|apply ah|apply aa|apply ai|refine ae ?_ GE176.out|refine ae ?_ GE177.out|refine ae ?_ GE178.out))):w.heap.size≤gb205));have GE205:=au ((by rw[hg];exact(az (by with_reducible repeat(first|exact HB.out|apply ah|apply aa|apply ai|refine ae ?_ GE176.out|refine ae ?_ GE177.out|refine ae ?_ GE178.out))):w.heap.size≤gb205));replace HB:=au (aA (by with_reducible repeat(first|exact HB.out|apply ah|apply aa|apply ai|refine ae ?_ GE176.out|refine ae ?_ GE177.out|refine ae ?_ GE178.out)) hb);have NB176_205:=au ((by rw[hg];exact Nat.ne_of_lt (aH (g:=gb176) (o:=.cells #[.int .i64 a0_0,.slice A0_1 l0_1.length c0_1,.slice A0_2 l0_2.length c0_2] 24 (0,0)) (by(with_reducible repeat(first|apply ag|apply aj|apply af));exact BK176.out)):gb176≠gb205));have NB205_176:=au ((by rw[hg];exact Nat.ne_of_gt (aH (g:=gb176) (o:=.cells #[.int .i64 a0_0,.slice A0_1 l0_1.length c0_1,.slice A0_2 l0_2.length c0_2] 24 (0,0)) (by(with_reducible repeat(first|apply ag|apply aj|apply af));exact BK176.out)):gb205≠gb176));replace BK176:=au (ay (g:=gb176) (o:=.cells #[.int .i64 a0_0,.slice A0_1 l0_1.length c0_1,.slice A0_2 l0_2.length c0_2] 24 (0,0)) (by(with_reducible repeat(first|apply ag|apply aj|apply af));exact BK176.out) hb);have NB177_205:=au ((by rw[hg];exact Nat.ne_of_lt (aH (g:=gb177) (o:=.cells #[.int .i64 x178000_2,.int .i64 x178001_2] 35 (0,0)) (by(with_reducible repeat(first|apply ag|apply aj|apply af));exact BK177.out)):gb177≠gb205));have NB205_177:=au ((by rw[hg];exact Nat.ne_of_gt (aH (g:=gb177) (o:=.cells #[.int .i64 x178000_2,.int .i64 x178001_2] 35 (0,0)) (by(with_reducible repeat(first|apply ag|apply aj|apply af));exact BK177.out)):gb205≠gb177));replace BK177:=au (ay (g:=gb177) (o:=.cells #[.int .i64 x178000_2,.int .i64 x178001_2] 35 (0,0)) (by(with_reducible repeat(first|apply ag|apply aj|apply af));exact BK177.out) hb);have NB178_205:=au ((by rw[hg];exact Nat.ne_of_lt (aH (g:=gb178) (o:=.cells #[.int .i64 x179000_2,.slice none 0 0,.slice none 0 0] 24 (0,0)) (by(with_reducible repeat(first|apply ag|apply aj|apply af));exact BK178.out)):gb178≠gb205));have NB205_178:=au ((by rw[hg];exact Nat.ne_of_gt (aH (g:=gb178) (o:=.cells #[.int .i64 x179000_2,.slice none 0 0,.slice none 0 0] 24 (0,0)) (by(with_reducible repeat(first|apply ag|apply aj|apply af));exact BK178.out)):gb205≠gb178));replace BK178:=au (ay (g:=gb178) (o:=.cells #[.int .i64 x179000_2,.slice none 0 0,.slice none 0 0] 24 (0,0)) (by(with_reducible repeat(first|apply ag|apply aj|apply af));exact BK178.out) hb);clear hb hbox hg;have hnb112:=NB205_176.out;have hnc112:=NB176_205.out;have hnb113:=NB205_177.out;have hnc113:=NB177_205.out;have hnb114:=NB205_178.out;have hnc114:=NB178_205.out;have hcz115_0:w111.cell? ⟨gb205,0,none⟩=some (.int .i64 0):=(ak BK205.out 0).trans rfl;have hcz115_1:w111.cell? ⟨gb205,1,none⟩=some (.slice none 0 0):=(ak BK205.out 1).trans rfl;have hcz115_2:w111.cell? ⟨gb205,2,none⟩=some (.slice none 0 0):=(ak BK205.out 2).trans rfl;have hfz115_0:=av BK205.out 0;have hfz115_1:=av BK205.out 1;have hfz115_2:=av BK205.out 2;obtain⟨Ao116,co116,eo116⟩:=Kd.bq HO201.out;subst eo116;obtain⟨Ao117,co117,eo117⟩:=Kd.bq HO204.out;subst eo117)|((with_reducible refine aW (f:=25) rfl ?_);refine bO (some 106) rfl rfl Try.func25 (by kernel_rfl) rfl #[.agg #[.int .i64 t198,.slice Ao116 t199.length co116,.slice Ao117 t202.length co117]] rfl (by(try simp only[amp_]);first|done|rfl|(simp only[ald_];rfl)) ?_;(with_reducible refine(spec_GoodFree.calls kj95 t198 _ _ t199 _ _ t202 true _ ?side1 ?side2 ?side3 ?side4 A104.out).mono ?_);(case side1=>refine(Kd.R_reads' (e:=35) (base:=w.heap.size) (ok:=fun k_=>((some k_≠(.slice Ao117 t202.length co117:Value).ownBlock∧some k_≠(.slice Ao109 x6_95.length co109:Value).ownBlock)∧k_≠gb177)) (n:=t199.length) (c:=co116) ?_).2.2;exact(by(with_reducible repeat(first|apply Kd.aD|apply Kd.aC|apply Kd.aI));exact(Kd.aT (Kd.aV (p:=⟨gb205,2,none⟩) (Kd.aV (p:=⟨gb205,1,none⟩) (Kd.aV (p:=⟨gb205,0,none⟩) (Kd.bK HO201.out BK205.out (by decide)) (fun _ hk=>hk.2) (.int .i64 t198)) (fun _ hk=>hk.2) (.slice Ao116 t199.length co116)) (fun _ hk=>hk.2) (.slice Ao117 t202.length co117)) (fun _ h_=>h_.1))));(case side2=>exact(Kd.R_reads' HO201.out).2.1);(case side3=>refine(Kd.R_reads' (e:=35) (base:=w.heap.size) (ok:=fun k_=>((some k_≠(.slice Ao116 t199.length co116:Value).ownBlock∧some k_≠(.slice Ao109 x6_95.length co109:Value).ownBlock)∧k_≠gb177)) (n:=t202.length) (c:=co117) ?_).2.2;exact(by(with_reducible repeat(first|apply Kd.aD|apply Kd.aC|apply Kd.aI));exact(Kd.aT (Kd.aV (p:=⟨gb205,2,none⟩) (Kd.aV (p:=⟨gb205,1,none⟩) (Kd.aV (p:=⟨gb205,0,none⟩) (Kd.bK HO204.out BK205.out (by decide)) (fun _ hk=>hk.2) (.int .i64 t198)) (fun _ hk=>hk.2) (.slice Ao116 t199.length co116)) (fun _ hk=>hk.2) (.slice Ao117 t202.length co117)) (fun _ h_=>h_.1))));(case side4=>exact(Kd.R_reads' HO204.out).2.1);rintro e w118 ⟨rfl,hb⟩;refine⟨_,rfl,?_⟩;replace HO_6:=au (Kd.bi (by(with_reducible repeat(first|apply Kd.aD|apply Kd.aC|apply Kd.aI));exact(Kd.aT (Kd.aV (p:=⟨gb205,2,none⟩) (Kd.aV (p:=⟨gb205,1,none⟩) (Kd.aV (p:=⟨gb205,0,none⟩) (Kd.bK HO_6.out BK205.out (by decide)) (fun _ hk=>hk.2) (.int .i64 t198)) (fun _ hk=>hk.2) (.slice Ao116 t199.length co116)) (fun _ hk=>hk.2) (.slice Ao117 t202.length co117)) (fun _ h_=>h_.1))) hb);replace HO201:=au (Kd.bi (by(with_reducible repeat(first|apply Kd.aD|apply Kd.aC|apply Kd.aI));exact(Kd.aT (Kd.aV (p:=⟨gb205,2,none⟩) (Kd.aV (p:=⟨gb205,1,none⟩) (Kd.aV (p:=⟨gb205,0,none⟩) (Kd.bK HO201.out BK205.out (by decide)) (fun _ hk=>hk.2) (.int .i64 t198)) (fun _ hk=>hk.2) (.slice Ao116 t199.length co116)) (fun _ hk=>hk.2) (.slice Ao117 t202.length co117)) (fun _ h_=>h_.1))) hb);replace HO204:=au (Kd.bi (by(with_reducible repeat(first|apply Kd.aD|apply Kd.aC|apply Kd.aI));exact(Kd.aT (Kd.aV (p:=⟨gb205,2,none⟩) (Kd.aV (p:=⟨gb205,1,none⟩) (Kd.aV (p:=⟨gb205,0,none⟩) (Kd.bK HO204.out BK205.out (by decide)) (fun _ hk=>hk.2) (.int .i64 t198)) (fun _ hk=>hk.2) (.slice Ao116 t199.length co116)) (fun _ hk=>hk.2) (.slice Ao117 t202.length co117)) (fun _ h_=>h_.1))) hb);replace BK176:=au (ay (g:=gb176) (o:=.cells #[.int .i64 a0_0,.slice A0_1 l0_1.length c0_1,.slice A0_2 l0_2.length c0_2] 24 (0,0)) (by(with_reducible repeat(first|apply ag|apply aj|apply af));refine aG ?_ NB176_205.out _;(with_reducible repeat(first|apply ag|apply aj|apply af));refine aG ?_ NB176_205.out _;(with_reducible repeat(first|apply ag|apply aj|apply af));refine aG ?_ NB176_205.out _;(with_reducible repeat(first|apply ag|apply aj|apply af));exact BK176.out) hb);replace BK177:=au (ay (g:=gb177) (o:=.cells #[.int .i64 x178000_2,.int .i64 x178001_2] 35 (0,0)) (by(with_reducible repeat(first|apply ag|apply aj|apply af));refine aG ?_ NB177_205.out _;(with_reducible repeat(first|apply ag|apply aj|apply af));refine aG ?_ NB177_205.out _;(with_reducible repeat(first|apply ag|apply aj|apply af));refine aG ?_ NB177_205.out _;(with_reducible repeat(first|apply ag|apply aj|apply af));exact BK177.out) hb);replace BK178:=au (ay (g:=gb178) (o:=.cells #[.int .i64 x179000_2,.slice none 0 0,.slice none 0 0] 24 (0,0)) (by(with_reducible repeat(first|apply ag|apply aj|apply af));refine aG ?_ NB178_205.out _;(with_reducible repeat(first|apply ag|apply aj|apply af));refine aG ?_ NB178_205.out _;(with_reducible repeat(first|apply ag|apply aj|apply af));refine aG ?_ NB178_205.out _;(with_reducible repeat(first|apply ag|apply aj|apply af));exact BK178.out) hb);replace BK205:=au (ay (g:=gb205) (o:=.cells #[.int .i64 t198,.slice Ao116 t199.length co116,.slice Ao117 t202.length co117] 24 (0,0)) (by(with_reducible repeat(first|apply ag|apply aj|apply af));refine aK (cs:=#[.int .i64 t198,.slice Ao116 t199.length co116,.slice none 0 0]) ?_ 2 _ rfl;(with_reducible repeat(first|apply ag|apply aj|apply af));refine aK (cs:=#[.int .i64 t198,.slice none 0 0,.slice none 0 0]) ?_ 1 _ rfl;(with_reducible repeat(first|apply ag|apply aj|apply af));refine aK (cs:=#[.int .i64 0,.slice none 0 0,.slice none 0 0]) ?_ 0 _ rfl;(with_reducible repeat(first|apply ag|apply aj|apply af));exact BK205.out) hb);replace HB:=au (aA (by with_reducible repeat(first|exact HB.out|apply ah|apply aa|apply ai|refine ae ?_ GE176.out|refine ae ?_ GE177.out|refine ae ?_ GE178.out|refine ae ?_ GE205.out)) hb);(try clear hb);(try clear hb2);(try clear hk);(try clear hi);have hcz119_0:w118.cell? ⟨gb205,0,none⟩=some (.int .i64 t198):=(ak BK205.out 0).trans rfl;have hcz119_1:w118.cell? ⟨gb205,1,none⟩=some (.slice Ao116 t199.length co116):=(ak BK205.out 1).trans rfl;have hcz119_2:w118.cell? ⟨gb205,2,none⟩=some (.slice Ao117 t202.length co117):=(ak BK205.out 2).trans rfl;have hfz119_0:=av BK205.out 0;have hfz119_1:=av BK205.out 1;have hfz119_2:=av BK205.out 2;have hnb120:=NB178_177.out;have hnc120:=NB177_178.out;have hcz121_0:w118.cell? ⟨gb178,0,none⟩=some (.int .i64 x179000_2):=(ak BK178.out 0).trans rfl;have hcz121_1:w118.cell? ⟨gb178,1,none⟩=some (.slice none 0 0):=(ak BK178.out 1).trans rfl;have hcz121_2:w118.cell? ⟨gb178,2,none⟩=some (.slice none 0 0):=(ak BK178.out 2).trans rfl;have hfz121_0:=av BK178.out 0;have hfz121_1:=av BK178.out 1;have hfz121_2:=av BK178.out 2))
          refine bodyPost_ret (di rfl _ _ gb178 24 #[.int .i64 t198,.slice Ao116 t199.length co116,.slice Ao117 t202.length co117] (0,0) _ rfl (by(with_reducible repeat(first|apply ag|apply aj|apply af));refine aK (cs:=#[.int .i64 t198,.slice Ao116 t199.length co116,.slice none 0 0]) ?_ 2 _ rfl;(with_reducible repeat(first|apply ag|apply aj|apply af));refine aK (cs:=#[.int .i64 t198,.slice none 0 0,.slice none 0 0]) ?_ 1 _ rfl;(with_reducible repeat(first|apply ag|apply aj|apply af));refine aK (cs:=#[.int .i64 x179000_2,.slice none 0 0,.slice none 0 0]) ?_ 0 _ rfl;(with_reducible repeat(first|apply ag|apply aj|apply af));exact BK178.out) Try.underlying24 rfl (by kernel_rfl)) rfl ?_
          exact⟨_,_,by first|rfl|(simp <;> rfl)|(simp[*] <;> rfl),by(with_reducible repeat(first|apply Kd.aD|apply Kd.aC|apply Kd.aI));exact Kd.aT (Kd.aV (p:=⟨gb178,2,none⟩) (Kd.aV (p:=⟨gb178,1,none⟩) (Kd.aV (p:=⟨gb178,0,none⟩) (Kd.bK HO201.out BK178.out (by decide)) (fun _ hk=>hk.2) (.int .i64 t198)) (fun _ hk=>hk.2) (.slice Ao116 t199.length co116)) (fun _ hk=>hk.2) (.slice Ao117 t202.length co117)) (fun _ hk=>hk.1.1.1),by(with_reducible repeat(first|apply Kd.aD|apply Kd.aC|apply Kd.aI));exact Kd.aT (Kd.aV (p:=⟨gb178,2,none⟩) (Kd.aV (p:=⟨gb178,1,none⟩) (Kd.aV (p:=⟨gb178,0,none⟩) (Kd.bK HO204.out BK178.out (by decide)) (fun _ hk=>hk.2) (.int .i64 t198)) (fun _ hk=>hk.2) (.slice Ao116 t199.length co116)) (fun _ hk=>hk.2) (.slice Ao117 t202.length co117)) (fun _ hk=>hk.1.1.1),by with_reducible repeat(first|exact HB.out|apply ah|apply aa|apply ai|refine ae ?_ GE176.out|refine ae ?_ GE177.out|refine ae ?_ GE178.out|refine ae ?_ GE205.out)⟩
         ·replace c105:=Bool.eq_false_iff.mpr c105
          subst c105
          have H1:(some (0,([]:List (S35)),([]:List (S35)),false))=some (r1,r2,r3,r4):=by rw[if_neg (show ¬ (false=true) by decide)] at H;exact H
          clear H
          have H:=H1
          clear H1
          simp only[Option.some.injEq,Prod.mk.injEq] at H
          obtain⟨rfl,rfl,rfl,rfl⟩:=H
          have hnb122:=NB176_177.out
          have hnc122:=NB177_176.out
          have hnb123:=NB176_178.out
          have hnc123:=NB178_176.out
          have hcz124_0:wc.cell? ⟨gb176,0,none⟩=some (.int .i64 a0_0):=(ak BK176.out 0).trans rfl
          have hcz124_1:wc.cell? ⟨gb176,1,none⟩=some (.slice A0_1 l0_1.length c0_1):=(ak BK176.out 1).trans rfl
          have hcz124_2:wc.cell? ⟨gb176,2,none⟩=some (.slice A0_2 l0_2.length c0_2):=(ak BK176.out 2).trans rfl
          have hfz124_0:=av BK176.out 0
          have hfz124_1:=av BK176.out 1
          have hfz124_2:=av BK176.out 2
          obtain⟨Ao125,co125,eo125⟩:=Kd.bq HO_6.out
          subst eo125
          go_wp2_with (first|((with_reducible refine aW (f:=33) rfl ?_);refine bO (some 104) rfl rfl Try.func33 (by kernel_rfl) rfl #[.int .i64 a0_0,.slice Ao125 x6_95.length co125] rfl (by(try simp only[amp_]);first|done|rfl|(simp only[ald_];rfl)) ?_;(with_reducible refine(spec_l5Of.calls kj95 a0_0 _ _ x6_95 t198 t199 t202 _ ?side1 ?side2 A103.out).mono ?_);(case side1=>repeat(first|exact(Kd.R_reads' HO_6.out).2.2|(with_reducible first|apply Kd.aY|apply Kd.aZ|apply Kd.bn)));(case side2=>exact(Kd.R_reads' HO_6.out).2.1);rintro e w126 ⟨v200,v203,rfl,ho0,ho1,hb⟩;refine⟨_,rfl,?_⟩;have HO201:=au (Kd.bz (Kd.dK (Kd.R_new' ho0 (Kd.fq (by(with_reducible repeat(first|apply Kd.aD|apply Kd.aC|apply Kd.aI));exact HO_6.out))) (g:=gb177) (o:=.cells #[.int .i64 x178000_2,.int .i64 x178001_2] 35 (0,0)) (by(with_reducible repeat(first|apply ag|apply aj|apply af));exact BK177.out)) (az (by with_reducible repeat(first|exact HB.out|apply ah|apply aa|apply ai|refine ae ?_ GE176.out|refine ae ?_ GE177.out|refine ae ?_ GE178.out))));have HO204:=au (Kd.bz (Kd.dK (Kd.R_new' ho1 (Kd.fq (by(with_reducible repeat(first|apply Kd.aD|apply Kd.aC|apply Kd.aI));exact HO_6.out))) (g:=gb177) (o:=.cells #[.int .i64 x178000_2,.int .i64 x178001_2] 35 (0,0)) (by(with_reducible repeat(first|apply ag|apply aj|apply af));exact BK177.out)) (az (by with_reducible repeat(first|exact HB.out|apply ah|apply aa|apply ai|refine ae ?_ GE176.out|refine ae ?_ GE177.out|refine ae ?_ GE178.out))));replace HO_6:=au (Kd.aT (Kd.dX (Kd.dX (Kd.iN (by(with_reducible repeat(first|apply Kd.aD|apply Kd.aC|apply Kd.aI));exact HO_6.out) hb) (Kd.dI ho0)) (Kd.dI ho1)) (fun _ h_=>h_.1));replace BK176:=au (ay (g:=gb176) (o:=.cells #[.int .i64 a0_0,.slice A0_1 l0_1.length c0_1,.slice A0_2 l0_2.length c0_2] 24 (0,0)) (by(with_reducible repeat(first|apply ag|apply aj|apply af));exact BK176.out) hb);replace BK177:=au (ay (g:=gb177) (o:=.cells #[.int .i64 x178000_2,.int .i64 x178001_2] 35 (0,0)) (by(with_reducible repeat(first|apply ag|apply aj|apply af));exact BK177.out) hb);replace BK178:=au (ay (g:=gb178) (o:=.cells #[.int .i64 x179000_2,.slice none 0 0,.slice none 0 0] 24 (0,0)) (by(with_reducible repeat(first|apply ag|apply aj|apply af));exact BK178.out) hb);replace HB:=au (aA (by with_reducible repeat(first|exact HB.out|apply ah|apply aa|apply ai|refine ae ?_ GE176.out|refine ae ?_ GE177.out|refine ae ?_ GE178.out)) hb);(try clear hb);(try clear hb2);(try clear hk);(try clear hi);(try clear ho0);(try clear ho1))|((with_reducible refine aM (N:=10) rfl ?_);refine aJ ?hg (N:=10) ?hd (cs:=#[.int .i64 0,.slice none 0 0,.slice none 0 0]) (t:=24) ?hr ?_;(case hd=>rfl);(case hg=>rfl);(case hr=>first|(go_simp;done)|(go_simp;rfl));intro gb205 hg w127 hbox hb;replace HO_6:=au (Kd.bi (by(with_reducible repeat(first|apply Kd.aD|apply Kd.aC|apply Kd.aI));exact HO_6.out) hb);replace HO201:=au (Kd.bi (by(with_reducible repeat(first|apply Kd.aD|apply Kd.aC|apply Kd.aI));exact HO201.out) hb);replace HO204:=au (Kd.bi (by(with_reducible repeat(first|apply Kd.aD|apply Kd.aC|apply Kd.aI));exact HO204.out) hb);have BK205:=au (hbox);have GW205:=au ((by rw[hg];exact(az (by with_reducible repeat(first|exact HB.out|apply ah|apply aa|apply ai|refine ae ?_ GE176.out|refine ae ?_ GE177.out|refine ae ?_ GE178.out))):w.heap.size≤gb205));have GE205:=au ((by rw[hg];exact(az (by with_reducible repeat(first|exact HB.out|apply ah|apply aa|apply ai|refine ae ?_ GE176.out|refine ae ?_ GE177.out|refine ae ?_ GE178.out))):w.heap.size≤gb205));replace HB:=au (aA (by with_reducible repeat(first|exact HB.out|apply ah|apply aa|apply ai|refine ae ?_ GE176.out|refine ae ?_ GE177.out|refine ae ?_ GE178.out)) hb);have NB176_205:=au ((by rw[hg];exact Nat.ne_of_lt (aH (g:=gb176) (o:=.cells #[.int .i64 a0_0,.slice A0_1 l0_1.length c0_1,.slice A0_2 l0_2.length c0_2] 24 (0,0)) (by(with_reducible repeat(first|apply ag|apply aj|apply af));exact BK176.out)):gb176≠gb205));have NB205_176:=au ((by rw[hg];exact Nat.ne_of_gt (aH (g:=gb176) (o:=.cells #[.int .i64 a0_0,.slice A0_1 l0_1.length c0_1,.slice A0_2 l0_2.length c0_2] 24 (0,0)) (by(with_reducible repeat(first|apply ag|apply aj|apply af));exact BK176.out)):gb205≠gb176));replace BK176:=au (ay (g:=gb176) (o:=.cells #[.int .i64 a0_0,.slice A0_1 l0_1.length c0_1,.slice A0_2 l0_2.length c0_2] 24 (0,0)) (by(with_reducible repeat(first|apply ag|apply aj|apply af));exact BK176.out) hb);have NB177_205:=au ((by rw[hg];exact Nat.ne_of_lt (aH (g:=gb177) (o:=.cells #[.int .i64 x178000_2,.int .i64 x178001_2] 35 (0,0)) (by(with_reducible repeat(first|apply ag|apply aj|apply af));exact BK177.out)):gb177≠gb205));have NB205_177:=au ((by rw[hg];exact Nat.ne_of_gt (aH (g:=gb177) (o:=.cells #[.int .i64 x178000_2,.int .i64 x178001_2] 35 (0,0)) (by(with_reducible repeat(first|apply ag|apply aj|apply af));exact BK177.out)):gb205≠gb177));replace BK177:=au (ay (g:=gb177) (o:=.cells #[.int .i64 x178000_2,.int .i64 x178001_2] 35 (0,0)) (by(with_reducible repeat(first|apply ag|apply aj|apply af));exact BK177.out) hb);have NB178_205:=au ((by rw[hg];exact Nat.ne_of_lt (aH (g:=gb178) (o:=.cells #[.int .i64 x179000_2,.slice none 0 0,.slice none 0 0] 24 (0,0)) (by(with_reducible repeat(first|apply ag|apply aj|apply af));exact BK178.out)):gb178≠gb205));have NB205_178:=au ((by rw[hg];exact Nat.ne_of_gt (aH (g:=gb178) (o:=.cells #[.int .i64 x179000_2,.slice none 0 0,.slice none 0 0] 24 (0,0)) (by(with_reducible repeat(first|apply ag|apply aj|apply af));exact BK178.out)):gb205≠gb178));replace BK178:=au (ay (g:=gb178) (o:=.cells #[.int .i64 x179000_2,.slice none 0 0,.slice none 0 0] 24 (0,0)) (by(with_reducible repeat(first|apply ag|apply aj|apply af));exact BK178.out) hb);clear hb hbox hg;have hnb128:=NB205_176.out;have hnc128:=NB176_205.out;have hnb129:=NB205_177.out;have hnc129:=NB177_205.out;have hnb130:=NB205_178.out;have hnc130:=NB178_205.out;have hcz131_0:w127.cell? ⟨gb205,0,none⟩=some (.int .i64 0):=(ak BK205.out 0).trans rfl;have hcz131_1:w127.cell? ⟨gb205,1,none⟩=some (.slice none 0 0):=(ak BK205.out 1).trans rfl;have hcz131_2:w127.cell? ⟨gb205,2,none⟩=some (.slice none 0 0):=(ak BK205.out 2).trans rfl;have hfz131_0:=av BK205.out 0;have hfz131_1:=av BK205.out 1;have hfz131_2:=av BK205.out 2;obtain⟨Ao132,co132,eo132⟩:=Kd.bq HO201.out;subst eo132;obtain⟨Ao133,co133,eo133⟩:=Kd.bq HO204.out;subst eo133)|((with_reducible refine aW (f:=25) rfl ?_);refine bO (some 106) rfl rfl Try.func25 (by kernel_rfl) rfl #[.agg #[.int .i64 t198,.slice Ao132 t199.length co132,.slice Ao133 t202.length co133]] rfl (by(try simp only[amp_]);first|done|rfl|(simp only[ald_];rfl)) ?_;(with_reducible refine(spec_GoodFree.calls kj95 t198 _ _ t199 _ _ t202 false _ ?side1 ?side2 ?side3 ?side4 A104.out).mono ?_);(case side1=>refine(Kd.R_reads' (e:=35) (base:=w.heap.size) (ok:=fun k_=>((some k_≠(.slice Ao133 t202.length co133:Value).ownBlock∧some k_≠(.slice Ao125 x6_95.length co125:Value).ownBlock)∧k_≠gb177)) (n:=t199.length) (c:=co132) ?_).2.2;exact(by(with_reducible repeat(first|apply Kd.aD|apply Kd.aC|apply Kd.aI));exact(Kd.aT (Kd.aV (p:=⟨gb205,2,none⟩) (Kd.aV (p:=⟨gb205,1,none⟩) (Kd.aV (p:=⟨gb205,0,none⟩) (Kd.bK HO201.out BK205.out (by decide)) (fun _ hk=>hk.2) (.int .i64 t198)) (fun _ hk=>hk.2) (.slice Ao132 t199.length co132)) (fun _ hk=>hk.2) (.slice Ao133 t202.length co133)) (fun _ h_=>h_.1))));(case side2=>exact(Kd.R_reads' HO201.out).2.1);(case side3=>refine(Kd.R_reads' (e:=35) (base:=w.heap.size) (ok:=fun k_=>((some k_≠(.slice Ao132 t199.length co132:Value).ownBlock∧some k_≠(.slice Ao125 x6_95.length co125:Value).ownBlock)∧k_≠gb177)) (n:=t202.length) (c:=co133) ?_).2.2;exact(by(with_reducible repeat(first|apply Kd.aD|apply Kd.aC|apply Kd.aI));exact(Kd.aT (Kd.aV (p:=⟨gb205,2,none⟩) (Kd.aV (p:=⟨gb205,1,none⟩) (Kd.aV (p:=⟨gb205,0,none⟩) (Kd.bK HO204.out BK205.out (by decide)) (fun _ hk=>hk.2) (.int .i64 t198)) (fun _ hk=>hk.2) (.slice Ao132 t199.length co132)) (fun _ hk=>hk.2) (.slice Ao133 t202.length co133)) (fun _ h_=>h_.1))));(case side4=>exact(Kd.R_reads' HO204.out).2.1);rintro e w134 ⟨rfl,hb⟩;refine⟨_,rfl,?_⟩;replace HO_6:=au (Kd.bi (by(with_reducible repeat(first|apply Kd.aD|apply Kd.aC|apply Kd.aI));exact(Kd.aT (Kd.aV (p:=⟨gb205,2,none⟩) (Kd.aV (p:=⟨gb205,1,none⟩) (Kd.aV (p:=⟨gb205,0,none⟩) (Kd.bK HO_6.out BK205.out (by decide)) (fun _ hk=>hk.2) (.int .i64 t198)) (fun _ hk=>hk.2) (.slice Ao132 t199.length co132)) (fun _ hk=>hk.2) (.slice Ao133 t202.length co133)) (fun _ h_=>h_.1))) hb);replace HO201:=au (Kd.bi (by(with_reducible repeat(first|apply Kd.aD|apply Kd.aC|apply Kd.aI));exact(Kd.aT (Kd.aV (p:=⟨gb205,2,none⟩) (Kd.aV (p:=⟨gb205,1,none⟩) (Kd.aV (p:=⟨gb205,0,none⟩) (Kd.bK HO201.out BK205.out (by decide)) (fun _ hk=>hk.2) (.int .i64 t198)) (fun _ hk=>hk.2) (.slice Ao132 t199.length co132)) (fun _ hk=>hk.2) (.slice Ao133 t202.length co133)) (fun _ h_=>h_.1))) hb);replace HO204:=au (Kd.bi (by(with_reducible repeat(first|apply Kd.aD|apply Kd.aC|apply Kd.aI));exact(Kd.aT (Kd.aV (p:=⟨gb205,2,none⟩) (Kd.aV (p:=⟨gb205,1,none⟩) (Kd.aV (p:=⟨gb205,0,none⟩) (Kd.bK HO204.out BK205.out (by decide)) (fun _ hk=>hk.2) (.int .i64 t198)) (fun _ hk=>hk.2) (.slice Ao132 t199.length co132)) (fun _ hk=>hk.2) (.slice Ao133 t202.length co133)) (fun _ h_=>h_.1))) hb);replace BK176:=au (ay (g:=gb176) (o:=.cells #[.int .i64 a0_0,.slice A0_1 l0_1.length c0_1,.slice A0_2 l0_2.length c0_2] 24 (0,0)) (by(with_reducible repeat(first|apply ag|apply aj|apply af));refine aG ?_ NB176_205.out _;(with_reducible repeat(first|apply ag|apply aj|apply af));refine aG ?_ NB176_205.out _;(with_reducible repeat(first|apply ag|apply aj|apply af));refine aG ?_ NB176_205.out _;(with_reducible repeat(first|apply ag|apply aj|apply af));exact BK176.out) hb);replace BK177:=au (ay (g:=gb177) (o:=.cells #[.int .i64 x178000_2,.int .i64 x178001_2] 35 (0,0)) (by(with_reducible repeat(first|apply ag|apply aj|apply af));refine aG ?_ NB177_205.out _;(with_reducible repeat(first|apply ag|apply aj|apply af));refine aG ?_ NB177_205.out _;(with_reducible repeat(first|apply ag|apply aj|apply af));refine aG ?_ NB177_205.out _;(with_reducible repeat(first|apply ag|apply aj|apply af));exact BK177.out) hb);replace BK178:=au (ay (g:=gb178) (o:=.cells #[.int .i64 x179000_2,.slice none 0 0,.slice none 0 0] 24 (0,0)) (by(with_reducible repeat(first|apply ag|apply aj|apply af));refine aG ?_ NB178_205.out _;(with_reducible repeat(first|apply ag|apply aj|apply af));refine aG ?_ NB178_205.out _;(with_reducible repeat(first|apply ag|apply aj|apply af));refine aG ?_ NB178_205.out _;(with_reducible repeat(first|apply ag|apply aj|apply af));exact BK178.out) hb);replace BK205:=au (ay (g:=gb205) (o:=.cells #[.int .i64 t198,.slice Ao132 t199.length co132,.slice Ao133 t202.length co133] 24 (0,0)) (by(with_reducible repeat(first|apply ag|apply aj|apply af));refine aK (cs:=#[.int .i64 t198,.slice Ao132 t199.length co132,.slice none 0 0]) ?_ 2 _ rfl;(with_reducible repeat(first|apply ag|apply aj|apply af));refine aK (cs:=#[.int .i64 t198,.slice none 0 0,.slice none 0 0]) ?_ 1 _ rfl;(with_reducible repeat(first|apply ag|apply aj|apply af));refine aK (cs:=#[.int .i64 0,.slice none 0 0,.slice none 0 0]) ?_ 0 _ rfl;(with_reducible repeat(first|apply ag|apply aj|apply af));exact BK205.out) hb);replace HB:=au (aA (by with_reducible repeat(first|exact HB.out|apply ah|apply aa|apply ai|refine ae ?_ GE176.out|refine ae ?_ GE177.out|refine ae ?_ GE178.out|refine ae ?_ GE205.out)) hb);(try clear hb);(try clear hb2);(try clear hk);(try clear hi);have hnb135:=NB178_177.out;have hnc135:=NB177_178.out;have hcz136_0:w134.cell? ⟨gb178,0,none⟩=some (.int .i64 x179000_2):=(ak BK178.out 0).trans rfl;have hcz136_1:w134.cell? ⟨gb178,1,none⟩=some (.slice none 0 0):=(ak BK178.out 1).trans rfl;have hcz136_2:w134.cell? ⟨gb178,2,none⟩=some (.slice none 0 0):=(ak BK178.out 2).trans rfl;have hfz136_0:=av BK178.out 0;have hfz136_1:=av BK178.out 1;have hfz136_2:=av BK178.out 2))
          refine bodyPost_ret (di rfl _ _ gb178 24 #[.int .i64 0,.slice none 0 0,.slice none 0 0] (0,0) _ rfl (by(with_reducible repeat(first|apply ag|apply aj|apply af));refine aK (cs:=#[.int .i64 0,.slice none 0 0,.slice none 0 0]) ?_ 2 _ rfl;(with_reducible repeat(first|apply ag|apply aj|apply af));refine aK (cs:=#[.int .i64 0,.slice none 0 0,.slice none 0 0]) ?_ 1 _ rfl;(with_reducible repeat(first|apply ag|apply aj|apply af));refine aK (cs:=#[.int .i64 x179000_2,.slice none 0 0,.slice none 0 0]) ?_ 0 _ rfl;(with_reducible repeat(first|apply ag|apply aj|apply af));exact BK178.out) Try.underlying24 rfl (by kernel_rfl)) rfl ?_
          exact⟨_,_,by first|rfl|(simp <;> rfl)|(simp[*] <;> rfl),by first|exact Kd.dn _ _ _ _ _|exact Kd.dU _ _ _ _ _|exact Kd.dQ _ _ _ _ _|exact Kd.dR _ _ _ _ _|exact Kd.dS _ _ _ _ _,by first|exact Kd.dn _ _ _ _ _|exact Kd.dU _ _ _ _ _|exact Kd.dQ _ _ _ _ _|exact Kd.dR _ _ _ _ _|exact Kd.dS _ _ _ _ _,by with_reducible repeat(first|exact HB.out|apply ah|apply aa|apply ai|refine ae ?_ GE176.out|refine ae ?_ GE177.out|refine ae ?_ GE178.out|refine ae ?_ GE205.out)⟩
attribute [local go_sem] bG bH bS bT bB bA bJ bI
set_option linter.unusedVariables false
set_option linter.unusedSimpArgs false
def impl_RoomIn.l0:Nat→Int→Int→List (S35)→Int→Int→Option (Int×Int×Bool)
 | 0,_,_,_,_,_=>none
 | k+1,x5,x6,x13,x14,x15=>if x15<x14 then (if 0≤x15 then (if x15 < (x13.length:Int) then (impl_RoomIn.l0 k (wrap64 (x5 + ((ax x13 x15).f1))) (mx x6 ((ax x13 x15).f1)) x13 x14 (wrap64 (x15+1))) else (none)) else (none)) else (some (x5,x6,true))
def impl_RoomIn.f (k:Nat) (a0_0:Int) (l0_1:List (S35)) (l0_2:List (S35)):Option (Int×Int×Bool):=(impl_GoodFree.f a0_0 l0_1 l0_2).bind fun t474=>(if t474=true then (impl_RoomIn.l0 k 0 0 l0_1 (l0_1.length:Int) 0) else (some (0,0,false)))
set_option maxHeartbeats 8000000 in
set_option maxRecDepth 100000 in
theorem impl_RoomIn.calls (k:Nat) (a0_0:Int) (A0_1:Option Addr) (c0_1:Nat) (l0_1:List (S35)) (A0_2:Option Addr) (c0_2:Nat) (l0_2:List (S35)) (r1:Int) (r2:Int) (r3:Bool) (w:World) (hr0_1:Kd.C k35 w A0_1 l0_1.length l0_1) (hc0_1:l0_1.length≤c0_1) (hr0_2:Kd.C k35 w A0_2 l0_2.length l0_2) (hc0_2:l0_2.length≤c0_2) (h:impl_RoomIn.f k a0_0 l0_1 l0_2=some (r1,r2,r3)) :
  Calls Try.prog 16 #[.agg #[.int .i64 a0_0,.slice A0_1 l0_1.length c0_1,.slice A0_2 l0_2.length c0_2]] w fun e w'=>e = .returned (.tuple #[.int .i64 r1,.int .i64 r2,.bool r3])∧Below w.heap.size w w':=by
 have hu24:=Try.underlying24
 have hu35:=Try.underlying35
 have HR0_1:=au hr0_1
 have HC0_1:=au hc0_1
 clear hr0_1 hc0_1
 have HR0_2:=au hr0_2
 have HC0_2:=au hc0_2
 clear hr0_2 hc0_2
 have HB:=au (Below.refl w.heap.size w)
 have H:((impl_GoodFree.f a0_0 l0_1 l0_2).bind fun t474=>(if t474=true then (impl_RoomIn.l0 k 0 0 l0_1 (l0_1.length:Int) 0) else (some (0,0,false))))=some (r1,r2,r3):=h
 clear h
 replace H:=Option.bind_eq_some_iff.mp H
 obtain⟨t474,A20,H⟩:=H
 replace H:(if t474=true then (impl_RoomIn.l0 k 0 0 l0_1 (l0_1.length:Int) 0) else (some (0,0,false)))=some (r1,r2,r3):=H
 have A2:=au A20
 clear A20
 by_cases c3:t474=true
 ·subst c3
  have H1:(impl_RoomIn.l0 k 0 0 l0_1 (l0_1.length:Int) 0)=some (r1,r2,r3):=by rw[if_pos rfl] at H;exact H
  clear H
  have H:=H1
  clear H1
  have H':=au H
  clear H
  go_enter Try.func16,Try.ntmps16
  go_wp2_with (first|((with_reducible refine aM (N:=1) rfl ?_);refine aJ ?hg (N:=1) ?hd (cs:=#[.int .i64 a0_0,.slice A0_1 l0_1.length c0_1,.slice A0_2 l0_2.length c0_2]) (t:=24) ?hr ?_;(case hd=>rfl);(case hg=>rfl);(case hr=>first|(go_simp;done)|(go_simp;rfl));intro gb473 hg w4 hbox hb;have BK473:=au (hbox);have GW473:=au ((by rw[hg];exact(az (by with_reducible repeat(first|exact HB.out|apply ah|apply aa|apply ai))):w.heap.size≤gb473));have GE473:=au ((by rw[hg];exact(az (by with_reducible repeat(first|exact HB.out|apply ah|apply aa|apply ai))):w.heap.size≤gb473));replace HB:=au (aA (by with_reducible repeat(first|exact HB.out|apply ah|apply aa|apply ai)) hb);clear hb hbox hg;have hcz5_0:w4.cell? ⟨gb473,0,none⟩=some (.int .i64 a0_0):=(ak BK473.out 0).trans rfl;have hcz5_1:w4.cell? ⟨gb473,1,none⟩=some (.slice A0_1 l0_1.length c0_1):=(ak BK473.out 1).trans rfl;have hcz5_2:w4.cell? ⟨gb473,2,none⟩=some (.slice A0_2 l0_2.length c0_2):=(ak BK473.out 2).trans rfl;have hfz5_0:=av BK473.out 0;have hfz5_1:=av BK473.out 1;have hfz5_2:=av BK473.out 2)|((with_reducible refine aW (f:=17) rfl ?_);refine bO (some 10) rfl rfl Try.func17 (by kernel_rfl) rfl #[.agg #[.int .i64 a0_0,.slice A0_1 l0_1.length c0_1,.slice A0_2 l0_2.length c0_2]] rfl (by(try simp only[amp_]);first|done|rfl|(simp only[ald_];rfl)) ?_;(with_reducible refine(impl_GoodFree.calls a0_0 _ _ l0_1 _ _ l0_2 true _ ?side1 ?side2 ?side3 ?side4 A2.out).mono ?_);(case side1=>repeat(first|exact(Kd.aN HR0_1.out HB.out)|(with_reducible first|apply Kd.aY|apply Kd.aZ|apply Kd.bn)));(case side2=>exact HC0_1.out);(case side3=>repeat(first|exact(Kd.aN HR0_2.out HB.out)|(with_reducible first|apply Kd.aY|apply Kd.aZ|apply Kd.bn)));(case side4=>exact HC0_2.out);rintro e w6 ⟨rfl,hb⟩;refine⟨_,rfl,?_⟩;replace BK473:=au (ay (g:=gb473) (o:=.cells #[.int .i64 a0_0,.slice A0_1 l0_1.length c0_1,.slice A0_2 l0_2.length c0_2] 24 (0,0)) (by(with_reducible repeat(first|apply ag|apply aj|apply af));exact BK473.out) hb);replace HB:=au (aA (by with_reducible repeat(first|exact HB.out|apply ah|apply aa|apply ai|refine ae ?_ GE473.out)) hb);(try clear hb);(try clear hb2);(try clear hk);(try clear hi);have hcz7_0:w6.cell? ⟨gb473,0,none⟩=some (.int .i64 a0_0):=(ak BK473.out 0).trans rfl;have hcz7_1:w6.cell? ⟨gb473,1,none⟩=some (.slice A0_1 l0_1.length c0_1):=(ak BK473.out 1).trans rfl;have hcz7_2:w6.cell? ⟨gb473,2,none⟩=some (.slice A0_2 l0_2.length c0_2):=(ak BK473.out 2).trans rfl;have hfz7_0:=av BK473.out 0;have hfz7_1:=av BK473.out 1;have hfz7_2:=av BK473.out 2))
  go_loopg [5,6,15] k (fun kq v5 v6 v15 w'=>∃ (x5_1:Int) (x6_1:Int) (x15_1:Int),v5 = .int .i64 x5_1∧v6 = .int .i64 x6_1∧v15 = .int .i64 x15_1∧Aside0 (impl_RoomIn.l0 kq x5_1 x6_1 l0_1 (l0_1.length:Int) x15_1=some (r1,r2,r3))∧Aside0 (kq≤k)∧Aside0 (w'.heap[gb473]? = some (.cells #[.int .i64 a0_0,(.slice A0_1 l0_1.length c0_1),(.slice A0_2 l0_2.length c0_2)] 24 (0,0)))∧Aside0 (Below w.heap.size w w'))
  case atStart=>exact⟨(0),(0),(0),(by first|rfl|(simp;done)|(simp[*];done)),(by first|rfl|(simp;done)|(simp[*];done)),(by first|rfl|(simp;done)|(simp[*];done)),H',⟨Nat.le_refl _⟩,⟨by(with_reducible repeat(first|apply ag|apply aj|apply af));exact BK473.out⟩,⟨by with_reducible repeat(first|exact HB.out|apply ah|apply aa|apply ai|refine ae ?_ GE473.out)⟩⟩
  case round =>
   clear H'
   try clear c1
   try clear p2
   try clear c3
   try clear hcz5_0
   try clear hcz5_1
   try clear hcz5_2
   try clear hcz7_0
   try clear hcz7_1
   try clear hcz7_2
   try clear hfz5_0
   try clear hfz5_1
   try clear hfz5_2
   try clear hfz7_0
   try clear hfz7_1
   try clear hfz7_2
   obtain⟨x5_1,x6_1,x15_1,rfl,rfl,rfl,HA,HK1,BK473,HB⟩:=hrel
   cases gk with
   | zero=>exact absurd HA.out (by simp[impl_RoomIn.l0])
   | succ k1=>
    have H:=HA.out
    clear HA
    simp only[impl_RoomIn.l0] at H
    by_cases c8:x15_1 < (l0_1.length:Int)
    ·rw[if_pos c8] at H
     have c8b0:decide (x15_1 < (l0_1.length:Int))=true:=decide_eq_true c8
     clear c8
     by_cases c9:0≤x15_1
     ·rw[if_pos c9] at H
      have c9b0:decide (0≤x15_1)=true:=decide_eq_true c9
      clear c9
      by_cases c10:x15_1 < (l0_1.length:Int)
      ·rw[if_pos c10] at H
       have c10b0:decide (x15_1 < (l0_1.length:Int))=true:=decide_eq_true c10
       clear c10
       obtain⟨ji11,hji11⟩:∃ j_:Int,(mx x6_1 ((ax l0_1 x15_1).f1))=j_:=⟨_,rfl⟩
       replace H:(impl_RoomIn.l0 k1 (wrap64 (x5_1 + ((ax l0_1 x15_1).f1))) ji11 l0_1 (l0_1.length:Int) (wrap64 (x15_1+1)))=some (r1,r2,r3):=by first|(rw[hji11] at H;exact H)|(simp only[hji11] at H ⊢;exact H)
       have hji11_:(if x6_1 < ((ax l0_1 x15_1).f1) then ((ax l0_1 x15_1).f1) else x6_1)=ji11:=hji11
       have H':=au H
       clear H
       have p475:0≤(x15_1:Int):=of_decide_eq_true (by assumption)
       have q475:x15_1 < (l0_1.length:Int):=of_decide_eq_true (by assumption)
       obtain⟨ad475,e475,hx475_0,hx475_1⟩:=bF HR0_1.out x15_1 p475 q475
       cases e475
       replace hx475_0:=(HB.out.cell (World.block_lt_of_cell? w _ hx475_0)).trans hx475_0
       replace hx475_1:=(HB.out.cell (World.block_lt_of_cell? w _ hx475_1)).trans hx475_1
       replace p475:=eq_true p475
       replace q475:=eq_true q475
       go_wp2_with (first|((with_reducible refine aM (N:=8) rfl ?_);refine aJ ?hg (N:=8) ?hd (cs:=#[.int .i64 0,.int .i64 0]) (t:=35) ?hr ?_;(case hd=>rfl);(case hg=>rfl);(case hr=>first|(go_simp;done)|(go_simp;rfl));intro gb476 hg w12 hbox hb;have BK476:=au (hbox);have GW476:=au ((by rw[hg];exact(az (by with_reducible repeat(first|exact HB.out|apply ah|apply aa|apply ai|refine ae ?_ GE473.out))):w.heap.size≤gb476));have GE476:=au ((by rw[hg];exact(az (by with_reducible repeat(first|exact HB.out|apply ah|apply aa|apply ai|refine ae ?_ GE473.out))):w.heap.size≤gb476));replace HB:=au (aA (by with_reducible repeat(first|exact HB.out|apply ah|apply aa|apply ai|refine ae ?_ GE473.out)) hb);have NB473_476:=au ((by rw[hg];exact Nat.ne_of_lt (aH (g:=gb473) (o:=.cells #[.int .i64 a0_0,.slice (some ad475) l0_1.length c0_1,.slice A0_2 l0_2.length c0_2] 24 (0,0)) (by(with_reducible repeat(first|apply ag|apply aj|apply af));exact BK473.out)):gb473≠gb476));have NB476_473:=au ((by rw[hg];exact Nat.ne_of_gt (aH (g:=gb473) (o:=.cells #[.int .i64 a0_0,.slice (some ad475) l0_1.length c0_1,.slice A0_2 l0_2.length c0_2] 24 (0,0)) (by(with_reducible repeat(first|apply ag|apply aj|apply af));exact BK473.out)):gb476≠gb473));replace BK473:=au (ay (g:=gb473) (o:=.cells #[.int .i64 a0_0,.slice (some ad475) l0_1.length c0_1,.slice A0_2 l0_2.length c0_2] 24 (0,0)) (by(with_reducible repeat(first|apply ag|apply aj|apply af));exact BK473.out) hb);clear hb hbox hg;have hnb13:=NB476_473.out;have hnc13:=NB473_476.out;have hcz14_0:w12.cell? ⟨gb476,0,none⟩=some (.int .i64 0):=(ak BK476.out 0).trans rfl;have hcz14_1:w12.cell? ⟨gb476,1,none⟩=some (.int .i64 0):=(ak BK476.out 1).trans rfl;have hfz14_0:=av BK476.out 0;have hfz14_1:=av BK476.out 1))
       go_roundg k1
       case measure=>have:=HK1.out;omega
       case rel=>exact⟨(wrap64 (x5_1 + ((ax l0_1 x15_1).f1))),(ji11),(wrap64 (x15_1+1)),(by first|rfl|(simp;done)|(simp[*];done)),(by first|rfl|(simp;done)|(simp only[← hji11] <;> (first|rfl|simp))|(simp[*];done)),(by first|rfl|(simp;done)|(simp[*];done)),H',⟨by have:=HK1.out;omega⟩,⟨by(with_reducible repeat(first|apply ag|apply aj|apply af));refine aG ?_ NB473_476.out _;(with_reducible repeat(first|apply ag|apply aj|apply af));refine aG ?_ NB473_476.out _;(with_reducible repeat(first|apply ag|apply aj|apply af));exact BK473.out⟩,⟨by with_reducible repeat(first|exact HB.out|apply ah|apply aa|apply ai|refine ae ?_ GE473.out|refine ae ?_ GE476.out)⟩⟩
      ·rw[if_neg c10] at H
       exact absurd H (by simp)
     ·rw[if_neg c9] at H
      exact absurd H (by simp)
    ·rw[if_neg c8] at H
     have c8b0:decide (x15_1 < (l0_1.length:Int))=false:=decide_eq_false c8
     clear c8
     simp only[Option.some.injEq,Prod.mk.injEq] at H
     obtain⟨rfl,rfl,rfl⟩:=H
     go_wp2
     go_ret3
     exact⟨by first|rfl|(simp <;> rfl)|(simp[*] <;> rfl),by with_reducible repeat(first|exact HB.out|apply ah|apply aa|apply ai|refine ae ?_ GE473.out)⟩
 ·replace c3:=Bool.eq_false_iff.mpr c3
  subst c3
  have H1:(some (0,0,false))=some (r1,r2,r3):=by rw[if_neg (show ¬ (false=true) by decide)] at H;exact H
  clear H
  have H:=H1
  clear H1
  simp only[Option.some.injEq,Prod.mk.injEq] at H
  obtain⟨rfl,rfl,rfl⟩:=H
  go_enter Try.func16,Try.ntmps16
  go_wp2_with (first|((with_reducible refine aM (N:=1) rfl ?_);refine aJ ?hg (N:=1) ?hd (cs:=#[.int .i64 a0_0,.slice A0_1 l0_1.length c0_1,.slice A0_2 l0_2.length c0_2]) (t:=24) ?hr ?_;(case hd=>rfl);(case hg=>rfl);(case hr=>first|(go_simp;done)|(go_simp;rfl));intro gb473 hg w15 hbox hb;have BK473:=au (hbox);have GW473:=au ((by rw[hg];exact(az (by with_reducible repeat(first|exact HB.out|apply ah|apply aa|apply ai))):w.heap.size≤gb473));have GE473:=au ((by rw[hg];exact(az (by with_reducible repeat(first|exact HB.out|apply ah|apply aa|apply ai))):w.heap.size≤gb473));replace HB:=au (aA (by with_reducible repeat(first|exact HB.out|apply ah|apply aa|apply ai)) hb);clear hb hbox hg;have hcz16_0:w15.cell? ⟨gb473,0,none⟩=some (.int .i64 a0_0):=(ak BK473.out 0).trans rfl;have hcz16_1:w15.cell? ⟨gb473,1,none⟩=some (.slice A0_1 l0_1.length c0_1):=(ak BK473.out 1).trans rfl;have hcz16_2:w15.cell? ⟨gb473,2,none⟩=some (.slice A0_2 l0_2.length c0_2):=(ak BK473.out 2).trans rfl;have hfz16_0:=av BK473.out 0;have hfz16_1:=av BK473.out 1;have hfz16_2:=av BK473.out 2)|((with_reducible refine aW (f:=17) rfl ?_);refine bO (some 10) rfl rfl Try.func17 (by kernel_rfl) rfl #[.agg #[.int .i64 a0_0,.slice A0_1 l0_1.length c0_1,.slice A0_2 l0_2.length c0_2]] rfl (by(try simp only[amp_]);first|done|rfl|(simp only[ald_];rfl)) ?_;(with_reducible refine(impl_GoodFree.calls a0_0 _ _ l0_1 _ _ l0_2 false _ ?side1 ?side2 ?side3 ?side4 A2.out).mono ?_);(case side1=>repeat(first|exact(Kd.aN HR0_1.out HB.out)|(with_reducible first|apply Kd.aY|apply Kd.aZ|apply Kd.bn)));(case side2=>exact HC0_1.out);(case side3=>repeat(first|exact(Kd.aN HR0_2.out HB.out)|(with_reducible first|apply Kd.aY|apply Kd.aZ|apply Kd.bn)));(case side4=>exact HC0_2.out);rintro e w17 ⟨rfl,hb⟩;refine⟨_,rfl,?_⟩;replace BK473:=au (ay (g:=gb473) (o:=.cells #[.int .i64 a0_0,.slice A0_1 l0_1.length c0_1,.slice A0_2 l0_2.length c0_2] 24 (0,0)) (by(with_reducible repeat(first|apply ag|apply aj|apply af));exact BK473.out) hb);replace HB:=au (aA (by with_reducible repeat(first|exact HB.out|apply ah|apply aa|apply ai|refine ae ?_ GE473.out)) hb);(try clear hb);(try clear hb2);(try clear hk);(try clear hi)))
  go_ret3
  exact⟨by first|rfl|(simp <;> rfl)|(simp[*] <;> rfl),by with_reducible repeat(first|exact HB.out|apply ah|apply aa|apply ai|refine ae ?_ GE473.out)⟩
attribute [local go_sem] bG bH bS bT bB bA bJ bI
set_option linter.unusedVariables false
set_option linter.unusedSimpArgs false
def spec_UsedExtents.l0:Nat→List (S35)→Int→List (S35)→Int→Int→Int→List (S35)→List (S35)→Option ((List (S35))×Bool)
 | 0,_,_,_,_,_,_,_,_=>none
 | k+1,x4,x5,x12,x13,x14,x155000,x155001,x155002=>if x14<x13 then (if 0≤x14 then (if x14 < (x12.length:Int) then (if ((ax x12 x14).f0) > x5 then (if x4.length<8796093022208 then (spec_UsedExtents.l0 k (x4++[(⟨x5,wrap64 (((ax x12 x14).f0) - x5)⟩:S35)]) (wrap64 (((ax x12 x14).f0) + ((ax x12 x14).f1))) x12 x13 (wrap64 (x14+1)) x155000 x155001 x155002) else (none)) else (spec_UsedExtents.l0 k x4 (wrap64 (((ax x12 x14).f0) + ((ax x12 x14).f1))) x12 x13 (wrap64 (x14+1)) x155000 x155001 x155002)) else (none)) else (none)) else (if x5<x155000 then (if x4.length<8796093022208 then (some ((x4++[(⟨x5,wrap64 (x155000 - x5)⟩:S35)]),true)) else (none)) else (some (x4,true)))
def spec_UsedExtents.f (k:Nat) (a0_0:Int) (l0_1:List (S35)) (l0_2:List (S35)):Option ((List (S35))×Bool):=(spec_GoodFree.f k a0_0 l0_1 l0_2).bind fun t155=>(if t155=true then (spec_UsedExtents.l0 k ([]:List (S35)) 0 l0_1 (l0_1.length:Int) 0 a0_0 l0_1 l0_2) else (some (([]:List (S35)),false)))
set_option maxHeartbeats 8000000 in
set_option maxRecDepth 100000 in
theorem spec_UsedExtents.calls (k : Nat) (a0_0 : Int) (A0_1 : Option Addr) (c0_1 : Nat) (l0_1 : List (S35)) (A0_2 : Option Addr) (c0_2 : Nat) (l0_2 : List (S35)) (r1 : List (S35)) (r2 : Bool) (w : World) (hr0_1 : Kd.C k35 w A0_1 l0_1.length l0_1) (hc0_1 : l0_1.length ≤ c0_1) (hr0_2 : Kd.C k35 w A0_2 l0_2.length l0_2) (hc0_2 : l0_2.length ≤ c0_2) (h : spec_UsedExtents.f k a0_0 l0_1 l0_2 = some (r1, r2)) :
  Calls Try.prog 20 #[.agg #[.int .i64 a0_0,.slice A0_1 l0_1.length c0_1,.slice A0_2 l0_2.length c0_2]] w fun e w'=>∃ v0_:Value,e = .returned (.tuple #[v0_,.bool r2])∧Kd.R k35 35 w' w.heap.size (fun _=>True) v0_ r1∧Below w.heap.size w w':=by
 have hu24:=Try.underlying24
 have hu35:=Try.underlying35
 have HR0_1:=au hr0_1
 have HC0_1:=au hc0_1
 clear hr0_1 hc0_1
 have HR0_2:=au hr0_2
 have HC0_2:=au hc0_2
 clear hr0_2 hc0_2
 have HB:=au (Below.refl w.heap.size w)
 have H:((spec_GoodFree.f k a0_0 l0_1 l0_2).bind fun t155=>(if t155=true then (spec_UsedExtents.l0 k ([]:List (S35)) 0 l0_1 (l0_1.length:Int) 0 a0_0 l0_1 l0_2) else (some (([]:List (S35)),false))))=some (r1,r2):=h
 clear h
 replace H:=Option.bind_eq_some_iff.mp H
 obtain⟨t155,A20,H⟩:=H
 replace H:(if t155=true then (spec_UsedExtents.l0 k ([]:List (S35)) 0 l0_1 (l0_1.length:Int) 0 a0_0 l0_1 l0_2) else (some (([]:List (S35)),false)))=some (r1,r2):=H
 have A2:=au A20
 clear A20
 by_cases c3:t155=true
 ·subst c3
  have H1:(spec_UsedExtents.l0 k ([]:List (S35)) 0 l0_1 (l0_1.length:Int) 0 a0_0 l0_1 l0_2)=some (r1,r2):=by rw[if_pos rfl] at H;exact H
  clear H
  have H:=H1
  clear H1
  have H':=au H
  clear H
  go_enter Try.func20,Try.ntmps20
  go_wp2_with (first|((with_reducible refine aM (N:=1) rfl ?_);refine aJ ?hg (N:=1) ?hd (cs:=#[.int .i64 a0_0,.slice A0_1 l0_1.length c0_1,.slice A0_2 l0_2.length c0_2]) (t:=24) ?hr ?_;(case hd=>rfl);(case hg=>rfl);(case hr=>first|(go_simp;done)|(go_simp;rfl));intro gb154 hg w4 hbox hb;have BK154:=au (hbox);have GW154:=au ((by rw[hg];exact(az (by with_reducible repeat(first|exact HB.out|apply ah|apply aa|apply ai))):w.heap.size≤gb154));have GE154:=au ((by rw[hg];exact(az (by with_reducible repeat(first|exact HB.out|apply ah|apply aa|apply ai))):w.heap.size≤gb154));replace HB:=au (aA (by with_reducible repeat(first|exact HB.out|apply ah|apply aa|apply ai)) hb);clear hb hbox hg;have hcz5_0:w4.cell? ⟨gb154,0,none⟩=some (.int .i64 a0_0):=(ak BK154.out 0).trans rfl;have hcz5_1:w4.cell? ⟨gb154,1,none⟩=some (.slice A0_1 l0_1.length c0_1):=(ak BK154.out 1).trans rfl;have hcz5_2:w4.cell? ⟨gb154,2,none⟩=some (.slice A0_2 l0_2.length c0_2):=(ak BK154.out 2).trans rfl;have hfz5_0:=av BK154.out 0;have hfz5_1:=av BK154.out 1;have hfz5_2:=av BK154.out 2)|((with_reducible refine aW (f:=25) rfl ?_);refine bO (some 9) rfl rfl Try.func25 (by kernel_rfl) rfl #[.agg #[.int .i64 a0_0,.slice A0_1 l0_1.length c0_1,.slice A0_2 l0_2.length c0_2]] rfl (by(try simp only[amp_]);first|done|rfl|(simp only[ald_];rfl)) ?_;(with_reducible refine(spec_GoodFree.calls k a0_0 _ _ l0_1 _ _ l0_2 true _ ?side1 ?side2 ?side3 ?side4 A2.out).mono ?_);(case side1=>repeat(first|exact(Kd.aN HR0_1.out HB.out)|(with_reducible first|apply Kd.aY|apply Kd.aZ|apply Kd.bn)));(case side2=>exact HC0_1.out);(case side3=>repeat(first|exact(Kd.aN HR0_2.out HB.out)|(with_reducible first|apply Kd.aY|apply Kd.aZ|apply Kd.bn)));(case side4=>exact HC0_2.out);rintro e w6 ⟨rfl,hb⟩;refine⟨_,rfl,?_⟩;replace BK154:=au (ay (g:=gb154) (o:=.cells #[.int .i64 a0_0,.slice A0_1 l0_1.length c0_1,.slice A0_2 l0_2.length c0_2] 24 (0,0)) (by(with_reducible repeat(first|apply ag|apply aj|apply af));exact BK154.out) hb);replace HB:=au (aA (by with_reducible repeat(first|exact HB.out|apply ah|apply aa|apply ai|refine ae ?_ GE154.out)) hb);(try clear hb);(try clear hb2);(try clear hk);(try clear hi);have hcz7_0:w6.cell? ⟨gb154,0,none⟩=some (.int .i64 a0_0):=(ak BK154.out 0).trans rfl;have hcz7_1:w6.cell? ⟨gb154,1,none⟩=some (.slice A0_1 l0_1.length c0_1):=(ak BK154.out 1).trans rfl;have hcz7_2:w6.cell? ⟨gb154,2,none⟩=some (.slice A0_2 l0_2.length c0_2):=(ak BK154.out 2).trans rfl;have hfz7_0:=av BK154.out 0;have hfz7_1:=av BK154.out 1;have hfz7_2:=av BK154.out 2))
  go_loopg [4,5,14] k (fun kq v4 v5 v14 w'=>∃ (x4_1:List (S35)) (x5_1:Int) (x14_1:Int),v5 = .int .i64 x5_1∧v14 = .int .i64 x14_1∧Aside0 (spec_UsedExtents.l0 kq x4_1 x5_1 l0_1 (l0_1.length:Int) x14_1 a0_0 l0_1 l0_2=some (r1,r2))∧Aside0 (kq≤k)∧Aside0 (Kd.R k35 35 w' w.heap.size (fun _=>True) v4 x4_1)∧Aside0 (w'.heap[gb154]? = some (.cells #[.int .i64 a0_0,(.slice A0_1 l0_1.length c0_1),(.slice A0_2 l0_2.length c0_2)] 24 (0,0)))∧Aside0 (Below w.heap.size w w'))
  case atStart=>exact⟨(([]:List (S35))),(0),(0),(by first|rfl|(simp;done)|(simp[*];done)),(by first|rfl|(simp;done)|(simp[*];done)),H',⟨Nat.le_refl _⟩,⟨by first|exact Kd.dn _ _ _ _ _|exact Kd.dU _ _ _ _ _|exact Kd.dQ _ _ _ _ _|exact Kd.dR _ _ _ _ _|exact Kd.dS _ _ _ _ _⟩,⟨by(with_reducible repeat(first|apply ag|apply aj|apply af));exact BK154.out⟩,⟨by with_reducible repeat(first|exact HB.out|apply ah|apply aa|apply ai|refine ae ?_ GE154.out)⟩⟩
  case round =>
   clear H'
   try clear c2
   try clear p2
   try clear c3
   try clear hcz5_0
   try clear hcz5_1
   try clear hcz5_2
   try clear hcz7_0
   try clear hcz7_1
   try clear hcz7_2
   try clear hfz5_0
   try clear hfz5_1
   try clear hfz5_2
   try clear hfz7_0
   try clear hfz7_1
   try clear hfz7_2
   obtain⟨x4_1,x5_1,x14_1,rfl,rfl,HA,HK1,HO_4,BK154,HB⟩:=hrel
   cases gk with
   | zero=>exact absurd HA.out (by simp[spec_UsedExtents.l0])
   | succ k1=>
    have H:=HA.out
    clear HA
    simp only[spec_UsedExtents.l0] at H
    by_cases c8:x14_1 < (l0_1.length:Int)
    ·rw [if_pos c8] at H
     have c8b0:decide (x14_1 < (l0_1.length:Int))=true:=decide_eq_true c8
     clear c8
     by_cases c9:0≤x14_1
     ·rw [if_pos c9] at H
      have c9b0:decide (0≤x14_1)=true:=decide_eq_true c9
      clear c9
      by_cases c10:x14_1 < (l0_1.length:Int)
      ·rw[if_pos c10] at H
       have c10b0:decide (x14_1 < (l0_1.length:Int))=true:=decide_eq_true c10
       clear c10
       by_cases c11:((ax l0_1 x14_1).f0) > x5_1
       ·rw[if_pos c11] at H
        have c11b0:decide (x5_1 < ((ax l0_1 x14_1).f0))=true:=decide_eq_true c11
        clear c11
        by_cases c12:x4_1.length<8796093022208
        ·rw[if_pos c12] at H
         have LMc12:=au c12
         clear c12
         obtain⟨y158,hy158⟩:∃ y_:List (S35),y_ = (x4_1++[(⟨x5_1,wrap64 (((ax l0_1 x14_1).f0) - x5_1)⟩:S35)]):=⟨_,rfl⟩
         replace H:(spec_UsedExtents.l0 k1 y158 (wrap64 (((ax l0_1 x14_1).f0) + ((ax l0_1 x14_1).f1))) l0_1 (l0_1.length:Int) (wrap64 (x14_1+1)) a0_0 l0_1 l0_2)=some (r1,r2):=by first|(rw[hy158];with_reducible exact H)|(have H2_:=(Option.bind_some _ _).symm.trans H;rw[hy158];with_reducible exact H2_)|(have H2_:=(Option.bind_some _ _).symm.trans H;with_reducible exact H2_)|with_reducible exact H|(rw[hy158];exact H)|exact H
         have Ny158:=au hy158
         clear hy158
         have H':=au H
         clear H
         have p156:0≤(x14_1:Int):=of_decide_eq_true (by assumption)
         have q156:x14_1 < (l0_1.length:Int):=of_decide_eq_true (by assumption)
         obtain⟨ad156,e156,hx156_0,hx156_1⟩:=bF HR0_1.out x14_1 p156 q156
         cases e156
         replace hx156_0:=(HB.out.cell (World.block_lt_of_cell? w _ hx156_0)).trans hx156_0
         replace hx156_1:=(HB.out.cell (World.block_lt_of_cell? w _ hx156_1)).trans hx156_1
         replace p156:=eq_true p156
         replace q156:=eq_true q156
         go_wp2_with (first|((with_reducible refine aM (N:=7) rfl ?_);refine aJ ?hg (N:=7) ?hd (cs:=#[.int .i64 0,.int .i64 0]) (t:=35) ?hr ?_;(case hd=>rfl);(case hg=>rfl);(case hr=>first|(go_simp;done)|(go_simp;rfl));intro gb157 hg w13 hbox hb;replace HO_4:=au (Kd.bi (Kd.eX (by(with_reducible repeat(first|apply Kd.aD|apply Kd.aC|apply Kd.aI));exact HO_4.out) gb157 (Nat.le_of_eq hg.symm)) hb);have BK157:=au (hbox);have GW157:=au ((by rw[hg];exact(az (by with_reducible repeat(first|exact HB.out|apply ah|apply aa|apply ai|refine ae ?_ GE154.out))):w.heap.size≤gb157));have GE157:=au ((by rw[hg];exact(az (by with_reducible repeat(first|exact HB.out|apply ah|apply aa|apply ai|refine ae ?_ GE154.out))):w.heap.size≤gb157));replace HB:=au (aA (by with_reducible repeat(first|exact HB.out|apply ah|apply aa|apply ai|refine ae ?_ GE154.out)) hb);have NB154_157:=au ((by rw[hg];exact Nat.ne_of_lt (aH (g:=gb154) (o:=.cells #[.int .i64 a0_0,.slice (some ad156) l0_1.length c0_1,.slice A0_2 l0_2.length c0_2] 24 (0,0)) (by(with_reducible repeat(first|apply ag|apply aj|apply af));exact BK154.out)):gb154≠gb157));have NB157_154:=au ((by rw[hg];exact Nat.ne_of_gt (aH (g:=gb154) (o:=.cells #[.int .i64 a0_0,.slice (some ad156) l0_1.length c0_1,.slice A0_2 l0_2.length c0_2] 24 (0,0)) (by(with_reducible repeat(first|apply ag|apply aj|apply af));exact BK154.out)):gb157≠gb154));replace BK154:=au (ay (g:=gb154) (o:=.cells #[.int .i64 a0_0,.slice (some ad156) l0_1.length c0_1,.slice A0_2 l0_2.length c0_2] 24 (0,0)) (by(with_reducible repeat(first|apply ag|apply aj|apply af));exact BK154.out) hb);clear hb hbox hg;have hnb14:=NB157_154.out;have hnc14:=NB154_157.out;have hcz15_0:w13.cell? ⟨gb157,0,none⟩=some (.int .i64 0):=(ak BK157.out 0).trans rfl;have hcz15_1:w13.cell? ⟨gb157,1,none⟩=some (.int .i64 0):=(ak BK157.out 1).trans rfl;have hfz15_0:=av BK157.out 0;have hfz15_1:=av BK157.out 1)|((with_reducible refine bu (b:=.append) (xs:=#[.tmp 22,.tmp 29]) rfl ?_);at_builtin;refine Kd.dH k35 (w0:=w) w.heap.size rfl (.tmp 22) (.tmp 29) 22 35 (.agg #[(.int .i64 0),(.int .i64 0)]) 16 rfl Try.underlying22 bV rfl (by decide) (by omega) u4 x4_1 (⟨x5_1,wrap64 (((ax l0_1 x14_1).f0) - x5_1)⟩:S35) [.int .i64 x5_1,.int .i64 (wrap64 (((ax l0_1 x14_1).f0) - x5_1))] (fun k_=>k_≠gb157) (fun _=>False) rfl (by first|(go_simp;done)|(go_simp;rfl)) ?aP (fun _ hk=>hk.elim) ?aF ?aO ?aB ?aS ?aL ?_;(case aP=>exact eu _ _ _ (⟨x5_1,wrap64 (((ax l0_1 x14_1).f0) - x5_1)⟩:S35));(case aB=>exact(by with_reducible repeat(first|exact HB.out|apply ah|apply aa|apply ai|refine ae ?_ GE154.out|refine ae ?_ GE157.out)));(case aF=>exact(fun k_ hk=>Kd.bZ (g:=gb157) (o:=.cells #[.int .i64 ((ax l0_1 x14_1).f0),.int .i64 ((ax l0_1 x14_1).f1)] 35 (0,0)) (by(with_reducible repeat(first|apply ag|apply aj|apply af));refine aK (cs:=#[.int .i64 ((ax l0_1 x14_1).f0),.int .i64 0]) ?_ 1 _ rfl;(with_reducible repeat(first|apply ag|apply aj|apply af));refine aK (cs:=#[.int .i64 0,.int .i64 0]) ?_ 0 _ rfl;(with_reducible repeat(first|apply ag|apply aj|apply af));exact BK157.out) k_ hk));(case aO=>exact(by(with_reducible repeat(first|apply Kd.aD|apply Kd.aC|apply Kd.aI));exact Kd.aT (Kd.aV (p:=⟨gb157,1,none⟩) (Kd.aV (p:=⟨gb157,0,none⟩) (Kd.aT HO_4.out (fun k_ hk=>(⟨hk,hk.2⟩:_∧k_≠gb157))) (fun _ hk=>hk.2) (.int .i64 ((ax l0_1 x14_1).f0))) (fun _ hk=>hk.2) (.int .i64 ((ax l0_1 x14_1).f1))) (fun _ hk=>hk.1.2)));(case aS=>exact(az (by with_reducible repeat(first|exact HB.out|apply ah|apply aa|apply ai|refine ae ?_ GE154.out|refine ae ?_ GE157.out))));(case aL=>have:=LMc12.out;omega);intro v159 w16 ho hb hg hat;rw[← Ny158.out] at ho;replace BK154:=au (bf (g:=gb154) (o:=.cells #[.int .i64 a0_0,.slice (some ad156) l0_1.length c0_1,.slice A0_2 l0_2.length c0_2] 24 (0,0)) (by(with_reducible repeat(first|apply ag|apply aj|apply af));refine aG ?_ NB154_157.out _;(with_reducible repeat(first|apply ag|apply aj|apply af));refine aG ?_ NB154_157.out _;(with_reducible repeat(first|apply ag|apply aj|apply af));exact BK154.out) hg (Kd.gN HO_4.out BK154.out (by decide)));replace BK157:=au (bf (g:=gb157) (o:=.cells #[.int .i64 ((ax l0_1 x14_1).f0),.int .i64 ((ax l0_1 x14_1).f1)] 35 (0,0)) (by(with_reducible repeat(first|apply ag|apply aj|apply af));refine aK (cs:=#[.int .i64 ((ax l0_1 x14_1).f0),.int .i64 0]) ?_ 1 _ rfl;(with_reducible repeat(first|apply ag|apply aj|apply af));refine aK (cs:=#[.int .i64 0,.int .i64 0]) ?_ 0 _ rfl;(with_reducible repeat(first|apply ag|apply aj|apply af));exact BK157.out) hg (Kd.dA HO_4.out (fun _ hk=>hk.2)));replace HB:=au (hb);have HO160:=au (ho);clear HO_4;clear ho hb hg hat;have hcz17_0:w16.cell? ⟨gb157,0,none⟩=some (.int .i64 ((ax l0_1 x14_1).f0)):=(ak BK157.out 0).trans rfl;have hcz17_1:w16.cell? ⟨gb157,1,none⟩=some (.int .i64 ((ax l0_1 x14_1).f1)):=(ak BK157.out 1).trans rfl;have hfz17_0:=av BK157.out 0;have hfz17_1:=av BK157.out 1))
         go_roundg k1
         case measure=>have:=HK1.out;omega
         case rel=>exact⟨(y158),(wrap64 (((ax l0_1 x14_1).f0) + ((ax l0_1 x14_1).f1))),(wrap64 (x14_1+1)),(by first|rfl|(simp;done)|(simp[*];done)),(by first|rfl|(simp;done)|(simp[*];done)),H',⟨by have:=HK1.out;omega⟩,⟨by(with_reducible repeat(first|apply Kd.aD|apply Kd.aC|apply Kd.aI));exact Kd.aT HO160.out (fun _ hk=>trivial)⟩,⟨by(with_reducible repeat(first|apply ag|apply aj|apply af));exact BK154.out⟩,⟨by with_reducible repeat(first|exact HB.out|apply ah|apply aa|apply ai|refine ae ?_ GE154.out|refine ae ?_ GE157.out)⟩⟩
        ·rw[if_neg c12] at H
         exact absurd H (by simp)
       ·rw[if_neg c11] at H
        have c11b0:decide (x5_1 < ((ax l0_1 x14_1).f0))=false:=decide_eq_false c11
        clear c11
        have H':=au H
        clear H
        have p156:0≤(x14_1:Int):=of_decide_eq_true (by assumption)
        have q156:x14_1 < (l0_1.length:Int):=of_decide_eq_true (by assumption)
        obtain⟨ad156,e156,hx156_0,hx156_1⟩:=bF HR0_1.out x14_1 p156 q156
        cases e156
        replace hx156_0:=(HB.out.cell (World.block_lt_of_cell? w _ hx156_0)).trans hx156_0
        replace hx156_1:=(HB.out.cell (World.block_lt_of_cell? w _ hx156_1)).trans hx156_1
        replace p156:=eq_true p156
        replace q156:=eq_true q156
        go_wp2_with (first|((with_reducible refine aM (N:=7) rfl ?_);refine aJ ?hg (N:=7) ?hd (cs:=#[.int .i64 0,.int .i64 0]) (t:=35) ?hr ?_;(case hd=>rfl);(case hg=>rfl);(case hr=>first|(go_simp;done)|(go_simp;rfl));intro gb157 hg w18 hbox hb;replace HO_4:=au (Kd.bi (Kd.eX (by(with_reducible repeat(first|apply Kd.aD|apply Kd.aC|apply Kd.aI));exact HO_4.out) gb157 (Nat.le_of_eq hg.symm)) hb);have BK157:=au (hbox);have GW157:=au ((by rw[hg];exact(az (by with_reducible repeat(first|exact HB.out|apply ah|apply aa|apply ai|refine ae ?_ GE154.out))):w.heap.size≤gb157));have GE157:=au ((by rw[hg];exact(az (by with_reducible repeat(first|exact HB.out|apply ah|apply aa|apply ai|refine ae ?_ GE154.out))):w.heap.size≤gb157));replace HB:=au (aA (by with_reducible repeat(first|exact HB.out|apply ah|apply aa|apply ai|refine ae ?_ GE154.out)) hb);have NB154_157:=au ((by rw[hg];exact Nat.ne_of_lt (aH (g:=gb154) (o:=.cells #[.int .i64 a0_0,.slice (some ad156) l0_1.length c0_1,.slice A0_2 l0_2.length c0_2] 24 (0,0)) (by(with_reducible repeat(first|apply ag|apply aj|apply af));exact BK154.out)):gb154≠gb157));have NB157_154:=au ((by rw[hg];exact Nat.ne_of_gt (aH (g:=gb154) (o:=.cells #[.int .i64 a0_0,.slice (some ad156) l0_1.length c0_1,.slice A0_2 l0_2.length c0_2] 24 (0,0)) (by(with_reducible repeat(first|apply ag|apply aj|apply af));exact BK154.out)):gb157≠gb154));replace BK154:=au (ay (g:=gb154) (o:=.cells #[.int .i64 a0_0,.slice (some ad156) l0_1.length c0_1,.slice A0_2 l0_2.length c0_2] 24 (0,0)) (by(with_reducible repeat(first|apply ag|apply aj|apply af));exact BK154.out) hb);clear hb hbox hg;have hnb19:=NB157_154.out;have hnc19:=NB154_157.out;have hcz20_0:w18.cell? ⟨gb157,0,none⟩=some (.int .i64 0):=(ak BK157.out 0).trans rfl;have hcz20_1:w18.cell? ⟨gb157,1,none⟩=some (.int .i64 0):=(ak BK157.out 1).trans rfl;have hfz20_0:=av BK157.out 0;have hfz20_1:=av BK157.out 1))
        go_roundg k1
        case measure=>have:=HK1.out;omega
        case rel=>exact⟨(x4_1),(wrap64 (((ax l0_1 x14_1).f0) + ((ax l0_1 x14_1).f1))),(wrap64 (x14_1+1)),(by first|rfl|(simp;done)|(simp[*];done)),(by first|rfl|(simp;done)|(simp[*];done)),H',⟨by have:=HK1.out;omega⟩,⟨by(with_reducible repeat(first|apply Kd.aD|apply Kd.aC|apply Kd.aI));exact Kd.aT (Kd.aV (p:=⟨gb157,1,none⟩) (Kd.aV (p:=⟨gb157,0,none⟩) (Kd.aT HO_4.out (fun k_ hk=>(⟨hk,hk.2⟩:_∧k_≠gb157))) (fun _ hk=>hk.2) (.int .i64 ((ax l0_1 x14_1).f0))) (fun _ hk=>hk.2) (.int .i64 ((ax l0_1 x14_1).f1))) (fun _ hk=>trivial)⟩,⟨by(with_reducible repeat(first|apply ag|apply aj|apply af));refine aG ?_ NB154_157.out _;(with_reducible repeat(first|apply ag|apply aj|apply af));refine aG ?_ NB154_157.out _;(with_reducible repeat(first|apply ag|apply aj|apply af));exact BK154.out⟩,⟨by with_reducible repeat(first|exact HB.out|apply ah|apply aa|apply ai|refine ae ?_ GE154.out|refine ae ?_ GE157.out)⟩⟩
      ·rw[if_neg c10] at H
       exact absurd H (by simp)
     ·rw[if_neg c9] at H
      exact absurd H (by simp)
    ·rw[if_neg c8] at H
     have c8b0:decide (x14_1 < (l0_1.length:Int))=false:=decide_eq_false c8
     clear c8
     by_cases c21:x5_1<a0_0
     ·rw[if_pos c21] at H
      have c21b0:decide (x5_1<a0_0)=true:=decide_eq_true c21
      clear c21
      by_cases c22:x4_1.length<8796093022208
      ·rw[if_pos c22] at H
       have LMc22:=au c22
       clear c22
       obtain⟨y161,hy161⟩:∃ y_:List (S35),y_ = (x4_1++[(⟨x5_1,wrap64 (a0_0 - x5_1)⟩:S35)]):=⟨_,rfl⟩
       replace H:(some (y161,true))=some (r1,r2):=by first|(rw[hy161];with_reducible exact H)|(have H2_:=(Option.bind_some _ _).symm.trans H;rw[hy161];with_reducible exact H2_)|(have H2_:=(Option.bind_some _ _).symm.trans H;with_reducible exact H2_)|with_reducible exact H|(rw[hy161];exact H)|exact H
       have Ny161:=au hy161
       clear hy161
       simp only[Option.some.injEq,Prod.mk.injEq] at H
       obtain⟨rfl,rfl⟩:=H
       have hcz23_0:wr.cell? ⟨gb154,0,none⟩=some (.int .i64 a0_0):=(ak BK154.out 0).trans rfl
       have hcz23_1:wr.cell? ⟨gb154,1,none⟩=some (.slice A0_1 l0_1.length c0_1):=(ak BK154.out 1).trans rfl
       have hcz23_2:wr.cell? ⟨gb154,2,none⟩=some (.slice A0_2 l0_2.length c0_2):=(ak BK154.out 2).trans rfl
       have hfz23_0:=av BK154.out 0
       have hfz23_1:=av BK154.out 1
       have hfz23_2:=av BK154.out 2
       go_wp2_with (first|((with_reducible refine bu (b:=.append) (xs:=#[.tmp 41,.tmp 48]) rfl ?_);at_builtin;refine Kd.dH k35 (w0:=w) w.heap.size rfl (.tmp 41) (.tmp 48) 22 35 (.agg #[(.int .i64 0),(.int .i64 0)]) 16 rfl Try.underlying22 bV rfl (by decide) (by omega) u4 x4_1 (⟨x5_1,wrap64 (a0_0 - x5_1)⟩:S35) [.int .i64 x5_1,.int .i64 (wrap64 (a0_0 - x5_1))] (fun _=>True) (fun _=>False) rfl rfl ?aP (fun _ hk=>hk.elim) ?aF ?aO ?aB ?aS ?aL ?_;(case aP=>exact eu _ _ _ (⟨x5_1,wrap64 (a0_0 - x5_1)⟩:S35));(case aB=>exact(by with_reducible repeat(first|exact HB.out|apply ah|apply aa|apply ai|refine ae ?_ GE154.out)));(case aF=>exact(fun _ _=>trivial));(case aO=>exact(by(with_reducible repeat(first|apply Kd.aD|apply Kd.aC|apply Kd.aI));exact HO_4.out));(case aS=>exact(az (by with_reducible repeat(first|exact HB.out|apply ah|apply aa|apply ai|refine ae ?_ GE154.out))));(case aL=>have:=LMc22.out;omega);intro v162 w24 ho hb hg hat;rw[← Ny161.out] at ho;replace BK154:=au (bf (g:=gb154) (o:=.cells #[.int .i64 a0_0,.slice A0_1 l0_1.length c0_1,.slice A0_2 l0_2.length c0_2] 24 (0,0)) (by(with_reducible repeat(first|apply ag|apply aj|apply af));exact BK154.out) hg (Kd.gN HO_4.out BK154.out (by decide)));replace HB:=au (hb);have HO163:=au (ho);clear HO_4;clear ho hb hg hat))
       go_ret2
       exact⟨_,by first|rfl|(simp <;> rfl)|(simp[*] <;> rfl),by(with_reducible repeat(first|apply Kd.aD|apply Kd.aC|apply Kd.aI));exact HO163.out,by with_reducible repeat(first|exact HB.out|apply ah|apply aa|apply ai|refine ae ?_ GE154.out)⟩
      ·rw[if_neg c22] at H
       exact absurd H (by simp)
     ·rw[if_neg c21] at H
      have c21b0:decide (x5_1<a0_0)=false:=decide_eq_false c21
      clear c21
      simp only[Option.some.injEq,Prod.mk.injEq] at H
      obtain⟨rfl,rfl⟩:=H
      have hcz25_0:wr.cell? ⟨gb154,0,none⟩=some (.int .i64 a0_0):=(ak BK154.out 0).trans rfl
      have hcz25_1:wr.cell? ⟨gb154,1,none⟩=some (.slice A0_1 l0_1.length c0_1):=(ak BK154.out 1).trans rfl
      have hcz25_2:wr.cell? ⟨gb154,2,none⟩=some (.slice A0_2 l0_2.length c0_2):=(ak BK154.out 2).trans rfl
      have hfz25_0:=av BK154.out 0
      have hfz25_1:=av BK154.out 1
      have hfz25_2:=av BK154.out 2
      go_wp2
      go_ret2
      exact⟨_,by first|rfl|(simp <;> rfl)|(simp[*] <;> rfl),by(with_reducible repeat(first|apply Kd.aD|apply Kd.aC|apply Kd.aI));exact HO_4.out,by with_reducible repeat(first|exact HB.out|apply ah|apply aa|apply ai|refine ae ?_ GE154.out)⟩
 ·replace c3:=Bool.eq_false_iff.mpr c3
  subst c3
  have H1:(some (([]:List (S35)),false))=some (r1,r2):=by rw[if_neg (show ¬ (false=true) by decide)] at H;exact H
  clear H
  have H:=H1
  clear H1
  simp only[Option.some.injEq,Prod.mk.injEq] at H
  obtain⟨rfl,rfl⟩:=H
  go_enter Try.func20,Try.ntmps20
  go_wp2_with (first|((with_reducible refine aM (N:=1) rfl ?_);refine aJ ?hg (N:=1) ?hd (cs:=#[.int .i64 a0_0,.slice A0_1 l0_1.length c0_1,.slice A0_2 l0_2.length c0_2]) (t:=24) ?hr ?_;(case hd=>rfl);(case hg=>rfl);(case hr=>first|(go_simp;done)|(go_simp;rfl));intro gb154 hg w26 hbox hb;have BK154:=au (hbox);have GW154:=au ((by rw[hg];exact(az (by with_reducible repeat(first|exact HB.out|apply ah|apply aa|apply ai))):w.heap.size≤gb154));have GE154:=au ((by rw[hg];exact(az (by with_reducible repeat(first|exact HB.out|apply ah|apply aa|apply ai))):w.heap.size≤gb154));replace HB:=au (aA (by with_reducible repeat(first|exact HB.out|apply ah|apply aa|apply ai)) hb);clear hb hbox hg;have hcz27_0:w26.cell? ⟨gb154,0,none⟩=some (.int .i64 a0_0):=(ak BK154.out 0).trans rfl;have hcz27_1:w26.cell? ⟨gb154,1,none⟩=some (.slice A0_1 l0_1.length c0_1):=(ak BK154.out 1).trans rfl;have hcz27_2:w26.cell? ⟨gb154,2,none⟩=some (.slice A0_2 l0_2.length c0_2):=(ak BK154.out 2).trans rfl;have hfz27_0:=av BK154.out 0;have hfz27_1:=av BK154.out 1;have hfz27_2:=av BK154.out 2)|((with_reducible refine aW (f:=25) rfl ?_);refine bO (some 9) rfl rfl Try.func25 (by kernel_rfl) rfl #[.agg #[.int .i64 a0_0,.slice A0_1 l0_1.length c0_1,.slice A0_2 l0_2.length c0_2]] rfl (by(try simp only[amp_]);first|done|rfl|(simp only[ald_];rfl)) ?_;(with_reducible refine(spec_GoodFree.calls k a0_0 _ _ l0_1 _ _ l0_2 false _ ?side1 ?side2 ?side3 ?side4 A2.out).mono ?_);(case side1=>repeat(first|exact(Kd.aN HR0_1.out HB.out)|(with_reducible first|apply Kd.aY|apply Kd.aZ|apply Kd.bn)));(case side2=>exact HC0_1.out);(case side3=>repeat(first|exact(Kd.aN HR0_2.out HB.out)|(with_reducible first|apply Kd.aY|apply Kd.aZ|apply Kd.bn)));(case side4=>exact HC0_2.out);rintro e w28 ⟨rfl,hb⟩;refine⟨_,rfl,?_⟩;replace BK154:=au (ay (g:=gb154) (o:=.cells #[.int .i64 a0_0,.slice A0_1 l0_1.length c0_1,.slice A0_2 l0_2.length c0_2] 24 (0,0)) (by(with_reducible repeat(first|apply ag|apply aj|apply af));exact BK154.out) hb);replace HB:=au (aA (by with_reducible repeat(first|exact HB.out|apply ah|apply aa|apply ai|refine ae ?_ GE154.out)) hb);(try clear hb);(try clear hb2);(try clear hk);(try clear hi)))
  go_ret2
  exact⟨_,by first|rfl|(simp <;> rfl)|(simp[*] <;> rfl),by first|exact Kd.dn _ _ _ _ _|exact Kd.dU _ _ _ _ _|exact Kd.dQ _ _ _ _ _|exact Kd.dR _ _ _ _ _|exact Kd.dS _ _ _ _ _,by with_reducible repeat(first|exact HB.out|apply ah|apply aa|apply ai|refine ae ?_ GE154.out)⟩
open Go.RowKit Go.Proofs.YtelblhkbogljnaaW.PrintWords Go.Proofs.YtelblhkbogljnaaW.PrintLast Go.Proofs.YtelblhkbogljnaaW.PrintMore Go.Proofs.Ytelblhkbogljnaa.E
def mU (B:Int) (m:List EX):Int×List EX×List EX×Bool:=if cK B m (bD m)=true then (B,m,bD m,true) else (0,[],[],false)
def nZ (B:Int):Option (List EX)→Int×List EX×List EX×Bool
  | none=>(0,[],[],false)
  | some m=>mU B m
theorem fU : ∀ (r l : List EX) (put : Bool) (x : EX) (m : List EX), eU l put x r = some m → m.length ≤ l.length + r.length + (if put = true then 0 else 1)
  | [],l,put,x,m,h=>by
    rw[eU] at h
    have e:=Option.some.inj h
    subst e
    split <;> simp
  | o :: r, l, put, x, m, h => by
    rw[eU] at h
    rw[List.length_cons]
    by_cases c1:o.f0+o.f1<x.f0
    · rw[if_pos c1] at h
      have:=fU r _ _ _ _ h
      rw[List.length_append,List.length_singleton] at this
      omega
    · rw [if_neg c1] at h
      by_cases c2:o.f0 > x.f0+x.f1
      · rw[if_pos c2] at h
        by_cases c:put=true
        · rw[if_pos c] at h
          have:=fU r _ _ _ _ h
          rw[List.length_append,List.length_singleton] at this
          omega
        · rw[if_neg c] at h
          have:=fU r _ _ _ _ h
          rw[List.length_append,List.length_append,List.length_singleton,List.length_singleton,if_pos rfl] at this
          rw[if_neg c]
          omega
      · rw[if_neg c2] at h
        by_cases c3:o.f0+o.f1=x.f0
        · rw[if_pos c3] at h;have:=fU r _ _ _ _ h;omega
        · rw[if_neg c3] at h
          by_cases c4:o.f0=x.f0+x.f1
          · rw[if_pos c4] at h;have:=fU r _ _ _ _ h;omega
          · rw[if_neg c4] at h;cases h
section
variable {B:Int} {P S:List EX}
theorem qP (m:List EX) (hB:1≤B∧B≤400) (hm:m.length≤10000):Ev (fun k=>spec_GiveRoom.j2 k m B P S) (mU B m):=by
  have h1:Ev (fun k=>spec_l5Of.f k B m) (B,m,bD m):=by
    unfold spec_l5Of.f
    refine fF (aX (by simp;omega) (Ev.bind (jD m (by omega)) (bP rfl)))
  refine Ev.step (fun _=>spec_GiveRoom.j2.eq_2 ..) (Ev.bind h1 (Ev.bind (eD B m (bD m) (by omega) (by omega)) ?_))
  unfold mU
  cases hg:cK B m (bD m) with
  | true=>exact bR rfl (bP rfl)
  | false=>exact dB rfl (bP rfl)
theorem oF (hB : 1 ≤ B ∧ B ≤ 400) (hP : P.length ≤ 60) (hS : Sep B P) : ∀ (f i : Nat) (l : List EX) (put : Bool) (x : EX), i + f = P.length → l.length ≤ 2 * i → (0 ≤ x.f0 ∧ x.f0 ≤ 400 ∧ 0 ≤ x.f1 ∧ x.f1 ≤ 400 + 400 * (i : Int)) →
    Ev (fun k=>spec_GiveRoom.l0 k l put P (P.length:Int) (i:Int) B P S x.f0 x.f1) (nZ B (eU l put x (P.drop i))):=by
  intro f
  induction f with
  | zero=>
    intro i l put x hi hl hx
    refine Ev.step (fun _=>spec_GiveRoom.l0.eq_2 ..) (bE (by omega) ?_)
    rw[List.drop_of_length_le (by omega),eU]
    cases put with
    | true=>exact bR rfl (qP l hB (by omega))
    | false=>exact dB rfl (aX (by omega) (qP _ hB (by simp;omega)))
  | succ f ih=>
    intro i l put x hi hl hx
    have hil:i<P.length:=by omega
    rw[fE hil]
    have hor:(0≤P[i].f0∧1≤P[i].f1∧P[i].f0+P[i].f1≤B):=hS.a _ (List.getElem_mem hil)
    have er:=gQ hil
    rw[er]
    generalize P[i]=o at hor er
    have eo:(⟨o.f0,o.f1⟩:EX)=o:=rfl
    have ex:(⟨x.f0,x.f1⟩:EX)=x:=rfl
    have ei:wrap64 ((i:Int)+1) = ((i+1:Nat):Int):=by rw[w64 (by omega) (by omega)];omega
    have w1:wrap64 (o.f0+o.f1)=o.f0+o.f1:=w64 (by omega) (by omega)
    have w2:wrap64 (x.f0+x.f1)=x.f0+x.f1:=w64 (by omega) (by omega)
    have w3:wrap64 (o.f1+x.f1)=o.f1+x.f1:=w64 (by omega) (by omega)
    have w4:wrap64 (x.f1+o.f1)=x.f1+o.f1:=w64 (by omega) (by omega)
    refine Ev.step (fun _=>spec_GiveRoom.l0.eq_2 ..) (aX (by omega) (aX (by omega) (aX (by omega) ?_)))
    rw[er,ei,w1,w2,w3,w4,eU]
    by_cases c1:o.f0+o.f1<x.f0
    · rw[if_pos c1]
      refine aX c1 (aX (by omega) ?_)
      exact ih (i+1) (l++[o]) put x (by omega) (by rw[List.length_append,List.length_singleton];omega) (by omega)
    · rw [if_neg c1]
      refine bE c1 ?_
      by_cases c2:o.f0 > x.f0+x.f1
      · rw[if_pos c2]
        refine aX c2 ?_
        cases put with
        | true=>exact bR rfl (aX (by omega) (ih (i+1) (l++[o]) true x (by omega) (by rw[List.length_append,List.length_singleton];omega) (by omega)))
        | false=>
          refine dB rfl (aX (by omega) (fF (aX (by rw[List.length_append,List.length_singleton];omega) ?_)))
          exact ih (i+1) (l++[x]++[o]) true x (by omega) (by rw[List.length_append,List.length_append,List.length_singleton,List.length_singleton];omega) (by omega)
      · rw [if_neg c2]
        refine bE c2 ?_
        by_cases c3:o.f0+o.f1=x.f0
        · rw[if_pos c3]
          refine aX c3 ?_
          exact ih (i+1) l put ⟨o.f0,o.f1+x.f1⟩ (by omega) (by omega) ⟨hor.1,by show o.f0≤400;omega,by show 0≤o.f1+x.f1;omega,by show o.f1+x.f1≤_;omega⟩
        · rw[if_neg c3]
          refine bE c3 ?_
          by_cases c4:o.f0=x.f0+x.f1
          · rw[if_pos c4]
            refine aX c4 ?_
            exact ih (i+1) l put ⟨x.f0,x.f1+o.f1⟩ (by omega) (by omega) ⟨hx.1,hx.2.1,by show 0≤x.f1+o.f1;omega,by show x.f1+o.f1≤_;omega⟩
          · rw[if_neg c4]
            exact bE c4 (bP rfl)
structure Gave (B:Int) (P S:List EX) (x:EX) (Q:List EX):Prop where
  g:cK B P S=true
  ok:0≤x.f0∧1≤x.f1∧x.f0+x.f1≤B
  s:Sep B Q
  n:Q.length≤60
  c:∀ k,cov Q k = (inX x k || cov P k)
  d:∀ k,inX x k=true→cov P k=false
  l:Q.length≤P.length+1
theorem gV (hB:1≤B∧B≤400) (x:EX):spec_l5Extent.f x.f0 x.f1 B=some (okX B x):=by
  unfold spec_l5Extent.f
  by_cases h0:x.f0≥0
  · rw[if_pos h0,eP,Option.bind_some]
    by_cases h1:1≤x.f1∧x.f1≤B
    · rw[if_pos (decide_eq_true h1),w64 (x:=B - x.f1) (by omega) (by omega)]
      congr 1
      rw[Bool.eq_iff_iff,decide_eq_true_iff,eQ]
      omega
    · rw[if_neg (by simpa using h1)]
      congr 1
      cases hb:okX B x with
      | false=>rfl
      | true=>rw[eQ] at hb;omega
  · rw[if_neg h0]
    congr 1
    cases hb:okX B x with
    | false=>rfl
    | true=>rw[eQ] at hb;omega
theorem lT (B : Int) (P S : List EX) (x : EX) (hsB : -4611686018427387904 ≤ B ∧ B ≤ 4611686018427387904) (hsP : P.length ≤ 100000) : ∃ r, Ev (fun k => spec_GiveRoom.f k B P S x.f0 x.f1) r ∧ impl_GiveRoom.f B P S x.f0 x.f1 = some r ∧ (r = (0, [], [], false) ∨ ∃ Q, r = (B, Q, bD Q, true) ∧ Gave B P S x Q) := by
  have hg:=eD B P S hsB hsP
  unfold impl_GiveRoom.f impl_GoodFree.f
  have no:Ev (fun k=>spec_GiveRoom.j0 k true B P S x.f0 x.f1) (0,[],[],false):=Ev.step (fun _=>spec_GiveRoom.j0.eq_2 ..) (bR rfl (bP rfl))
  cases hb:cK B P S with
  | false=>
    rw[hb] at hg
    exact⟨_,Ev.bind hg (dB rfl no),rfl,.inl rfl⟩
  | true=>
    rw[hb] at hg
    obtain⟨hB,hP,hS,hSS⟩:=dx.1 hb
    rw[Option.bind_some,if_pos rfl,iR B x hB,Option.bind_some]
    cases hok:okX B x with
    | false=>exact⟨_,Ev.bind hg (bR rfl (bL (gV hB x) (by rw[hok];exact no))),rfl,.inl rfl⟩
    | true=>
      have hx:=eQ.1 hok
      have hl:=oF (S:=S) hB hP hS P.length 0 [] false x (by omega) (by simp) (by omega)
      rw[List.drop_zero] at hl
      have hs:Ev (fun k=>spec_GiveRoom.f k B P S x.f0 x.f1) (nZ B (eU [] false x P)):=by
        unfold spec_GiveRoom.f
        refine Ev.bind hg (bR rfl (bL (gV hB x) ?_))
        rw[hok]
        exact Ev.step (fun _=>spec_GiveRoom.j0.eq_2 ..) (bE (by decide) hl)
      rw[if_pos rfl]
      by_cases hov:∃ k,cov P k=true∧inX x k=true
      · rw[ma P [] x hS hx.2.1 hov] at hs
        obtain⟨k,h1,h2⟩:=hov
        rw[kr hB hP hS S hx true ⟨k,h2,h1⟩]
        exact⟨_,hs,rfl,.inl rfl⟩
      · have hdis:∀ k,¬ (cov P k=true∧inX x k=true):=fun k h=>hov ⟨k,h⟩
        obtain⟨Q,e,sQ,cQ⟩:=jV P [] x hS hx (fun y hy=>by cases hy) hdis
        have hcq:∀ k,cov Q k = (inX x k || cov P k):=fun k=>by rw[cQ,eO,Bool.false_or]
        have hd:∀ k,inX x k=true→cov P k=false:=fun k hk=>by
          cases hc:cov P k with
          | false=>rfl
          | true=>exact absurd ⟨hc,hk⟩ (hdis k)
        rw[jN hB hP hS S hx true (fun k hk=>by rw[hd k hk];rfl) sQ (fun k _ _=>by
          rw[hcq]
          unfold nQ
          cases inX x k <;> rfl)]
        rw[e] at hs
        have hl1:=fU _ _ _ _ _ e
        rw[List.length_nil,if_neg (by decide)] at hl1
        refine⟨_,hs,?_,?_⟩
        · show some (mf B Q)=some (mU B Q)
          unfold mf mU
          rw[fQ hB sQ]
          simp only[decide_eq_true_eq]
        · show mU B Q=_∨∃ Q',mU B Q=_∧_
          unfold mU
          rw[fQ hB sQ]
          by_cases hn:Q.length≤60
          · rw[if_pos (decide_eq_true hn)]
            exact .inr ⟨Q,rfl,⟨hb,hx,sQ,hn,hcq,hd,by omega⟩⟩
          · rw[if_neg (by simpa using hn)]
            exact .inl rfl
def jP:List EX→Int→Int
  | [],m=>m
  | x::r,m=>jP r (if m<x.f1 then x.f1 else m)
theorem oz:∀ (l:List EX) (m:Int),m≤jP l m
  | [],m=>Int.le_refl _
  | x::r,m=>by
    have:=oz r (if m<x.f1 then x.f1 else m)
    rw[jP]
    split at this <;> (try rw[if_pos (by assumption)]) <;> (try rw[if_neg (by assumption)]) <;> omega
theorem mY:∀ (l:List EX) (m:Int) (x:EX),x∈l→x.f1≤jP l m
  | y :: r, m, x, h => by
    rw[jP]
    rcases List.mem_cons.1 h with e|e
    · subst e
      have:=oz r (if m<x.f1 then x.f1 else m)
      split at this <;> (try rw[if_pos (by assumption)]) <;> (try rw[if_neg (by assumption)]) <;> omega
    · exact mY r _ x e
theorem lZ (hB:B≤400):∀ (l:List EX),Sep B l→0≤eG l∧eG l≤400 * (l.length:Int)
  | [],_=>by simp[eG]
  | x::r,h=>by
    have h1:=lZ hB r h.tail
    have h2:=h.head
    rw[fT,List.length_cons]
    omega
theorem oC (hB:B≤400) (hP:P.length≤60) (hS:Sep B P):∀ (f i:Nat) (a m:Int),i+f=P.length→0≤a→a≤400 * (i:Int)→Ev (fun k=>impl_RoomIn.l0 k a m P (P.length:Int) (i:Int)) (a+eG (P.drop i),jP (P.drop i) m,true):=by
  intro f
  induction f with
  | zero=>
    intro i a m hi h0 h1
    refine Ev.step (fun _=>impl_RoomIn.l0.eq_2 ..) (bE (by omega) (bP ?_))
    rw[List.drop_of_length_le (by omega)]
    show(a,m,true) = (a+0,m,true)
    rw[Int.add_zero]
  | succ f ih=>
    intro i a m hi h0 h1
    have hil:i<P.length:=by omega
    have hx:=hS.a _ (List.getElem_mem hil)
    have er:=gQ hil
    refine Ev.step (fun _=>impl_RoomIn.l0.eq_2 ..) (aX (by omega) (aX (by omega) (aX (by omega) ?_)))
    rw[fE hil,er,fT,jP]
    generalize P[i]=x at hx
    have ei:wrap64 ((i:Int)+1) = ((i+1:Nat):Int):=by rw[w64 (by omega) (by omega)];omega
    rw[ei,w64 (x:=a+x.f1) (by omega) (by omega)]
    have hm:mx m x.f1=if m<x.f1 then x.f1 else m:=rfl
    rw[hm]
    have:=ih (i+1) (a+x.f1) (if m<x.f1 then x.f1 else m) (by omega) (by omega) (by omega)
    rw[show a + (x.f1+eG (P.drop (i+1)))=a+x.f1+eG (P.drop (i+1)) by omega]
    exact this
theorem jB (hg:cK B P S=true):Ev (fun k=>impl_RoomIn.f k B P S) (eG P,jP P 0,true):=by
  obtain⟨hB,hP,hS,_⟩:=dx.1 hg
  have:=oC hB.2 hP hS P.length 0 0 0 (by omega) (by omega) (by omega)
  rw[List.drop_zero,Int.zero_add] at this
  unfold impl_RoomIn.f impl_GoodFree.f
  rw[hg]
  exact fF (bR rfl this)
end
theorem lI {B:Int}:∀ {l:List EX},Sep B l→∀ {x y:EX},x∈l→y∈l→x=y∨x.f0+x.f1<y.f0∨y.f0+y.f1<x.f0
  | [],_,x,_,h,_=>by cases h
  | a::r,hs,x,y,hx,hy=>by
    have hr:=(List.pairwise_cons.1 hs.p).1
    rcases List.mem_cons.1 hx with e1|e1 <;> rcases List.mem_cons.1 hy with e2|e2
    · exact .inl (e1.trans e2.symm)
    · subst e1;exact .inr (.inl (hr y e2))
    · subst e2;exact .inr (.inr (hr x e1))
    · exact lI hs.tail e1 e2
theorem lS {B:Int} {l:List EX} (hs:Sep B l) {x:EX} (hx:1≤x.f1) (hc:∀ k,inX x k=true→cov l k=true):∃ y∈l,y.f0≤x.f0∧x.f0+x.f1≤y.f0+y.f1:=by
  obtain⟨y,hy,h1,h2⟩:=gW.1 (hc x.f0 (dw.2 (by omega)))
  refine⟨y,hy,h1,Int.not_lt.1 (fun hlt=>?_)⟩
  obtain⟨z,hz,h3,h4⟩:=gW.1 (hc (y.f0+y.f1) (dw.2 (by omega)))
  rcases lI hs hy hz with e|e|e
  · subst e;omega
  · omega
  · omega
theorem pX {B:Int} {P S Q:List EX} {x:EX} (h:Gave B P S x Q):eG Q=eG P+x.f1∧x.f1≤jP Q 0∧cK B Q (bD Q)=true:=by
  obtain⟨hB,hP,hS,_⟩:=dx.1 h.g
  have hb:((B.toNat:Nat):Int)=B:=by omega
  refine⟨?_,?_,?_⟩
  · have h1:=jk (l:=Q) (n:=B.toNat) (by rw[hb];exact h.s)
    have h2:=jk (l:=P) (n:=B.toNat) (by rw[hb];exact hS)
    have h3:cnt B.toNat (cov Q)=cnt B.toNat (inX x)+cnt B.toNat (cov P):=by
      rw[← nz B.toNat (fun k _ _ hh=>by have h_:=h.d k hh.1;rw[hh.2] at h_;cases h_)]
      exact jI _ (fun k _ _=>h.c k)
    have h4:=nI x.f0 x.f1 h.ok.1 (by have:=h.ok.2.1;omega) B.toNat
    rw[hb,if_neg (by have:=h.ok;omega)] at h4
    have h5:(cnt B.toNat (inX x):Int)=x.f1:=by
      show(cnt B.toNat (fun i=>decide (x.f0≤i∧i<x.f0+x.f1)):Int)=x.f1
      rw[h4]
      split
      · have:=h.ok;omega
      · rfl
    omega
  · obtain⟨y,hy,h1,h2⟩:=lS h.s h.ok.2.1 (fun k hk=>by rw[h.c,hk,Bool.true_or])
    have:=mY Q 0 y hy
    omega
  · rw[fQ hB h.s,decide_eq_true h.n]
def gK (B:Int) (out:List EX) (at_:Int):List EX→List EX
  | []=>if at_<B then out++[⟨at_,B - at_⟩] else out
  | o::r=>gK B (if o.f0 > at_ then out++[⟨at_,o.f0 - at_⟩] else out) (o.f0+o.f1) r
theorem nk {B : Int} : ∀ (r out : List EX) (a : Int), Sep B out → (∀ y ∈ out, y.f0 + y.f1 < a) → 0 ≤ a → a ≤ B → Sep B r → (∀ o ∈ r, a ≤ o.f0) → Sep B (gK B out a r) ∧ ∀ k, cov (gK B out a r) k = (cov out k || (decide (a ≤ k ∧ k < B) && !cov r k))
  | [],out,a,ho,hl,h0,h1,_,_=>by
    rw[gK]
    by_cases c:a<B
    · rw[if_pos c]
      refine⟨ho.append ⟨fun y hy=>by obtain rfl:=List.mem_singleton.1 hy;exact⟨h0,by show 1≤B - a;omega,by show a + (B - a)≤B;omega⟩,List.pairwise_singleton ..⟩ (fun y hy z hz=>by obtain rfl:=List.mem_singleton.1 hz;exact hl y hy),fun k=>?_⟩
      rw[dC,gF,eO]
      congr 1
      show decide (a≤k∧k<a + (B - a)) = (decide (a≤k∧k<B)&&true)
      rw[Bool.and_true,decide_eq_decide]
      omega
    · rw[if_neg c]
      refine⟨ho,fun k=>?_⟩
      rw[decide_eq_false (show ¬ (a≤k∧k<B) by omega),Bool.false_and,Bool.or_false]
  | o :: r, out, a, ho, hl, h0, h1, hs, hr => by
    have hx:=hs.head
    have ha:=hr o (List.mem_cons_self ..)
    have hfar:=(List.pairwise_cons.1 hs.p).1
    have key:∀ out',Sep B out'→(∀ y∈out',y.f0+y.f1<o.f0+o.f1)→(∀ k,cov out' k = (cov out k || decide (a≤k∧k<o.f0)))→Sep B (gK B out' (o.f0+o.f1) r)∧∀ k,cov (gK B out' (o.f0+o.f1) r) k = (cov out k || (decide (a≤k∧k<B) && !cov (o::r) k)):=fun out' h2 h3 h4=>by
      obtain⟨s1,s2⟩:=nk r out' (o.f0+o.f1) h2 h3 (by omega) hx.2.2 hs.tail (fun y hy=>by have:=hfar y hy;omega)
      refine⟨s1,fun k=>?_⟩
      rw[s2,h4,Bool.or_assoc]
      congr 1
      show(decide (a≤k∧k<o.f0) || (decide (o.f0+o.f1≤k∧k<B) && !cov r k)) = (decide (a≤k∧k<B) && !(inX o k || cov r k))
      rw[Bool.eq_iff_iff,Bool.or_eq_true,Bool.and_eq_true,Bool.and_eq_true,decide_eq_true_iff,decide_eq_true_iff,decide_eq_true_iff,Bool.not_eq_true',Bool.not_eq_true',Bool.or_eq_false_iff]
      have hin:inX o k=false↔¬ (o.f0≤k∧k<o.f0+o.f1):=decide_eq_false_iff_not
      rw[hin]
      have hrk:cov r k=true→o.f0+o.f1<k:=fun h=>hs.far h
      constructor
      · rintro(h|⟨h,h'⟩)
        · refine⟨by omega,by omega,?_⟩
          cases hc:cov r k with
          | false=>rfl
          | true=>have:=hrk hc;omega
        · exact⟨by omega,by omega,h'⟩
      · rintro⟨h,h',h''⟩
        by_cases c:k<o.f0
        · exact .inl (by omega)
        · exact .inr ⟨by omega,h''⟩
    rw[gK]
    by_cases c:o.f0 > a
    · rw [if_pos c]
      refine key _ (ho.append ⟨fun y hy=>by obtain rfl:=List.mem_singleton.1 hy;exact⟨h0,by show 1≤o.f0 - a;omega,by show a + (o.f0 - a)≤B;omega⟩,List.pairwise_singleton ..⟩ (fun y hy z hz=>by obtain rfl:=List.mem_singleton.1 hz;exact hl y hy)) (fun y hy=>?_) (fun k=>?_)
      · rcases List.mem_append.1 hy with h|h
        · have:=hl y h;omega
        · obtain rfl:=List.mem_singleton.1 h
          show a + (o.f0 - a)<_;omega
      · rw[dC,gF]
        congr 1
        show decide (a≤k∧k<a + (o.f0 - a))=_
        rw[decide_eq_decide]
        omega
    · rw[if_neg c]
      refine key _ ho (fun y hy=>by have:=hl y hy;omega) (fun k=>?_)
      rw[decide_eq_false (show ¬ (a≤k∧k<o.f0) by omega),Bool.or_false]
section
variable {B:Int} {P S:List EX}
theorem oP (hB:1≤B∧B≤400) (hP:P.length≤60) (hS:Sep B P):∀ (f i:Nat) (out:List EX) (a:Int),i+f=P.length→out.length≤i→0≤a→a≤400→Ev (fun k=>spec_UsedExtents.l0 k out a P (P.length:Int) (i:Int) B P S) (gK B out a (P.drop i),true):=by
  intro f
  induction f with
  | zero=>
    intro i out a hi ho h0 h1
    refine Ev.step (fun _=>spec_UsedExtents.l0.eq_2 ..) (bE (by omega) ?_)
    rw[List.drop_of_length_le (by omega),gK]
    by_cases c:a<B
    · refine aX c (aX (by omega) (bP ?_))
      rw[if_pos c,w64 (by omega) (by omega)]
    · exact bE c (bP (by rw[if_neg c]))
  | succ f ih=>
    intro i out a hi ho h0 h1
    have hil:i<P.length:=by omega
    have hx:=hS.a _ (List.getElem_mem hil)
    have er:=gQ hil
    refine Ev.step (fun _=>spec_UsedExtents.l0.eq_2 ..) (aX (by omega) (aX (by omega) (aX (by omega) ?_)))
    rw[fE hil,er,gK]
    generalize P[i]=x at hx
    have ei:wrap64 ((i:Int)+1) = ((i+1:Nat):Int):=by rw[w64 (by omega) (by omega)];omega
    rw[ei,w64 (x:=x.f0 - a) (by omega) (by omega),w64 (x:=x.f0+x.f1) (by omega) (by omega)]
    by_cases c:x.f0 > a
    · rw[if_pos c]
      exact aX c (aX (by omega) (ih (i+1) _ _ (by omega) (by rw[List.length_append,List.length_singleton];omega) (by omega) (by omega)))
    · rw[if_neg c]
      exact bE c (ih (i+1) _ _ (by omega) (by omega) (by omega) (by omega))
theorem lU (B:Int) (P S:List EX) (hsB : -4611686018427387904≤B∧B≤4611686018427387904) (hsP:P.length≤100000):Ev (fun k=>spec_UsedExtents.f k B P S) (eZ B P S)∧((eZ B P S).2=true→cK B P S=true∧Sep B (eZ B P S).1∧eG P+eG (eZ B P S).1=B)∧((eZ B P S).2=false→(eZ B P S).1=[]):=by
  have hg:=eD B P S hsB hsP
  unfold spec_UsedExtents.f eZ
  cases hb:cK B P S with
  | false=>
    rw[hb] at hg
    exact⟨Ev.bind hg (dB rfl (bP rfl)),fun h=>(by cases h),fun _=>rfl⟩
  | true=>
    rw[hb] at hg
    obtain⟨hB,hP,hS,hSS⟩:=dx.1 hb
    have hl:=oP (S:=S) hB hP hS P.length 0 [] 0 (by omega) (by simp) (by omega) (by omega)
    rw[List.drop_zero] at hl
    obtain⟨s1,s2⟩:=nk P [] 0 (Sep.nil B) (fun y hy=>by cases hy) (by omega) (by omega) hS (fun o ho=>(hS.a o ho).1)
    have hbn:((B.toNat:Nat):Int)=B:=by omega
    have e:bv (fun i=>!cov P i) B.toNat=gK B [] 0 P:=nY (by rw[hbn];exact s1) (fun k k0 k1=>by
      rw[s2,eO,Bool.false_or,decide_eq_true (by omega),Bool.true_and])
    rw[if_pos rfl,e]
    refine⟨Ev.bind hg (bR rfl hl),fun _=>⟨rfl,s1,?_⟩,fun h=>(by cases h)⟩
    have h1:=jk (l:=P) (n:=B.toNat) (by rw[hbn];exact hS)
    have h2:=jk (l:=gK B [] 0 P) (n:=B.toNat) (by rw[hbn];exact s1)
    have h3:=nX (f:=cov P) B.toNat
    have h4:cnt B.toNat (cov (gK B [] 0 P))=cnt B.toNat (fun i=>!cov P i):=jI _ (fun k k0 k1=>by
      rw[s2,eO,Bool.false_or,decide_eq_true (by omega),Bool.true_and])
    show eG P+eG (gK B [] 0 P)=B
    omega
end
end Go.Proofs.Ytelblhkbogljnaa.PFre
