import Derived.Test.YtelblhkbogljnaaFFit3
namespace Go.Proofs.Ytelblhkbogljnaa.PFre
open Go.RowKit Go.Proofs.YtelblhkbogljnaaW.PrintWords Go.Proofs.YtelblhkbogljnaaW.PrintLast Go.Proofs.YtelblhkbogljnaaW.PrintMore
attribute [local go_sem] bJ bI bR bQ bA bz bM bL
set_option linter.unusedVariables false
set_option linter.unusedSimpArgs false
mutual
def spec_GiveRoom.j0:Nat→Bool→Int→List (S35)→List (S35)→Int→Int→Option (Int×(List (S35))×(List (S35))×Bool)
 | 0,_,_,_,_,_,_=>none
 | k+1,x20,x177000,x177001,x177002,x178000,x178001=>if x20=true then (some (0,([]:List (S35)),([]:List (S35)),false)) else (spec_GiveRoom.l0 k ([]:List (S35)) false x177001 (x177001.length:Int) 0 x177000 x177001 x177002 x178000 x178001)
def spec_GiveRoom.l0:Nat→List (S35)→Bool→List (S35)→Int→Int→Int→List (S35)→List (S35)→Int→Int→Option (Int×(List (S35))×(List (S35))×Bool)
 | 0,_,_,_,_,_,_,_,_,_,_=>none
 | k+1,x6,x7,x23,x24,x25,x177000,x177001,x177002,x178000,x178001=>if x25<x24 then (if 0≤x25 then (if x25 < (x23.length:Int) then (if (wrap64 (((ax x23 x25).f0) + ((ax x23 x25).f1)))<x178000 then (if x6.length<8796093022208 then (spec_GiveRoom.l0 k (x6++[(⟨(ax x23 x25).f0,(ax x23 x25).f1⟩:S35)]) x7 x23 x24 (wrap64 (x25+1)) x177000 x177001 x177002 x178000 x178001) else (none)) else (if ((ax x23 x25).f0) > (wrap64 (x178000+x178001)) then (if x7=true then (if x6.length<8796093022208 then (spec_GiveRoom.l0 k (x6++[(⟨(ax x23 x25).f0,(ax x23 x25).f1⟩:S35)]) x7 x23 x24 (wrap64 (x25+1)) x177000 x177001 x177002 x178000 x178001) else (none)) else (if x6.length<8796093022208 then ((some (x6++[(⟨x178000,x178001⟩:S35)]:List (S35))).bind fun y189=>(if y189.length<8796093022208 then (spec_GiveRoom.l0 k (y189++[(⟨(ax x23 x25).f0,(ax x23 x25).f1⟩:S35)]) true x23 x24 (wrap64 (x25+1)) x177000 x177001 x177002 x178000 x178001) else (none))) else (none))) else (if (wrap64 (((ax x23 x25).f0) + ((ax x23 x25).f1)))=x178000 then (spec_GiveRoom.l0 k x6 x7 x23 x24 (wrap64 (x25+1)) x177000 x177001 x177002 ((ax x23 x25).f0) (wrap64 (((ax x23 x25).f1)+x178001))) else (if ((ax x23 x25).f0) = (wrap64 (x178000+x178001)) then (spec_GiveRoom.l0 k x6 x7 x23 x24 (wrap64 (x25+1)) x177000 x177001 x177002 x178000 (wrap64 (x178001 + ((ax x23 x25).f1)))) else (some (0,([]:List (S35)),([]:List (S35)),false)))))) else (none)) else (none)) else (if x7=true then (spec_GiveRoom.j2 k x6 x177000 x177001 x177002) else (if x6.length<8796093022208 then (spec_GiveRoom.j2 k (x6++[(⟨x178000,x178001⟩:S35)]) x177000 x177001 x177002) else (none)))
def spec_GiveRoom.j2:Nat→List (S35)→Int→List (S35)→List (S35)→Option (Int×(List (S35))×(List (S35))×Bool)
 | 0,_,_,_,_=>none
 | k+1,x6,x177000,x177001,x177002=>(spec_l5Of.f k x177000 x6).bind fun bt198=>((spec_GoodFree.f k bt198.1 bt198.2.1 bt198.2.2).bind fun t206=>(if t206=true then (some (bt198.1,bt198.2.1,bt198.2.2,true)) else (some (0,([]:List (S35)),([]:List (S35)),false))))
end
def spec_GiveRoom.f (k:Nat) (a0_0:Int) (l0_1:List (S35)) (l0_2:List (S35)) (a1_0:Int) (a1_1:Int):Option (Int×(List (S35))×(List (S35))×Bool):=(spec_GoodFree.f k a0_0 l0_1 l0_2).bind fun t179=>(if t179=true then ((spec_l5Extent.f a1_0 a1_1 a0_0).bind fun t180=>(spec_GiveRoom.j0 k (!t180) a0_0 l0_1 l0_2 a1_0 a1_1)) else (spec_GiveRoom.j0 k true a0_0 l0_1 l0_2 a1_0 a1_1))
set_option maxHeartbeats 8000000 in
set_option maxRecDepth 100000 in
theorem spec_GiveRoom.calls (k : Nat) (a0_0 : Int) (A0_1 : Option Addr) (c0_1 : Nat) (l0_1 : List (S35)) (A0_2 : Option Addr) (c0_2 : Nat) (l0_2 : List (S35)) (a1_0 : Int) (a1_1 : Int) (r1 : Int) (r2 : List (S35)) (r3 : List (S35)) (r4 : Bool) (w : World) (hr0_1 : Kd.C k35 w A0_1 l0_1.length l0_1) (hc0_1 : l0_1.length ≤ c0_1) (hr0_2 : Kd.C k35 w A0_2 l0_2.length l0_2) (hc0_2 : l0_2.length ≤ c0_2) (h : spec_GiveRoom.f k a0_0 l0_1 l0_2 a1_0 a1_1 = some (r1, r2, r3, r4)) :
  Calls Try.prog 14 #[.agg #[.int .i64 a0_0,.slice A0_1 l0_1.length c0_1,.slice A0_2 l0_2.length c0_2],.agg #[.int .i64 a1_0,.int .i64 a1_1]] w fun e w'=>∃ v1_ v2_:Value,e = .returned (.tuple #[.agg #[.int .i64 r1,v1_,v2_],.bool r4])∧Kd.R k35 35 w' w.heap.size (fun k_=>some k_≠(v2_:Value).ownBlock) v1_ r2∧Kd.R k35 35 w' w.heap.size (fun k_=>some k_≠(v1_:Value).ownBlock) v2_ r3∧Below w.heap.size w w':=by
 have hu24:=Try.underlying24
 have hu35:=Try.underlying35
 have HR0_1:=au hr0_1
 have HC0_1:=au hc0_1
 clear hr0_1 hc0_1
 have HR0_2:=au hr0_2
 have HC0_2:=au hc0_2
 clear hr0_2 hc0_2
 have HB:=au (Below.refl w.heap.size w)
 have H:((spec_GoodFree.f k a0_0 l0_1 l0_2).bind fun t179=>(if t179=true then ((spec_l5Extent.f a1_0 a1_1 a0_0).bind fun t180=>(spec_GiveRoom.j0 k (!t180) a0_0 l0_1 l0_2 a1_0 a1_1)) else (spec_GiveRoom.j0 k true a0_0 l0_1 l0_2 a1_0 a1_1)))=some (r1,r2,r3,r4):=h
 clear h
 have HC3:=au H
 clear H
 go_enter Try.func14,Try.ntmps14
 go_upto_region 1 with(first|((with_reducible refine aM (N:=2) rfl ?_);refine aI ?hg (N:=2) ?hd (cs:=#[.int .i64 a0_0,.slice A0_1 l0_1.length c0_1,.slice A0_2 l0_2.length c0_2]) (t:=24) ?hr ?_;(case hd=>rfl);(case hg=>rfl);(case hr=>first|(go_simp;done)|(go_simp;rfl));intro gb176 hg w4 hbox hb;have BK176:=au (hbox);have GW176:=au ((by rw[hg];exact(az (by with_reducible repeat(first|exact HB.out|apply ah|apply aa|apply ai))):w.heap.size≤gb176));have GE176:=au ((by rw[hg];exact(az (by with_reducible repeat(first|exact HB.out|apply ah|apply aa|apply ai))):w.heap.size≤gb176));replace HB:=au (aA (by with_reducible repeat(first|exact HB.out|apply ah|apply aa|apply ai)) hb);clear hb hbox hg)|((with_reducible refine aM (N:=3) rfl ?_);refine aI ?hg (N:=3) ?hd (cs:=#[.int .i64 a1_0,.int .i64 a1_1]) (t:=35) ?hr ?_;(case hd=>rfl);(case hg=>rfl);(case hr=>first|(go_simp;done)|(go_simp;rfl));intro gb177 hg w5 hbox hb;have BK177:=au (hbox);have GW177:=au ((by rw[hg];exact(az (by with_reducible repeat(first|exact HB.out|apply ah|apply aa|apply ai|refine ae ?_ GE176.out))):w.heap.size≤gb177));have GE177:=au ((by rw[hg];exact(az (by with_reducible repeat(first|exact HB.out|apply ah|apply aa|apply ai|refine ae ?_ GE176.out))):w.heap.size≤gb177));replace HB:=au (aA (by with_reducible repeat(first|exact HB.out|apply ah|apply aa|apply ai|refine ae ?_ GE176.out)) hb);have NB176_177:=au ((by rw[hg];exact Nat.ne_of_lt (aG (g:=gb176) (o:=.cells #[.int .i64 a0_0,.slice A0_1 l0_1.length c0_1,.slice A0_2 l0_2.length c0_2] 24 (0,0)) (by(with_reducible repeat(first|apply ag|apply aj|apply af));exact BK176.out)):gb176≠gb177));have NB177_176:=au ((by rw[hg];exact Nat.ne_of_gt (aG (g:=gb176) (o:=.cells #[.int .i64 a0_0,.slice A0_1 l0_1.length c0_1,.slice A0_2 l0_2.length c0_2] 24 (0,0)) (by(with_reducible repeat(first|apply ag|apply aj|apply af));exact BK176.out)):gb177≠gb176));replace BK176:=au (ay (g:=gb176) (o:=.cells #[.int .i64 a0_0,.slice A0_1 l0_1.length c0_1,.slice A0_2 l0_2.length c0_2] 24 (0,0)) (by(with_reducible repeat(first|apply ag|apply aj|apply af));exact BK176.out) hb);clear hb hbox hg)|((with_reducible refine aM (N:=4) rfl ?_);refine aI ?hg (N:=4) ?hd (cs:=#[.int .i64 0,.slice none 0 0,.slice none 0 0]) (t:=24) ?hr ?_;(case hd=>rfl);(case hg=>rfl);(case hr=>first|(go_simp;done)|(go_simp;rfl));intro gb178 hg w6 hbox hb;have BK178:=au (hbox);have GW178:=au ((by rw[hg];exact(az (by with_reducible repeat(first|exact HB.out|apply ah|apply aa|apply ai|refine ae ?_ GE176.out|refine ae ?_ GE177.out))):w.heap.size≤gb178));have GE178:=au ((by rw[hg];exact(az (by with_reducible repeat(first|exact HB.out|apply ah|apply aa|apply ai|refine ae ?_ GE176.out|refine ae ?_ GE177.out))):w.heap.size≤gb178));replace HB:=au (aA (by with_reducible repeat(first|exact HB.out|apply ah|apply aa|apply ai|refine ae ?_ GE176.out|refine ae ?_ GE177.out)) hb);have NB176_178:=au ((by rw[hg];exact Nat.ne_of_lt (aG (g:=gb176) (o:=.cells #[.int .i64 a0_0,.slice A0_1 l0_1.length c0_1,.slice A0_2 l0_2.length c0_2] 24 (0,0)) (by(with_reducible repeat(first|apply ag|apply aj|apply af));exact BK176.out)):gb176≠gb178));have NB178_176:=au ((by rw[hg];exact Nat.ne_of_gt (aG (g:=gb176) (o:=.cells #[.int .i64 a0_0,.slice A0_1 l0_1.length c0_1,.slice A0_2 l0_2.length c0_2] 24 (0,0)) (by(with_reducible repeat(first|apply ag|apply aj|apply af));exact BK176.out)):gb178≠gb176));replace BK176:=au (ay (g:=gb176) (o:=.cells #[.int .i64 a0_0,.slice A0_1 l0_1.length c0_1,.slice A0_2 l0_2.length c0_2] 24 (0,0)) (by(with_reducible repeat(first|apply ag|apply aj|apply af));exact BK176.out) hb);have NB177_178:=au ((by rw[hg];exact Nat.ne_of_lt (aG (g:=gb177) (o:=.cells #[.int .i64 a1_0,.int .i64 a1_1] 35 (0,0)) (by(with_reducible repeat(first|apply ag|apply aj|apply af));exact BK177.out)):gb177≠gb178));have NB178_177:=au ((by rw[hg];exact Nat.ne_of_gt (aG (g:=gb177) (o:=.cells #[.int .i64 a1_0,.int .i64 a1_1] 35 (0,0)) (by(with_reducible repeat(first|apply ag|apply aj|apply af));exact BK177.out)):gb178≠gb177));replace BK177:=au (ay (g:=gb177) (o:=.cells #[.int .i64 a1_0,.int .i64 a1_1] 35 (0,0)) (by(with_reducible repeat(first|apply ag|apply aj|apply af));exact BK177.out) hb);clear hb hbox hg))
 (try simp only[apu_])
 go_cut [20] (fun v20 wc=>∃ (kq:Nat) (x20_2:Bool),v20 = .bool x20_2∧Aside0 (spec_GiveRoom.j0 kq x20_2 a0_0 l0_1 l0_2 a1_0 a1_1=some (r1,r2,r3,r4))∧Aside0 (kq≤k)∧Aside0 (wc.heap[gb176]? = some (.cells #[.int .i64 a0_0,(.slice A0_1 l0_1.length c0_1),(.slice A0_2 l0_2.length c0_2)] 24 (0,0)))∧Aside0 (wc.heap[gb177]? = some (.cells #[.int .i64 a1_0,.int .i64 a1_1] 35 (0,0)))∧Aside0 (wc.heap[gb178]? = some (.cells #[.int .i64 0,(.slice none 0 0),(.slice none 0 0)] 24 (0,0)))∧Aside0 (Below w.heap.size w wc))
 case first=>
  have H:=HC3.out
  clear HC3
  replace H:=Option.bind_eq_some_iff.mp H
  obtain⟨t179,A70,H⟩:=H
  replace H:(if t179=true then ((spec_l5Extent.f a1_0 a1_1 a0_0).bind fun t180=>(spec_GiveRoom.j0 k (!t180) a0_0 l0_1 l0_2 a1_0 a1_1)) else (spec_GiveRoom.j0 k true a0_0 l0_1 l0_2 a1_0 a1_1))=some (r1,r2,r3,r4):=H
  have A7:=au A70
  clear A70
  by_cases c8:t179=true
  ·subst c8
   have H1:((spec_l5Extent.f a1_0 a1_1 a0_0).bind fun t180=>(spec_GiveRoom.j0 k (!t180) a0_0 l0_1 l0_2 a1_0 a1_1))=some (r1,r2,r3,r4):=by rw[if_pos rfl] at H;exact H
   clear H
   have H:=H1
   clear H1
   replace H:=Option.bind_eq_some_iff.mp H
   obtain⟨t180,A90,H⟩:=H
   replace H:(spec_GiveRoom.j0 k (!t180) a0_0 l0_1 l0_2 a1_0 a1_1)=some (r1,r2,r3,r4):=H
   have A9:=au A90
   clear A90
   have H':=au H
   clear H
   have hnb10:=NB176_177.out
   have hnc10:=NB177_176.out
   have hnb11:=NB176_178.out
   have hnc11:=NB178_176.out
   have hcz12_0:w6.cell? ⟨gb176,0,none⟩=some (.int .i64 a0_0):=(ak BK176.out 0).trans rfl
   have hcz12_1:w6.cell? ⟨gb176,1,none⟩=some (.slice A0_1 l0_1.length c0_1):=(ak BK176.out 1).trans rfl
   have hcz12_2:w6.cell? ⟨gb176,2,none⟩=some (.slice A0_2 l0_2.length c0_2):=(ak BK176.out 2).trans rfl
   have hfz12_0:=av BK176.out 0
   have hfz12_1:=av BK176.out 1
   have hfz12_2:=av BK176.out 2
   go_wp2_with (first|((with_reducible refine aT (f:=25) rfl ?_);refine bK (some 12) rfl rfl Try.func25 (by kernel_rfl) rfl #[.agg #[.int .i64 a0_0,.slice A0_1 l0_1.length c0_1,.slice A0_2 l0_2.length c0_2]] rfl (by(try simp only[amp_]);first|done|rfl|(simp only[ald_];rfl)) ?_;(with_reducible refine(spec_GoodFree.calls k a0_0 _ _ l0_1 _ _ l0_2 true _ ?side1 ?side2 ?side3 ?side4 A7.out).mono ?_);(case side1=>repeat(first|exact(Kd.aN HR0_1.out HB.out)|(with_reducible first|apply Kd.aV|apply Kd.aW|apply Kd.bf)));(case side2=>exact HC0_1.out);(case side3=>repeat(first|exact(Kd.aN HR0_2.out HB.out)|(with_reducible first|apply Kd.aV|apply Kd.aW|apply Kd.bf)));(case side4=>exact HC0_2.out);rintro e w13 ⟨rfl,hb⟩;refine⟨_,rfl,?_⟩;replace BK176:=au (ay (g:=gb176) (o:=.cells #[.int .i64 a0_0,.slice A0_1 l0_1.length c0_1,.slice A0_2 l0_2.length c0_2] 24 (0,0)) (by(with_reducible repeat(first|apply ag|apply aj|apply af));exact BK176.out) hb);replace BK177:=au (ay (g:=gb177) (o:=.cells #[.int .i64 a1_0,.int .i64 a1_1] 35 (0,0)) (by(with_reducible repeat(first|apply ag|apply aj|apply af));exact BK177.out) hb);replace BK178:=au (ay (g:=gb178) (o:=.cells #[.int .i64 0,.slice none 0 0,.slice none 0 0] 24 (0,0)) (by(with_reducible repeat(first|apply ag|apply aj|apply af));exact BK178.out) hb);replace HB:=au (aA (by with_reducible repeat(first|exact HB.out|apply ah|apply aa|apply ai|refine ae ?_ GE176.out|refine ae ?_ GE177.out|refine ae ?_ GE178.out)) hb);(try clear hb);(try clear hb2);(try clear hk);(try clear hi);have hnb14:=NB177_178.out;have hnc14:=NB178_177.out;have hcz15_0:w13.cell? ⟨gb177,0,none⟩=some (.int .i64 a1_0):=(ak BK177.out 0).trans rfl;have hcz15_1:w13.cell? ⟨gb177,1,none⟩=some (.int .i64 a1_1):=(ak BK177.out 1).trans rfl;have hfz15_0:=av BK177.out 0;have hfz15_1:=av BK177.out 1;have hcz16_0:w13.cell? ⟨gb176,0,none⟩=some (.int .i64 a0_0):=(ak BK176.out 0).trans rfl;have hcz16_1:w13.cell? ⟨gb176,1,none⟩=some (.slice A0_1 l0_1.length c0_1):=(ak BK176.out 1).trans rfl;have hcz16_2:w13.cell? ⟨gb176,2,none⟩=some (.slice A0_2 l0_2.length c0_2):=(ak BK176.out 2).trans rfl;have hfz16_0:=av BK176.out 0;have hfz16_1:=av BK176.out 1;have hfz16_2:=av BK176.out 2)|(go_at_call 50;(with_reducible refine(spec_l5Extent.calls a1_0 a1_1 a0_0 t180 _ A9.out).mono ?_);rintro e w17 ⟨rfl,hb⟩;replace BK176:=au (ay (g:=gb176) (o:=.cells #[.int .i64 a0_0,.slice A0_1 l0_1.length c0_1,.slice A0_2 l0_2.length c0_2] 24 (0,0)) (by(with_reducible repeat(first|apply ag|apply aj|apply af));exact BK176.out) hb);replace BK177:=au (ay (g:=gb177) (o:=.cells #[.int .i64 a1_0,.int .i64 a1_1] 35 (0,0)) (by(with_reducible repeat(first|apply ag|apply aj|apply af));exact BK177.out) hb);replace BK178:=au (ay (g:=gb178) (o:=.cells #[.int .i64 0,.slice none 0 0,.slice none 0 0] 24 (0,0)) (by(with_reducible repeat(first|apply ag|apply aj|apply af));exact BK178.out) hb);replace HB:=au (aA (by with_reducible repeat(first|exact HB.out|apply ah|apply aa|apply ai|refine ae ?_ GE176.out|refine ae ?_ GE177.out|refine ae ?_ GE178.out)) hb);(try clear hb);(try clear hb2);(try clear hk);(try clear hi)))
   go_meet
   case rel=>exact⟨_,(!t180),(by first|rfl|(simp;done)|(simp[*];done)),H',⟨by first|omega|exact Nat.le_refl _⟩,⟨by(with_reducible repeat(first|apply ag|apply aj|apply af));exact BK176.out⟩,⟨by(with_reducible repeat(first|apply ag|apply aj|apply af));exact BK177.out⟩,⟨by(with_reducible repeat(first|apply ag|apply aj|apply af));exact BK178.out⟩,⟨by with_reducible repeat(first|exact HB.out|apply ah|apply aa|apply ai|refine ae ?_ GE176.out|refine ae ?_ GE177.out|refine ae ?_ GE178.out)⟩⟩
  ·replace c8:=Bool.eq_false_iff.mpr c8
   subst c8
   have H1:(spec_GiveRoom.j0 k true a0_0 l0_1 l0_2 a1_0 a1_1)=some (r1,r2,r3,r4):=by rw[if_neg (show ¬ (false=true) by decide)] at H;exact H
   clear H
   have H:=H1
   clear H1
   have H':=au H
   clear H
   have hnb18:=NB176_177.out
   have hnc18:=NB177_176.out
   have hnb19:=NB176_178.out
   have hnc19:=NB178_176.out
   have hcz20_0:w6.cell? ⟨gb176,0,none⟩=some (.int .i64 a0_0):=(ak BK176.out 0).trans rfl
   have hcz20_1:w6.cell? ⟨gb176,1,none⟩=some (.slice A0_1 l0_1.length c0_1):=(ak BK176.out 1).trans rfl
   have hcz20_2:w6.cell? ⟨gb176,2,none⟩=some (.slice A0_2 l0_2.length c0_2):=(ak BK176.out 2).trans rfl
   have hfz20_0:=av BK176.out 0
   have hfz20_1:=av BK176.out 1
   have hfz20_2:=av BK176.out 2
   go_wp2_with (first|((with_reducible refine aT (f:=25) rfl ?_);refine bK (some 12) rfl rfl Try.func25 (by kernel_rfl) rfl #[.agg #[.int .i64 a0_0,.slice A0_1 l0_1.length c0_1,.slice A0_2 l0_2.length c0_2]] rfl (by(try simp only[amp_]);first|done|rfl|(simp only[ald_];rfl)) ?_;(with_reducible refine(spec_GoodFree.calls k a0_0 _ _ l0_1 _ _ l0_2 false _ ?side1 ?side2 ?side3 ?side4 A7.out).mono ?_);(case side1=>repeat(first|exact(Kd.aN HR0_1.out HB.out)|(with_reducible first|apply Kd.aV|apply Kd.aW|apply Kd.bf)));(case side2=>exact HC0_1.out);(case side3=>repeat(first|exact(Kd.aN HR0_2.out HB.out)|(with_reducible first|apply Kd.aV|apply Kd.aW|apply Kd.bf)));(case side4=>exact HC0_2.out);rintro e w21 ⟨rfl,hb⟩;refine⟨_,rfl,?_⟩;replace BK176:=au (ay (g:=gb176) (o:=.cells #[.int .i64 a0_0,.slice A0_1 l0_1.length c0_1,.slice A0_2 l0_2.length c0_2] 24 (0,0)) (by(with_reducible repeat(first|apply ag|apply aj|apply af));exact BK176.out) hb);replace BK177:=au (ay (g:=gb177) (o:=.cells #[.int .i64 a1_0,.int .i64 a1_1] 35 (0,0)) (by(with_reducible repeat(first|apply ag|apply aj|apply af));exact BK177.out) hb);replace BK178:=au (ay (g:=gb178) (o:=.cells #[.int .i64 0,.slice none 0 0,.slice none 0 0] 24 (0,0)) (by(with_reducible repeat(first|apply ag|apply aj|apply af));exact BK178.out) hb);replace HB:=au (aA (by with_reducible repeat(first|exact HB.out|apply ah|apply aa|apply ai|refine ae ?_ GE176.out|refine ae ?_ GE177.out|refine ae ?_ GE178.out)) hb);(try clear hb);(try clear hb2);(try clear hk);(try clear hi)))
   go_meet
   case rel=>exact⟨_,(true),(by first|rfl|(simp;done)|(simp[*];done)),H',⟨by first|omega|exact Nat.le_refl _⟩,⟨by(with_reducible repeat(first|apply ag|apply aj|apply af));exact BK176.out⟩,⟨by(with_reducible repeat(first|apply ag|apply aj|apply af));exact BK177.out⟩,⟨by(with_reducible repeat(first|apply ag|apply aj|apply af));exact BK178.out⟩,⟨by with_reducible repeat(first|exact HB.out|apply ah|apply aa|apply ai|refine ae ?_ GE176.out|refine ae ?_ GE177.out|refine ae ?_ GE178.out)⟩⟩
 case rest =>
  clear HC3
  try clear c1
  try clear c2
  try clear p2
  try clear c8
  try clear c10
  try clear c11
  try clear c14
  try clear c18
  try clear c19
  try clear hcz12_0
  try clear hcz12_1
  try clear hcz12_2
  try clear hcz15_0
  try clear hcz15_1
  try clear hcz16_0
  try clear hcz16_1
  try clear hcz16_2
  try clear hcz20_0
  try clear hcz20_1
  try clear hcz20_2
  try clear hfz12_0
  try clear hfz12_1
  try clear hfz12_2
  try clear hfz15_0
  try clear hfz15_1
  try clear hfz16_0
  try clear hfz16_1
  try clear hfz16_2
  try clear hfz20_0
  try clear hfz20_1
  try clear hfz20_2
  obtain⟨kq,x20_2,rfl,HA,HJ2,BK176,BK177,BK178,HB⟩:=hcut
  cases kq with
  | zero=>exact absurd HA.out (by simp[spec_GiveRoom.j0])
  | succ kj2 =>
   have H:=HA.out
   clear HA
   simp only[spec_GiveRoom.j0] at H
   by_cases c22:x20_2=true
   ·subst c22
    have H1:(some (0,([]:List (S35)),([]:List (S35)),false))=some (r1,r2,r3,r4):=by rw[if_pos rfl] at H;exact H
    clear H
    have H:=H1
    clear H1
    simp only[Option.some.injEq,Prod.mk.injEq] at H
    obtain⟨rfl,rfl,rfl,rfl⟩:=H
    have hnb23:=NB178_176.out
    have hnc23:=NB176_178.out
    have hnb24:=NB178_177.out
    have hnc24:=NB177_178.out
    have hcz25_0:wc.cell? ⟨gb178,0,none⟩=some (.int .i64 0):=(ak BK178.out 0).trans rfl
    have hcz25_1:wc.cell? ⟨gb178,1,none⟩=some (.slice none 0 0):=(ak BK178.out 1).trans rfl
    have hcz25_2:wc.cell? ⟨gb178,2,none⟩=some (.slice none 0 0):=(ak BK178.out 2).trans rfl
    have hfz25_0:=av BK178.out 0
    have hfz25_1:=av BK178.out 1
    have hfz25_2:=av BK178.out 2
    go_wp2
    refine bodyPost_ret (cK rfl _ _ gb178 24 #[.int .i64 0,.slice none 0 0,.slice none 0 0] (0,0) _ rfl (by(with_reducible repeat(first|apply ag|apply aj|apply af));refine aK (cs:=#[.int .i64 0,.slice none 0 0,.slice none 0 0]) ?_ 2 _ rfl;(with_reducible repeat(first|apply ag|apply aj|apply af));refine aK (cs:=#[.int .i64 0,.slice none 0 0,.slice none 0 0]) ?_ 1 _ rfl;(with_reducible repeat(first|apply ag|apply aj|apply af));refine aK (cs:=#[.int .i64 0,.slice none 0 0,.slice none 0 0]) ?_ 0 _ rfl;(with_reducible repeat(first|apply ag|apply aj|apply af));exact BK178.out) Try.underlying24 rfl (by kernel_rfl)) rfl ?_
    exact⟨_,_,by first|rfl|(simp <;> rfl)|(simp[*] <;> rfl),by first|exact Kd.df _ _ _ _ _|exact Kd.dL _ _ _ _ _|exact Kd.dM _ _ _ _ _|exact Kd.dK _ _ _ _ _|exact Kd.dJ _ _ _ _ _,by first|exact Kd.df _ _ _ _ _|exact Kd.dL _ _ _ _ _|exact Kd.dM _ _ _ _ _|exact Kd.dK _ _ _ _ _|exact Kd.dJ _ _ _ _ _,by with_reducible repeat(first|exact HB.out|apply ah|apply aa|apply ai|refine ae ?_ GE176.out|refine ae ?_ GE177.out|refine ae ?_ GE178.out)⟩
   ·replace c22 := Bool.eq_false_iff.mpr c22
    subst c22
    have H1:(spec_GiveRoom.l0 kj2 ([]:List (S35)) false l0_1 (l0_1.length:Int) 0 a0_0 l0_1 l0_2 a1_0 a1_1)=some (r1,r2,r3,r4):=by rw[if_neg (show ¬ (false=true) by decide)] at H;exact H
    clear H
    have H:=H1
    clear H1
    have H':=au H
    clear H
    have hnb26:=NB176_177.out
    have hnc26:=NB177_176.out
    have hnb27:=NB176_178.out
    have hnc27:=NB178_176.out
    have hcz28_0:wc.cell? ⟨gb176,0,none⟩=some (.int .i64 a0_0):=(ak BK176.out 0).trans rfl
    have hcz28_1:wc.cell? ⟨gb176,1,none⟩=some (.slice A0_1 l0_1.length c0_1):=(ak BK176.out 1).trans rfl
    have hcz28_2:wc.cell? ⟨gb176,2,none⟩=some (.slice A0_2 l0_2.length c0_2):=(ak BK176.out 2).trans rfl
    have hfz28_0:=av BK176.out 0
    have hfz28_1:=av BK176.out 1
    have hfz28_2:=av BK176.out 2
    go_wp2
    go_loopg [6,7,25] kj2 (fun kq v6 v7 v25 w'=>∃ (x6_2:List (S35)) (x7_2:Bool) (x25_2:Int) (x178000_2:Int) (x178001_2:Int) (x179000_2:Int),v7 = .bool x7_2∧v25 = .int .i64 x25_2∧Aside0 (spec_GiveRoom.l0 kq x6_2 x7_2 l0_1 (l0_1.length:Int) x25_2 a0_0 l0_1 l0_2 x178000_2 x178001_2=some (r1,r2,r3,r4))∧Aside0 (kq≤kj2)∧Aside0 (Kd.R k35 35 w' w.heap.size (fun k_=>k_≠gb177) v6 x6_2)∧Aside0 (w'.heap[gb176]? = some (.cells #[.int .i64 a0_0,(.slice A0_1 l0_1.length c0_1),(.slice A0_2 l0_2.length c0_2)] 24 (0,0)))∧Aside0 (w'.heap[gb177]? = some (.cells #[.int .i64 x178000_2,.int .i64 x178001_2] 35 (0,0)))∧Aside0 (w'.heap[gb178]? = some (.cells #[.int .i64 x179000_2,(.slice none 0 0),(.slice none 0 0)] 24 (0,0)))∧Aside0 (Below w.heap.size w w'))
    case atStart=>exact⟨(([]:List (S35))),(false),(0),(a1_0),(a1_1),(0),(by first|rfl|(simp;done)|(simp[*];done)),(by first|rfl|(simp;done)|(simp[*];done)),H',⟨Nat.le_refl _⟩,⟨by first|exact Kd.df _ _ _ _ _|exact Kd.dL _ _ _ _ _|exact Kd.dM _ _ _ _ _|exact Kd.dK _ _ _ _ _|exact Kd.dJ _ _ _ _ _⟩,⟨by(with_reducible repeat(first|apply ag|apply aj|apply af));exact BK176.out⟩,⟨by(with_reducible repeat(first|apply ag|apply aj|apply af));exact BK177.out⟩,⟨by(with_reducible repeat(first|apply ag|apply aj|apply af));exact BK178.out⟩,⟨by with_reducible repeat(first|exact HB.out|apply ah|apply aa|apply ai|refine ae ?_ GE176.out|refine ae ?_ GE177.out|refine ae ?_ GE178.out)⟩⟩
    case round =>
     clear H'
     try clear c1
     try clear c2
     try clear p2
     try clear c8
     try clear c10
     try clear c11
     try clear c14
     try clear c18
     try clear c19
     try clear c22
     try clear c23
     try clear c24
     try clear c25
     try clear c26
     try clear c27
     try clear hcz12_0
     try clear hcz12_1
     try clear hcz12_2
     try clear hcz15_0
     try clear hcz15_1
     try clear hcz16_0
     try clear hcz16_1
     try clear hcz16_2
     try clear hcz20_0
     try clear hcz20_1
     try clear hcz20_2
     try clear hcz25_0
     try clear hcz25_1
     try clear hcz25_2
     try clear hcz28_0
     try clear hcz28_1
     try clear hcz28_2
     try clear hfz12_0
     try clear hfz12_1
     try clear hfz12_2
     try clear hfz15_0
     try clear hfz15_1
     try clear hfz16_0
     try clear hfz16_1
     try clear hfz16_2
     try clear hfz20_0
     try clear hfz20_1
     try clear hfz20_2
     try clear hfz25_0
     try clear hfz25_1
     try clear hfz25_2
     try clear hfz28_0
     try clear hfz28_1
     try clear hfz28_2
     try clear p2
     obtain⟨x6_2,x7_2,x25_2,x178000_2,x178001_2,x179000_2,rfl,rfl,HA,HK2,HO_6,BK176,BK177,BK178,HB⟩:=hrel
     cases gk with
     | zero=>exact absurd HA.out (by simp[spec_GiveRoom.l0])
     | succ k2 =>
      have H:=HA.out
      clear HA
      simp only[spec_GiveRoom.l0] at H
      by_cases c29:x25_2 < (l0_1.length:Int)
      ·rw [if_pos c29] at H
       have c29b0:decide (x25_2 < (l0_1.length:Int))=true:=decide_eq_true c29
       clear c29
       by_cases c30:0≤x25_2
       ·rw [if_pos c30] at H
        have c30b0:decide (0≤x25_2)=true:=decide_eq_true c30
        clear c30
        by_cases c31:x25_2 < (l0_1.length:Int)
        ·rw [if_pos c31] at H
         have c31b0:decide (x25_2 < (l0_1.length:Int))=true:=decide_eq_true c31
         clear c31
         by_cases c32:(wrap64 (((ax l0_1 x25_2).f0) + ((ax l0_1 x25_2).f1)))<x178000_2
         ·rw[if_pos c32] at H
          have c32b0:decide ((wrap64 (((ax l0_1 x25_2).f0) + ((ax l0_1 x25_2).f1)))<x178000_2)=true:=decide_eq_true c32
          clear c32
          by_cases c33:x6_2.length<8796093022208
          ·rw[if_pos c33] at H
           have LMc33:=au c33
           clear c33
           obtain⟨y183,hy183⟩:∃ y_:List (S35),y_ = (x6_2++[(⟨(ax l0_1 x25_2).f0,(ax l0_1 x25_2).f1⟩:S35)]):=⟨_,rfl⟩
           replace H:(spec_GiveRoom.l0 k2 y183 x7_2 l0_1 (l0_1.length:Int) (wrap64 (x25_2+1)) a0_0 l0_1 l0_2 x178000_2 x178001_2)=some (r1,r2,r3,r4):=by first|(rw[hy183];with_reducible exact H)|(have H2_:=(Option.bind_some _ _).symm.trans H;rw[hy183];with_reducible exact H2_)|(have H2_:=(Option.bind_some _ _).symm.trans H;with_reducible exact H2_)|with_reducible exact H|(rw[hy183];exact H)|exact H
           have Ny183:=au hy183
           clear hy183
           have H':=au H
           clear H
           have p181:0≤(x25_2:Int):=of_decide_eq_true (by assumption)
           have q181:x25_2 < (l0_1.length:Int):=of_decide_eq_true (by assumption)
           obtain⟨ad181,e181,hx181_0,hx181_1⟩:=bE HR0_1.out x25_2 p181 q181
           cases e181
           replace hx181_0:=(HB.out.cell (World.block_lt_of_cell? w _ hx181_0)).trans hx181_0
           replace hx181_1:=(HB.out.cell (World.block_lt_of_cell? w _ hx181_1)).trans hx181_1
           replace p181:=eq_true p181
           replace q181:=eq_true q181
           go_wp2_with (first|((with_reducible refine aM (N:=9) rfl ?_);refine aI ?hg (N:=9) ?hd (cs:=#[.int .i64 0,.int .i64 0]) (t:=35) ?hr ?_;(case hd=>rfl);(case hg=>rfl);(case hr=>first|(go_simp;done)|(go_simp;rfl));intro gb182 hg w34 hbox hb;replace HO_6:=au (Kd.bu (Kd.gD (by(with_reducible repeat(first|apply Kd.aD|apply Kd.aC|apply Kd.aJ));exact HO_6.out) gb182 (Nat.le_of_eq hg.symm)) hb);have BK182:=au (hbox);have GW182:=au ((by rw[hg];exact(az (by with_reducible repeat(first|exact HB.out|apply ah|apply aa|apply ai|refine ae ?_ GE176.out|refine ae ?_ GE177.out|refine ae ?_ GE178.out))):w.heap.size≤gb182));have GE182:=au ((by rw[hg];exact(az (by with_reducible repeat(first|exact HB.out|apply ah|apply aa|apply ai|refine ae ?_ GE176.out|refine ae ?_ GE177.out|refine ae ?_ GE178.out))):w.heap.size≤gb182));replace HB:=au (aA (by with_reducible repeat(first|exact HB.out|apply ah|apply aa|apply ai|refine ae ?_ GE176.out|refine ae ?_ GE177.out|refine ae ?_ GE178.out)) hb);have NB176_182:=au ((by rw[hg];exact Nat.ne_of_lt (aG (g:=gb176) (o:=.cells #[.int .i64 a0_0,.slice (some ad181) l0_1.length c0_1,.slice A0_2 l0_2.length c0_2] 24 (0,0)) (by(with_reducible repeat(first|apply ag|apply aj|apply af));exact BK176.out)):gb176≠gb182));have NB182_176:=au ((by rw[hg];exact Nat.ne_of_gt (aG (g:=gb176) (o:=.cells #[.int .i64 a0_0,.slice (some ad181) l0_1.length c0_1,.slice A0_2 l0_2.length c0_2] 24 (0,0)) (by(with_reducible repeat(first|apply ag|apply aj|apply af));exact BK176.out)):gb182≠gb176));replace BK176:=au (ay (g:=gb176) (o:=.cells #[.int .i64 a0_0,.slice (some ad181) l0_1.length c0_1,.slice A0_2 l0_2.length c0_2] 24 (0,0)) (by(with_reducible repeat(first|apply ag|apply aj|apply af));exact BK176.out) hb);have NB177_182:=au ((by rw[hg];exact Nat.ne_of_lt (aG (g:=gb177) (o:=.cells #[.int .i64 x178000_2,.int .i64 x178001_2] 35 (0,0)) (by(with_reducible repeat(first|apply ag|apply aj|apply af));exact BK177.out)):gb177≠gb182));have NB182_177:=au ((by rw[hg];exact Nat.ne_of_gt (aG (g:=gb177) (o:=.cells #[.int .i64 x178000_2,.int .i64 x178001_2] 35 (0,0)) (by(with_reducible repeat(first|apply ag|apply aj|apply af));exact BK177.out)):gb182≠gb177));replace BK177:=au (ay (g:=gb177) (o:=.cells #[.int .i64 x178000_2,.int .i64 x178001_2] 35 (0,0)) (by(with_reducible repeat(first|apply ag|apply aj|apply af));exact BK177.out) hb);have NB178_182:=au ((by rw[hg];exact Nat.ne_of_lt (aG (g:=gb178) (o:=.cells #[.int .i64 x179000_2,.slice none 0 0,.slice none 0 0] 24 (0,0)) (by(with_reducible repeat(first|apply ag|apply aj|apply af));exact BK178.out)):gb178≠gb182));have NB182_178:=au ((by rw[hg];exact Nat.ne_of_gt (aG (g:=gb178) (o:=.cells #[.int .i64 x179000_2,.slice none 0 0,.slice none 0 0] 24 (0,0)) (by(with_reducible repeat(first|apply ag|apply aj|apply af));exact BK178.out)):gb182≠gb178));replace BK178:=au (ay (g:=gb178) (o:=.cells #[.int .i64 x179000_2,.slice none 0 0,.slice none 0 0] 24 (0,0)) (by(with_reducible repeat(first|apply ag|apply aj|apply af));exact BK178.out) hb);clear hb hbox hg;have hnb35:=NB182_176.out;have hnc35:=NB176_182.out;have hnb36:=NB182_177.out;have hnc36:=NB177_182.out;have hnb37:=NB182_178.out;have hnc37:=NB178_182.out;have hcz38_0:w34.cell? ⟨gb182,0,none⟩=some (.int .i64 0):=(ak BK182.out 0).trans rfl;have hcz38_1:w34.cell? ⟨gb182,1,none⟩=some (.int .i64 0):=(ak BK182.out 1).trans rfl;have hfz38_0:=av BK182.out 0;have hfz38_1:=av BK182.out 1;have hnb39:=NB177_176.out;have hnc39:=NB176_177.out;have hnb40:=NB177_178.out;have hnc40:=NB178_177.out;have hcz41_0:w34.cell? ⟨gb177,0,none⟩=some (.int .i64 x178000_2):=(ak BK177.out 0).trans rfl;have hcz41_1:w34.cell? ⟨gb177,1,none⟩=some (.int .i64 x178001_2):=(ak BK177.out 1).trans rfl;have hfz41_0:=av BK177.out 0;have hfz41_1:=av BK177.out 1)|((with_reducible refine bB (b:=.append) (xs:=#[.tmp 39,.tmp 41]) rfl ?_);at_builtin;refine Kd.ek k35 (w0:=w) w.heap.size rfl (.tmp 39) (.tmp 41) 22 35 (.agg #[(.int .i64 0),(.int .i64 0)]) 16 rfl Try.underlying22 cz rfl (by decide) (by omega) u6 x6_2 (⟨(ax l0_1 x25_2).f0,(ax l0_1 x25_2).f1⟩:S35) [.int .i64 ((ax l0_1 x25_2).f0),.int .i64 ((ax l0_1 x25_2).f1)] (fun k_=>k_≠gb177∧k_≠gb182) (fun _=>False) rfl (by first|(go_simp;done)|(go_simp;rfl)) ?aP (fun _ hk=>hk.elim) ?aF ?aO ?aB ?aS ?aL ?_;(case aP=>exact eY _ _ _ (⟨(ax l0_1 x25_2).f0,(ax l0_1 x25_2).f1⟩:S35));(case aB=>exact(by with_reducible repeat(first|exact HB.out|apply ah|apply aa|apply ai|refine ae ?_ GE176.out|refine ae ?_ GE177.out|refine ae ?_ GE178.out|refine ae ?_ GE182.out)));(case aF=>exact(fun k_ hk=>⟨Kd.cB (g:=gb177) (o:=.cells #[.int .i64 x178000_2,.int .i64 x178001_2] 35 (0,0)) (by(with_reducible repeat(first|apply ag|apply aj|apply af));refine aH ?_ NB177_182.out _;(with_reducible repeat(first|apply ag|apply aj|apply af));refine aH ?_ NB177_182.out _;(with_reducible repeat(first|apply ag|apply aj|apply af));exact BK177.out) k_ hk,Kd.cB (g:=gb182) (o:=.cells #[.int .i64 ((ax l0_1 x25_2).f0),.int .i64 ((ax l0_1 x25_2).f1)] 35 (0,0)) (by(with_reducible repeat(first|apply ag|apply aj|apply af));refine aK (cs:=#[.int .i64 ((ax l0_1 x25_2).f0),.int .i64 0]) ?_ 1 _ rfl;(with_reducible repeat(first|apply ag|apply aj|apply af));refine aK (cs:=#[.int .i64 0,.int .i64 0]) ?_ 0 _ rfl;(with_reducible repeat(first|apply ag|apply aj|apply af));exact BK182.out) k_ hk⟩));(case aO=>exact(by(with_reducible repeat(first|apply Kd.aD|apply Kd.aC|apply Kd.aJ));exact Kd.aY (Kd.aU (p:=⟨gb182,1,none⟩) (Kd.aU (p:=⟨gb182,0,none⟩) (Kd.aY HO_6.out (fun k_ hk=>(⟨hk,hk.2⟩:_∧k_≠gb182))) (fun _ hk=>hk.2) (.int .i64 ((ax l0_1 x25_2).f0))) (fun _ hk=>hk.2) (.int .i64 ((ax l0_1 x25_2).f1))) (fun _ hk=>⟨hk.1.1,hk.1.2⟩)));(case aS=>exact(az (by with_reducible repeat(first|exact HB.out|apply ah|apply aa|apply ai|refine ae ?_ GE176.out|refine ae ?_ GE177.out|refine ae ?_ GE178.out|refine ae ?_ GE182.out))));(case aL=>have:=LMc33.out;omega);intro v184 w42 ho hb hg hat;rw[← Ny183.out] at ho;replace BK176:=au (bn (g:=gb176) (o:=.cells #[.int .i64 a0_0,.slice (some ad181) l0_1.length c0_1,.slice A0_2 l0_2.length c0_2] 24 (0,0)) (by(with_reducible repeat(first|apply ag|apply aj|apply af));refine aH ?_ NB176_182.out _;(with_reducible repeat(first|apply ag|apply aj|apply af));refine aH ?_ NB176_182.out _;(with_reducible repeat(first|apply ag|apply aj|apply af));exact BK176.out) hg (Kd.gZ HO_6.out BK176.out (by decide)));replace BK177:=au (bn (g:=gb177) (o:=.cells #[.int .i64 x178000_2,.int .i64 x178001_2] 35 (0,0)) (by(with_reducible repeat(first|apply ag|apply aj|apply af));refine aH ?_ NB177_182.out _;(with_reducible repeat(first|apply ag|apply aj|apply af));refine aH ?_ NB177_182.out _;(with_reducible repeat(first|apply ag|apply aj|apply af));exact BK177.out) hg (Kd.dA HO_6.out (fun _ hk=>hk.1)));replace BK178:=au (bn (g:=gb178) (o:=.cells #[.int .i64 x179000_2,.slice none 0 0,.slice none 0 0] 24 (0,0)) (by(with_reducible repeat(first|apply ag|apply aj|apply af));refine aH ?_ NB178_182.out _;(with_reducible repeat(first|apply ag|apply aj|apply af));refine aH ?_ NB178_182.out _;(with_reducible repeat(first|apply ag|apply aj|apply af));exact BK178.out) hg (Kd.gZ HO_6.out BK178.out (by decide)));replace BK182:=au (bn (g:=gb182) (o:=.cells #[.int .i64 ((ax l0_1 x25_2).f0),.int .i64 ((ax l0_1 x25_2).f1)] 35 (0,0)) (by(with_reducible repeat(first|apply ag|apply aj|apply af));refine aK (cs:=#[.int .i64 ((ax l0_1 x25_2).f0),.int .i64 0]) ?_ 1 _ rfl;(with_reducible repeat(first|apply ag|apply aj|apply af));refine aK (cs:=#[.int .i64 0,.int .i64 0]) ?_ 0 _ rfl;(with_reducible repeat(first|apply ag|apply aj|apply af));exact BK182.out) hg (Kd.dA HO_6.out (fun _ hk=>hk.2)));replace HB:=au (hb);have HO185:=au (ho);clear HO_6;clear ho hb hg hat))
           go_roundg k2
           case measure=>have:=HJ2.out;have:=HK2.out;omega
           case rel=>exact⟨(y183),(x7_2),(wrap64 (x25_2+1)),(x178000_2),(x178001_2),(x179000_2),(by first|rfl|(simp;done)|(simp[*];done)),(by first|rfl|(simp;done)|(simp[*];done)),H',⟨by have:=HJ2.out;have:=HK2.out;omega⟩,⟨by(with_reducible repeat(first|apply Kd.aD|apply Kd.aC|apply Kd.aJ));exact Kd.aY HO185.out (fun _ hk=>hk.1)⟩,⟨by(with_reducible repeat(first|apply ag|apply aj|apply af));exact BK176.out⟩,⟨by(with_reducible repeat(first|apply ag|apply aj|apply af));exact BK177.out⟩,⟨by(with_reducible repeat(first|apply ag|apply aj|apply af));exact BK178.out⟩,⟨by with_reducible repeat(first|exact HB.out|apply ah|apply aa|apply ai|refine ae ?_ GE176.out|refine ae ?_ GE177.out|refine ae ?_ GE178.out|refine ae ?_ GE182.out)⟩⟩
          ·rw[if_neg c33] at H
           exact absurd H (by simp)
         ·rw [if_neg c32] at H
          have c32b0:decide ((wrap64 (((ax l0_1 x25_2).f0) + ((ax l0_1 x25_2).f1)))<x178000_2)=false:=decide_eq_false c32
          clear c32
          by_cases c43:((ax l0_1 x25_2).f0) > (wrap64 (x178000_2+x178001_2))
          ·rw [if_pos c43] at H
           have c43b0:decide ((wrap64 (x178000_2+x178001_2)) < ((ax l0_1 x25_2).f0))=true:=decide_eq_true c43
           clear c43
           by_cases c44:x7_2=true
           ·subst c44
            have H1:(if x6_2.length<8796093022208 then (spec_GiveRoom.l0 k2 (x6_2++[(⟨(ax l0_1 x25_2).f0,(ax l0_1 x25_2).f1⟩:S35)]) true l0_1 (l0_1.length:Int) (wrap64 (x25_2+1)) a0_0 l0_1 l0_2 x178000_2 x178001_2) else (none))=some (r1,r2,r3,r4):=by rw[if_pos rfl] at H;exact H
            clear H
            have H:=H1
            clear H1
            by_cases c45:x6_2.length<8796093022208
            ·rw[if_pos c45] at H
             have LMc45:=au c45
             clear c45
             obtain⟨y186,hy186⟩:∃ y_:List (S35),y_ = (x6_2++[(⟨(ax l0_1 x25_2).f0,(ax l0_1 x25_2).f1⟩:S35)]):=⟨_,rfl⟩
             replace H:(spec_GiveRoom.l0 k2 y186 true l0_1 (l0_1.length:Int) (wrap64 (x25_2+1)) a0_0 l0_1 l0_2 x178000_2 x178001_2)=some (r1,r2,r3,r4):=by first|(rw[hy186];with_reducible exact H)|(have H2_:=(Option.bind_some _ _).symm.trans H;rw[hy186];with_reducible exact H2_)|(have H2_:=(Option.bind_some _ _).symm.trans H;with_reducible exact H2_)|with_reducible exact H|(rw[hy186];exact H)|exact H
             have Ny186:=au hy186
             clear hy186
             have H':=au H
             clear H
             have p181:0≤(x25_2:Int):=of_decide_eq_true (by assumption)
             have q181:x25_2 < (l0_1.length:Int):=of_decide_eq_true (by assumption)
             obtain⟨ad181,e181,hx181_0,hx181_1⟩:=bE HR0_1.out x25_2 p181 q181
             cases e181
             replace hx181_0:=(HB.out.cell (World.block_lt_of_cell? w _ hx181_0)).trans hx181_0
             replace hx181_1:=(HB.out.cell (World.block_lt_of_cell? w _ hx181_1)).trans hx181_1
             replace p181:=eq_true p181
             replace q181:=eq_true q181
             go_wp2_with (first|((with_reducible refine aM (N:=9) rfl ?_);refine aI ?hg (N:=9) ?hd (cs:=#[.int .i64 0,.int .i64 0]) (t:=35) ?hr ?_;(case hd=>rfl);(case hg=>rfl);(case hr=>first|(go_simp;done)|(go_simp;rfl));intro gb182 hg w46 hbox hb;replace HO_6:=au (Kd.bu (Kd.gD (by(with_reducible repeat(first|apply Kd.aD|apply Kd.aC|apply Kd.aJ));exact HO_6.out) gb182 (Nat.le_of_eq hg.symm)) hb);have BK182:=au (hbox);have GW182:=au ((by rw[hg];exact(az (by with_reducible repeat(first|exact HB.out|apply ah|apply aa|apply ai|refine ae ?_ GE176.out|refine ae ?_ GE177.out|refine ae ?_ GE178.out))):w.heap.size≤gb182));have GE182:=au ((by rw[hg];exact(az (by with_reducible repeat(first|exact HB.out|apply ah|apply aa|apply ai|refine ae ?_ GE176.out|refine ae ?_ GE177.out|refine ae ?_ GE178.out))):w.heap.size≤gb182));replace HB:=au (aA (by with_reducible repeat(first|exact HB.out|apply ah|apply aa|apply ai|refine ae ?_ GE176.out|refine ae ?_ GE177.out|refine ae ?_ GE178.out)) hb);have NB176_182:=au ((by rw[hg];exact Nat.ne_of_lt (aG (g:=gb176) (o:=.cells #[.int .i64 a0_0,.slice (some ad181) l0_1.length c0_1,.slice A0_2 l0_2.length c0_2] 24 (0,0)) (by(with_reducible repeat(first|apply ag|apply aj|apply af));exact BK176.out)):gb176≠gb182));have NB182_176:=au ((by rw[hg];exact Nat.ne_of_gt (aG (g:=gb176) (o:=.cells #[.int .i64 a0_0,.slice (some ad181) l0_1.length c0_1,.slice A0_2 l0_2.length c0_2] 24 (0,0)) (by(with_reducible repeat(first|apply ag|apply aj|apply af));exact BK176.out)):gb182≠gb176));replace BK176:=au (ay (g:=gb176) (o:=.cells #[.int .i64 a0_0,.slice (some ad181) l0_1.length c0_1,.slice A0_2 l0_2.length c0_2] 24 (0,0)) (by(with_reducible repeat(first|apply ag|apply aj|apply af));exact BK176.out) hb);have NB177_182:=au ((by rw[hg];exact Nat.ne_of_lt (aG (g:=gb177) (o:=.cells #[.int .i64 x178000_2,.int .i64 x178001_2] 35 (0,0)) (by(with_reducible repeat(first|apply ag|apply aj|apply af));exact BK177.out)):gb177≠gb182));have NB182_177:=au ((by rw[hg];exact Nat.ne_of_gt (aG (g:=gb177) (o:=.cells #[.int .i64 x178000_2,.int .i64 x178001_2] 35 (0,0)) (by(with_reducible repeat(first|apply ag|apply aj|apply af));exact BK177.out)):gb182≠gb177));replace BK177:=au (ay (g:=gb177) (o:=.cells #[.int .i64 x178000_2,.int .i64 x178001_2] 35 (0,0)) (by(with_reducible repeat(first|apply ag|apply aj|apply af));exact BK177.out) hb);have NB178_182:=au ((by rw[hg];exact Nat.ne_of_lt (aG (g:=gb178) (o:=.cells #[.int .i64 x179000_2,.slice none 0 0,.slice none 0 0] 24 (0,0)) (by(with_reducible repeat(first|apply ag|apply aj|apply af));exact BK178.out)):gb178≠gb182));have NB182_178:=au ((by rw[hg];exact Nat.ne_of_gt (aG (g:=gb178) (o:=.cells #[.int .i64 x179000_2,.slice none 0 0,.slice none 0 0] 24 (0,0)) (by(with_reducible repeat(first|apply ag|apply aj|apply af));exact BK178.out)):gb182≠gb178));replace BK178:=au (ay (g:=gb178) (o:=.cells #[.int .i64 x179000_2,.slice none 0 0,.slice none 0 0] 24 (0,0)) (by(with_reducible repeat(first|apply ag|apply aj|apply af));exact BK178.out) hb);clear hb hbox hg;have hnb47:=NB182_176.out;have hnc47:=NB176_182.out;have hnb48:=NB182_177.out;have hnc48:=NB177_182.out;have hnb49:=NB182_178.out;have hnc49:=NB178_182.out;have hcz50_0:w46.cell? ⟨gb182,0,none⟩=some (.int .i64 0):=(ak BK182.out 0).trans rfl;have hcz50_1:w46.cell? ⟨gb182,1,none⟩=some (.int .i64 0):=(ak BK182.out 1).trans rfl;have hfz50_0:=av BK182.out 0;have hfz50_1:=av BK182.out 1;have hnb51:=NB177_176.out;have hnc51:=NB176_177.out;have hnb52:=NB177_178.out;have hnc52:=NB178_177.out;have hcz53_0:w46.cell? ⟨gb177,0,none⟩=some (.int .i64 x178000_2):=(ak BK177.out 0).trans rfl;have hcz53_1:w46.cell? ⟨gb177,1,none⟩=some (.int .i64 x178001_2):=(ak BK177.out 1).trans rfl;have hfz53_0:=av BK177.out 0;have hfz53_1:=av BK177.out 1)|((with_reducible refine bB (b:=.append) (xs:=#[.tmp 58,.tmp 60]) rfl ?_);at_builtin;refine Kd.ek k35 (w0:=w) w.heap.size rfl (.tmp 58) (.tmp 60) 22 35 (.agg #[(.int .i64 0),(.int .i64 0)]) 16 rfl Try.underlying22 cz rfl (by decide) (by omega) u6 x6_2 (⟨(ax l0_1 x25_2).f0,(ax l0_1 x25_2).f1⟩:S35) [.int .i64 ((ax l0_1 x25_2).f0),.int .i64 ((ax l0_1 x25_2).f1)] (fun k_=>k_≠gb177∧k_≠gb182) (fun _=>False) rfl (by first|(go_simp;done)|(go_simp;rfl)) ?aP (fun _ hk=>hk.elim) ?aF ?aO ?aB ?aS ?aL ?_;(case aP=>exact eY _ _ _ (⟨(ax l0_1 x25_2).f0,(ax l0_1 x25_2).f1⟩:S35));(case aB=>exact(by with_reducible repeat(first|exact HB.out|apply ah|apply aa|apply ai|refine ae ?_ GE176.out|refine ae ?_ GE177.out|refine ae ?_ GE178.out|refine ae ?_ GE182.out)));(case aF=>exact(fun k_ hk=>⟨Kd.cB (g:=gb177) (o:=.cells #[.int .i64 x178000_2,.int .i64 x178001_2] 35 (0,0)) (by(with_reducible repeat(first|apply ag|apply aj|apply af));refine aH ?_ NB177_182.out _;(with_reducible repeat(first|apply ag|apply aj|apply af));refine aH ?_ NB177_182.out _;(with_reducible repeat(first|apply ag|apply aj|apply af));exact BK177.out) k_ hk,Kd.cB (g:=gb182) (o:=.cells #[.int .i64 ((ax l0_1 x25_2).f0),.int .i64 ((ax l0_1 x25_2).f1)] 35 (0,0)) (by(with_reducible repeat(first|apply ag|apply aj|apply af));refine aK (cs:=#[.int .i64 ((ax l0_1 x25_2).f0),.int .i64 0]) ?_ 1 _ rfl;(with_reducible repeat(first|apply ag|apply aj|apply af));refine aK (cs:=#[.int .i64 0,.int .i64 0]) ?_ 0 _ rfl;(with_reducible repeat(first|apply ag|apply aj|apply af));exact BK182.out) k_ hk⟩));(case aO=>exact(by(with_reducible repeat(first|apply Kd.aD|apply Kd.aC|apply Kd.aJ));exact Kd.aY (Kd.aU (p:=⟨gb182,1,none⟩) (Kd.aU (p:=⟨gb182,0,none⟩) (Kd.aY HO_6.out (fun k_ hk=>(⟨hk,hk.2⟩:_∧k_≠gb182))) (fun _ hk=>hk.2) (.int .i64 ((ax l0_1 x25_2).f0))) (fun _ hk=>hk.2) (.int .i64 ((ax l0_1 x25_2).f1))) (fun _ hk=>⟨hk.1.1,hk.1.2⟩)));(case aS=>exact(az (by with_reducible repeat(first|exact HB.out|apply ah|apply aa|apply ai|refine ae ?_ GE176.out|refine ae ?_ GE177.out|refine ae ?_ GE178.out|refine ae ?_ GE182.out))));(case aL=>have:=LMc45.out;omega);intro v187 w54 ho hb hg hat;rw[← Ny186.out] at ho;replace BK176:=au (bn (g:=gb176) (o:=.cells #[.int .i64 a0_0,.slice (some ad181) l0_1.length c0_1,.slice A0_2 l0_2.length c0_2] 24 (0,0)) (by(with_reducible repeat(first|apply ag|apply aj|apply af));refine aH ?_ NB176_182.out _;(with_reducible repeat(first|apply ag|apply aj|apply af));refine aH ?_ NB176_182.out _;(with_reducible repeat(first|apply ag|apply aj|apply af));exact BK176.out) hg (Kd.gZ HO_6.out BK176.out (by decide)));replace BK177:=au (bn (g:=gb177) (o:=.cells #[.int .i64 x178000_2,.int .i64 x178001_2] 35 (0,0)) (by(with_reducible repeat(first|apply ag|apply aj|apply af));refine aH ?_ NB177_182.out _;(with_reducible repeat(first|apply ag|apply aj|apply af));refine aH ?_ NB177_182.out _;(with_reducible repeat(first|apply ag|apply aj|apply af));exact BK177.out) hg (Kd.dA HO_6.out (fun _ hk=>hk.1)));replace BK178:=au (bn (g:=gb178) (o:=.cells #[.int .i64 x179000_2,.slice none 0 0,.slice none 0 0] 24 (0,0)) (by(with_reducible repeat(first|apply ag|apply aj|apply af));refine aH ?_ NB178_182.out _;(with_reducible repeat(first|apply ag|apply aj|apply af));refine aH ?_ NB178_182.out _;(with_reducible repeat(first|apply ag|apply aj|apply af));exact BK178.out) hg (Kd.gZ HO_6.out BK178.out (by decide)));replace BK182:=au (bn (g:=gb182) (o:=.cells #[.int .i64 ((ax l0_1 x25_2).f0),.int .i64 ((ax l0_1 x25_2).f1)] 35 (0,0)) (by(with_reducible repeat(first|apply ag|apply aj|apply af));refine aK (cs:=#[.int .i64 ((ax l0_1 x25_2).f0),.int .i64 0]) ?_ 1 _ rfl;(with_reducible repeat(first|apply ag|apply aj|apply af));refine aK (cs:=#[.int .i64 0,.int .i64 0]) ?_ 0 _ rfl;(with_reducible repeat(first|apply ag|apply aj|apply af));exact BK182.out) hg (Kd.dA HO_6.out (fun _ hk=>hk.2)));replace HB:=au (hb);have HO188:=au (ho);clear HO_6;clear ho hb hg hat))
             go_roundg k2
             case measure=>have:=HJ2.out;have:=HK2.out;omega
             case rel=>exact⟨(y186),(true),(wrap64 (x25_2+1)),(x178000_2),(x178001_2),(x179000_2),(by first|rfl|(simp;done)|(simp[*];done)),(by first|rfl|(simp;done)|(simp[*];done)),H',⟨by have:=HJ2.out;have:=HK2.out;omega⟩,⟨by(with_reducible repeat(first|apply Kd.aD|apply Kd.aC|apply Kd.aJ));exact Kd.aY HO188.out (fun _ hk=>hk.1)⟩,⟨by(with_reducible repeat(first|apply ag|apply aj|apply af));exact BK176.out⟩,⟨by(with_reducible repeat(first|apply ag|apply aj|apply af));exact BK177.out⟩,⟨by(with_reducible repeat(first|apply ag|apply aj|apply af));exact BK178.out⟩,⟨by with_reducible repeat(first|exact HB.out|apply ah|apply aa|apply ai|refine ae ?_ GE176.out|refine ae ?_ GE177.out|refine ae ?_ GE178.out|refine ae ?_ GE182.out)⟩⟩
            ·rw[if_neg c45] at H
             exact absurd H (by simp)
           ·replace c44:=Bool.eq_false_iff.mpr c44
            subst c44
            have H1:(if x6_2.length<8796093022208 then ((some (x6_2++[(⟨x178000_2,x178001_2⟩:S35)]:List (S35))).bind fun y189=>(if y189.length<8796093022208 then (spec_GiveRoom.l0 k2 (y189++[(⟨(ax l0_1 x25_2).f0,(ax l0_1 x25_2).f1⟩:S35)]) true l0_1 (l0_1.length:Int) (wrap64 (x25_2+1)) a0_0 l0_1 l0_2 x178000_2 x178001_2) else (none))) else (none))=some (r1,r2,r3,r4):=by rw[if_neg (show ¬ (false=true) by decide)] at H;exact H
            clear H
            have H:=H1
            clear H1
            by_cases c55:x6_2.length<8796093022208
            ·rw[if_pos c55] at H
             have LMc55:=au c55
             clear c55
             obtain⟨y189,hy189⟩:∃ y_:List (S35),y_ = (x6_2++[(⟨x178000_2,x178001_2⟩:S35)]):=⟨_,rfl⟩
             replace H:(if y189.length<8796093022208 then (spec_GiveRoom.l0 k2 (y189++[(⟨(ax l0_1 x25_2).f0,(ax l0_1 x25_2).f1⟩:S35)]) true l0_1 (l0_1.length:Int) (wrap64 (x25_2+1)) a0_0 l0_1 l0_2 x178000_2 x178001_2) else (none))=some (r1,r2,r3,r4):=by first|(rw[hy189];with_reducible exact H)|(have H2_:=(Option.bind_some _ _).symm.trans H;rw[hy189];with_reducible exact H2_)|(have H2_:=(Option.bind_some _ _).symm.trans H;with_reducible exact H2_)|with_reducible exact H|(rw[hy189];exact H)|exact H
             have Ny189:=au hy189
             clear hy189
             by_cases c56:y189.length<8796093022208
             ·rw[if_pos c56] at H
              have LMc56:=au c56
              clear c56
              obtain⟨y192,hy192⟩:∃ y_:List (S35),y_ = (y189++[(⟨(ax l0_1 x25_2).f0,(ax l0_1 x25_2).f1⟩:S35)]):=⟨_,rfl⟩
              replace H:(spec_GiveRoom.l0 k2 y192 true l0_1 (l0_1.length:Int) (wrap64 (x25_2+1)) a0_0 l0_1 l0_2 x178000_2 x178001_2)=some (r1,r2,r3,r4):=by first|(rw[hy192];with_reducible exact H)|(have H2_:=(Option.bind_some _ _).symm.trans H;rw[hy192];with_reducible exact H2_)|(have H2_:=(Option.bind_some _ _).symm.trans H;with_reducible exact H2_)|with_reducible exact H|(rw[hy192];exact H)|exact H
              have Ny192:=au hy192
              clear hy192
              have H':=au H
              clear H
              have p181:0≤(x25_2:Int):=of_decide_eq_true (by assumption)
              have q181:x25_2 < (l0_1.length:Int):=of_decide_eq_true (by assumption)
              obtain⟨ad181,e181,hx181_0,hx181_1⟩:=bE HR0_1.out x25_2 p181 q181
              cases e181
              replace hx181_0:=(HB.out.cell (World.block_lt_of_cell? w _ hx181_0)).trans hx181_0
              replace hx181_1:=(HB.out.cell (World.block_lt_of_cell? w _ hx181_1)).trans hx181_1
              replace p181:=eq_true p181
              replace q181:=eq_true q181
              go_wp2_with (first|((with_reducible refine aM (N:=9) rfl ?_);refine aI ?hg (N:=9) ?hd (cs:=#[.int .i64 0,.int .i64 0]) (t:=35) ?hr ?_;(case hd=>rfl);(case hg=>rfl);(case hr=>first|(go_simp;done)|(go_simp;rfl));intro gb182 hg w57 hbox hb;replace HO_6:=au (Kd.bu (Kd.gD (by(with_reducible repeat(first|apply Kd.aD|apply Kd.aC|apply Kd.aJ));exact HO_6.out) gb182 (Nat.le_of_eq hg.symm)) hb);have BK182:=au (hbox);have GW182:=au ((by rw[hg];exact(az (by with_reducible repeat(first|exact HB.out|apply ah|apply aa|apply ai|refine ae ?_ GE176.out|refine ae ?_ GE177.out|refine ae ?_ GE178.out))):w.heap.size≤gb182));have GE182:=au ((by rw[hg];exact(az (by with_reducible repeat(first|exact HB.out|apply ah|apply aa|apply ai|refine ae ?_ GE176.out|refine ae ?_ GE177.out|refine ae ?_ GE178.out))):w.heap.size≤gb182));replace HB:=au (aA (by with_reducible repeat(first|exact HB.out|apply ah|apply aa|apply ai|refine ae ?_ GE176.out|refine ae ?_ GE177.out|refine ae ?_ GE178.out)) hb);have NB176_182:=au ((by rw[hg];exact Nat.ne_of_lt (aG (g:=gb176) (o:=.cells #[.int .i64 a0_0,.slice (some ad181) l0_1.length c0_1,.slice A0_2 l0_2.length c0_2] 24 (0,0)) (by(with_reducible repeat(first|apply ag|apply aj|apply af));exact BK176.out)):gb176≠gb182));have NB182_176:=au ((by rw[hg];exact Nat.ne_of_gt (aG (g:=gb176) (o:=.cells #[.int .i64 a0_0,.slice (some ad181) l0_1.length c0_1,.slice A0_2 l0_2.length c0_2] 24 (0,0)) (by(with_reducible repeat(first|apply ag|apply aj|apply af));exact BK176.out)):gb182≠gb176));replace BK176:=au (ay (g:=gb176) (o:=.cells #[.int .i64 a0_0,.slice (some ad181) l0_1.length c0_1,.slice A0_2 l0_2.length c0_2] 24 (0,0)) (by(with_reducible repeat(first|apply ag|apply aj|apply af));exact BK176.out) hb);have NB177_182:=au ((by rw[hg];exact Nat.ne_of_lt (aG (g:=gb177) (o:=.cells #[.int .i64 x178000_2,.int .i64 x178001_2] 35 (0,0)) (by(with_reducible repeat(first|apply ag|apply aj|apply af));exact BK177.out)):gb177≠gb182));have NB182_177:=au ((by rw[hg];exact Nat.ne_of_gt (aG (g:=gb177) (o:=.cells #[.int .i64 x178000_2,.int .i64 x178001_2] 35 (0,0)) (by(with_reducible repeat(first|apply ag|apply aj|apply af));exact BK177.out)):gb182≠gb177));replace BK177:=au (ay (g:=gb177) (o:=.cells #[.int .i64 x178000_2,.int .i64 x178001_2] 35 (0,0)) (by(with_reducible repeat(first|apply ag|apply aj|apply af));exact BK177.out) hb);have NB178_182:=au ((by rw[hg];exact Nat.ne_of_lt (aG (g:=gb178) (o:=.cells #[.int .i64 x179000_2,.slice none 0 0,.slice none 0 0] 24 (0,0)) (by(with_reducible repeat(first|apply ag|apply aj|apply af));exact BK178.out)):gb178≠gb182));have NB182_178:=au ((by rw[hg];exact Nat.ne_of_gt (aG (g:=gb178) (o:=.cells #[.int .i64 x179000_2,.slice none 0 0,.slice none 0 0] 24 (0,0)) (by(with_reducible repeat(first|apply ag|apply aj|apply af));exact BK178.out)):gb182≠gb178));replace BK178:=au (ay (g:=gb178) (o:=.cells #[.int .i64 x179000_2,.slice none 0 0,.slice none 0 0] 24 (0,0)) (by(with_reducible repeat(first|apply ag|apply aj|apply af));exact BK178.out) hb);clear hb hbox hg;have hnb58:=NB182_176.out;have hnc58:=NB176_182.out;have hnb59:=NB182_177.out;have hnc59:=NB177_182.out;have hnb60:=NB182_178.out;have hnc60:=NB178_182.out;have hcz61_0:w57.cell? ⟨gb182,0,none⟩=some (.int .i64 0):=(ak BK182.out 0).trans rfl;have hcz61_1:w57.cell? ⟨gb182,1,none⟩=some (.int .i64 0):=(ak BK182.out 1).trans rfl;have hfz61_0:=av BK182.out 0;have hfz61_1:=av BK182.out 1;have hnb62:=NB177_176.out;have hnc62:=NB176_177.out;have hnb63:=NB177_178.out;have hnc63:=NB178_177.out;have hcz64_0:w57.cell? ⟨gb177,0,none⟩=some (.int .i64 x178000_2):=(ak BK177.out 0).trans rfl;have hcz64_1:w57.cell? ⟨gb177,1,none⟩=some (.int .i64 x178001_2):=(ak BK177.out 1).trans rfl;have hfz64_0:=av BK177.out 0;have hfz64_1:=av BK177.out 1)|((with_reducible refine bB (b:=.append) (xs:=#[.tmp 54,.tmp 56]) rfl ?_);at_builtin;refine Kd.ek k35 (w0:=w) w.heap.size rfl (.tmp 54) (.tmp 56) 22 35 (.agg #[(.int .i64 0),(.int .i64 0)]) 16 rfl Try.underlying22 cz rfl (by decide) (by omega) u6 x6_2 (⟨x178000_2,x178001_2⟩:S35) [.int .i64 x178000_2,.int .i64 x178001_2] (fun k_=>k_≠gb177∧k_≠gb182) (fun _=>False) rfl (by first|(go_simp;done)|(go_simp;rfl)) ?aP (fun _ hk=>hk.elim) ?aF ?aO ?aB ?aS ?aL ?_;(case aP=>exact eY _ _ _ (⟨x178000_2,x178001_2⟩:S35));(case aB=>exact(by with_reducible repeat(first|exact HB.out|apply ah|apply aa|apply ai|refine ae ?_ GE176.out|refine ae ?_ GE177.out|refine ae ?_ GE178.out|refine ae ?_ GE182.out)));(case aF=>exact(fun k_ hk=>⟨Kd.cB (g:=gb177) (o:=.cells #[.int .i64 x178000_2,.int .i64 x178001_2] 35 (0,0)) (by(with_reducible repeat(first|apply ag|apply aj|apply af));refine aH ?_ NB177_182.out _;(with_reducible repeat(first|apply ag|apply aj|apply af));refine aH ?_ NB177_182.out _;(with_reducible repeat(first|apply ag|apply aj|apply af));exact BK177.out) k_ hk,Kd.cB (g:=gb182) (o:=.cells #[.int .i64 ((ax l0_1 x25_2).f0),.int .i64 ((ax l0_1 x25_2).f1)] 35 (0,0)) (by(with_reducible repeat(first|apply ag|apply aj|apply af));refine aK (cs:=#[.int .i64 ((ax l0_1 x25_2).f0),.int .i64 0]) ?_ 1 _ rfl;(with_reducible repeat(first|apply ag|apply aj|apply af));refine aK (cs:=#[.int .i64 0,.int .i64 0]) ?_ 0 _ rfl;(with_reducible repeat(first|apply ag|apply aj|apply af));exact BK182.out) k_ hk⟩));(case aO=>exact(by(with_reducible repeat(first|apply Kd.aD|apply Kd.aC|apply Kd.aJ));exact Kd.aY (Kd.aU (p:=⟨gb182,1,none⟩) (Kd.aU (p:=⟨gb182,0,none⟩) (Kd.aY HO_6.out (fun k_ hk=>(⟨hk,hk.2⟩:_∧k_≠gb182))) (fun _ hk=>hk.2) (.int .i64 ((ax l0_1 x25_2).f0))) (fun _ hk=>hk.2) (.int .i64 ((ax l0_1 x25_2).f1))) (fun _ hk=>⟨hk.1.1,hk.1.2⟩)));(case aS=>exact(az (by with_reducible repeat(first|exact HB.out|apply ah|apply aa|apply ai|refine ae ?_ GE176.out|refine ae ?_ GE177.out|refine ae ?_ GE178.out|refine ae ?_ GE182.out))));(case aL=>have:=LMc55.out;omega);intro v190 w65 ho hb hg hat;rw[← Ny189.out] at ho;replace BK176:=au (bn (g:=gb176) (o:=.cells #[.int .i64 a0_0,.slice (some ad181) l0_1.length c0_1,.slice A0_2 l0_2.length c0_2] 24 (0,0)) (by(with_reducible repeat(first|apply ag|apply aj|apply af));refine aH ?_ NB176_182.out _;(with_reducible repeat(first|apply ag|apply aj|apply af));refine aH ?_ NB176_182.out _;(with_reducible repeat(first|apply ag|apply aj|apply af));exact BK176.out) hg (Kd.gZ HO_6.out BK176.out (by decide)));replace BK177:=au (bn (g:=gb177) (o:=.cells #[.int .i64 x178000_2,.int .i64 x178001_2] 35 (0,0)) (by(with_reducible repeat(first|apply ag|apply aj|apply af));refine aH ?_ NB177_182.out _;(with_reducible repeat(first|apply ag|apply aj|apply af));refine aH ?_ NB177_182.out _;(with_reducible repeat(first|apply ag|apply aj|apply af));exact BK177.out) hg (Kd.dA HO_6.out (fun _ hk=>hk.1)));replace BK178:=au (bn (g:=gb178) (o:=.cells #[.int .i64 x179000_2,.slice none 0 0,.slice none 0 0] 24 (0,0)) (by(with_reducible repeat(first|apply ag|apply aj|apply af));refine aH ?_ NB178_182.out _;(with_reducible repeat(first|apply ag|apply aj|apply af));refine aH ?_ NB178_182.out _;(with_reducible repeat(first|apply ag|apply aj|apply af));exact BK178.out) hg (Kd.gZ HO_6.out BK178.out (by decide)));replace BK182:=au (bn (g:=gb182) (o:=.cells #[.int .i64 ((ax l0_1 x25_2).f0),.int .i64 ((ax l0_1 x25_2).f1)] 35 (0,0)) (by(with_reducible repeat(first|apply ag|apply aj|apply af));refine aK (cs:=#[.int .i64 ((ax l0_1 x25_2).f0),.int .i64 0]) ?_ 1 _ rfl;(with_reducible repeat(first|apply ag|apply aj|apply af));refine aK (cs:=#[.int .i64 0,.int .i64 0]) ?_ 0 _ rfl;(with_reducible repeat(first|apply ag|apply aj|apply af));exact BK182.out) hg (Kd.dA HO_6.out (fun _ hk=>hk.2)));replace HB:=au (hb);have HO191:=au (ho);clear HO_6;clear ho hb hg hat;have hcz66_0:w65.cell? ⟨gb182,0,none⟩=some (.int .i64 ((ax l0_1 x25_2).f0)):=(ak BK182.out 0).trans rfl;have hcz66_1:w65.cell? ⟨gb182,1,none⟩=some (.int .i64 ((ax l0_1 x25_2).f1)):=(ak BK182.out 1).trans rfl;have hfz66_0:=av BK182.out 0;have hfz66_1:=av BK182.out 1)|((with_reducible refine bB (b:=.append) (xs:=#[.tmp 58,.tmp 60]) rfl ?_);at_builtin;refine Kd.ek k35 (w0:=w) w.heap.size rfl (.tmp 58) (.tmp 60) 22 35 (.agg #[(.int .i64 0),(.int .i64 0)]) 16 rfl Try.underlying22 cz rfl (by decide) (by omega) v190 y189 (⟨(ax l0_1 x25_2).f0,(ax l0_1 x25_2).f1⟩:S35) [.int .i64 ((ax l0_1 x25_2).f0),.int .i64 ((ax l0_1 x25_2).f1)] (fun k_=>k_≠gb177∧k_≠gb182) (fun _=>False) rfl rfl ?aP (fun _ hk=>hk.elim) ?aF ?aO ?aB ?aS ?aL ?_;(case aP=>exact eY _ _ _ (⟨(ax l0_1 x25_2).f0,(ax l0_1 x25_2).f1⟩:S35));(case aB=>exact(by with_reducible repeat(first|exact HB.out|apply ah|apply aa|apply ai|refine ae ?_ GE176.out|refine ae ?_ GE177.out|refine ae ?_ GE178.out|refine ae ?_ GE182.out)));(case aF=>exact(fun k_ hk=>⟨Kd.cB (g:=gb177) (o:=.cells #[.int .i64 x178000_2,.int .i64 x178001_2] 35 (0,0)) (by(with_reducible repeat(first|apply ag|apply aj|apply af));exact BK177.out) k_ hk,Kd.cB (g:=gb182) (o:=.cells #[.int .i64 ((ax l0_1 x25_2).f0),.int .i64 ((ax l0_1 x25_2).f1)] 35 (0,0)) (by(with_reducible repeat(first|apply ag|apply aj|apply af));exact BK182.out) k_ hk⟩));(case aO=>exact(by(with_reducible repeat(first|apply Kd.aD|apply Kd.aC|apply Kd.aJ));exact HO191.out));(case aS=>exact(az (by with_reducible repeat(first|exact HB.out|apply ah|apply aa|apply ai|refine ae ?_ GE176.out|refine ae ?_ GE177.out|refine ae ?_ GE178.out|refine ae ?_ GE182.out))));(case aL=>have:=LMc56.out;omega);intro v193 w67 ho hb hg hat;rw[← Ny192.out] at ho;replace BK176:=au (bn (g:=gb176) (o:=.cells #[.int .i64 a0_0,.slice (some ad181) l0_1.length c0_1,.slice A0_2 l0_2.length c0_2] 24 (0,0)) (by(with_reducible repeat(first|apply ag|apply aj|apply af));exact BK176.out) hg (Kd.gZ HO191.out BK176.out (by decide)));replace BK177:=au (bn (g:=gb177) (o:=.cells #[.int .i64 x178000_2,.int .i64 x178001_2] 35 (0,0)) (by(with_reducible repeat(first|apply ag|apply aj|apply af));exact BK177.out) hg (Kd.dA HO191.out (fun _ hk=>hk.1)));replace BK178:=au (bn (g:=gb178) (o:=.cells #[.int .i64 x179000_2,.slice none 0 0,.slice none 0 0] 24 (0,0)) (by(with_reducible repeat(first|apply ag|apply aj|apply af));exact BK178.out) hg (Kd.gZ HO191.out BK178.out (by decide)));replace BK182:=au (bn (g:=gb182) (o:=.cells #[.int .i64 ((ax l0_1 x25_2).f0),.int .i64 ((ax l0_1 x25_2).f1)] 35 (0,0)) (by(with_reducible repeat(first|apply ag|apply aj|apply af));exact BK182.out) hg (Kd.dA HO191.out (fun _ hk=>hk.2)));replace HB:=au (hb);have HO194:=au (ho);clear HO191;clear ho hb hg hat))
              go_roundg k2
              case measure=>have:=HJ2.out;have:=HK2.out;omega
              case rel=>exact⟨(y192),(true),(wrap64 (x25_2+1)),(x178000_2),(x178001_2),(x179000_2),(by first|rfl|(simp;done)|(simp[*];done)),(by first|rfl|(simp;done)|(simp[*];done)),H',⟨by have:=HJ2.out;have:=HK2.out;omega⟩,⟨by(with_reducible repeat(first|apply Kd.aD|apply Kd.aC|apply Kd.aJ));exact Kd.aY HO194.out (fun _ hk=>hk.1)⟩,⟨by(with_reducible repeat(first|apply ag|apply aj|apply af));exact BK176.out⟩,⟨by(with_reducible repeat(first|apply ag|apply aj|apply af));exact BK177.out⟩,⟨by(with_reducible repeat(first|apply ag|apply aj|apply af));exact BK178.out⟩,⟨by with_reducible repeat(first|exact HB.out|apply ah|apply aa|apply ai|refine ae ?_ GE176.out|refine ae ?_ GE177.out|refine ae ?_ GE178.out|refine ae ?_ GE182.out)⟩⟩
             ·rw[if_neg c56] at H
              exact absurd H (by simp)
            ·rw[if_neg c55] at H
             exact absurd H (by simp)
          ·rw[if_neg c43] at H
           have c43b0:decide ((wrap64 (x178000_2+x178001_2)) < ((ax l0_1 x25_2).f0))=false:=decide_eq_false c43
           clear c43
           by_cases c68:(wrap64 (((ax l0_1 x25_2).f0) + ((ax l0_1 x25_2).f1)))=x178000_2
           ·rw[if_pos c68] at H
            have c68b0:((wrap64 (((ax l0_1 x25_2).f0) + ((ax l0_1 x25_2).f1))) == x178000_2)=true:=beq_iff_eq.mpr c68
            have c68b1:((wrap64 (((ax l0_1 x25_2).f0) + ((ax l0_1 x25_2).f1))) != x178000_2)=false:=bne_eq_false_iff_eq.mpr c68
            clear c68
            have H':=au H
            clear H
            have p181:0≤(x25_2:Int):=of_decide_eq_true (by assumption)
            have q181:x25_2 < (l0_1.length:Int):=of_decide_eq_true (by assumption)
            obtain⟨ad181,e181,hx181_0,hx181_1⟩:=bE HR0_1.out x25_2 p181 q181
            cases e181
            replace hx181_0:=(HB.out.cell (World.block_lt_of_cell? w _ hx181_0)).trans hx181_0
            replace hx181_1:=(HB.out.cell (World.block_lt_of_cell? w _ hx181_1)).trans hx181_1
            replace p181:=eq_true p181
            replace q181:=eq_true q181
            go_wp2_with (first|((with_reducible refine aM (N:=9) rfl ?_);refine aI ?hg (N:=9) ?hd (cs:=#[.int .i64 0,.int .i64 0]) (t:=35) ?hr ?_;(case hd=>rfl);(case hg=>rfl);(case hr=>first|(go_simp;done)|(go_simp;rfl));intro gb182 hg w69 hbox hb;replace HO_6:=au (Kd.bu (Kd.gD (by(with_reducible repeat(first|apply Kd.aD|apply Kd.aC|apply Kd.aJ));exact HO_6.out) gb182 (Nat.le_of_eq hg.symm)) hb);have BK182:=au (hbox);have GW182:=au ((by rw[hg];exact(az (by with_reducible repeat(first|exact HB.out|apply ah|apply aa|apply ai|refine ae ?_ GE176.out|refine ae ?_ GE177.out|refine ae ?_ GE178.out))):w.heap.size≤gb182));have GE182:=au ((by rw[hg];exact(az (by with_reducible repeat(first|exact HB.out|apply ah|apply aa|apply ai|refine ae ?_ GE176.out|refine ae ?_ GE177.out|refine ae ?_ GE178.out))):w.heap.size≤gb182));replace HB:=au (aA (by with_reducible repeat(first|exact HB.out|apply ah|apply aa|apply ai|refine ae ?_ GE176.out|refine ae ?_ GE177.out|refine ae ?_ GE178.out)) hb);have NB176_182:=au ((by rw[hg];exact Nat.ne_of_lt (aG (g:=gb176) (o:=.cells #[.int .i64 a0_0,.slice (some ad181) l0_1.length c0_1,.slice A0_2 l0_2.length c0_2] 24 (0,0)) (by(with_reducible repeat(first|apply ag|apply aj|apply af));exact BK176.out)):gb176≠gb182));have NB182_176:=au ((by rw[hg];exact Nat.ne_of_gt (aG (g:=gb176) (o:=.cells #[.int .i64 a0_0,.slice (some ad181) l0_1.length c0_1,.slice A0_2 l0_2.length c0_2] 24 (0,0)) (by(with_reducible repeat(first|apply ag|apply aj|apply af));exact BK176.out)):gb182≠gb176));replace BK176:=au (ay (g:=gb176) (o:=.cells #[.int .i64 a0_0,.slice (some ad181) l0_1.length c0_1,.slice A0_2 l0_2.length c0_2] 24 (0,0)) (by(with_reducible repeat(first|apply ag|apply aj|apply af));exact BK176.out) hb);have NB177_182:=au ((by rw[hg];exact Nat.ne_of_lt (aG (g:=gb177) (o:=.cells #[.int .i64 x178000_2,.int .i64 x178001_2] 35 (0,0)) (by(with_reducible repeat(first|apply ag|apply aj|apply af));exact BK177.out)):gb177≠gb182));have NB182_177:=au ((by rw[hg];exact Nat.ne_of_gt (aG (g:=gb177) (o:=.cells #[.int .i64 x178000_2,.int .i64 x178001_2] 35 (0,0)) (by(with_reducible repeat(first|apply ag|apply aj|apply af));exact BK177.out)):gb182≠gb177));replace BK177:=au (ay (g:=gb177) (o:=.cells #[.int .i64 x178000_2,.int .i64 x178001_2] 35 (0,0)) (by(with_reducible repeat(first|apply ag|apply aj|apply af));exact BK177.out) hb);have NB178_182:=au ((by rw[hg];exact Nat.ne_of_lt (aG (g:=gb178) (o:=.cells #[.int .i64 x179000_2,.slice none 0 0,.slice none 0 0] 24 (0,0)) (by(with_reducible repeat(first|apply ag|apply aj|apply af));exact BK178.out)):gb178≠gb182));have NB182_178:=au ((by rw[hg];exact Nat.ne_of_gt (aG (g:=gb178) (o:=.cells #[.int .i64 x179000_2,.slice none 0 0,.slice none 0 0] 24 (0,0)) (by(with_reducible repeat(first|apply ag|apply aj|apply af));exact BK178.out)):gb182≠gb178));replace BK178:=au (ay (g:=gb178) (o:=.cells #[.int .i64 x179000_2,.slice none 0 0,.slice none 0 0] 24 (0,0)) (by(with_reducible repeat(first|apply ag|apply aj|apply af));exact BK178.out) hb);clear hb hbox hg;have hnb70:=NB182_176.out;have hnc70:=NB176_182.out;have hnb71:=NB182_177.out;have hnc71:=NB177_182.out;have hnb72:=NB182_178.out;have hnc72:=NB178_182.out;have hcz73_0:w69.cell? ⟨gb182,0,none⟩=some (.int .i64 0):=(ak BK182.out 0).trans rfl;have hcz73_1:w69.cell? ⟨gb182,1,none⟩=some (.int .i64 0):=(ak BK182.out 1).trans rfl;have hfz73_0:=av BK182.out 0;have hfz73_1:=av BK182.out 1;have hnb74:=NB177_176.out;have hnc74:=NB176_177.out;have hnb75:=NB177_178.out;have hnc75:=NB178_177.out;have hcz76_0:w69.cell? ⟨gb177,0,none⟩=some (.int .i64 x178000_2):=(ak BK177.out 0).trans rfl;have hcz76_1:w69.cell? ⟨gb177,1,none⟩=some (.int .i64 x178001_2):=(ak BK177.out 1).trans rfl;have hfz76_0:=av BK177.out 0;have hfz76_1:=av BK177.out 1))
            go_roundg k2
            case measure=>have:=HJ2.out;have:=HK2.out;omega
            case rel=>exact⟨(x6_2),(x7_2),(wrap64 (x25_2+1)),((ax l0_1 x25_2).f0),(wrap64 (((ax l0_1 x25_2).f1)+x178001_2)),(x179000_2),(by first|rfl|(simp;done)|(simp[*];done)),(by first|rfl|(simp;done)|(simp[*];done)),H',⟨by have:=HJ2.out;have:=HK2.out;omega⟩,⟨by(with_reducible repeat(first|apply Kd.aD|apply Kd.aC|apply Kd.aJ));exact Kd.aY (Kd.aU (p:=⟨gb177,1,none⟩) (Kd.aU (p:=⟨gb177,0,none⟩) (Kd.aU (p:=⟨gb182,1,none⟩) (Kd.aU (p:=⟨gb182,0,none⟩) (Kd.aY (Kd.aY HO_6.out (fun k_ hk=>(⟨hk,hk.2⟩:_∧k_≠gb182))) (fun k_ hk=>(⟨hk,hk.1.1⟩:_∧k_≠gb177))) (fun _ hk=>hk.1.2) (.int .i64 ((ax l0_1 x25_2).f0))) (fun _ hk=>hk.1.2) (.int .i64 ((ax l0_1 x25_2).f1))) (fun _ hk=>hk.2) (.int .i64 ((ax l0_1 x25_2).f0))) (fun _ hk=>hk.2) (.int .i64 (wrap64 (((ax l0_1 x25_2).f1)+x178001_2)))) (fun _ hk=>hk.1.1.1)⟩,⟨by(with_reducible repeat(first|apply ag|apply aj|apply af));refine aH ?_ NB176_177.out _;(with_reducible repeat(first|apply ag|apply aj|apply af));refine aH ?_ NB176_177.out _;(with_reducible repeat(first|apply ag|apply aj|apply af));refine aH ?_ NB176_182.out _;(with_reducible repeat(first|apply ag|apply aj|apply af));refine aH ?_ NB176_182.out _;(with_reducible repeat(first|apply ag|apply aj|apply af));exact BK176.out⟩,⟨by(with_reducible repeat(first|apply ag|apply aj|apply af));refine aK (cs:=#[.int .i64 ((ax l0_1 x25_2).f0),.int .i64 x178001_2]) ?_ 1 _ rfl;(with_reducible repeat(first|apply ag|apply aj|apply af));refine aK (cs:=#[.int .i64 x178000_2,.int .i64 x178001_2]) ?_ 0 _ rfl;(with_reducible repeat(first|apply ag|apply aj|apply af));refine aH ?_ NB177_182.out _;(with_reducible repeat(first|apply ag|apply aj|apply af));refine aH ?_ NB177_182.out _;(with_reducible repeat(first|apply ag|apply aj|apply af));exact BK177.out⟩,⟨by(with_reducible repeat(first|apply ag|apply aj|apply af));refine aH ?_ NB178_177.out _;(with_reducible repeat(first|apply ag|apply aj|apply af));refine aH ?_ NB178_177.out _;(with_reducible repeat(first|apply ag|apply aj|apply af));refine aH ?_ NB178_182.out _;(with_reducible repeat(first|apply ag|apply aj|apply af));refine aH ?_ NB178_182.out _;(with_reducible repeat(first|apply ag|apply aj|apply af));exact BK178.out⟩,⟨by with_reducible repeat(first|exact HB.out|apply ah|apply aa|apply ai|refine ae ?_ GE176.out|refine ae ?_ GE177.out|refine ae ?_ GE178.out|refine ae ?_ GE182.out)⟩⟩
           ·rw[if_neg c68] at H
            have c68b0:((wrap64 (((ax l0_1 x25_2).f0) + ((ax l0_1 x25_2).f1))) == x178000_2)=false:=beq_eq_false_iff_ne.mpr c68
            have c68b1:((wrap64 (((ax l0_1 x25_2).f0) + ((ax l0_1 x25_2).f1))) != x178000_2)=true:=bne_iff_ne.mpr c68
            by_cases c77:((ax l0_1 x25_2).f0) = (wrap64 (x178000_2+x178001_2))
            ·rw[if_pos c77] at H
             have c77b0:(((ax l0_1 x25_2).f0) == (wrap64 (x178000_2+x178001_2)))=true:=beq_iff_eq.mpr c77
             have c77b1:(((ax l0_1 x25_2).f0) != (wrap64 (x178000_2+x178001_2)))=false:=bne_eq_false_iff_eq.mpr c77
             clear c77
             have H':=au H
             clear H
             have p181:0≤(x25_2:Int):=of_decide_eq_true (by assumption)
             have q181:x25_2 < (l0_1.length:Int):=of_decide_eq_true (by assumption)
             obtain⟨ad181,e181,hx181_0,hx181_1⟩:=bE HR0_1.out x25_2 p181 q181
             cases e181
             replace hx181_0:=(HB.out.cell (World.block_lt_of_cell? w _ hx181_0)).trans hx181_0
             replace hx181_1:=(HB.out.cell (World.block_lt_of_cell? w _ hx181_1)).trans hx181_1
             replace p181:=eq_true p181
             replace q181:=eq_true q181
             go_wp2_with (first|((with_reducible refine aM (N:=9) rfl ?_);refine aI ?hg (N:=9) ?hd (cs:=#[.int .i64 0,.int .i64 0]) (t:=35) ?hr ?_;(case hd=>rfl);(case hg=>rfl);(case hr=>first|(go_simp;done)|(go_simp;rfl));intro gb182 hg w78 hbox hb;replace HO_6:=au (Kd.bu (Kd.gD (by(with_reducible repeat(first|apply Kd.aD|apply Kd.aC|apply Kd.aJ));exact HO_6.out) gb182 (Nat.le_of_eq hg.symm)) hb);have BK182:=au (hbox);have GW182:=au ((by rw[hg];exact(az (by with_reducible repeat(first|exact HB.out|apply ah|apply aa|apply ai|refine ae ?_ GE176.out|refine ae ?_ GE177.out|refine ae ?_ GE178.out))):w.heap.size≤gb182));have GE182:=au ((by rw[hg];exact(az (by with_reducible repeat(first|exact HB.out|apply ah|apply aa|apply ai|refine ae ?_ GE176.out|refine ae ?_ GE177.out|refine ae ?_ GE178.out))):w.heap.size≤gb182));replace HB:=au (aA (by with_reducible repeat(first|exact HB.out|apply ah|apply aa|apply ai|refine ae ?_ GE176.out|refine ae ?_ GE177.out|refine ae ?_ GE178.out)) hb);have NB176_182:=au ((by rw[hg];exact Nat.ne_of_lt (aG (g:=gb176) (o:=.cells #[.int .i64 a0_0,.slice (some ad181) l0_1.length c0_1,.slice A0_2 l0_2.length c0_2] 24 (0,0)) (by(with_reducible repeat(first|apply ag|apply aj|apply af));exact BK176.out)):gb176≠gb182));have NB182_176:=au ((by rw[hg];exact Nat.ne_of_gt (aG (g:=gb176) (o:=.cells #[.int .i64 a0_0,.slice (some ad181) l0_1.length c0_1,.slice A0_2 l0_2.length c0_2] 24 (0,0)) (by(with_reducible repeat(first|apply ag|apply aj|apply af));exact BK176.out)):gb182≠gb176));replace BK176:=au (ay (g:=gb176) (o:=.cells #[.int .i64 a0_0,.slice (some ad181) l0_1.length c0_1,.slice A0_2 l0_2.length c0_2] 24 (0,0)) (by(with_reducible repeat(first|apply ag|apply aj|apply af));exact BK176.out) hb);have NB177_182:=au ((by rw[hg];exact Nat.ne_of_lt (aG (g:=gb177) (o:=.cells #[.int .i64 x178000_2,.int .i64 x178001_2] 35 (0,0)) (by(with_reducible repeat(first|apply ag|apply aj|apply af));exact BK177.out)):gb177≠gb182));have NB182_177:=au ((by rw[hg];exact Nat.ne_of_gt (aG (g:=gb177) (o:=.cells #[.int .i64 x178000_2,.int .i64 x178001_2] 35 (0,0)) (by(with_reducible repeat(first|apply ag|apply aj|apply af));exact BK177.out)):gb182≠gb177));replace BK177:=au (ay (g:=gb177) (o:=.cells #[.int .i64 x178000_2,.int .i64 x178001_2] 35 (0,0)) (by(with_reducible repeat(first|apply ag|apply aj|apply af));exact BK177.out) hb);have NB178_182:=au ((by rw[hg];exact Nat.ne_of_lt (aG (g:=gb178) (o:=.cells #[.int .i64 x179000_2,.slice none 0 0,.slice none 0 0] 24 (0,0)) (by(with_reducible repeat(first|apply ag|apply aj|apply af));exact BK178.out)):gb178≠gb182));have NB182_178:=au ((by rw[hg];exact Nat.ne_of_gt (aG (g:=gb178) (o:=.cells #[.int .i64 x179000_2,.slice none 0 0,.slice none 0 0] 24 (0,0)) (by(with_reducible repeat(first|apply ag|apply aj|apply af));exact BK178.out)):gb182≠gb178));replace BK178:=au (ay (g:=gb178) (o:=.cells #[.int .i64 x179000_2,.slice none 0 0,.slice none 0 0] 24 (0,0)) (by(with_reducible repeat(first|apply ag|apply aj|apply af));exact BK178.out) hb);clear hb hbox hg;have hnb79:=NB182_176.out;have hnc79:=NB176_182.out;have hnb80:=NB182_177.out;have hnc80:=NB177_182.out;have hnb81:=NB182_178.out;have hnc81:=NB178_182.out;have hcz82_0:w78.cell? ⟨gb182,0,none⟩=some (.int .i64 0):=(ak BK182.out 0).trans rfl;have hcz82_1:w78.cell? ⟨gb182,1,none⟩=some (.int .i64 0):=(ak BK182.out 1).trans rfl;have hfz82_0:=av BK182.out 0;have hfz82_1:=av BK182.out 1;have hnb83:=NB177_176.out;have hnc83:=NB176_177.out;have hnb84:=NB177_178.out;have hnc84:=NB178_177.out;have hcz85_0:w78.cell? ⟨gb177,0,none⟩=some (.int .i64 x178000_2):=(ak BK177.out 0).trans rfl;have hcz85_1:w78.cell? ⟨gb177,1,none⟩=some (.int .i64 x178001_2):=(ak BK177.out 1).trans rfl;have hfz85_0:=av BK177.out 0;have hfz85_1:=av BK177.out 1))
             go_roundg k2
             case measure=>have:=HJ2.out;have:=HK2.out;omega
             case rel=>exact⟨(x6_2),(x7_2),(wrap64 (x25_2+1)),(x178000_2),(wrap64 (x178001_2 + ((ax l0_1 x25_2).f1))),(x179000_2),(by first|rfl|(simp;done)|(simp[*];done)),(by first|rfl|(simp;done)|(simp[*];done)),H',⟨by have:=HJ2.out;have:=HK2.out;omega⟩,⟨by(with_reducible repeat(first|apply Kd.aD|apply Kd.aC|apply Kd.aJ));exact Kd.aY (Kd.aU (p:=⟨gb177,1,none⟩) (Kd.aU (p:=⟨gb182,1,none⟩) (Kd.aU (p:=⟨gb182,0,none⟩) (Kd.aY (Kd.aY HO_6.out (fun k_ hk=>(⟨hk,hk.2⟩:_∧k_≠gb182))) (fun k_ hk=>(⟨hk,hk.1.1⟩:_∧k_≠gb177))) (fun _ hk=>hk.1.2) (.int .i64 ((ax l0_1 x25_2).f0))) (fun _ hk=>hk.1.2) (.int .i64 ((ax l0_1 x25_2).f1))) (fun _ hk=>hk.2) (.int .i64 (wrap64 (x178001_2 + ((ax l0_1 x25_2).f1))))) (fun _ hk=>hk.1.1.1)⟩,⟨by(with_reducible repeat(first|apply ag|apply aj|apply af));refine aH ?_ NB176_177.out _;(with_reducible repeat(first|apply ag|apply aj|apply af));refine aH ?_ NB176_182.out _;(with_reducible repeat(first|apply ag|apply aj|apply af));refine aH ?_ NB176_182.out _;(with_reducible repeat(first|apply ag|apply aj|apply af));exact BK176.out⟩,⟨by(with_reducible repeat(first|apply ag|apply aj|apply af));refine aK (cs:=#[.int .i64 x178000_2,.int .i64 x178001_2]) ?_ 1 _ rfl;(with_reducible repeat(first|apply ag|apply aj|apply af));refine aH ?_ NB177_182.out _;(with_reducible repeat(first|apply ag|apply aj|apply af));refine aH ?_ NB177_182.out _;(with_reducible repeat(first|apply ag|apply aj|apply af));exact BK177.out⟩,⟨by(with_reducible repeat(first|apply ag|apply aj|apply af));refine aH ?_ NB178_177.out _;(with_reducible repeat(first|apply ag|apply aj|apply af));refine aH ?_ NB178_182.out _;(with_reducible repeat(first|apply ag|apply aj|apply af));refine aH ?_ NB178_182.out _;(with_reducible repeat(first|apply ag|apply aj|apply af));exact BK178.out⟩,⟨by with_reducible repeat(first|exact HB.out|apply ah|apply aa|apply ai|refine ae ?_ GE176.out|refine ae ?_ GE177.out|refine ae ?_ GE178.out|refine ae ?_ GE182.out)⟩⟩
            ·rw[if_neg c77] at H
             have c77b0:(((ax l0_1 x25_2).f0) == (wrap64 (x178000_2+x178001_2)))=false:=beq_eq_false_iff_ne.mpr c77
             have c77b1:(((ax l0_1 x25_2).f0) != (wrap64 (x178000_2+x178001_2)))=true:=bne_iff_ne.mpr c77
             simp only[Option.some.injEq,Prod.mk.injEq] at H
             obtain⟨rfl,rfl,rfl,rfl⟩:=H
             have p181:0≤(x25_2:Int):=of_decide_eq_true (by assumption)
             have q181:x25_2 < (l0_1.length:Int):=of_decide_eq_true (by assumption)
             obtain⟨ad181,e181,hx181_0,hx181_1⟩:=bE HR0_1.out x25_2 p181 q181
             cases e181
             replace hx181_0:=(HB.out.cell (World.block_lt_of_cell? w _ hx181_0)).trans hx181_0
             replace hx181_1:=(HB.out.cell (World.block_lt_of_cell? w _ hx181_1)).trans hx181_1
             replace p181:=eq_true p181
             replace q181:=eq_true q181
             go_wp2_with (first|((with_reducible refine aM (N:=9) rfl ?_);refine aI ?hg (N:=9) ?hd (cs:=#[.int .i64 0,.int .i64 0]) (t:=35) ?hr ?_;(case hd=>rfl);(case hg=>rfl);(case hr=>first|(go_simp;done)|(go_simp;rfl));intro gb182 hg w86 hbox hb;replace HO_6:=au (Kd.bu (Kd.gD (by(with_reducible repeat(first|apply Kd.aD|apply Kd.aC|apply Kd.aJ));exact HO_6.out) gb182 (Nat.le_of_eq hg.symm)) hb);have BK182:=au (hbox);have GW182:=au ((by rw[hg];exact(az (by with_reducible repeat(first|exact HB.out|apply ah|apply aa|apply ai|refine ae ?_ GE176.out|refine ae ?_ GE177.out|refine ae ?_ GE178.out))):w.heap.size≤gb182));have GE182:=au ((by rw[hg];exact(az (by with_reducible repeat(first|exact HB.out|apply ah|apply aa|apply ai|refine ae ?_ GE176.out|refine ae ?_ GE177.out|refine ae ?_ GE178.out))):w.heap.size≤gb182));replace HB:=au (aA (by with_reducible repeat(first|exact HB.out|apply ah|apply aa|apply ai|refine ae ?_ GE176.out|refine ae ?_ GE177.out|refine ae ?_ GE178.out)) hb);have NB176_182:=au ((by rw[hg];exact Nat.ne_of_lt (aG (g:=gb176) (o:=.cells #[.int .i64 a0_0,.slice (some ad181) l0_1.length c0_1,.slice A0_2 l0_2.length c0_2] 24 (0,0)) (by(with_reducible repeat(first|apply ag|apply aj|apply af));exact BK176.out)):gb176≠gb182));have NB182_176:=au ((by rw[hg];exact Nat.ne_of_gt (aG (g:=gb176) (o:=.cells #[.int .i64 a0_0,.slice (some ad181) l0_1.length c0_1,.slice A0_2 l0_2.length c0_2] 24 (0,0)) (by(with_reducible repeat(first|apply ag|apply aj|apply af));exact BK176.out)):gb182≠gb176));replace BK176:=au (ay (g:=gb176) (o:=.cells #[.int .i64 a0_0,.slice (some ad181) l0_1.length c0_1,.slice A0_2 l0_2.length c0_2] 24 (0,0)) (by(with_reducible repeat(first|apply ag|apply aj|apply af));exact BK176.out) hb);have NB177_182:=au ((by rw[hg];exact Nat.ne_of_lt (aG (g:=gb177) (o:=.cells #[.int .i64 x178000_2,.int .i64 x178001_2] 35 (0,0)) (by(with_reducible repeat(first|apply ag|apply aj|apply af));exact BK177.out)):gb177≠gb182));have NB182_177:=au ((by rw[hg];exact Nat.ne_of_gt (aG (g:=gb177) (o:=.cells #[.int .i64 x178000_2,.int .i64 x178001_2] 35 (0,0)) (by(with_reducible repeat(first|apply ag|apply aj|apply af));exact BK177.out)):gb182≠gb177));replace BK177:=au (ay (g:=gb177) (o:=.cells #[.int .i64 x178000_2,.int .i64 x178001_2] 35 (0,0)) (by(with_reducible repeat(first|apply ag|apply aj|apply af));exact BK177.out) hb);have NB178_182:=au ((by rw[hg];exact Nat.ne_of_lt (aG (g:=gb178) (o:=.cells #[.int .i64 x179000_2,.slice none 0 0,.slice none 0 0] 24 (0,0)) (by(with_reducible repeat(first|apply ag|apply aj|apply af));exact BK178.out)):gb178≠gb182));have NB182_178:=au ((by rw[hg];exact Nat.ne_of_gt (aG (g:=gb178) (o:=.cells #[.int .i64 x179000_2,.slice none 0 0,.slice none 0 0] 24 (0,0)) (by(with_reducible repeat(first|apply ag|apply aj|apply af));exact BK178.out)):gb182≠gb178));replace BK178:=au (ay (g:=gb178) (o:=.cells #[.int .i64 x179000_2,.slice none 0 0,.slice none 0 0] 24 (0,0)) (by(with_reducible repeat(first|apply ag|apply aj|apply af));exact BK178.out) hb);clear hb hbox hg;have hnb87:=NB182_176.out;have hnc87:=NB176_182.out;have hnb88:=NB182_177.out;have hnc88:=NB177_182.out;have hnb89:=NB182_178.out;have hnc89:=NB178_182.out;have hcz90_0:w86.cell? ⟨gb182,0,none⟩=some (.int .i64 0):=(ak BK182.out 0).trans rfl;have hcz90_1:w86.cell? ⟨gb182,1,none⟩=some (.int .i64 0):=(ak BK182.out 1).trans rfl;have hfz90_0:=av BK182.out 0;have hfz90_1:=av BK182.out 1;have hnb91:=NB177_176.out;have hnc91:=NB176_177.out;have hnb92:=NB177_178.out;have hnc92:=NB178_177.out;have hcz93_0:w86.cell? ⟨gb177,0,none⟩=some (.int .i64 x178000_2):=(ak BK177.out 0).trans rfl;have hcz93_1:w86.cell? ⟨gb177,1,none⟩=some (.int .i64 x178001_2):=(ak BK177.out 1).trans rfl;have hfz93_0:=av BK177.out 0;have hfz93_1:=av BK177.out 1;have hnb94:=NB178_176.out;have hnc94:=NB176_178.out;have hcz95_0:w86.cell? ⟨gb178,0,none⟩=some (.int .i64 x179000_2):=(ak BK178.out 0).trans rfl;have hcz95_1:w86.cell? ⟨gb178,1,none⟩=some (.slice none 0 0):=(ak BK178.out 1).trans rfl;have hcz95_2:w86.cell? ⟨gb178,2,none⟩=some (.slice none 0 0):=(ak BK178.out 2).trans rfl;have hfz95_0:=av BK178.out 0;have hfz95_1:=av BK178.out 1;have hfz95_2:=av BK178.out 2))
             refine bodyPost_ret (cK rfl _ _ gb178 24 #[.int .i64 0,.slice none 0 0,.slice none 0 0] (0,0) _ rfl (by(with_reducible repeat(first|apply ag|apply aj|apply af));refine aK (cs:=#[.int .i64 0,.slice none 0 0,.slice none 0 0]) ?_ 2 _ rfl;(with_reducible repeat(first|apply ag|apply aj|apply af));refine aK (cs:=#[.int .i64 0,.slice none 0 0,.slice none 0 0]) ?_ 1 _ rfl;(with_reducible repeat(first|apply ag|apply aj|apply af));refine aK (cs:=#[.int .i64 x179000_2,.slice none 0 0,.slice none 0 0]) ?_ 0 _ rfl;(with_reducible repeat(first|apply ag|apply aj|apply af));refine aH ?_ NB178_182.out _;(with_reducible repeat(first|apply ag|apply aj|apply af));refine aH ?_ NB178_182.out _;(with_reducible repeat(first|apply ag|apply aj|apply af));exact BK178.out) Try.underlying24 rfl (by kernel_rfl)) rfl ?_
             exact⟨_,_,by first|rfl|(simp <;> rfl)|(simp[*] <;> rfl),by first|exact Kd.df _ _ _ _ _|exact Kd.dL _ _ _ _ _|exact Kd.dM _ _ _ _ _|exact Kd.dK _ _ _ _ _|exact Kd.dJ _ _ _ _ _,by first|exact Kd.df _ _ _ _ _|exact Kd.dL _ _ _ _ _|exact Kd.dM _ _ _ _ _|exact Kd.dK _ _ _ _ _|exact Kd.dJ _ _ _ _ _,by with_reducible repeat(first|exact HB.out|apply ah|apply aa|apply ai|refine ae ?_ GE176.out|refine ae ?_ GE177.out|refine ae ?_ GE178.out|refine ae ?_ GE182.out)⟩
        ·rw[if_neg c31] at H
         exact absurd H (by simp)
       ·rw[if_neg c30] at H
        exact absurd H (by simp)
      ·rw [if_neg c29] at H
       have c29b0:decide (x25_2 < (l0_1.length:Int))=false:=decide_eq_false c29
       clear c29
       have HC96:=au H
       clear H
       go_upto_if 96 with(fail)
       go_cut [6] (fun v6 wc=>∃ (kq:Nat) (x6_95:List (S35)),Aside0 (spec_GiveRoom.j2 kq x6_95 a0_0 l0_1 l0_2=some (r1,r2,r3,r4))∧Aside0 (kq≤k2)∧Aside0 (Kd.R k35 35 wc w.heap.size (fun k_=>k_≠gb177) v6 x6_95)∧Aside0 (wc.heap[gb176]? = some (.cells #[.int .i64 a0_0,(.slice A0_1 l0_1.length c0_1),(.slice A0_2 l0_2.length c0_2)] 24 (0,0)))∧Aside0 (wc.heap[gb177]? = some (.cells #[.int .i64 x178000_2,.int .i64 x178001_2] 35 (0,0)))∧Aside0 (wc.heap[gb178]? = some (.cells #[.int .i64 x179000_2,(.slice none 0 0),(.slice none 0 0)] 24 (0,0)))∧Aside0 (Below w.heap.size w wc))
       case first=>
        have H:=HC96.out
        clear HC96
        by_cases c97:x7_2=true
        ·subst c97
         have H1:(spec_GiveRoom.j2 k2 x6_2 a0_0 l0_1 l0_2)=some (r1,r2,r3,r4):=by rw[if_pos rfl] at H;exact H
         clear H
         have H:=H1
         clear H1
         have H':=au H
         clear H
         go_wp2
         go_meet
         case rel=>exact⟨_,(x6_2),H',⟨by have:=HJ2.out;have:=HK2.out;first|omega|exact Nat.le_refl _⟩,⟨by(with_reducible repeat(first|apply Kd.aD|apply Kd.aC|apply Kd.aJ));exact HO_6.out⟩,⟨by(with_reducible repeat(first|apply ag|apply aj|apply af));exact BK176.out⟩,⟨by(with_reducible repeat(first|apply ag|apply aj|apply af));exact BK177.out⟩,⟨by(with_reducible repeat(first|apply ag|apply aj|apply af));exact BK178.out⟩,⟨by with_reducible repeat(first|exact HB.out|apply ah|apply aa|apply ai|refine ae ?_ GE176.out|refine ae ?_ GE177.out|refine ae ?_ GE178.out)⟩⟩
        ·replace c97:=Bool.eq_false_iff.mpr c97
         subst c97
         have H1:(if x6_2.length<8796093022208 then (spec_GiveRoom.j2 k2 (x6_2++[(⟨x178000_2,x178001_2⟩:S35)]) a0_0 l0_1 l0_2) else (none))=some (r1,r2,r3,r4):=by rw[if_neg (show ¬ (false=true) by decide)] at H;exact H
         clear H
         have H:=H1
         clear H1
         by_cases c98:x6_2.length<8796093022208
         ·rw[if_pos c98] at H
          have LMc98:=au c98
          clear c98
          obtain⟨y195,hy195⟩:∃ y_:List (S35),y_ = (x6_2++[(⟨x178000_2,x178001_2⟩:S35)]):=⟨_,rfl⟩
          replace H:(spec_GiveRoom.j2 k2 y195 a0_0 l0_1 l0_2)=some (r1,r2,r3,r4):=by first|(rw[hy195];with_reducible exact H)|(have H2_:=(Option.bind_some _ _).symm.trans H;rw[hy195];with_reducible exact H2_)|(have H2_:=(Option.bind_some _ _).symm.trans H;with_reducible exact H2_)|with_reducible exact H|(rw[hy195];exact H)|exact H
          have Ny195:=au hy195
          clear hy195
          have H':=au H
          clear H
          have hnb99:=NB177_176.out
          have hnc99:=NB176_177.out
          have hnb100:=NB177_178.out
          have hnc100:=NB178_177.out
          have hcz101_0:wr.cell? ⟨gb177,0,none⟩=some (.int .i64 x178000_2):=(ak BK177.out 0).trans rfl
          have hcz101_1:wr.cell? ⟨gb177,1,none⟩=some (.int .i64 x178001_2):=(ak BK177.out 1).trans rfl
          have hfz101_0:=av BK177.out 0
          have hfz101_1:=av BK177.out 1
          go_wp2_with (first|((with_reducible refine bB (b:=.append) (xs:=#[.tmp 97,.tmp 99]) rfl ?_);at_builtin;refine Kd.ek k35 (w0:=w) w.heap.size rfl (.tmp 97) (.tmp 99) 22 35 (.agg #[(.int .i64 0),(.int .i64 0)]) 16 rfl Try.underlying22 cz rfl (by decide) (by omega) u6 x6_2 (⟨x178000_2,x178001_2⟩:S35) [.int .i64 x178000_2,.int .i64 x178001_2] (fun k_=>k_≠gb177) (fun _=>False) rfl rfl ?aP (fun _ hk=>hk.elim) ?aF ?aO ?aB ?aS ?aL ?_;(case aP=>exact eY _ _ _ (⟨x178000_2,x178001_2⟩:S35));(case aB=>exact(by with_reducible repeat(first|exact HB.out|apply ah|apply aa|apply ai|refine ae ?_ GE176.out|refine ae ?_ GE177.out|refine ae ?_ GE178.out)));(case aF=>exact(fun k_ hk=>Kd.cB (g:=gb177) (o:=.cells #[.int .i64 x178000_2,.int .i64 x178001_2] 35 (0,0)) (by(with_reducible repeat(first|apply ag|apply aj|apply af));exact BK177.out) k_ hk));(case aO=>exact(by(with_reducible repeat(first|apply Kd.aD|apply Kd.aC|apply Kd.aJ));exact HO_6.out));(case aS=>exact(az (by with_reducible repeat(first|exact HB.out|apply ah|apply aa|apply ai|refine ae ?_ GE176.out|refine ae ?_ GE177.out|refine ae ?_ GE178.out))));(case aL=>have:=LMc98.out;omega);intro v196 w102 ho hb hg hat;rw[← Ny195.out] at ho;replace BK176:=au (bn (g:=gb176) (o:=.cells #[.int .i64 a0_0,.slice A0_1 l0_1.length c0_1,.slice A0_2 l0_2.length c0_2] 24 (0,0)) (by(with_reducible repeat(first|apply ag|apply aj|apply af));exact BK176.out) hg (Kd.gZ HO_6.out BK176.out (by decide)));replace BK177:=au (bn (g:=gb177) (o:=.cells #[.int .i64 x178000_2,.int .i64 x178001_2] 35 (0,0)) (by(with_reducible repeat(first|apply ag|apply aj|apply af));exact BK177.out) hg (Kd.dA HO_6.out (fun _ hk=>hk)));replace BK178:=au (bn (g:=gb178) (o:=.cells #[.int .i64 x179000_2,.slice none 0 0,.slice none 0 0] 24 (0,0)) (by(with_reducible repeat(first|apply ag|apply aj|apply af));exact BK178.out) hg (Kd.gZ HO_6.out BK178.out (by decide)));replace HB:=au (hb);have HO197:=au (ho);clear HO_6;clear ho hb hg hat))
          go_meet
          case rel=>exact⟨_,(y195),H',⟨by have:=HJ2.out;have:=HK2.out;first|omega|exact Nat.le_refl _⟩,⟨by(with_reducible repeat(first|apply Kd.aD|apply Kd.aC|apply Kd.aJ));exact HO197.out⟩,⟨by(with_reducible repeat(first|apply ag|apply aj|apply af));exact BK176.out⟩,⟨by(with_reducible repeat(first|apply ag|apply aj|apply af));exact BK177.out⟩,⟨by(with_reducible repeat(first|apply ag|apply aj|apply af));exact BK178.out⟩,⟨by with_reducible repeat(first|exact HB.out|apply ah|apply aa|apply ai|refine ae ?_ GE176.out|refine ae ?_ GE177.out|refine ae ?_ GE178.out)⟩⟩
         ·rw[if_neg c98] at H
          exact absurd H (by simp)
       case rest=>
        clear HC96
        try clear c1
        try clear p1
        try clear q1
        try clear hx1
        try clear c2
        try clear p2
        try clear c3
        try clear c4
        try clear c5
        try clear c6
        try clear p6
        try clear c7
        try clear c8
        try clear c9
        try clear c10
        try clear c11
        try clear c14
        try clear c18
        try clear p18
        try clear q18
        try clear hx18
        try clear c19
        try clear c22
        try clear c23
        try clear c24
        try clear c25
        try clear c26
        try clear c27
        try clear c29
        try clear c29b0
        try clear c30
        try clear c30b0
        try clear c31
        try clear c31b0
        try clear c32
        try clear c32b0
        try clear c33
        try clear c35
        try clear c36
        try clear c37
        try clear c39
        try clear c40
        try clear c43
        try clear c43b0
        try clear c44
        try clear c45
        try clear c47
        try clear c48
        try clear c49
        try clear c51
        try clear c52
        try clear c55
        try clear c56
        try clear c58
        try clear c59
        try clear c60
        try clear c62
        try clear c63
        try clear p64
        try clear c68
        try clear c68b0
        try clear c68b1
        try clear c70
        try clear c71
        try clear c72
        try clear c74
        try clear c75
        try clear c77
        try clear c77b0
        try clear c77b1
        try clear c79
        try clear c80
        try clear c81
        try clear c83
        try clear c84
        try clear c87
        try clear c88
        try clear c89
        try clear c91
        try clear c92
        try clear c94
        try clear c97
        try clear c98
        try clear c99
        try clear c100
        try clear hcz101_0
        try clear hcz101_1
        try clear hcz12_0
        try clear hcz12_1
        try clear hcz12_2
        try clear hcz15_0
        try clear hcz15_1
        try clear hcz16_0
        try clear hcz16_1
        try clear hcz16_2
        try clear hcz20_0
        try clear hcz20_1
        try clear hcz20_2
        try clear hcz25_0
        try clear hcz25_1
        try clear hcz25_2
        try clear hcz28_0
        try clear hcz28_1
        try clear hcz28_2
        try clear hcz38_0
        try clear hcz38_1
        try clear hcz41_0
        try clear hcz41_1
        try clear hcz50_0
        try clear hcz50_1
        try clear hcz53_0
        try clear hcz53_1
        try clear hcz61_0
        try clear hcz61_1
        try clear hcz64_0
        try clear hcz64_1
        try clear hcz66_0
        try clear hcz66_1
        try clear hcz73_0
        try clear hcz73_1
        try clear hcz76_0
        try clear hcz76_1
        try clear hcz82_0
        try clear hcz82_1
        try clear hcz85_0
        try clear hcz85_1
        try clear hcz90_0
        try clear hcz90_1
        try clear hcz93_0
        try clear hcz93_1
        try clear hcz95_0
        try clear hcz95_1
        try clear hcz95_2
        try clear hfz101_0
        try clear hfz101_1
        try clear hfz12_0
        try clear hfz12_1
        try clear hfz12_2
        try clear hfz15_0
        try clear hfz15_1
        try clear hfz16_0
        try clear hfz16_1
        try clear hfz16_2
        try clear hfz20_0
        try clear hfz20_1
        try clear hfz20_2
        try clear hfz25_0
        try clear hfz25_1
        try clear hfz25_2
        try clear hfz28_0
        try clear hfz28_1
        try clear hfz28_2
        try clear hfz38_0
        try clear hfz38_1
        try clear hfz41_0
        try clear hfz41_1
        try clear hfz50_0
        try clear hfz50_1
        try clear hfz53_0
        try clear hfz53_1
        try clear hfz61_0
        try clear hfz61_1
        try clear hfz64_0
        try clear hfz64_1
        try clear hfz66_0
        try clear hfz66_1
        try clear hfz73_0
        try clear hfz73_1
        try clear hfz76_0
        try clear hfz76_1
        try clear hfz82_0
        try clear hfz82_1
        try clear hfz85_0
        try clear hfz85_1
        try clear hfz90_0
        try clear hfz90_1
        try clear hfz93_0
        try clear hfz93_1
        try clear hfz95_0
        try clear hfz95_1
        try clear hfz95_2
        try clear hx181_0
        try clear hx181_1
        try clear p181
        try clear p2
        try clear q181
        obtain⟨kq,x6_95,HA,HJ95,HO_6,BK176,BK177,BK178,HB⟩:=hcut
        cases kq with
        | zero=>exact absurd HA.out (by simp[spec_GiveRoom.j2])
        | succ kj95=>
         have H:=HA.out
         clear HA
         simp only[spec_GiveRoom.j2] at H
         replace H:=Option.bind_eq_some_iff.mp H
         obtain⟨⟨t198,t199,t202⟩,A1030,H⟩:=H
         replace H:((spec_GoodFree.f kj95 t198 t199 t202).bind fun t206=>(if t206=true then (some (t198,t199,t202,true)) else (some (0,([]:List (S35)),([]:List (S35)),false))))=some (r1,r2,r3,r4):=H
         have A103:=au A1030
         clear A1030
         replace H:=Option.bind_eq_some_iff.mp H
         obtain⟨t206,A1040,H⟩:=H
         replace H:(if t206=true then (some (t198,t199,t202,true)) else (some (0,([]:List (S35)),([]:List (S35)),false)))=some (r1,r2,r3,r4):=H
         have A104:=au A1040
         clear A1040
         by_cases c105:t206=true
         ·subst c105
          have H1:(some (t198,t199,t202,true))=some (r1,r2,r3,r4):=by rw[if_pos rfl] at H;exact H
          clear H
          have H:=H1
          clear H1
          simp only[Option.some.injEq,Prod.mk.injEq] at H
          obtain⟨rfl,rfl,rfl,rfl⟩:=H
          have hnb106:=NB176_177.out
          have hnc106:=NB177_176.out
          have hnb107:=NB176_178.out
          have hnc107:=NB178_176.out
          have hcz108_0:wc.cell? ⟨gb176,0,none⟩=some (.int .i64 a0_0):=(ak BK176.out 0).trans rfl
          have hcz108_1:wc.cell? ⟨gb176,1,none⟩=some (.slice A0_1 l0_1.length c0_1):=(ak BK176.out 1).trans rfl
          have hcz108_2:wc.cell? ⟨gb176,2,none⟩=some (.slice A0_2 l0_2.length c0_2):=(ak BK176.out 2).trans rfl
          have hfz108_0:=av BK176.out 0
          have hfz108_1:=av BK176.out 1
          have hfz108_2:=av BK176.out 2
          obtain⟨Ao109,co109,eo109⟩:=Kd.bq HO_6.out
          subst eo109
          go_wp2_with (first|((with_reducible refine aT (f:=33) rfl ?_);refine bK (some 104) rfl rfl Try.func33 (by kernel_rfl) rfl #[.int .i64 a0_0,.slice Ao109 x6_95.length co109] rfl (by(try simp only[amp_]);first|done|rfl|(simp only[ald_];rfl)) ?_;(with_reducible refine(spec_l5Of.calls kj95 a0_0 _ _ x6_95 t198 t199 t202 _ ?side1 ?side2 A103.out).mono ?_);(case side1=>repeat(first|exact(Kd.R_reads' HO_6.out).2.2|(with_reducible first|apply Kd.aV|apply Kd.aW|apply Kd.bf)));(case side2=>exact(Kd.R_reads' HO_6.out).2.1);rintro e w110 ⟨v200,v203,rfl,ho0,ho1,hb⟩;refine⟨_,rfl,?_⟩;have HO201:=au (Kd.bC (Kd.dI (Kd.R_new' ho0 (Kd.fB (by(with_reducible repeat(first|apply Kd.aD|apply Kd.aC|apply Kd.aJ));exact HO_6.out))) (g:=gb177) (o:=.cells #[.int .i64 x178000_2,.int .i64 x178001_2] 35 (0,0)) (by(with_reducible repeat(first|apply ag|apply aj|apply af));exact BK177.out)) (az (by with_reducible repeat(first|exact HB.out|apply ah|apply aa|apply ai|refine ae ?_ GE176.out|refine ae ?_ GE177.out|refine ae ?_ GE178.out))));have HO204:=au (Kd.bC (Kd.dI (Kd.R_new' ho1 (Kd.fB (by(with_reducible repeat(first|apply Kd.aD|apply Kd.aC|apply Kd.aJ));exact HO_6.out))) (g:=gb177) (o:=.cells #[.int .i64 x178000_2,.int .i64 x178001_2] 35 (0,0)) (by(with_reducible repeat(first|apply ag|apply aj|apply af));exact BK177.out)) (az (by with_reducible repeat(first|exact HB.out|apply ah|apply aa|apply ai|refine ae ?_ GE176.out|refine ae ?_ GE177.out|refine ae ?_ GE178.out))));replace HO_6:=au (Kd.aY (Kd.ed (Kd.ed (Kd.iV (by(with_reducible repeat(first|apply Kd.aD|apply Kd.aC|apply Kd.aJ));exact HO_6.out) hb) (Kd.dP ho0)) (Kd.dP ho1)) (fun _ h_=>h_.1));replace BK176:=au (ay (g:=gb176) (o:=.cells #[.int .i64 a0_0,.slice A0_1 l0_1.length c0_1,.slice A0_2 l0_2.length c0_2] 24 (0,0)) (by(with_reducible repeat(first|apply ag|apply aj|apply af));exact BK176.out) hb);replace BK177:=au (ay (g:=gb177) (o:=.cells #[.int .i64 x178000_2,.int .i64 x178001_2] 35 (0,0)) (by(with_reducible repeat(first|apply ag|apply aj|apply af));exact BK177.out) hb);replace BK178:=au (ay (g:=gb178) (o:=.cells #[.int .i64 x179000_2,.slice none 0 0,.slice none 0 0] 24 (0,0)) (by(with_reducible repeat(first|apply ag|apply aj|apply af));exact BK178.out) hb);replace HB:=au (aA (by with_reducible repeat(first|exact HB.out|apply ah|apply aa|apply ai|refine ae ?_ GE176.out|refine ae ?_ GE177.out|refine ae ?_ GE178.out)) hb);(try clear hb);(try clear hb2);(try clear hk);(try clear hi);(try clear ho0);(try clear ho1))|((with_reducible refine aM (N:=10) rfl ?_);refine aI ?hg (N:=10) ?hd (cs:=#[.int .i64 0,.slice none 0 0,.slice none 0 0]) (t:=24) ?hr ?_;(case hd=>rfl);(case hg=>rfl);(case hr=>first|(go_simp;done)|(go_simp;rfl));intro gb205 hg w111 hbox hb;replace HO_6:=au (Kd.bu (by(with_reducible repeat(first|apply Kd.aD|apply Kd.aC|apply Kd.aJ));exact HO_6.out) hb);replace HO201:=au (Kd.bu (by(with_reducible repeat(first|apply Kd.aD|apply Kd.aC|apply Kd.aJ));exact HO201.out) hb);replace HO204:=au (Kd.bu (by(with_reducible repeat(first|apply Kd.aD|apply Kd.aC|apply Kd.aJ));exact HO204.out) hb);have BK205:=au (hbox);have GW205:=au ((by rw[hg];exact(az (by with_reducible repeat(first|exact HB.out|apply ah|apply aa|apply ai|refine ae ?_ GE176.out|refine ae ?_ GE177.out|refine ae ?_ GE178.out))):w.heap.size≤gb205));have GE205:=au ((by rw[hg];exact(az (by with_reducible repeat(first|exact HB.out|apply ah|apply aa|apply ai|refine ae ?_ GE176.out|refine ae ?_ GE177.out|refine ae ?_ GE178.out))):w.heap.size≤gb205));replace HB:=au (aA (by with_reducible repeat(first|exact HB.out|apply ah|apply aa|apply ai|refine ae ?_ GE176.out|refine ae ?_ GE177.out|refine ae ?_ GE178.out)) hb);have NB176_205:=au ((by rw[hg];exact Nat.ne_of_lt (aG (g:=gb176) (o:=.cells #[.int .i64 a0_0,.slice A0_1 l0_1.length c0_1,.slice A0_2 l0_2.length c0_2] 24 (0,0)) (by(with_reducible repeat(first|apply ag|apply aj|apply af));exact BK176.out)):gb176≠gb205));have NB205_176:=au ((by rw[hg];exact Nat.ne_of_gt (aG (g:=gb176) (o:=.cells #[.int .i64 a0_0,.slice A0_1 l0_1.length c0_1,.slice A0_2 l0_2.length c0_2] 24 (0,0)) (by(with_reducible repeat(first|apply ag|apply aj|apply af));exact BK176.out)):gb205≠gb176));replace BK176:=au (ay (g:=gb176) (o:=.cells #[.int .i64 a0_0,.slice A0_1 l0_1.length c0_1,.slice A0_2 l0_2.length c0_2] 24 (0,0)) (by(with_reducible repeat(first|apply ag|apply aj|apply af));exact BK176.out) hb);have NB177_205:=au ((by rw[hg];exact Nat.ne_of_lt (aG (g:=gb177) (o:=.cells #[.int .i64 x178000_2,.int .i64 x178001_2] 35 (0,0)) (by(with_reducible repeat(first|apply ag|apply aj|apply af));exact BK177.out)):gb177≠gb205));have NB205_177:=au ((by rw[hg];exact Nat.ne_of_gt (aG (g:=gb177) (o:=.cells #[.int .i64 x178000_2,.int .i64 x178001_2] 35 (0,0)) (by(with_reducible repeat(first|apply ag|apply aj|apply af));exact BK177.out)):gb205≠gb177));replace BK177:=au (ay (g:=gb177) (o:=.cells #[.int .i64 x178000_2,.int .i64 x178001_2] 35 (0,0)) (by(with_reducible repeat(first|apply ag|apply aj|apply af));exact BK177.out) hb);have NB178_205:=au ((by rw[hg];exact Nat.ne_of_lt (aG (g:=gb178) (o:=.cells #[.int .i64 x179000_2,.slice none 0 0,.slice none 0 0] 24 (0,0)) (by(with_reducible repeat(first|apply ag|apply aj|apply af));exact BK178.out)):gb178≠gb205));have NB205_178:=au ((by rw[hg];exact Nat.ne_of_gt (aG (g:=gb178) (o:=.cells #[.int .i64 x179000_2,.slice none 0 0,.slice none 0 0] 24 (0,0)) (by(with_reducible repeat(first|apply ag|apply aj|apply af));exact BK178.out)):gb205≠gb178));replace BK178:=au (ay (g:=gb178) (o:=.cells #[.int .i64 x179000_2,.slice none 0 0,.slice none 0 0] 24 (0,0)) (by(with_reducible repeat(first|apply ag|apply aj|apply af));exact BK178.out) hb);clear hb hbox hg;have hnb112:=NB205_176.out;have hnc112:=NB176_205.out;have hnb113:=NB205_177.out;have hnc113:=NB177_205.out;have hnb114:=NB205_178.out;have hnc114:=NB178_205.out;have hcz115_0:w111.cell? ⟨gb205,0,none⟩=some (.int .i64 0):=(ak BK205.out 0).trans rfl;have hcz115_1:w111.cell? ⟨gb205,1,none⟩=some (.slice none 0 0):=(ak BK205.out 1).trans rfl;have hcz115_2:w111.cell? ⟨gb205,2,none⟩=some (.slice none 0 0):=(ak BK205.out 2).trans rfl;have hfz115_0:=av BK205.out 0;have hfz115_1:=av BK205.out 1;have hfz115_2:=av BK205.out 2;obtain⟨Ao116,co116,eo116⟩:=Kd.bq HO201.out;subst eo116;obtain⟨Ao117,co117,eo117⟩:=Kd.bq HO204.out;subst eo117)|((with_reducible refine aT (f:=25) rfl ?_);refine bK (some 106) rfl rfl Try.func25 (by kernel_rfl) rfl #[.agg #[.int .i64 t198,.slice Ao116 t199.length co116,.slice Ao117 t202.length co117]] rfl (by(try simp only[amp_]);first|done|rfl|(simp only[ald_];rfl)) ?_;(with_reducible refine(spec_GoodFree.calls kj95 t198 _ _ t199 _ _ t202 true _ ?side1 ?side2 ?side3 ?side4 A104.out).mono ?_);(case side1=>refine(Kd.R_reads' (e:=35) (base:=w.heap.size) (ok:=fun k_=>((some k_≠(.slice Ao117 t202.length co117:Value).ownBlock∧some k_≠(.slice Ao109 x6_95.length co109:Value).ownBlock)∧k_≠gb177)) (n:=t199.length) (c:=co116) ?_).2.2;exact(by(with_reducible repeat(first|apply Kd.aD|apply Kd.aC|apply Kd.aJ));exact(Kd.aY (Kd.aU (p:=⟨gb205,2,none⟩) (Kd.aU (p:=⟨gb205,1,none⟩) (Kd.aU (p:=⟨gb205,0,none⟩) (Kd.bG HO201.out BK205.out (by decide)) (fun _ hk=>hk.2) (.int .i64 t198)) (fun _ hk=>hk.2) (.slice Ao116 t199.length co116)) (fun _ hk=>hk.2) (.slice Ao117 t202.length co117)) (fun _ h_=>h_.1))));(case side2=>exact(Kd.R_reads' HO201.out).2.1);(case side3=>refine(Kd.R_reads' (e:=35) (base:=w.heap.size) (ok:=fun k_=>((some k_≠(.slice Ao116 t199.length co116:Value).ownBlock∧some k_≠(.slice Ao109 x6_95.length co109:Value).ownBlock)∧k_≠gb177)) (n:=t202.length) (c:=co117) ?_).2.2;exact(by(with_reducible repeat(first|apply Kd.aD|apply Kd.aC|apply Kd.aJ));exact(Kd.aY (Kd.aU (p:=⟨gb205,2,none⟩) (Kd.aU (p:=⟨gb205,1,none⟩) (Kd.aU (p:=⟨gb205,0,none⟩) (Kd.bG HO204.out BK205.out (by decide)) (fun _ hk=>hk.2) (.int .i64 t198)) (fun _ hk=>hk.2) (.slice Ao116 t199.length co116)) (fun _ hk=>hk.2) (.slice Ao117 t202.length co117)) (fun _ h_=>h_.1))));(case side4=>exact(Kd.R_reads' HO204.out).2.1);rintro e w118 ⟨rfl,hb⟩;refine⟨_,rfl,?_⟩;replace HO_6:=au (Kd.bu (by(with_reducible repeat(first|apply Kd.aD|apply Kd.aC|apply Kd.aJ));exact(Kd.aY (Kd.aU (p:=⟨gb205,2,none⟩) (Kd.aU (p:=⟨gb205,1,none⟩) (Kd.aU (p:=⟨gb205,0,none⟩) (Kd.bG HO_6.out BK205.out (by decide)) (fun _ hk=>hk.2) (.int .i64 t198)) (fun _ hk=>hk.2) (.slice Ao116 t199.length co116)) (fun _ hk=>hk.2) (.slice Ao117 t202.length co117)) (fun _ h_=>h_.1))) hb);replace HO201:=au (Kd.bu (by(with_reducible repeat(first|apply Kd.aD|apply Kd.aC|apply Kd.aJ));exact(Kd.aY (Kd.aU (p:=⟨gb205,2,none⟩) (Kd.aU (p:=⟨gb205,1,none⟩) (Kd.aU (p:=⟨gb205,0,none⟩) (Kd.bG HO201.out BK205.out (by decide)) (fun _ hk=>hk.2) (.int .i64 t198)) (fun _ hk=>hk.2) (.slice Ao116 t199.length co116)) (fun _ hk=>hk.2) (.slice Ao117 t202.length co117)) (fun _ h_=>h_.1))) hb);replace HO204:=au (Kd.bu (by(with_reducible repeat(first|apply Kd.aD|apply Kd.aC|apply Kd.aJ));exact(Kd.aY (Kd.aU (p:=⟨gb205,2,none⟩) (Kd.aU (p:=⟨gb205,1,none⟩) (Kd.aU (p:=⟨gb205,0,none⟩) (Kd.bG HO204.out BK205.out (by decide)) (fun _ hk=>hk.2) (.int .i64 t198)) (fun _ hk=>hk.2) (.slice Ao116 t199.length co116)) (fun _ hk=>hk.2) (.slice Ao117 t202.length co117)) (fun _ h_=>h_.1))) hb);replace BK176:=au (ay (g:=gb176) (o:=.cells #[.int .i64 a0_0,.slice A0_1 l0_1.length c0_1,.slice A0_2 l0_2.length c0_2] 24 (0,0)) (by(with_reducible repeat(first|apply ag|apply aj|apply af));refine aH ?_ NB176_205.out _;(with_reducible repeat(first|apply ag|apply aj|apply af));refine aH ?_ NB176_205.out _;(with_reducible repeat(first|apply ag|apply aj|apply af));refine aH ?_ NB176_205.out _;(with_reducible repeat(first|apply ag|apply aj|apply af));exact BK176.out) hb);replace BK177:=au (ay (g:=gb177) (o:=.cells #[.int .i64 x178000_2,.int .i64 x178001_2] 35 (0,0)) (by(with_reducible repeat(first|apply ag|apply aj|apply af));refine aH ?_ NB177_205.out _;(with_reducible repeat(first|apply ag|apply aj|apply af));refine aH ?_ NB177_205.out _;(with_reducible repeat(first|apply ag|apply aj|apply af));refine aH ?_ NB177_205.out _;(with_reducible repeat(first|apply ag|apply aj|apply af));exact BK177.out) hb);replace BK178:=au (ay (g:=gb178) (o:=.cells #[.int .i64 x179000_2,.slice none 0 0,.slice none 0 0] 24 (0,0)) (by(with_reducible repeat(first|apply ag|apply aj|apply af));refine aH ?_ NB178_205.out _;(with_reducible repeat(first|apply ag|apply aj|apply af));refine aH ?_ NB178_205.out _;(with_reducible repeat(first|apply ag|apply aj|apply af));refine aH ?_ NB178_205.out _;(with_reducible repeat(first|apply ag|apply aj|apply af));exact BK178.out) hb);replace BK205:=au (ay (g:=gb205) (o:=.cells #[.int .i64 t198,.slice Ao116 t199.length co116,.slice Ao117 t202.length co117] 24 (0,0)) (by(with_reducible repeat(first|apply ag|apply aj|apply af));refine aK (cs:=#[.int .i64 t198,.slice Ao116 t199.length co116,.slice none 0 0]) ?_ 2 _ rfl;(with_reducible repeat(first|apply ag|apply aj|apply af));refine aK (cs:=#[.int .i64 t198,.slice none 0 0,.slice none 0 0]) ?_ 1 _ rfl;(with_reducible repeat(first|apply ag|apply aj|apply af));refine aK (cs:=#[.int .i64 0,.slice none 0 0,.slice none 0 0]) ?_ 0 _ rfl;(with_reducible repeat(first|apply ag|apply aj|apply af));exact BK205.out) hb);replace HB:=au (aA (by with_reducible repeat(first|exact HB.out|apply ah|apply aa|apply ai|refine ae ?_ GE176.out|refine ae ?_ GE177.out|refine ae ?_ GE178.out|refine ae ?_ GE205.out)) hb);(try clear hb);(try clear hb2);(try clear hk);(try clear hi);have hcz119_0:w118.cell? ⟨gb205,0,none⟩=some (.int .i64 t198):=(ak BK205.out 0).trans rfl;have hcz119_1:w118.cell? ⟨gb205,1,none⟩=some (.slice Ao116 t199.length co116):=(ak BK205.out 1).trans rfl;have hcz119_2:w118.cell? ⟨gb205,2,none⟩=some (.slice Ao117 t202.length co117):=(ak BK205.out 2).trans rfl;have hfz119_0:=av BK205.out 0;have hfz119_1:=av BK205.out 1;have hfz119_2:=av BK205.out 2;have hnb120:=NB178_177.out;have hnc120:=NB177_178.out;have hcz121_0:w118.cell? ⟨gb178,0,none⟩=some (.int .i64 x179000_2):=(ak BK178.out 0).trans rfl;have hcz121_1:w118.cell? ⟨gb178,1,none⟩=some (.slice none 0 0):=(ak BK178.out 1).trans rfl;have hcz121_2:w118.cell? ⟨gb178,2,none⟩=some (.slice none 0 0):=(ak BK178.out 2).trans rfl;have hfz121_0:=av BK178.out 0;have hfz121_1:=av BK178.out 1;have hfz121_2:=av BK178.out 2))
          refine bodyPost_ret (cK rfl _ _ gb178 24 #[.int .i64 t198,.slice Ao116 t199.length co116,.slice Ao117 t202.length co117] (0,0) _ rfl (by(with_reducible repeat(first|apply ag|apply aj|apply af));refine aK (cs:=#[.int .i64 t198,.slice Ao116 t199.length co116,.slice none 0 0]) ?_ 2 _ rfl;(with_reducible repeat(first|apply ag|apply aj|apply af));refine aK (cs:=#[.int .i64 t198,.slice none 0 0,.slice none 0 0]) ?_ 1 _ rfl;(with_reducible repeat(first|apply ag|apply aj|apply af));refine aK (cs:=#[.int .i64 x179000_2,.slice none 0 0,.slice none 0 0]) ?_ 0 _ rfl;(with_reducible repeat(first|apply ag|apply aj|apply af));exact BK178.out) Try.underlying24 rfl (by kernel_rfl)) rfl ?_
          exact⟨_,_,by first|rfl|(simp <;> rfl)|(simp[*] <;> rfl),by(with_reducible repeat(first|apply Kd.aD|apply Kd.aC|apply Kd.aJ));exact Kd.aY (Kd.aU (p:=⟨gb178,2,none⟩) (Kd.aU (p:=⟨gb178,1,none⟩) (Kd.aU (p:=⟨gb178,0,none⟩) (Kd.bG HO201.out BK178.out (by decide)) (fun _ hk=>hk.2) (.int .i64 t198)) (fun _ hk=>hk.2) (.slice Ao116 t199.length co116)) (fun _ hk=>hk.2) (.slice Ao117 t202.length co117)) (fun _ hk=>hk.1.1.1),by(with_reducible repeat(first|apply Kd.aD|apply Kd.aC|apply Kd.aJ));exact Kd.aY (Kd.aU (p:=⟨gb178,2,none⟩) (Kd.aU (p:=⟨gb178,1,none⟩) (Kd.aU (p:=⟨gb178,0,none⟩) (Kd.bG HO204.out BK178.out (by decide)) (fun _ hk=>hk.2) (.int .i64 t198)) (fun _ hk=>hk.2) (.slice Ao116 t199.length co116)) (fun _ hk=>hk.2) (.slice Ao117 t202.length co117)) (fun _ hk=>hk.1.1.1),by with_reducible repeat(first|exact HB.out|apply ah|apply aa|apply ai|refine ae ?_ GE176.out|refine ae ?_ GE177.out|refine ae ?_ GE178.out|refine ae ?_ GE205.out)⟩
         ·replace c105:=Bool.eq_false_iff.mpr c105
          subst c105
          have H1:(some (0,([]:List (S35)),([]:List (S35)),false))=some (r1,r2,r3,r4):=by rw[if_neg (show ¬ (false=true) by decide)] at H;exact H
          clear H
          have H:=H1
          clear H1
          simp only[Option.some.injEq,Prod.mk.injEq] at H
          obtain⟨rfl,rfl,rfl,rfl⟩:=H
          have hnb122:=NB176_177.out
          have hnc122:=NB177_176.out
          have hnb123:=NB176_178.out
          have hnc123:=NB178_176.out
          have hcz124_0:wc.cell? ⟨gb176,0,none⟩=some (.int .i64 a0_0):=(ak BK176.out 0).trans rfl
          have hcz124_1:wc.cell? ⟨gb176,1,none⟩=some (.slice A0_1 l0_1.length c0_1):=(ak BK176.out 1).trans rfl
          have hcz124_2:wc.cell? ⟨gb176,2,none⟩=some (.slice A0_2 l0_2.length c0_2):=(ak BK176.out 2).trans rfl
          have hfz124_0:=av BK176.out 0
          have hfz124_1:=av BK176.out 1
          have hfz124_2:=av BK176.out 2
          obtain⟨Ao125,co125,eo125⟩:=Kd.bq HO_6.out
          subst eo125
          go_wp2_with (first|((with_reducible refine aT (f:=33) rfl ?_);refine bK (some 104) rfl rfl Try.func33 (by kernel_rfl) rfl #[.int .i64 a0_0,.slice Ao125 x6_95.length co125] rfl (by(try simp only[amp_]);first|done|rfl|(simp only[ald_];rfl)) ?_;(with_reducible refine(spec_l5Of.calls kj95 a0_0 _ _ x6_95 t198 t199 t202 _ ?side1 ?side2 A103.out).mono ?_);(case side1=>repeat(first|exact(Kd.R_reads' HO_6.out).2.2|(with_reducible first|apply Kd.aV|apply Kd.aW|apply Kd.bf)));(case side2=>exact(Kd.R_reads' HO_6.out).2.1);rintro e w126 ⟨v200,v203,rfl,ho0,ho1,hb⟩;refine⟨_,rfl,?_⟩;have HO201:=au (Kd.bC (Kd.dI (Kd.R_new' ho0 (Kd.fB (by(with_reducible repeat(first|apply Kd.aD|apply Kd.aC|apply Kd.aJ));exact HO_6.out))) (g:=gb177) (o:=.cells #[.int .i64 x178000_2,.int .i64 x178001_2] 35 (0,0)) (by(with_reducible repeat(first|apply ag|apply aj|apply af));exact BK177.out)) (az (by with_reducible repeat(first|exact HB.out|apply ah|apply aa|apply ai|refine ae ?_ GE176.out|refine ae ?_ GE177.out|refine ae ?_ GE178.out))));have HO204:=au (Kd.bC (Kd.dI (Kd.R_new' ho1 (Kd.fB (by(with_reducible repeat(first|apply Kd.aD|apply Kd.aC|apply Kd.aJ));exact HO_6.out))) (g:=gb177) (o:=.cells #[.int .i64 x178000_2,.int .i64 x178001_2] 35 (0,0)) (by(with_reducible repeat(first|apply ag|apply aj|apply af));exact BK177.out)) (az (by with_reducible repeat(first|exact HB.out|apply ah|apply aa|apply ai|refine ae ?_ GE176.out|refine ae ?_ GE177.out|refine ae ?_ GE178.out))));replace HO_6:=au (Kd.aY (Kd.ed (Kd.ed (Kd.iV (by(with_reducible repeat(first|apply Kd.aD|apply Kd.aC|apply Kd.aJ));exact HO_6.out) hb) (Kd.dP ho0)) (Kd.dP ho1)) (fun _ h_=>h_.1));replace BK176:=au (ay (g:=gb176) (o:=.cells #[.int .i64 a0_0,.slice A0_1 l0_1.length c0_1,.slice A0_2 l0_2.length c0_2] 24 (0,0)) (by(with_reducible repeat(first|apply ag|apply aj|apply af));exact BK176.out) hb);replace BK177:=au (ay (g:=gb177) (o:=.cells #[.int .i64 x178000_2,.int .i64 x178001_2] 35 (0,0)) (by(with_reducible repeat(first|apply ag|apply aj|apply af));exact BK177.out) hb);replace BK178:=au (ay (g:=gb178) (o:=.cells #[.int .i64 x179000_2,.slice none 0 0,.slice none 0 0] 24 (0,0)) (by(with_reducible repeat(first|apply ag|apply aj|apply af));exact BK178.out) hb);replace HB:=au (aA (by with_reducible repeat(first|exact HB.out|apply ah|apply aa|apply ai|refine ae ?_ GE176.out|refine ae ?_ GE177.out|refine ae ?_ GE178.out)) hb);(try clear hb);(try clear hb2);(try clear hk);(try clear hi);(try clear ho0);(try clear ho1))|((with_reducible refine aM (N:=10) rfl ?_);refine aI ?hg (N:=10) ?hd (cs:=#[.int .i64 0,.slice none 0 0,.slice none 0 0]) (t:=24) ?hr ?_;(case hd=>rfl);(case hg=>rfl);(case hr=>first|(go_simp;done)|(go_simp;rfl));intro gb205 hg w127 hbox hb;replace HO_6:=au (Kd.bu (by(with_reducible repeat(first|apply Kd.aD|apply Kd.aC|apply Kd.aJ));exact HO_6.out) hb);replace HO201:=au (Kd.bu (by(with_reducible repeat(first|apply Kd.aD|apply Kd.aC|apply Kd.aJ));exact HO201.out) hb);replace HO204:=au (Kd.bu (by(with_reducible repeat(first|apply Kd.aD|apply Kd.aC|apply Kd.aJ));exact HO204.out) hb);have BK205:=au (hbox);have GW205:=au ((by rw[hg];exact(az (by with_reducible repeat(first|exact HB.out|apply ah|apply aa|apply ai|refine ae ?_ GE176.out|refine ae ?_ GE177.out|refine ae ?_ GE178.out))):w.heap.size≤gb205));have GE205:=au ((by rw[hg];exact(az (by with_reducible repeat(first|exact HB.out|apply ah|apply aa|apply ai|refine ae ?_ GE176.out|refine ae ?_ GE177.out|refine ae ?_ GE178.out))):w.heap.size≤gb205));replace HB:=au (aA (by with_reducible repeat(first|exact HB.out|apply ah|apply aa|apply ai|refine ae ?_ GE176.out|refine ae ?_ GE177.out|refine ae ?_ GE178.out)) hb);have NB176_205:=au ((by rw[hg];exact Nat.ne_of_lt (aG (g:=gb176) (o:=.cells #[.int .i64 a0_0,.slice A0_1 l0_1.length c0_1,.slice A0_2 l0_2.length c0_2] 24 (0,0)) (by(with_reducible repeat(first|apply ag|apply aj|apply af));exact BK176.out)):gb176≠gb205));have NB205_176:=au ((by rw[hg];exact Nat.ne_of_gt (aG (g:=gb176) (o:=.cells #[.int .i64 a0_0,.slice A0_1 l0_1.length c0_1,.slice A0_2 l0_2.length c0_2] 24 (0,0)) (by(with_reducible repeat(first|apply ag|apply aj|apply af));exact BK176.out)):gb205≠gb176));replace BK176:=au (ay (g:=gb176) (o:=.cells #[.int .i64 a0_0,.slice A0_1 l0_1.length c0_1,.slice A0_2 l0_2.length c0_2] 24 (0,0)) (by(with_reducible repeat(first|apply ag|apply aj|apply af));exact BK176.out) hb);have NB177_205:=au ((by rw[hg];exact Nat.ne_of_lt (aG (g:=gb177) (o:=.cells #[.int .i64 x178000_2,.int .i64 x178001_2] 35 (0,0)) (by(with_reducible repeat(first|apply ag|apply aj|apply af));exact BK177.out)):gb177≠gb205));have NB205_177:=au ((by rw[hg];exact Nat.ne_of_gt (aG (g:=gb177) (o:=.cells #[.int .i64 x178000_2,.int .i64 x178001_2] 35 (0,0)) (by(with_reducible repeat(first|apply ag|apply aj|apply af));exact BK177.out)):gb205≠gb177));replace BK177:=au (ay (g:=gb177) (o:=.cells #[.int .i64 x178000_2,.int .i64 x178001_2] 35 (0,0)) (by(with_reducible repeat(first|apply ag|apply aj|apply af));exact BK177.out) hb);have NB178_205:=au ((by rw[hg];exact Nat.ne_of_lt (aG (g:=gb178) (o:=.cells #[.int .i64 x179000_2,.slice none 0 0,.slice none 0 0] 24 (0,0)) (by(with_reducible repeat(first|apply ag|apply aj|apply af));exact BK178.out)):gb178≠gb205));have NB205_178:=au ((by rw[hg];exact Nat.ne_of_gt (aG (g:=gb178) (o:=.cells #[.int .i64 x179000_2,.slice none 0 0,.slice none 0 0] 24 (0,0)) (by(with_reducible repeat(first|apply ag|apply aj|apply af));exact BK178.out)):gb205≠gb178));replace BK178:=au (ay (g:=gb178) (o:=.cells #[.int .i64 x179000_2,.slice none 0 0,.slice none 0 0] 24 (0,0)) (by(with_reducible repeat(first|apply ag|apply aj|apply af));exact BK178.out) hb);clear hb hbox hg;have hnb128:=NB205_176.out;have hnc128:=NB176_205.out;have hnb129:=NB205_177.out;have hnc129:=NB177_205.out;have hnb130:=NB205_178.out;have hnc130:=NB178_205.out;have hcz131_0:w127.cell? ⟨gb205,0,none⟩=some (.int .i64 0):=(ak BK205.out 0).trans rfl;have hcz131_1:w127.cell? ⟨gb205,1,none⟩=some (.slice none 0 0):=(ak BK205.out 1).trans rfl;have hcz131_2:w127.cell? ⟨gb205,2,none⟩=some (.slice none 0 0):=(ak BK205.out 2).trans rfl;have hfz131_0:=av BK205.out 0;have hfz131_1:=av BK205.out 1;have hfz131_2:=av BK205.out 2;obtain⟨Ao132,co132,eo132⟩:=Kd.bq HO201.out;subst eo132;obtain⟨Ao133,co133,eo133⟩:=Kd.bq HO204.out;subst eo133)|((with_reducible refine aT (f:=25) rfl ?_);refine bK (some 106) rfl rfl Try.func25 (by kernel_rfl) rfl #[.agg #[.int .i64 t198,.slice Ao132 t199.length co132,.slice Ao133 t202.length co133]] rfl (by(try simp only[amp_]);first|done|rfl|(simp only[ald_];rfl)) ?_;(with_reducible refine(spec_GoodFree.calls kj95 t198 _ _ t199 _ _ t202 false _ ?side1 ?side2 ?side3 ?side4 A104.out).mono ?_);(case side1=>refine(Kd.R_reads' (e:=35) (base:=w.heap.size) (ok:=fun k_=>((some k_≠(.slice Ao133 t202.length co133:Value).ownBlock∧some k_≠(.slice Ao125 x6_95.length co125:Value).ownBlock)∧k_≠gb177)) (n:=t199.length) (c:=co132) ?_).2.2;exact(by(with_reducible repeat(first|apply Kd.aD|apply Kd.aC|apply Kd.aJ));exact(Kd.aY (Kd.aU (p:=⟨gb205,2,none⟩) (Kd.aU (p:=⟨gb205,1,none⟩) (Kd.aU (p:=⟨gb205,0,none⟩) (Kd.bG HO201.out BK205.out (by decide)) (fun _ hk=>hk.2) (.int .i64 t198)) (fun _ hk=>hk.2) (.slice Ao132 t199.length co132)) (fun _ hk=>hk.2) (.slice Ao133 t202.length co133)) (fun _ h_=>h_.1))));(case side2=>exact(Kd.R_reads' HO201.out).2.1);(case side3=>refine(Kd.R_reads' (e:=35) (base:=w.heap.size) (ok:=fun k_=>((some k_≠(.slice Ao132 t199.length co132:Value).ownBlock∧some k_≠(.slice Ao125 x6_95.length co125:Value).ownBlock)∧k_≠gb177)) (n:=t202.length) (c:=co133) ?_).2.2;exact(by(with_reducible repeat(first|apply Kd.aD|apply Kd.aC|apply Kd.aJ));exact(Kd.aY (Kd.aU (p:=⟨gb205,2,none⟩) (Kd.aU (p:=⟨gb205,1,none⟩) (Kd.aU (p:=⟨gb205,0,none⟩) (Kd.bG HO204.out BK205.out (by decide)) (fun _ hk=>hk.2) (.int .i64 t198)) (fun _ hk=>hk.2) (.slice Ao132 t199.length co132)) (fun _ hk=>hk.2) (.slice Ao133 t202.length co133)) (fun _ h_=>h_.1))));(case side4=>exact(Kd.R_reads' HO204.out).2.1);rintro e w134 ⟨rfl,hb⟩;refine⟨_,rfl,?_⟩;replace HO_6:=au (Kd.bu (by(with_reducible repeat(first|apply Kd.aD|apply Kd.aC|apply Kd.aJ));exact(Kd.aY (Kd.aU (p:=⟨gb205,2,none⟩) (Kd.aU (p:=⟨gb205,1,none⟩) (Kd.aU (p:=⟨gb205,0,none⟩) (Kd.bG HO_6.out BK205.out (by decide)) (fun _ hk=>hk.2) (.int .i64 t198)) (fun _ hk=>hk.2) (.slice Ao132 t199.length co132)) (fun _ hk=>hk.2) (.slice Ao133 t202.length co133)) (fun _ h_=>h_.1))) hb);replace HO201:=au (Kd.bu (by(with_reducible repeat(first|apply Kd.aD|apply Kd.aC|apply Kd.aJ));exact(Kd.aY (Kd.aU (p:=⟨gb205,2,none⟩) (Kd.aU (p:=⟨gb205,1,none⟩) (Kd.aU (p:=⟨gb205,0,none⟩) (Kd.bG HO201.out BK205.out (by decide)) (fun _ hk=>hk.2) (.int .i64 t198)) (fun _ hk=>hk.2) (.slice Ao132 t199.length co132)) (fun _ hk=>hk.2) (.slice Ao133 t202.length co133)) (fun _ h_=>h_.1))) hb);replace HO204:=au (Kd.bu (by(with_reducible repeat(first|apply Kd.aD|apply Kd.aC|apply Kd.aJ));exact(Kd.aY (Kd.aU (p:=⟨gb205,2,none⟩) (Kd.aU (p:=⟨gb205,1,none⟩) (Kd.aU (p:=⟨gb205,0,none⟩) (Kd.bG HO204.out BK205.out (by decide)) (fun _ hk=>hk.2) (.int .i64 t198)) (fun _ hk=>hk.2) (.slice Ao132 t199.length co132)) (fun _ hk=>hk.2) (.slice Ao133 t202.length co133)) (fun _ h_=>h_.1))) hb);replace BK176:=au (ay (g:=gb176) (o:=.cells #[.int .i64 a0_0,.slice A0_1 l0_1.length c0_1,.slice A0_2 l0_2.length c0_2] 24 (0,0)) (by(with_reducible repeat(first|apply ag|apply aj|apply af));refine aH ?_ NB176_205.out _;(with_reducible repeat(first|apply ag|apply aj|apply af));refine aH ?_ NB176_205.out _;(with_reducible repeat(first|apply ag|apply aj|apply af));refine aH ?_ NB176_205.out _;(with_reducible repeat(first|apply ag|apply aj|apply af));exact BK176.out) hb);replace BK177:=au (ay (g:=gb177) (o:=.cells #[.int .i64 x178000_2,.int .i64 x178001_2] 35 (0,0)) (by(with_reducible repeat(first|apply ag|apply aj|apply af));refine aH ?_ NB177_205.out _;(with_reducible repeat(first|apply ag|apply aj|apply af));refine aH ?_ NB177_205.out _;(with_reducible repeat(first|apply ag|apply aj|apply af));refine aH ?_ NB177_205.out _;(with_reducible repeat(first|apply ag|apply aj|apply af));exact BK177.out) hb);replace BK178:=au (ay (g:=gb178) (o:=.cells #[.int .i64 x179000_2,.slice none 0 0,.slice none 0 0] 24 (0,0)) (by(with_reducible repeat(first|apply ag|apply aj|apply af));refine aH ?_ NB178_205.out _;(with_reducible repeat(first|apply ag|apply aj|apply af));refine aH ?_ NB178_205.out _;(with_reducible repeat(first|apply ag|apply aj|apply af));refine aH ?_ NB178_205.out _;(with_reducible repeat(first|apply ag|apply aj|apply af));exact BK178.out) hb);replace BK205:=au (ay (g:=gb205) (o:=.cells #[.int .i64 t198,.slice Ao132 t199.length co132,.slice Ao133 t202.length co133] 24 (0,0)) (by(with_reducible repeat(first|apply ag|apply aj|apply af));refine aK (cs:=#[.int .i64 t198,.slice Ao132 t199.length co132,.slice none 0 0]) ?_ 2 _ rfl;(with_reducible repeat(first|apply ag|apply aj|apply af));refine aK (cs:=#[.int .i64 t198,.slice none 0 0,.slice none 0 0]) ?_ 1 _ rfl;(with_reducible repeat(first|apply ag|apply aj|apply af));refine aK (cs:=#[.int .i64 0,.slice none 0 0,.slice none 0 0]) ?_ 0 _ rfl;(with_reducible repeat(first|apply ag|apply aj|apply af));exact BK205.out) hb);replace HB:=au (aA (by with_reducible repeat(first|exact HB.out|apply ah|apply aa|apply ai|refine ae ?_ GE176.out|refine ae ?_ GE177.out|refine ae ?_ GE178.out|refine ae ?_ GE205.out)) hb);(try clear hb);(try clear hb2);(try clear hk);(try clear hi);have hnb135:=NB178_177.out;have hnc135:=NB177_178.out;have hcz136_0:w134.cell? ⟨gb178,0,none⟩=some (.int .i64 x179000_2):=(ak BK178.out 0).trans rfl;have hcz136_1:w134.cell? ⟨gb178,1,none⟩=some (.slice none 0 0):=(ak BK178.out 1).trans rfl;have hcz136_2:w134.cell? ⟨gb178,2,none⟩=some (.slice none 0 0):=(ak BK178.out 2).trans rfl;have hfz136_0:=av BK178.out 0;have hfz136_1:=av BK178.out 1;have hfz136_2:=av BK178.out 2))
          refine bodyPost_ret (cK rfl _ _ gb178 24 #[.int .i64 0,.slice none 0 0,.slice none 0 0] (0,0) _ rfl (by(with_reducible repeat(first|apply ag|apply aj|apply af));refine aK (cs:=#[.int .i64 0,.slice none 0 0,.slice none 0 0]) ?_ 2 _ rfl;(with_reducible repeat(first|apply ag|apply aj|apply af));refine aK (cs:=#[.int .i64 0,.slice none 0 0,.slice none 0 0]) ?_ 1 _ rfl;(with_reducible repeat(first|apply ag|apply aj|apply af));refine aK (cs:=#[.int .i64 x179000_2,.slice none 0 0,.slice none 0 0]) ?_ 0 _ rfl;(with_reducible repeat(first|apply ag|apply aj|apply af));exact BK178.out) Try.underlying24 rfl (by kernel_rfl)) rfl ?_
          exact⟨_,_,by first|rfl|(simp <;> rfl)|(simp[*] <;> rfl),by first|exact Kd.df _ _ _ _ _|exact Kd.dL _ _ _ _ _|exact Kd.dM _ _ _ _ _|exact Kd.dK _ _ _ _ _|exact Kd.dJ _ _ _ _ _,by first|exact Kd.df _ _ _ _ _|exact Kd.dL _ _ _ _ _|exact Kd.dM _ _ _ _ _|exact Kd.dK _ _ _ _ _|exact Kd.dJ _ _ _ _ _,by with_reducible repeat(first|exact HB.out|apply ah|apply aa|apply ai|refine ae ?_ GE176.out|refine ae ?_ GE177.out|refine ae ?_ GE178.out|refine ae ?_ GE205.out)⟩
attribute [local go_sem] bJ bI bR bQ bA bz bM bL
set_option linter.unusedVariables false
set_option linter.unusedSimpArgs false
def impl_RoomIn.l0:Nat→Int→Int→List (S35)→Int→Int→Option (Int×Int×Bool)
 | 0,_,_,_,_,_=>none
 | k+1,x5,x6,x13,x14,x15=>if x15<x14 then (if 0≤x15 then (if x15 < (x13.length:Int) then (impl_RoomIn.l0 k (wrap64 (x5 + ((ax x13 x15).f1))) (mx x6 ((ax x13 x15).f1)) x13 x14 (wrap64 (x15+1))) else (none)) else (none)) else (some (x5,x6,true))
def impl_RoomIn.f (k:Nat) (a0_0:Int) (l0_1:List (S35)) (l0_2:List (S35)):Option (Int×Int×Bool):=(impl_GoodFree.f a0_0 l0_1 l0_2).bind fun t474=>(if t474=true then (impl_RoomIn.l0 k 0 0 l0_1 (l0_1.length:Int) 0) else (some (0,0,false)))
attribute [local go_sem] bJ bI bR bQ bA bz bM bL
set_option linter.unusedVariables false
set_option linter.unusedSimpArgs false
def spec_UsedExtents.l0:Nat→List (S35)→Int→List (S35)→Int→Int→Int→List (S35)→List (S35)→Option ((List (S35))×Bool)
 | 0,_,_,_,_,_,_,_,_=>none
 | k+1,x4,x5,x12,x13,x14,x155000,x155001,x155002=>if x14<x13 then (if 0≤x14 then (if x14 < (x12.length:Int) then (if ((ax x12 x14).f0) > x5 then (if x4.length<8796093022208 then (spec_UsedExtents.l0 k (x4++[(⟨x5,wrap64 (((ax x12 x14).f0) - x5)⟩:S35)]) (wrap64 (((ax x12 x14).f0) + ((ax x12 x14).f1))) x12 x13 (wrap64 (x14+1)) x155000 x155001 x155002) else (none)) else (spec_UsedExtents.l0 k x4 (wrap64 (((ax x12 x14).f0) + ((ax x12 x14).f1))) x12 x13 (wrap64 (x14+1)) x155000 x155001 x155002)) else (none)) else (none)) else (if x5<x155000 then (if x4.length<8796093022208 then (some ((x4++[(⟨x5,wrap64 (x155000 - x5)⟩:S35)]),true)) else (none)) else (some (x4,true)))
def spec_UsedExtents.f (k:Nat) (a0_0:Int) (l0_1:List (S35)) (l0_2:List (S35)):Option ((List (S35))×Bool):=(spec_GoodFree.f k a0_0 l0_1 l0_2).bind fun t155=>(if t155=true then (spec_UsedExtents.l0 k ([]:List (S35)) 0 l0_1 (l0_1.length:Int) 0 a0_0 l0_1 l0_2) else (some (([]:List (S35)),false)))
open Go.RowKit Go.Proofs.YtelblhkbogljnaaW.PrintWords Go.Proofs.YtelblhkbogljnaaW.PrintLast Go.Proofs.YtelblhkbogljnaaW.PrintMore Go.Proofs.Ytelblhkbogljnaa.E
def l6 (B:Int) (m:List EX):Int×List EX×List EX×Bool:=if dn B m (bD m)=true then (B,m,bD m,true) else (0,[],[],false)
def nJ (B:Int):Option (List EX)→Int×List EX×List EX×Bool
  | none=>(0,[],[],false)
  | some m=>l6 B m
theorem fZ : ∀ (r l : List EX) (put : Bool) (x : EX) (m : List EX), fq l put x r = some m → m.length ≤ l.length + r.length + (if put = true then 0 else 1)
  | [],l,put,x,m,h=>by
    rw[fq] at h
    have e:=Option.some.inj h
    subst e
    split <;> simp
  | o :: r, l, put, x, m, h => by
    rw[fq] at h
    rw[List.length_cons]
    by_cases c1:o.f0+o.f1<x.f0
    · rw[if_pos c1] at h
      have:=fZ r _ _ _ _ h
      rw[List.length_append,List.length_singleton] at this
      omega
    · rw [if_neg c1] at h
      by_cases c2:o.f0 > x.f0+x.f1
      · rw[if_pos c2] at h
        by_cases c:put=true
        · rw[if_pos c] at h
          have:=fZ r _ _ _ _ h
          rw[List.length_append,List.length_singleton] at this
          omega
        · rw[if_neg c] at h
          have:=fZ r _ _ _ _ h
          rw[List.length_append,List.length_append,List.length_singleton,List.length_singleton,if_pos rfl] at this
          rw[if_neg c]
          omega
      · rw[if_neg c2] at h
        by_cases c3:o.f0+o.f1=x.f0
        · rw[if_pos c3] at h;have:=fZ r _ _ _ _ h;omega
        · rw[if_neg c3] at h
          by_cases c4:o.f0=x.f0+x.f1
          · rw[if_pos c4] at h;have:=fZ r _ _ _ _ h;omega
          · rw[if_neg c4] at h;cases h
section
variable {B:Int} {P S:List EX}
theorem qA (m:List EX) (hB:1≤B∧B≤400) (hm:m.length≤10000):Ev (fun k=>spec_GiveRoom.j2 k m B P S) (l6 B m):=by
  have h1:Ev (fun k=>spec_l5Of.f k B m) (B,m,bD m):=by
    unfold spec_l5Of.f
    refine fQ (aZ (by simp;omega) (Ev.bind (jA m (by omega)) (bU rfl)))
  refine Ev.step (fun _=>spec_GiveRoom.j2.eq_2 ..) (Ev.bind h1 (Ev.bind (fe B m (bD m) (by omega) (by omega)) ?_))
  unfold l6
  cases hg:dn B m (bD m) with
  | true=>exact bV rfl (bU rfl)
  | false=>exact dE rfl (bU rfl)
theorem og (hB : 1 ≤ B ∧ B ≤ 400) (hP : P.length ≤ 60) (hS : Sep B P) : ∀ (f i : Nat) (l : List EX) (put : Bool) (x : EX), i + f = P.length → l.length ≤ 2 * i → (0 ≤ x.f0 ∧ x.f0 ≤ 400 ∧ 0 ≤ x.f1 ∧ x.f1 ≤ 400 + 400 * (i : Int)) →
    Ev (fun k=>spec_GiveRoom.l0 k l put P (P.length:Int) (i:Int) B P S x.f0 x.f1) (nJ B (fq l put x (P.drop i))):=by
  intro f
  induction f with
  | zero=>
    intro i l put x hi hl hx
    refine Ev.step (fun _=>spec_GiveRoom.l0.eq_2 ..) (bH (by omega) ?_)
    rw[List.drop_of_length_le (by omega),fq]
    cases put with
    | true=>exact bV rfl (qA l hB (by omega))
    | false=>exact dE rfl (aZ (by omega) (qA _ hB (by simp;omega)))
  | succ f ih=>
    intro i l put x hi hl hx
    have hil:i<P.length:=by omega
    rw[fI hil]
    have hor:(0≤P[i].f0∧1≤P[i].f1∧P[i].f0+P[i].f1≤B):=hS.a _ (List.getElem_mem hil)
    have er:=iU hil
    rw[er]
    generalize P[i]=o at hor er
    have eo:(⟨o.f0,o.f1⟩:EX)=o:=rfl
    have ex:(⟨x.f0,x.f1⟩:EX)=x:=rfl
    have ei:wrap64 ((i:Int)+1) = ((i+1:Nat):Int):=by rw[w64 (by omega) (by omega)];omega
    have w1:wrap64 (o.f0+o.f1)=o.f0+o.f1:=w64 (by omega) (by omega)
    have w2:wrap64 (x.f0+x.f1)=x.f0+x.f1:=w64 (by omega) (by omega)
    have w3:wrap64 (o.f1+x.f1)=o.f1+x.f1:=w64 (by omega) (by omega)
    have w4:wrap64 (x.f1+o.f1)=x.f1+o.f1:=w64 (by omega) (by omega)
    refine Ev.step (fun _=>spec_GiveRoom.l0.eq_2 ..) (aZ (by omega) (aZ (by omega) (aZ (by omega) ?_)))
    rw[er,ei,w1,w2,w3,w4,fq]
    by_cases c1:o.f0+o.f1<x.f0
    · rw[if_pos c1]
      refine aZ c1 (aZ (by omega) ?_)
      exact ih (i+1) (l++[o]) put x (by omega) (by rw[List.length_append,List.length_singleton];omega) (by omega)
    · rw [if_neg c1]
      refine bH c1 ?_
      by_cases c2:o.f0 > x.f0+x.f1
      · rw[if_pos c2]
        refine aZ c2 ?_
        cases put with
        | true=>exact bV rfl (aZ (by omega) (ih (i+1) (l++[o]) true x (by omega) (by rw[List.length_append,List.length_singleton];omega) (by omega)))
        | false=>
          refine dE rfl (aZ (by omega) (fQ (aZ (by rw[List.length_append,List.length_singleton];omega) ?_)))
          exact ih (i+1) (l++[x]++[o]) true x (by omega) (by rw[List.length_append,List.length_append,List.length_singleton,List.length_singleton];omega) (by omega)
      · rw [if_neg c2]
        refine bH c2 ?_
        by_cases c3:o.f0+o.f1=x.f0
        · rw[if_pos c3]
          refine aZ c3 ?_
          exact ih (i+1) l put ⟨o.f0,o.f1+x.f1⟩ (by omega) (by omega) ⟨hor.1,by show o.f0≤400;omega,by show 0≤o.f1+x.f1;omega,by show o.f1+x.f1≤_;omega⟩
        · rw[if_neg c3]
          refine bH c3 ?_
          by_cases c4:o.f0=x.f0+x.f1
          · rw[if_pos c4]
            refine aZ c4 ?_
            exact ih (i+1) l put ⟨x.f0,x.f1+o.f1⟩ (by omega) (by omega) ⟨hx.1,hx.2.1,by show 0≤x.f1+o.f1;omega,by show x.f1+o.f1≤_;omega⟩
          · rw[if_neg c4]
            exact bH c4 (bU rfl)
structure Gave (B:Int) (P S:List EX) (x:EX) (Q:List EX):Prop where
  g:dn B P S=true
  ok:0≤x.f0∧1≤x.f1∧x.f0+x.f1≤B
  s:Sep B Q
  n:Q.length≤60
  c:∀ k,cov Q k = (inX x k || cov P k)
  d:∀ k,inX x k=true→cov P k=false
  l:Q.length≤P.length+1
theorem gT (hB:1≤B∧B≤400) (x:EX):spec_l5Extent.f x.f0 x.f1 B=some (okX B x):=by
  unfold spec_l5Extent.f
  by_cases h0:x.f0≥0
  · rw[if_pos h0,eU,Option.bind_some]
    by_cases h1:1≤x.f1∧x.f1≤B
    · rw[if_pos (decide_eq_true h1),w64 (x:=B - x.f1) (by omega) (by omega)]
      congr 1
      rw[Bool.eq_iff_iff,decide_eq_true_iff,eO]
      omega
    · rw[if_neg (by simpa using h1)]
      congr 1
      cases hb:okX B x with
      | false=>rfl
      | true=>rw[eO] at hb;omega
  · rw[if_neg h0]
    congr 1
    cases hb:okX B x with
    | false=>rfl
    | true=>rw[eO] at hb;omega
theorem ol (B : Int) (P S : List EX) (x : EX) (hsB : -4611686018427387904 ≤ B ∧ B ≤ 4611686018427387904) (hsP : P.length ≤ 100000) : ∃ r, Ev (fun k => spec_GiveRoom.f k B P S x.f0 x.f1) r ∧ impl_GiveRoom.f B P S x.f0 x.f1 = some r ∧ (r = (0, [], [], false) ∨ ∃ Q, r = (B, Q, bD Q, true) ∧ Gave B P S x Q) := by
  have hg:=fe B P S hsB hsP
  unfold impl_GiveRoom.f impl_GoodFree.f
  have no:Ev (fun k=>spec_GiveRoom.j0 k true B P S x.f0 x.f1) (0,[],[],false):=Ev.step (fun _=>spec_GiveRoom.j0.eq_2 ..) (bV rfl (bU rfl))
  cases hb:dn B P S with
  | false=>
    rw[hb] at hg
    exact⟨_,Ev.bind hg (dE rfl no),rfl,.inl rfl⟩
  | true=>
    rw[hb] at hg
    obtain⟨hB,hP,hS,hSS⟩:=dX.1 hb
    rw[Option.bind_some,if_pos rfl,gV B x hB,Option.bind_some]
    cases hok:okX B x with
    | false=>exact⟨_,Ev.bind hg (bV rfl (bO (gT hB x) (by rw[hok];exact no))),rfl,.inl rfl⟩
    | true=>
      have hx:=eO.1 hok
      have hl:=og (S:=S) hB hP hS P.length 0 [] false x (by omega) (by simp) (by omega)
      rw[List.drop_zero] at hl
      have hs:Ev (fun k=>spec_GiveRoom.f k B P S x.f0 x.f1) (nJ B (fq [] false x P)):=by
        unfold spec_GiveRoom.f
        refine Ev.bind hg (bV rfl (bO (gT hB x) ?_))
        rw[hok]
        exact Ev.step (fun _=>spec_GiveRoom.j0.eq_2 ..) (bH (by decide) hl)
      rw[if_pos rfl]
      by_cases hov:∃ k,cov P k=true∧inX x k=true
      · rw[lM P [] x hS hx.2.1 hov] at hs
        obtain⟨k,h1,h2⟩:=hov
        rw[jU hB hP hS S hx true ⟨k,h2,h1⟩]
        exact⟨_,hs,rfl,.inl rfl⟩
      · have hdis:∀ k,¬ (cov P k=true∧inX x k=true):=fun k h=>hov ⟨k,h⟩
        obtain⟨Q,e,sQ,cQ⟩:=jP P [] x hS hx (fun y hy=>by cases hy) hdis
        have hcq:∀ k,cov Q k = (inX x k || cov P k):=fun k=>by rw[cQ,fU,Bool.false_or]
        have hd:∀ k,inX x k=true→cov P k=false:=fun k hk=>by
          cases hc:cov P k with
          | false=>rfl
          | true=>exact absurd ⟨hc,hk⟩ (hdis k)
        rw[iy hB hP hS S hx true (fun k hk=>by rw[hd k hk];rfl) sQ (fun k _ _=>by
          rw[hcq]
          unfold kP
          cases inX x k <;> rfl)]
        rw[e] at hs
        have hl1:=fZ _ _ _ _ _ e
        rw[List.length_nil,if_neg (by decide)] at hl1
        refine⟨_,hs,?_,?_⟩
        · show some (kR B Q)=some (l6 B Q)
          unfold kR l6
          rw[fV hB sQ]
          simp only[decide_eq_true_eq]
        · show l6 B Q=_∨∃ Q',l6 B Q=_∧_
          unfold l6
          rw[fV hB sQ]
          by_cases hn:Q.length≤60
          · rw[if_pos (decide_eq_true hn)]
            exact .inr ⟨Q,rfl,⟨hb,hx,sQ,hn,hcq,hd,by omega⟩⟩
          · rw[if_neg (by simpa using hn)]
            exact .inl rfl
end
theorem lw {B:Int}:∀ {l:List EX},Sep B l→∀ {x y:EX},x∈l→y∈l→x=y∨x.f0+x.f1<y.f0∨y.f0+y.f1<x.f0
  | [],_,x,_,h,_=>by cases h
  | a::r,hs,x,y,hx,hy=>by
    have hr:=(List.pairwise_cons.1 hs.p).1
    rcases List.mem_cons.1 hx with e1|e1 <;> rcases List.mem_cons.1 hy with e2|e2
    · exact .inl (e1.trans e2.symm)
    · subst e1;exact .inr (.inl (hr y e2))
    · subst e2;exact .inr (.inr (hr x e1))
    · exact lw hs.tail e1 e2
theorem nT {B:Int} {l:List EX} (hs:Sep B l) {x:EX} (hx:1≤x.f1) (hc:∀ k,inX x k=true→cov l k=true):∃ y∈l,y.f0≤x.f0∧x.f0+x.f1≤y.f0+y.f1:=by
  obtain⟨y,hy,h1,h2⟩:=gW.1 (hc x.f0 (dx.2 (by omega)))
  refine⟨y,hy,h1,Int.not_lt.1 (fun hlt=>?_)⟩
  obtain⟨z,hz,h3,h4⟩:=gW.1 (hc (y.f0+y.f1) (dx.2 (by omega)))
  rcases lw hs hy hz with e|e|e
  · subst e;omega
  · omega
  · omega
end Go.Proofs.Ytelblhkbogljnaa.PFre
namespace Go.Proofs.Ytelblhkbogljnaa.PFre
open Go.RowKit Go.Proofs.YtelblhkbogljnaaW.PrintWords Go.Proofs.YtelblhkbogljnaaW.PrintLast Go.Proofs.YtelblhkbogljnaaW.PrintMore
attribute [local go_sem] bJ bI bR bQ bA bz bM bL
set_option linter.unusedVariables false
set_option linter.unusedSimpArgs false
def spec_l5Cut.f (l0:List (S35)) (a1:Int) (a2_0:Int) (a2_1:Int):Option ((List (S35))):=if 0≤a1 then (if a1 < (l0.length:Int) then (if a1≤(l0.length:Int) then ((some (l0.take (a1:Int).toNat:List (S35))).bind fun y221=>(if ([]:List (S35)).length+y221.length<8796093022208 then ((some (([]:List (S35))++y221:List (S35))).bind fun y225=>(if a2_0 > ((ax l0 a1).f0) then (if y225.length<8796093022208 then ((some (y225++[(⟨(ax l0 a1).f0,wrap64 (a2_0 - ((ax l0 a1).f0))⟩:S35)]:List (S35))).bind fun y228=>(if (wrap64 (a2_0+a2_1)) < (wrap64 (((ax l0 a1).f0) + ((ax l0 a1).f1))) then (if y228.length<8796093022208 then ((some (y228++[(⟨wrap64 (a2_0+a2_1),wrap64 ((wrap64 (((ax l0 a1).f0) + ((ax l0 a1).f1))) - (wrap64 (a2_0+a2_1)))⟩:S35)]:List (S35))).bind fun y231=>(if 0≤(wrap64 (a1+1)) then (if (wrap64 (a1+1))≤(l0.length:Int) then ((some (l0.drop ((wrap64 (a1+1)):Int).toNat:List (S35))).bind fun y234=>(if y231.length+y234.length<8796093022208 then (some (y231++y234)) else (none))) else (none)) else (none))) else (none)) else (if 0≤(wrap64 (a1+1)) then (if (wrap64 (a1+1))≤(l0.length:Int) then ((some (l0.drop ((wrap64 (a1+1)):Int).toNat:List (S35))).bind fun y241=>(if y228.length+y241.length<8796093022208 then (some (y228++y241)) else (none))) else (none)) else (none)))) else (none)) else (if (wrap64 (a2_0+a2_1)) < (wrap64 (((ax l0 a1).f0) + ((ax l0 a1).f1))) then (if y225.length<8796093022208 then ((some (y225++[(⟨wrap64 (a2_0+a2_1),wrap64 ((wrap64 (((ax l0 a1).f0) + ((ax l0 a1).f1))) - (wrap64 (a2_0+a2_1)))⟩:S35)]:List (S35))).bind fun y248=>(if 0≤(wrap64 (a1+1)) then (if (wrap64 (a1+1))≤(l0.length:Int) then ((some (l0.drop ((wrap64 (a1+1)):Int).toNat:List (S35))).bind fun y251=>(if y248.length+y251.length<8796093022208 then (some (y248++y251)) else (none))) else (none)) else (none))) else (none)) else (if 0≤(wrap64 (a1+1)) then (if (wrap64 (a1+1))≤(l0.length:Int) then ((some (l0.drop ((wrap64 (a1+1)):Int).toNat:List (S35))).bind fun y258=>(if y225.length+y258.length<8796093022208 then (some (y225++y258)) else (none))) else (none)) else (none))))) else (none))) else (none)) else (none)) else (none)
set_option maxHeartbeats 8000000 in
set_option maxRecDepth 100000 in
theorem spec_l5Cut.calls (A0 : Option Addr) (c0 : Nat) (l0 : List (S35)) (a1 : Int) (a2_0 : Int) (a2_1 : Int) (r : List (S35)) (w : World) (hr0 : Kd.C k35 w A0 l0.length l0) (hc0 : l0.length ≤ c0) (h : spec_l5Cut.f l0 a1 a2_0 a2_1 = some r) :
  Calls Try.prog 57 #[.slice A0 l0.length c0,.int .i64 a1,.agg #[.int .i64 a2_0,.int .i64 a2_1]] w fun e w'=>∃ v0_:Value,e = .returned (v0_)∧Kd.R k35 35 w' w.heap.size (fun _=>True) v0_ r∧Below w.heap.size w w':=by
 have hu35:=Try.underlying35
 have HR0:=au hr0
 have HC0:=au hc0
 clear hr0 hc0
 have HB:=au (Below.refl w.heap.size w)
 have H:(if 0≤a1 then (if a1 < (l0.length:Int) then (if a1≤(l0.length:Int) then ((some (l0.take (a1:Int).toNat:List (S35))).bind fun y221=>(if ([]:List (S35)).length+y221.length<8796093022208 then ((some (([]:List (S35))++y221:List (S35))).bind fun y225=>(if a2_0 > ((ax l0 a1).f0) then (if y225.length<8796093022208 then ((some (y225++[(⟨(ax l0 a1).f0,wrap64 (a2_0 - ((ax l0 a1).f0))⟩:S35)]:List (S35))).bind fun y228=>(if (wrap64 (a2_0+a2_1)) < (wrap64 (((ax l0 a1).f0) + ((ax l0 a1).f1))) then (if y228.length<8796093022208 then ((some (y228++[(⟨wrap64 (a2_0+a2_1),wrap64 ((wrap64 (((ax l0 a1).f0) + ((ax l0 a1).f1))) - (wrap64 (a2_0+a2_1)))⟩:S35)]:List (S35))).bind fun y231=>(if 0≤(wrap64 (a1+1)) then (if (wrap64 (a1+1))≤(l0.length:Int) then ((some (l0.drop ((wrap64 (a1+1)):Int).toNat:List (S35))).bind fun y234=>(if y231.length+y234.length<8796093022208 then (some (y231++y234)) else (none))) else (none)) else (none))) else (none)) else (if 0≤(wrap64 (a1+1)) then (if (wrap64 (a1+1))≤(l0.length:Int) then ((some (l0.drop ((wrap64 (a1+1)):Int).toNat:List (S35))).bind fun y241=>(if y228.length+y241.length<8796093022208 then (some (y228++y241)) else (none))) else (none)) else (none)))) else (none)) else (if (wrap64 (a2_0+a2_1)) < (wrap64 (((ax l0 a1).f0) + ((ax l0 a1).f1))) then (if y225.length<8796093022208 then ((some (y225++[(⟨wrap64 (a2_0+a2_1),wrap64 ((wrap64 (((ax l0 a1).f0) + ((ax l0 a1).f1))) - (wrap64 (a2_0+a2_1)))⟩:S35)]:List (S35))).bind fun y248=>(if 0≤(wrap64 (a1+1)) then (if (wrap64 (a1+1))≤(l0.length:Int) then ((some (l0.drop ((wrap64 (a1+1)):Int).toNat:List (S35))).bind fun y251=>(if y248.length+y251.length<8796093022208 then (some (y248++y251)) else (none))) else (none)) else (none))) else (none)) else (if 0≤(wrap64 (a1+1)) then (if (wrap64 (a1+1))≤(l0.length:Int) then ((some (l0.drop ((wrap64 (a1+1)):Int).toNat:List (S35))).bind fun y258=>(if y225.length+y258.length<8796093022208 then (some (y225++y258)) else (none))) else (none)) else (none))))) else (none))) else (none)) else (none)) else (none))=some r:=h
 clear h
 by_cases c4:0≤a1
 ·rw [if_pos c4] at H
  have c4b0:decide (0≤a1)=true:=decide_eq_true c4
  clear c4
  by_cases c5:a1 < (l0.length:Int)
  ·rw [if_pos c5] at H
   have c5b0:decide (a1 < (l0.length:Int))=true:=decide_eq_true c5
   clear c5
   have c6b0:=eq_true (of_decide_eq_true (by assumption):0≤a1)
   by_cases c7:a1≤(l0.length:Int)
   ·rw [if_pos c7] at H
    have c7b0:=eq_true c7
    have c7b1:decide (a1≤(l0.length:Int))=true:=decide_eq_true c7
    clear c7
    obtain⟨y221,hy221⟩:∃ y_:List (S35),y_ = (l0.take (a1:Int).toNat):=⟨_,rfl⟩
    replace H:(if ([]:List (S35)).length+y221.length<8796093022208 then ((some (([]:List (S35))++y221:List (S35))).bind fun y225=>(if a2_0 > ((ax l0 a1).f0) then (if y225.length<8796093022208 then ((some (y225++[(⟨(ax l0 a1).f0,wrap64 (a2_0 - ((ax l0 a1).f0))⟩:S35)]:List (S35))).bind fun y228=>(if (wrap64 (a2_0+a2_1)) < (wrap64 (((ax l0 a1).f0) + ((ax l0 a1).f1))) then (if y228.length<8796093022208 then ((some (y228++[(⟨wrap64 (a2_0+a2_1),wrap64 ((wrap64 (((ax l0 a1).f0) + ((ax l0 a1).f1))) - (wrap64 (a2_0+a2_1)))⟩:S35)]:List (S35))).bind fun y231=>(if 0≤(wrap64 (a1+1)) then (if (wrap64 (a1+1))≤(l0.length:Int) then ((some (l0.drop ((wrap64 (a1+1)):Int).toNat:List (S35))).bind fun y234=>(if y231.length+y234.length<8796093022208 then (some (y231++y234)) else (none))) else (none)) else (none))) else (none)) else (if 0≤(wrap64 (a1+1)) then (if (wrap64 (a1+1))≤(l0.length:Int) then ((some (l0.drop ((wrap64 (a1+1)):Int).toNat:List (S35))).bind fun y241=>(if y228.length+y241.length<8796093022208 then (some (y228++y241)) else (none))) else (none)) else (none)))) else (none)) else (if (wrap64 (a2_0+a2_1)) < (wrap64 (((ax l0 a1).f0) + ((ax l0 a1).f1))) then (if y225.length<8796093022208 then ((some (y225++[(⟨wrap64 (a2_0+a2_1),wrap64 ((wrap64 (((ax l0 a1).f0) + ((ax l0 a1).f1))) - (wrap64 (a2_0+a2_1)))⟩:S35)]:List (S35))).bind fun y248=>(if 0≤(wrap64 (a1+1)) then (if (wrap64 (a1+1))≤(l0.length:Int) then ((some (l0.drop ((wrap64 (a1+1)):Int).toNat:List (S35))).bind fun y251=>(if y248.length+y251.length<8796093022208 then (some (y248++y251)) else (none))) else (none)) else (none))) else (none)) else (if 0≤(wrap64 (a1+1)) then (if (wrap64 (a1+1))≤(l0.length:Int) then ((some (l0.drop ((wrap64 (a1+1)):Int).toNat:List (S35))).bind fun y258=>(if y225.length+y258.length<8796093022208 then (some (y225++y258)) else (none))) else (none)) else (none))))) else (none))=some r:=by first|(rw[hy221];with_reducible exact H)|(have H2_:=(Option.bind_some _ _).symm.trans H;rw[hy221];with_reducible exact H2_)|(have H2_:=(Option.bind_some _ _).symm.trans H;with_reducible exact H2_)|with_reducible exact H|(rw[hy221];exact H)|exact H
    have Ny221:=au hy221
    clear hy221
    by_cases c8:([]:List (S35)).length+y221.length<8796093022208
    ·rw [if_pos c8] at H
     have LMc8:=au c8
     clear c8
     obtain⟨y225,hy225⟩:∃ y_:List (S35),y_ = (([]:List (S35))++y221):=⟨_,rfl⟩
     replace H:(if a2_0 > ((ax l0 a1).f0) then (if y225.length<8796093022208 then ((some (y225++[(⟨(ax l0 a1).f0,wrap64 (a2_0 - ((ax l0 a1).f0))⟩:S35)]:List (S35))).bind fun y228=>(if (wrap64 (a2_0+a2_1)) < (wrap64 (((ax l0 a1).f0) + ((ax l0 a1).f1))) then (if y228.length<8796093022208 then ((some (y228++[(⟨wrap64 (a2_0+a2_1),wrap64 ((wrap64 (((ax l0 a1).f0) + ((ax l0 a1).f1))) - (wrap64 (a2_0+a2_1)))⟩:S35)]:List (S35))).bind fun y231=>(if 0≤(wrap64 (a1+1)) then (if (wrap64 (a1+1))≤(l0.length:Int) then ((some (l0.drop ((wrap64 (a1+1)):Int).toNat:List (S35))).bind fun y234=>(if y231.length+y234.length<8796093022208 then (some (y231++y234)) else (none))) else (none)) else (none))) else (none)) else (if 0≤(wrap64 (a1+1)) then (if (wrap64 (a1+1))≤(l0.length:Int) then ((some (l0.drop ((wrap64 (a1+1)):Int).toNat:List (S35))).bind fun y241=>(if y228.length+y241.length<8796093022208 then (some (y228++y241)) else (none))) else (none)) else (none)))) else (none)) else (if (wrap64 (a2_0+a2_1)) < (wrap64 (((ax l0 a1).f0) + ((ax l0 a1).f1))) then (if y225.length<8796093022208 then ((some (y225++[(⟨wrap64 (a2_0+a2_1),wrap64 ((wrap64 (((ax l0 a1).f0) + ((ax l0 a1).f1))) - (wrap64 (a2_0+a2_1)))⟩:S35)]:List (S35))).bind fun y248=>(if 0≤(wrap64 (a1+1)) then (if (wrap64 (a1+1))≤(l0.length:Int) then ((some (l0.drop ((wrap64 (a1+1)):Int).toNat:List (S35))).bind fun y251=>(if y248.length+y251.length<8796093022208 then (some (y248++y251)) else (none))) else (none)) else (none))) else (none)) else (if 0≤(wrap64 (a1+1)) then (if (wrap64 (a1+1))≤(l0.length:Int) then ((some (l0.drop ((wrap64 (a1+1)):Int).toNat:List (S35))).bind fun y258=>(if y225.length+y258.length<8796093022208 then (some (y225++y258)) else (none))) else (none)) else (none))))=some r:=by first|(rw[hy225];with_reducible exact H)|(have H2_:=(Option.bind_some _ _).symm.trans H;rw[hy225];with_reducible exact H2_)|(have H2_:=(Option.bind_some _ _).symm.trans H;with_reducible exact H2_)|with_reducible exact H|(rw[hy225];exact H)|exact H
     have Ny225:=au hy225
     clear hy225
     by_cases c9:a2_0 > ((ax l0 a1).f0)
     ·rw [if_pos c9] at H
      have c9b0:decide (((ax l0 a1).f0)<a2_0)=true:=decide_eq_true c9
      clear c9
      by_cases c10:y225.length<8796093022208
      ·rw [if_pos c10] at H
       have LMc10:=au c10
       clear c10
       obtain⟨y228,hy228⟩:∃ y_:List (S35),y_ = (y225++[(⟨(ax l0 a1).f0,wrap64 (a2_0 - ((ax l0 a1).f0))⟩:S35)]):=⟨_,rfl⟩
       replace H:(if (wrap64 (a2_0+a2_1)) < (wrap64 (((ax l0 a1).f0) + ((ax l0 a1).f1))) then (if y228.length<8796093022208 then ((some (y228++[(⟨wrap64 (a2_0+a2_1),wrap64 ((wrap64 (((ax l0 a1).f0) + ((ax l0 a1).f1))) - (wrap64 (a2_0+a2_1)))⟩:S35)]:List (S35))).bind fun y231=>(if 0≤(wrap64 (a1+1)) then (if (wrap64 (a1+1))≤(l0.length:Int) then ((some (l0.drop ((wrap64 (a1+1)):Int).toNat:List (S35))).bind fun y234=>(if y231.length+y234.length<8796093022208 then (some (y231++y234)) else (none))) else (none)) else (none))) else (none)) else (if 0≤(wrap64 (a1+1)) then (if (wrap64 (a1+1))≤(l0.length:Int) then ((some (l0.drop ((wrap64 (a1+1)):Int).toNat:List (S35))).bind fun y241=>(if y228.length+y241.length<8796093022208 then (some (y228++y241)) else (none))) else (none)) else (none)))=some r:=by first|(rw[hy228];with_reducible exact H)|(have H2_:=(Option.bind_some _ _).symm.trans H;rw[hy228];with_reducible exact H2_)|(have H2_:=(Option.bind_some _ _).symm.trans H;with_reducible exact H2_)|with_reducible exact H|(rw[hy228];exact H)|exact H
       have Ny228:=au hy228
       clear hy228
       by_cases c11:(wrap64 (a2_0+a2_1)) < (wrap64 (((ax l0 a1).f0) + ((ax l0 a1).f1)))
       ·rw [if_pos c11] at H
        have c11b0:decide ((wrap64 (a2_0+a2_1)) < (wrap64 (((ax l0 a1).f0) + ((ax l0 a1).f1))))=true:=decide_eq_true c11
        clear c11
        by_cases c12:y228.length<8796093022208
        ·rw [if_pos c12] at H
         have LMc12:=au c12
         clear c12
         obtain⟨y231,hy231⟩:∃ y_:List (S35),y_ = (y228++[(⟨wrap64 (a2_0+a2_1),wrap64 ((wrap64 (((ax l0 a1).f0) + ((ax l0 a1).f1))) - (wrap64 (a2_0+a2_1)))⟩:S35)]):=⟨_,rfl⟩
         replace H:(if 0≤(wrap64 (a1+1)) then (if (wrap64 (a1+1))≤(l0.length:Int) then ((some (l0.drop ((wrap64 (a1+1)):Int).toNat:List (S35))).bind fun y234=>(if y231.length+y234.length<8796093022208 then (some (y231++y234)) else (none))) else (none)) else (none))=some r:=by first|(rw[hy231];with_reducible exact H)|(have H2_:=(Option.bind_some _ _).symm.trans H;rw[hy231];with_reducible exact H2_)|(have H2_:=(Option.bind_some _ _).symm.trans H;with_reducible exact H2_)|with_reducible exact H|(rw[hy231];exact H)|exact H
         have Ny231:=au hy231
         clear hy231
         obtain⟨ji13,hji13⟩:∃ j_:Int,(wrap64 (a1+1))=j_:=⟨_,rfl⟩
         replace H:(if 0≤(ji13) then (if (ji13)≤(l0.length:Int) then ((some (l0.drop ((ji13):Int).toNat:List (S35))).bind fun y234=>(if y231.length+y234.length<8796093022208 then (some (y231++y234)) else (none))) else (none)) else (none))=some r:=by first|(rw[hji13] at H;exact H)|(simp only[hji13] at H ⊢;exact H)
         have hji13w:(IntKind.i64.wrap (a1+1))=ji13:=(jW _).trans hji13
         by_cases c14:0≤(ji13)
         ·rw[if_pos c14] at H
          have c14b0:=eq_true c14
          have c14b1:decide (0≤(ji13))=true:=decide_eq_true c14
          clear c14
          by_cases c15:(ji13)≤(l0.length:Int)
          ·rw[if_pos c15] at H
           have c15b0:=eq_true c15
           have c15b1:decide ((ji13)≤(l0.length:Int))=true:=decide_eq_true c15
           clear c15
           obtain⟨y234,hy234⟩:∃ y_:List (S35),y_ = (l0.drop ((ji13):Int).toNat):=⟨_,rfl⟩
           replace H:(if y231.length+y234.length<8796093022208 then (some (y231++y234)) else (none))=some r:=by first|(rw[hy234];with_reducible exact H)|(have H2_:=(Option.bind_some _ _).symm.trans H;rw[hy234];with_reducible exact H2_)|(have H2_:=(Option.bind_some _ _).symm.trans H;with_reducible exact H2_)|with_reducible exact H|(rw[hy234];exact H)|exact H
           have Ny234:=au hy234
           clear hy234
           by_cases c16:y231.length+y234.length<8796093022208
           ·rw[if_pos c16] at H
            have LMc16:=au c16
            clear c16
            obtain⟨y238,hy238⟩:∃ y_:List (S35),y_ = (y231++y234):=⟨_,rfl⟩
            replace H:(some y238)=some r:=by first|(rw[hy238];with_reducible exact H)|(have H2_:=(Option.bind_some _ _).symm.trans H;rw[hy238];with_reducible exact H2_)|(have H2_:=(Option.bind_some _ _).symm.trans H;with_reducible exact H2_)|with_reducible exact H|(rw[hy238];exact H)|exact H
            have Ny238:=au hy238
            clear hy238
            obtain rfl:=Option.some.inj H
            go_enter Try.func57,Try.ntmps57
            go_wp2_with (first|((with_reducible refine aM (N:=5) rfl ?_);refine aI ?hg (N:=5) ?hd (cs:=#[.int .i64 a2_0,.int .i64 a2_1]) (t:=35) ?hr ?_;(case hd=>rfl);(case hg=>rfl);(case hr=>first|(go_simp;done)|(go_simp;rfl));intro gb218 hg w17 hbox hb;have BK218:=au (hbox);have GW218:=au ((by rw[hg];exact(az (by with_reducible repeat(first|exact HB.out|apply ah|apply aa|apply ai))):w.heap.size≤gb218));have GE218:=au ((by rw[hg];exact(az (by with_reducible repeat(first|exact HB.out|apply ah|apply aa|apply ai))):w.heap.size≤gb218));replace HB:=au (aA (by with_reducible repeat(first|exact HB.out|apply ah|apply aa|apply ai)) hb);clear hb hbox hg;have p219:0≤(a1:Int):=of_decide_eq_true (by assumption);have q219:a1 < (l0.length:Int):=of_decide_eq_true (by assumption);obtain⟨ad219,e219,hx219_0,hx219_1⟩:=bE HR0.out a1 p219 q219;cases e219;replace hx219_0:=(HB.out.cell (World.block_lt_of_cell? w _ hx219_0)).trans hx219_0;replace hx219_1:=(HB.out.cell (World.block_lt_of_cell? w _ hx219_1)).trans hx219_1;replace p219:=eq_true p219;replace q219:=eq_true q219)|((with_reducible refine aM (N:=7) rfl ?_);refine aI ?hg (N:=7) ?hd (cs:=#[.int .i64 0,.int .i64 0]) (t:=35) ?hr ?_;(case hd=>rfl);(case hg=>rfl);(case hr=>first|(go_simp;done)|(go_simp;rfl));intro gb220 hg w18 hbox hb;have BK220:=au (hbox);have GW220:=au ((by rw[hg];exact(az (by with_reducible repeat(first|exact HB.out|apply ah|apply aa|apply ai|refine ae ?_ GE218.out))):w.heap.size≤gb220));have GE220:=au ((by rw[hg];exact(az (by with_reducible repeat(first|exact HB.out|apply ah|apply aa|apply ai|refine ae ?_ GE218.out))):w.heap.size≤gb220));replace HB:=au (aA (by with_reducible repeat(first|exact HB.out|apply ah|apply aa|apply ai|refine ae ?_ GE218.out)) hb);have NB218_220:=au ((by rw[hg];exact Nat.ne_of_lt (aG (g:=gb218) (o:=.cells #[.int .i64 a2_0,.int .i64 a2_1] 35 (0,0)) (by(with_reducible repeat(first|apply ag|apply aj|apply af));exact BK218.out)):gb218≠gb220));have NB220_218:=au ((by rw[hg];exact Nat.ne_of_gt (aG (g:=gb218) (o:=.cells #[.int .i64 a2_0,.int .i64 a2_1] 35 (0,0)) (by(with_reducible repeat(first|apply ag|apply aj|apply af));exact BK218.out)):gb220≠gb218));replace BK218:=au (ay (g:=gb218) (o:=.cells #[.int .i64 a2_0,.int .i64 a2_1] 35 (0,0)) (by(with_reducible repeat(first|apply ag|apply aj|apply af));exact BK218.out) hb);clear hb hbox hg;have hnb19:=NB220_218.out;have hnc19:=NB218_220.out;have hcz20_0:w18.cell? ⟨gb220,0,none⟩=some (.int .i64 0):=(ak BK220.out 0).trans rfl;have hcz20_1:w18.cell? ⟨gb220,1,none⟩=some (.int .i64 0):=(ak BK220.out 1).trans rfl;have hfz20_0:=av BK220.out 0;have hfz20_1:=av BK220.out 1)|((with_reducible refine gm (t:=35) (p:=7) rfl ?_);refine fJ (t:=35) (p:=7) (v:=?vo_w21) (w1:=((w18.setCell ⟨gb220,0,none⟩ (.int .i64 ((ax l0 a1).f0))).setCell ⟨gb220,1,none⟩ (.int .i64 ((ax l0 a1).f1)))) ?hg ?ho ?hn ?hr ?_;(case ho=>rfl);(case hg=>rfl);(case hn=>rfl);(case hr=>first|(go_simp;done)|(go_simp;rfl));intro w21 hw;have n0_:Aside0 (w21.heap[gb218]? = some (.cells #[.int .i64 a2_0,.int .i64 a2_1] 35 (0,0))):=⟨(by rw[hw];exact(by(with_reducible repeat(first|apply ag|apply aj|apply af));refine aH ?_ NB218_220.out _;(with_reducible repeat(first|apply ag|apply aj|apply af));refine aH ?_ NB218_220.out _;(with_reducible repeat(first|apply ag|apply aj|apply af));exact BK218.out))⟩;have n1_:Aside0 (w21.heap[gb220]? = some (.cells #[.int .i64 ((ax l0 a1).f0),.int .i64 ((ax l0 a1).f1)] 35 (0,0))):=⟨(by rw[hw];exact(by(with_reducible repeat(first|apply ag|apply aj|apply af));refine aK (cs:=#[.int .i64 ((ax l0 a1).f0),.int .i64 0]) ?_ 1 _ rfl;(with_reducible repeat(first|apply ag|apply aj|apply af));refine aK (cs:=#[.int .i64 0,.int .i64 0]) ?_ 0 _ rfl;(with_reducible repeat(first|apply ag|apply aj|apply af));exact BK220.out))⟩;have n2_:Aside0 (Below w.heap.size w w21):=⟨(by rw[hw];exact(by with_reducible repeat(first|exact HB.out|apply ah|apply aa|apply ai|refine ae ?_ GE218.out|refine ae ?_ GE220.out)))⟩;clear hw;clear BK218;clear BK220;clear HB;have BK218:=n0_;have BK220:=n1_;have HB:=n2_;clear n0_ n1_ n2_;have q22:(a1:Int)≤((l0.length:Int):Int):=of_decide_eq_true (by assumption);obtain⟨i022,hi022,_,hsz22,_⟩:=info_parts cz;have hroom22:l0.length≤c0:=HC0.out;have hC22:Kd.C k35 _ (some ad219) l0.length l0:=HR0.out;have hcut22:=jB (P:=Try.prog) 22 35 .i64 Try.underlying22 hi022 (some ad219) l0.length c0 a1 (of_decide_eq_true (by assumption)) q22 hroom22;have hr22:=Kd.fO (m:=(a1:Int).toNat) hC22 (by omega);have hy22:y221.length = (a1:Int).toNat:=(by rw[Ny221.out,List.length_take];omega);rw[← Ny221.out] at hr22;rw[← hy22] at hcut22;have HR224:=au hr22;have HC224:=au (show y221.length≤c0 from by omega);clear hr22 hC22 hroom22 hi022 hsz22;have KY22:=au hy22;clear hy22;replace q22:=eq_true q22)|((with_reducible refine bB (b:=.append) (xs:=#[.tmp 14,.tmp 17]) rfl ?_);at_builtin;refine Kd.cu k35 (w0:=w) w.heap.size rfl (.tmp 14) (.tmp 17) 22 35 (.agg #[(.int .i64 0),(.int .i64 0)]) 16 rfl Try.underlying22 cz rfl (by decide) (by omega) (.slice none 0 0) ([]:List (S35)) y221 _ _ _ (fun k_=>k_≠gb218∧k_≠gb220) (fun _=>False) rfl rfl ?aO ?aR (fun _ _ h=>h) (fun _ h=>h.elim) ?aF ?aB ?aS ?aL ?_;(case aR=>repeat(first|exact(Kd.aN HR224.out HB.out)|(with_reducible first|apply Kd.aV|apply Kd.aW|apply Kd.bf)));(case aB=>exact(by with_reducible repeat(first|exact HB.out|apply ah|apply aa|apply ai|refine ae ?_ GE218.out|refine ae ?_ GE220.out)));(case aF=>exact(fun k_ hk=>⟨Kd.cB (g:=gb218) (o:=.cells #[.int .i64 a2_0,.int .i64 a2_1] 35 (0,0)) (by(with_reducible repeat(first|apply ag|apply aj|apply af));exact BK218.out) k_ hk,Kd.cB (g:=gb220) (o:=.cells #[.int .i64 ((ax l0 a1).f0),.int .i64 ((ax l0 a1).f1)] 35 (0,0)) (by(with_reducible repeat(first|apply ag|apply aj|apply af));exact BK220.out) k_ hk⟩));(case aO=>exact((Kd.df _ _ _ _ (fun k_=>k_≠gb218∧k_≠gb220))));(case aS=>exact(az (by with_reducible repeat(first|exact HB.out|apply ah|apply aa|apply ai|refine ae ?_ GE218.out|refine ae ?_ GE220.out))));(case aL=>have:=LMc8.out;omega);intro v226 w23 ho hb hg hat;rw[← Ny225.out] at ho;replace BK218:=au (bn (g:=gb218) (o:=.cells #[.int .i64 a2_0,.int .i64 a2_1] 35 (0,0)) (by(with_reducible repeat(first|apply ag|apply aj|apply af));exact BK218.out) hg (by simp[Value.ownBlock]));replace BK220:=au (bn (g:=gb220) (o:=.cells #[.int .i64 ((ax l0 a1).f0),.int .i64 ((ax l0 a1).f1)] 35 (0,0)) (by(with_reducible repeat(first|apply ag|apply aj|apply af));exact BK220.out) hg (by simp[Value.ownBlock]));replace HB:=au (hb);have HO227:=au (ho);clear ho hb hg hat;have hcz24_0:w23.cell? ⟨gb218,0,none⟩=some (.int .i64 a2_0):=(ak BK218.out 0).trans rfl;have hcz24_1:w23.cell? ⟨gb218,1,none⟩=some (.int .i64 a2_1):=(ak BK218.out 1).trans rfl;have hfz24_0:=av BK218.out 0;have hfz24_1:=av BK218.out 1;have hcz25_0:w23.cell? ⟨gb220,0,none⟩=some (.int .i64 ((ax l0 a1).f0)):=(ak BK220.out 0).trans rfl;have hcz25_1:w23.cell? ⟨gb220,1,none⟩=some (.int .i64 ((ax l0 a1).f1)):=(ak BK220.out 1).trans rfl;have hfz25_0:=av BK220.out 0;have hfz25_1:=av BK220.out 1)|((with_reducible refine bB (b:=.append) (xs:=#[.tmp 24,.tmp 33]) rfl ?_);at_builtin;refine Kd.ek k35 (w0:=w) w.heap.size rfl (.tmp 24) (.tmp 33) 22 35 (.agg #[(.int .i64 0),(.int .i64 0)]) 16 rfl Try.underlying22 cz rfl (by decide) (by omega) v226 y225 (⟨(ax l0 a1).f0,wrap64 (a2_0 - ((ax l0 a1).f0))⟩:S35) [.int .i64 ((ax l0 a1).f0),.int .i64 (wrap64 (a2_0 - ((ax l0 a1).f0)))] (fun k_=>k_≠gb218∧k_≠gb220) (fun _=>False) rfl rfl ?aP (fun _ hk=>hk.elim) ?aF ?aO ?aB ?aS ?aL ?_;(case aP=>exact eY _ _ _ (⟨(ax l0 a1).f0,wrap64 (a2_0 - ((ax l0 a1).f0))⟩:S35));(case aB=>exact(by with_reducible repeat(first|exact HB.out|apply ah|apply aa|apply ai|refine ae ?_ GE218.out|refine ae ?_ GE220.out)));(case aF=>exact(fun k_ hk=>⟨Kd.cB (g:=gb218) (o:=.cells #[.int .i64 a2_0,.int .i64 a2_1] 35 (0,0)) (by(with_reducible repeat(first|apply ag|apply aj|apply af));exact BK218.out) k_ hk,Kd.cB (g:=gb220) (o:=.cells #[.int .i64 ((ax l0 a1).f0),.int .i64 ((ax l0 a1).f1)] 35 (0,0)) (by(with_reducible repeat(first|apply ag|apply aj|apply af));exact BK220.out) k_ hk⟩));(case aO=>exact(by(with_reducible repeat(first|apply Kd.aD|apply Kd.aC|apply Kd.aJ));exact HO227.out));(case aS=>exact(az (by with_reducible repeat(first|exact HB.out|apply ah|apply aa|apply ai|refine ae ?_ GE218.out|refine ae ?_ GE220.out))));(case aL=>have:=LMc10.out;omega);intro v229 w26 ho hb hg hat;rw[← Ny228.out] at ho;replace BK218:=au (bn (g:=gb218) (o:=.cells #[.int .i64 a2_0,.int .i64 a2_1] 35 (0,0)) (by(with_reducible repeat(first|apply ag|apply aj|apply af));exact BK218.out) hg (Kd.dA HO227.out (fun _ hk=>hk.1)));replace BK220:=au (bn (g:=gb220) (o:=.cells #[.int .i64 ((ax l0 a1).f0),.int .i64 ((ax l0 a1).f1)] 35 (0,0)) (by(with_reducible repeat(first|apply ag|apply aj|apply af));exact BK220.out) hg (Kd.dA HO227.out (fun _ hk=>hk.2)));replace HB:=au (hb);have HO230:=au (ho);clear HO227;clear ho hb hg hat;have hcz27_0:w26.cell? ⟨gb218,0,none⟩=some (.int .i64 a2_0):=(ak BK218.out 0).trans rfl;have hcz27_1:w26.cell? ⟨gb218,1,none⟩=some (.int .i64 a2_1):=(ak BK218.out 1).trans rfl;have hfz27_0:=av BK218.out 0;have hfz27_1:=av BK218.out 1;have hcz28_0:w26.cell? ⟨gb220,0,none⟩=some (.int .i64 ((ax l0 a1).f0)):=(ak BK220.out 0).trans rfl;have hcz28_1:w26.cell? ⟨gb220,1,none⟩=some (.int .i64 ((ax l0 a1).f1)):=(ak BK220.out 1).trans rfl;have hfz28_0:=av BK220.out 0;have hfz28_1:=av BK220.out 1)|((with_reducible refine bB (b:=.append) (xs:=#[.tmp 47,.tmp 57]) rfl ?_);at_builtin;refine Kd.ek k35 (w0:=w) w.heap.size rfl (.tmp 47) (.tmp 57) 22 35 (.agg #[(.int .i64 0),(.int .i64 0)]) 16 rfl Try.underlying22 cz rfl (by decide) (by omega) v229 y228 (⟨wrap64 (a2_0+a2_1),wrap64 ((wrap64 (((ax l0 a1).f0) + ((ax l0 a1).f1))) - (wrap64 (a2_0+a2_1)))⟩:S35) [.int .i64 (wrap64 (a2_0+a2_1)),.int .i64 (wrap64 ((wrap64 (((ax l0 a1).f0) + ((ax l0 a1).f1))) - (wrap64 (a2_0+a2_1))))] (fun k_=>k_≠gb218∧k_≠gb220) (fun _=>False) rfl rfl ?aP (fun _ hk=>hk.elim) ?aF ?aO ?aB ?aS ?aL ?_;(case aP=>exact eY _ _ _ (⟨wrap64 (a2_0+a2_1),wrap64 ((wrap64 (((ax l0 a1).f0) + ((ax l0 a1).f1))) - (wrap64 (a2_0+a2_1)))⟩:S35));(case aB=>exact(by with_reducible repeat(first|exact HB.out|apply ah|apply aa|apply ai|refine ae ?_ GE218.out|refine ae ?_ GE220.out)));(case aF=>exact(fun k_ hk=>⟨Kd.cB (g:=gb218) (o:=.cells #[.int .i64 a2_0,.int .i64 a2_1] 35 (0,0)) (by(with_reducible repeat(first|apply ag|apply aj|apply af));exact BK218.out) k_ hk,Kd.cB (g:=gb220) (o:=.cells #[.int .i64 ((ax l0 a1).f0),.int .i64 ((ax l0 a1).f1)] 35 (0,0)) (by(with_reducible repeat(first|apply ag|apply aj|apply af));exact BK220.out) k_ hk⟩));(case aO=>exact(by(with_reducible repeat(first|apply Kd.aD|apply Kd.aC|apply Kd.aJ));exact HO230.out));(case aS=>exact(az (by with_reducible repeat(first|exact HB.out|apply ah|apply aa|apply ai|refine ae ?_ GE218.out|refine ae ?_ GE220.out))));(case aL=>have:=LMc12.out;omega);intro v232 w29 ho hb hg hat;rw[← Ny231.out] at ho;replace BK218:=au (bn (g:=gb218) (o:=.cells #[.int .i64 a2_0,.int .i64 a2_1] 35 (0,0)) (by(with_reducible repeat(first|apply ag|apply aj|apply af));exact BK218.out) hg (Kd.dA HO230.out (fun _ hk=>hk.1)));replace BK220:=au (bn (g:=gb220) (o:=.cells #[.int .i64 ((ax l0 a1).f0),.int .i64 ((ax l0 a1).f1)] 35 (0,0)) (by(with_reducible repeat(first|apply ag|apply aj|apply af));exact BK220.out) hg (Kd.dA HO230.out (fun _ hk=>hk.2)));replace HB:=au (hb);have HO233:=au (ho);clear HO230;clear ho hb hg hat;have q30:((ji13):Int)≤((l0.length:Int):Int):=of_decide_eq_true (by assumption);obtain⟨i030,hi030,_,hsz30,_⟩:=info_parts cz;have hroom30:l0.length≤c0:=HC0.out;have hC30:Kd.C k35 _ (some ad219) l0.length l0:=HR0.out;have q030:(0:Int)≤((ji13):Int):=of_decide_eq_true (by assumption);have hcut30:=gN (P:=Try.prog) 22 35 .i64 Try.underlying22 hi030 2 hsz30 (some ad219) l0.length c0 (ji13) q030 q30;have hr30:=Kd.ib (m:=((ji13):Int).toNat) (c:=c0) hC30 (by omega) hroom30;obtain⟨A30,hA30⟩:∃ A1,A1 = (if c0 = ((ji13):Int).toNat then (some ad219) else ((some ad219):Option Addr).map (·.add (((ji13):Int).toNat*2))):=⟨_,rfl⟩;obtain⟨c30,hc30⟩:∃ c1,c1=c0 - ((ji13):Int).toNat:=⟨_,rfl⟩;have hy30:y234.length=l0.length - ((ji13):Int).toNat:=(by rw[Ny234.out,List.length_drop] <;> omega);rw[show(l0).drop ((ji13):Int).toNat=y234 from Ny234.out.symm] at hr30;replace hr30:Kd.C k35 _ A30 y234.length y234:=(by rw[hA30];exact hr30);rw[← hy30,← hA30,← hc30] at hcut30;have HR237:=au hr30;have HC237:=au (show y234.length≤c30 from by rw[hy30,hc30];exact Nat.sub_le_sub_right hroom30 _);clear hr30 hC30 hroom30 hi030 hsz30 hc30;have KY30:=au hy30;have KA30:=au hA30;clear hy30 hA30;replace q30:=eq_true q30)|((with_reducible refine bB (b:=.append) (xs:=#[.tmp 59,.tmp 63]) rfl ?_);at_builtin;refine Kd.cu k35 (w0:=w) w.heap.size rfl (.tmp 59) (.tmp 63) 22 35 (.agg #[(.int .i64 0),(.int .i64 0)]) 16 rfl Try.underlying22 cz rfl (by decide) (by omega) v232 y231 y234 _ _ _ (fun k_=>k_≠gb218∧k_≠gb220) (fun _=>False) rfl rfl ?aO ?aR (fun _ _ h=>h) (fun _ h=>h.elim) ?aF ?aB ?aS ?aL ?_;(case aR=>repeat(first|exact(Kd.aN HR237.out HB.out)|(with_reducible first|apply Kd.aV|apply Kd.aW|apply Kd.bf)));(case aB=>exact(by with_reducible repeat(first|exact HB.out|apply ah|apply aa|apply ai|refine ae ?_ GE218.out|refine ae ?_ GE220.out)));(case aF=>exact(fun k_ hk=>⟨Kd.cB (g:=gb218) (o:=.cells #[.int .i64 a2_0,.int .i64 a2_1] 35 (0,0)) (by(with_reducible repeat(first|apply ag|apply aj|apply af));exact BK218.out) k_ hk,Kd.cB (g:=gb220) (o:=.cells #[.int .i64 ((ax l0 a1).f0),.int .i64 ((ax l0 a1).f1)] 35 (0,0)) (by(with_reducible repeat(first|apply ag|apply aj|apply af));exact BK220.out) k_ hk⟩));(case aO=>exact(by(with_reducible repeat(first|apply Kd.aD|apply Kd.aC|apply Kd.aJ));exact HO233.out));(case aS=>exact(az (by with_reducible repeat(first|exact HB.out|apply ah|apply aa|apply ai|refine ae ?_ GE218.out|refine ae ?_ GE220.out))));(case aL=>have:=LMc16.out;omega);intro v239 w31 ho hb hg hat;rw[← Ny238.out] at ho;replace BK218:=au (bn (g:=gb218) (o:=.cells #[.int .i64 a2_0,.int .i64 a2_1] 35 (0,0)) (by(with_reducible repeat(first|apply ag|apply aj|apply af));exact BK218.out) hg (Kd.dA HO233.out (fun _ hk=>hk.1)));replace BK220:=au (bn (g:=gb220) (o:=.cells #[.int .i64 ((ax l0 a1).f0),.int .i64 ((ax l0 a1).f1)] 35 (0,0)) (by(with_reducible repeat(first|apply ag|apply aj|apply af));exact BK220.out) hg (Kd.dA HO233.out (fun _ hk=>hk.2)));replace HB:=au (hb);have HO240:=au (ho);clear HO233;clear ho hb hg hat))
            go_ret
            exact⟨_,by first|rfl|(simp[cO,cZ] <;> rfl)|(simp only[← hji13];first|rfl|(simp[cO,cZ] <;> rfl))|(simp[*,cO,cZ] <;> rfl)|(simp[E.eH];done)|(rw[E.fG]),by(with_reducible repeat(first|apply Kd.aD|apply Kd.aC|apply Kd.aJ));exact Kd.aY HO240.out (fun _ hk=>trivial),by with_reducible repeat(first|exact HB.out|apply ah|apply aa|apply ai|refine ae ?_ GE218.out|refine ae ?_ GE220.out)⟩
           ·rw[if_neg c16] at H
            exact absurd H (by simp)
          ·rw[if_neg c15] at H
           exact absurd H (by simp)
         ·rw[if_neg c14] at H
          exact absurd H (by simp)
        ·rw[if_neg c12] at H
         exact absurd H (by simp)
       ·rw [if_neg c11] at H
        have c11b0:decide ((wrap64 (a2_0+a2_1)) < (wrap64 (((ax l0 a1).f0) + ((ax l0 a1).f1))))=false:=decide_eq_false c11
        clear c11
        obtain⟨ji32,hji32⟩:∃ j_:Int,(wrap64 (a1+1))=j_:=⟨_,rfl⟩
        replace H:(if 0≤(ji32) then (if (ji32)≤(l0.length:Int) then ((some (l0.drop ((ji32):Int).toNat:List (S35))).bind fun y241=>(if y228.length+y241.length<8796093022208 then (some (y228++y241)) else (none))) else (none)) else (none))=some r:=by first|(rw[hji32] at H;exact H)|(simp only[hji32] at H ⊢;exact H)
        have hji32w:(IntKind.i64.wrap (a1+1))=ji32:=(jW _).trans hji32
        by_cases c33:0≤(ji32)
        ·rw[if_pos c33] at H
         have c33b0:=eq_true c33
         have c33b1:decide (0≤(ji32))=true:=decide_eq_true c33
         clear c33
         by_cases c34:(ji32)≤(l0.length:Int)
         ·rw[if_pos c34] at H
          have c34b0:=eq_true c34
          have c34b1:decide ((ji32)≤(l0.length:Int))=true:=decide_eq_true c34
          clear c34
          obtain⟨y241,hy241⟩:∃ y_:List (S35),y_ = (l0.drop ((ji32):Int).toNat):=⟨_,rfl⟩
          replace H:(if y228.length+y241.length<8796093022208 then (some (y228++y241)) else (none))=some r:=by first|(rw[hy241];with_reducible exact H)|(have H2_:=(Option.bind_some _ _).symm.trans H;rw[hy241];with_reducible exact H2_)|(have H2_:=(Option.bind_some _ _).symm.trans H;with_reducible exact H2_)|with_reducible exact H|(rw[hy241];exact H)|exact H
          have Ny241:=au hy241
          clear hy241
          by_cases c35:y228.length+y241.length<8796093022208
          ·rw[if_pos c35] at H
           have LMc35:=au c35
           clear c35
           obtain⟨y245,hy245⟩:∃ y_:List (S35),y_ = (y228++y241):=⟨_,rfl⟩
           replace H:(some y245)=some r:=by first|(rw[hy245];with_reducible exact H)|(have H2_:=(Option.bind_some _ _).symm.trans H;rw[hy245];with_reducible exact H2_)|(have H2_:=(Option.bind_some _ _).symm.trans H;with_reducible exact H2_)|with_reducible exact H|(rw[hy245];exact H)|exact H
           have Ny245:=au hy245
           clear hy245
           obtain rfl:=Option.some.inj H
           go_enter Try.func57,Try.ntmps57
           go_wp2_with (first|((with_reducible refine aM (N:=5) rfl ?_);refine aI ?hg (N:=5) ?hd (cs:=#[.int .i64 a2_0,.int .i64 a2_1]) (t:=35) ?hr ?_;(case hd=>rfl);(case hg=>rfl);(case hr=>first|(go_simp;done)|(go_simp;rfl));intro gb218 hg w36 hbox hb;have BK218:=au (hbox);have GW218:=au ((by rw[hg];exact(az (by with_reducible repeat(first|exact HB.out|apply ah|apply aa|apply ai))):w.heap.size≤gb218));have GE218:=au ((by rw[hg];exact(az (by with_reducible repeat(first|exact HB.out|apply ah|apply aa|apply ai))):w.heap.size≤gb218));replace HB:=au (aA (by with_reducible repeat(first|exact HB.out|apply ah|apply aa|apply ai)) hb);clear hb hbox hg;have p219:0≤(a1:Int):=of_decide_eq_true (by assumption);have q219:a1 < (l0.length:Int):=of_decide_eq_true (by assumption);obtain⟨ad219,e219,hx219_0,hx219_1⟩:=bE HR0.out a1 p219 q219;cases e219;replace hx219_0:=(HB.out.cell (World.block_lt_of_cell? w _ hx219_0)).trans hx219_0;replace hx219_1:=(HB.out.cell (World.block_lt_of_cell? w _ hx219_1)).trans hx219_1;replace p219:=eq_true p219;replace q219:=eq_true q219)|((with_reducible refine aM (N:=7) rfl ?_);refine aI ?hg (N:=7) ?hd (cs:=#[.int .i64 0,.int .i64 0]) (t:=35) ?hr ?_;(case hd=>rfl);(case hg=>rfl);(case hr=>first|(go_simp;done)|(go_simp;rfl));intro gb220 hg w37 hbox hb;have BK220:=au (hbox);have GW220:=au ((by rw[hg];exact(az (by with_reducible repeat(first|exact HB.out|apply ah|apply aa|apply ai|refine ae ?_ GE218.out))):w.heap.size≤gb220));have GE220:=au ((by rw[hg];exact(az (by with_reducible repeat(first|exact HB.out|apply ah|apply aa|apply ai|refine ae ?_ GE218.out))):w.heap.size≤gb220));replace HB:=au (aA (by with_reducible repeat(first|exact HB.out|apply ah|apply aa|apply ai|refine ae ?_ GE218.out)) hb);have NB218_220:=au ((by rw[hg];exact Nat.ne_of_lt (aG (g:=gb218) (o:=.cells #[.int .i64 a2_0,.int .i64 a2_1] 35 (0,0)) (by(with_reducible repeat(first|apply ag|apply aj|apply af));exact BK218.out)):gb218≠gb220));have NB220_218:=au ((by rw[hg];exact Nat.ne_of_gt (aG (g:=gb218) (o:=.cells #[.int .i64 a2_0,.int .i64 a2_1] 35 (0,0)) (by(with_reducible repeat(first|apply ag|apply aj|apply af));exact BK218.out)):gb220≠gb218));replace BK218:=au (ay (g:=gb218) (o:=.cells #[.int .i64 a2_0,.int .i64 a2_1] 35 (0,0)) (by(with_reducible repeat(first|apply ag|apply aj|apply af));exact BK218.out) hb);clear hb hbox hg;have hnb38:=NB220_218.out;have hnc38:=NB218_220.out;have hcz39_0:w37.cell? ⟨gb220,0,none⟩=some (.int .i64 0):=(ak BK220.out 0).trans rfl;have hcz39_1:w37.cell? ⟨gb220,1,none⟩=some (.int .i64 0):=(ak BK220.out 1).trans rfl;have hfz39_0:=av BK220.out 0;have hfz39_1:=av BK220.out 1)|((with_reducible refine gm (t:=35) (p:=7) rfl ?_);refine fJ (t:=35) (p:=7) (v:=?vo_w40) (w1:=((w37.setCell ⟨gb220,0,none⟩ (.int .i64 ((ax l0 a1).f0))).setCell ⟨gb220,1,none⟩ (.int .i64 ((ax l0 a1).f1)))) ?hg ?ho ?hn ?hr ?_;(case ho=>rfl);(case hg=>rfl);(case hn=>rfl);(case hr=>first|(go_simp;done)|(go_simp;rfl));intro w40 hw;have n0_:Aside0 (w40.heap[gb218]? = some (.cells #[.int .i64 a2_0,.int .i64 a2_1] 35 (0,0))):=⟨(by rw[hw];exact(by(with_reducible repeat(first|apply ag|apply aj|apply af));refine aH ?_ NB218_220.out _;(with_reducible repeat(first|apply ag|apply aj|apply af));refine aH ?_ NB218_220.out _;(with_reducible repeat(first|apply ag|apply aj|apply af));exact BK218.out))⟩;have n1_:Aside0 (w40.heap[gb220]? = some (.cells #[.int .i64 ((ax l0 a1).f0),.int .i64 ((ax l0 a1).f1)] 35 (0,0))):=⟨(by rw[hw];exact(by(with_reducible repeat(first|apply ag|apply aj|apply af));refine aK (cs:=#[.int .i64 ((ax l0 a1).f0),.int .i64 0]) ?_ 1 _ rfl;(with_reducible repeat(first|apply ag|apply aj|apply af));refine aK (cs:=#[.int .i64 0,.int .i64 0]) ?_ 0 _ rfl;(with_reducible repeat(first|apply ag|apply aj|apply af));exact BK220.out))⟩;have n2_:Aside0 (Below w.heap.size w w40):=⟨(by rw[hw];exact(by with_reducible repeat(first|exact HB.out|apply ah|apply aa|apply ai|refine ae ?_ GE218.out|refine ae ?_ GE220.out)))⟩;clear hw;clear BK218;clear BK220;clear HB;have BK218:=n0_;have BK220:=n1_;have HB:=n2_;clear n0_ n1_ n2_;have q41:(a1:Int)≤((l0.length:Int):Int):=of_decide_eq_true (by assumption);obtain⟨i041,hi041,_,hsz41,_⟩:=info_parts cz;have hroom41:l0.length≤c0:=HC0.out;have hC41:Kd.C k35 _ (some ad219) l0.length l0:=HR0.out;have hcut41:=jB (P:=Try.prog) 22 35 .i64 Try.underlying22 hi041 (some ad219) l0.length c0 a1 (of_decide_eq_true (by assumption)) q41 hroom41;have hr41:=Kd.fO (m:=(a1:Int).toNat) hC41 (by omega);have hy41:y221.length = (a1:Int).toNat:=(by rw[Ny221.out,List.length_take];omega);rw[← Ny221.out] at hr41;rw[← hy41] at hcut41;have HR224:=au hr41;have HC224:=au (show y221.length≤c0 from by omega);clear hr41 hC41 hroom41 hi041 hsz41;have KY41:=au hy41;clear hy41;replace q41:=eq_true q41)|((with_reducible refine bB (b:=.append) (xs:=#[.tmp 14,.tmp 17]) rfl ?_);at_builtin;refine Kd.cu k35 (w0:=w) w.heap.size rfl (.tmp 14) (.tmp 17) 22 35 (.agg #[(.int .i64 0),(.int .i64 0)]) 16 rfl Try.underlying22 cz rfl (by decide) (by omega) (.slice none 0 0) ([]:List (S35)) y221 _ _ _ (fun k_=>k_≠gb218∧k_≠gb220) (fun _=>False) rfl rfl ?aO ?aR (fun _ _ h=>h) (fun _ h=>h.elim) ?aF ?aB ?aS ?aL ?_;(case aR=>repeat(first|exact(Kd.aN HR224.out HB.out)|(with_reducible first|apply Kd.aV|apply Kd.aW|apply Kd.bf)));(case aB=>exact(by with_reducible repeat(first|exact HB.out|apply ah|apply aa|apply ai|refine ae ?_ GE218.out|refine ae ?_ GE220.out)));(case aF=>exact(fun k_ hk=>⟨Kd.cB (g:=gb218) (o:=.cells #[.int .i64 a2_0,.int .i64 a2_1] 35 (0,0)) (by(with_reducible repeat(first|apply ag|apply aj|apply af));exact BK218.out) k_ hk,Kd.cB (g:=gb220) (o:=.cells #[.int .i64 ((ax l0 a1).f0),.int .i64 ((ax l0 a1).f1)] 35 (0,0)) (by(with_reducible repeat(first|apply ag|apply aj|apply af));exact BK220.out) k_ hk⟩));(case aO=>exact((Kd.df _ _ _ _ (fun k_=>k_≠gb218∧k_≠gb220))));(case aS=>exact(az (by with_reducible repeat(first|exact HB.out|apply ah|apply aa|apply ai|refine ae ?_ GE218.out|refine ae ?_ GE220.out))));(case aL=>have:=LMc8.out;omega);intro v226 w42 ho hb hg hat;rw[← Ny225.out] at ho;replace BK218:=au (bn (g:=gb218) (o:=.cells #[.int .i64 a2_0,.int .i64 a2_1] 35 (0,0)) (by(with_reducible repeat(first|apply ag|apply aj|apply af));exact BK218.out) hg (by simp[Value.ownBlock]));replace BK220:=au (bn (g:=gb220) (o:=.cells #[.int .i64 ((ax l0 a1).f0),.int .i64 ((ax l0 a1).f1)] 35 (0,0)) (by(with_reducible repeat(first|apply ag|apply aj|apply af));exact BK220.out) hg (by simp[Value.ownBlock]));replace HB:=au (hb);have HO227:=au (ho);clear ho hb hg hat;have hcz43_0:w42.cell? ⟨gb218,0,none⟩=some (.int .i64 a2_0):=(ak BK218.out 0).trans rfl;have hcz43_1:w42.cell? ⟨gb218,1,none⟩=some (.int .i64 a2_1):=(ak BK218.out 1).trans rfl;have hfz43_0:=av BK218.out 0;have hfz43_1:=av BK218.out 1;have hcz44_0:w42.cell? ⟨gb220,0,none⟩=some (.int .i64 ((ax l0 a1).f0)):=(ak BK220.out 0).trans rfl;have hcz44_1:w42.cell? ⟨gb220,1,none⟩=some (.int .i64 ((ax l0 a1).f1)):=(ak BK220.out 1).trans rfl;have hfz44_0:=av BK220.out 0;have hfz44_1:=av BK220.out 1)|((with_reducible refine bB (b:=.append) (xs:=#[.tmp 24,.tmp 33]) rfl ?_);at_builtin;refine Kd.ek k35 (w0:=w) w.heap.size rfl (.tmp 24) (.tmp 33) 22 35 (.agg #[(.int .i64 0),(.int .i64 0)]) 16 rfl Try.underlying22 cz rfl (by decide) (by omega) v226 y225 (⟨(ax l0 a1).f0,wrap64 (a2_0 - ((ax l0 a1).f0))⟩:S35) [.int .i64 ((ax l0 a1).f0),.int .i64 (wrap64 (a2_0 - ((ax l0 a1).f0)))] (fun k_=>k_≠gb218∧k_≠gb220) (fun _=>False) rfl rfl ?aP (fun _ hk=>hk.elim) ?aF ?aO ?aB ?aS ?aL ?_;(case aP=>exact eY _ _ _ (⟨(ax l0 a1).f0,wrap64 (a2_0 - ((ax l0 a1).f0))⟩:S35));(case aB=>exact(by with_reducible repeat(first|exact HB.out|apply ah|apply aa|apply ai|refine ae ?_ GE218.out|refine ae ?_ GE220.out)));(case aF=>exact(fun k_ hk=>⟨Kd.cB (g:=gb218) (o:=.cells #[.int .i64 a2_0,.int .i64 a2_1] 35 (0,0)) (by(with_reducible repeat(first|apply ag|apply aj|apply af));exact BK218.out) k_ hk,Kd.cB (g:=gb220) (o:=.cells #[.int .i64 ((ax l0 a1).f0),.int .i64 ((ax l0 a1).f1)] 35 (0,0)) (by(with_reducible repeat(first|apply ag|apply aj|apply af));exact BK220.out) k_ hk⟩));(case aO=>exact(by(with_reducible repeat(first|apply Kd.aD|apply Kd.aC|apply Kd.aJ));exact HO227.out));(case aS=>exact(az (by with_reducible repeat(first|exact HB.out|apply ah|apply aa|apply ai|refine ae ?_ GE218.out|refine ae ?_ GE220.out))));(case aL=>have:=LMc10.out;omega);intro v229 w45 ho hb hg hat;rw[← Ny228.out] at ho;replace BK218:=au (bn (g:=gb218) (o:=.cells #[.int .i64 a2_0,.int .i64 a2_1] 35 (0,0)) (by(with_reducible repeat(first|apply ag|apply aj|apply af));exact BK218.out) hg (Kd.dA HO227.out (fun _ hk=>hk.1)));replace BK220:=au (bn (g:=gb220) (o:=.cells #[.int .i64 ((ax l0 a1).f0),.int .i64 ((ax l0 a1).f1)] 35 (0,0)) (by(with_reducible repeat(first|apply ag|apply aj|apply af));exact BK220.out) hg (Kd.dA HO227.out (fun _ hk=>hk.2)));replace HB:=au (hb);have HO230:=au (ho);clear HO227;clear ho hb hg hat;have hcz46_0:w45.cell? ⟨gb218,0,none⟩=some (.int .i64 a2_0):=(ak BK218.out 0).trans rfl;have hcz46_1:w45.cell? ⟨gb218,1,none⟩=some (.int .i64 a2_1):=(ak BK218.out 1).trans rfl;have hfz46_0:=av BK218.out 0;have hfz46_1:=av BK218.out 1;have hcz47_0:w45.cell? ⟨gb220,0,none⟩=some (.int .i64 ((ax l0 a1).f0)):=(ak BK220.out 0).trans rfl;have hcz47_1:w45.cell? ⟨gb220,1,none⟩=some (.int .i64 ((ax l0 a1).f1)):=(ak BK220.out 1).trans rfl;have hfz47_0:=av BK220.out 0;have hfz47_1:=av BK220.out 1;have q48:((ji32):Int)≤((l0.length:Int):Int):=of_decide_eq_true (by assumption);obtain⟨i048,hi048,_,hsz48,_⟩:=info_parts cz;have hroom48:l0.length≤c0:=HC0.out;have hC48:Kd.C k35 _ (some ad219) l0.length l0:=HR0.out;have q048:(0:Int)≤((ji32):Int):=of_decide_eq_true (by assumption);have hcut48:=gN (P:=Try.prog) 22 35 .i64 Try.underlying22 hi048 2 hsz48 (some ad219) l0.length c0 (ji32) q048 q48;have hr48:=Kd.ib (m:=((ji32):Int).toNat) (c:=c0) hC48 (by omega) hroom48;obtain⟨A48,hA48⟩:∃ A1,A1 = (if c0 = ((ji32):Int).toNat then (some ad219) else ((some ad219):Option Addr).map (·.add (((ji32):Int).toNat*2))):=⟨_,rfl⟩;obtain⟨c48,hc48⟩:∃ c1,c1=c0 - ((ji32):Int).toNat:=⟨_,rfl⟩;have hy48:y241.length=l0.length - ((ji32):Int).toNat:=(by rw[Ny241.out,List.length_drop] <;> omega);rw[show(l0).drop ((ji32):Int).toNat=y241 from Ny241.out.symm] at hr48;replace hr48:Kd.C k35 _ A48 y241.length y241:=(by rw[hA48];exact hr48);rw[← hy48,← hA48,← hc48] at hcut48;have HR244:=au hr48;have HC244:=au (show y241.length≤c48 from by rw[hy48,hc48];exact Nat.sub_le_sub_right hroom48 _);clear hr48 hC48 hroom48 hi048 hsz48 hc48;have KY48:=au hy48;have KA48:=au hA48;clear hy48 hA48;replace q48:=eq_true q48)|((with_reducible refine bB (b:=.append) (xs:=#[.tmp 59,.tmp 63]) rfl ?_);at_builtin;refine Kd.cu k35 (w0:=w) w.heap.size rfl (.tmp 59) (.tmp 63) 22 35 (.agg #[(.int .i64 0),(.int .i64 0)]) 16 rfl Try.underlying22 cz rfl (by decide) (by omega) v229 y228 y241 _ _ _ (fun k_=>k_≠gb218∧k_≠gb220) (fun _=>False) rfl rfl ?aO ?aR (fun _ _ h=>h) (fun _ h=>h.elim) ?aF ?aB ?aS ?aL ?_;(case aR=>repeat(first|exact(Kd.aN HR244.out HB.out)|(with_reducible first|apply Kd.aV|apply Kd.aW|apply Kd.bf)));(case aB=>exact(by with_reducible repeat(first|exact HB.out|apply ah|apply aa|apply ai|refine ae ?_ GE218.out|refine ae ?_ GE220.out)));(case aF=>exact(fun k_ hk=>⟨Kd.cB (g:=gb218) (o:=.cells #[.int .i64 a2_0,.int .i64 a2_1] 35 (0,0)) (by(with_reducible repeat(first|apply ag|apply aj|apply af));exact BK218.out) k_ hk,Kd.cB (g:=gb220) (o:=.cells #[.int .i64 ((ax l0 a1).f0),.int .i64 ((ax l0 a1).f1)] 35 (0,0)) (by(with_reducible repeat(first|apply ag|apply aj|apply af));exact BK220.out) k_ hk⟩));(case aO=>exact(by(with_reducible repeat(first|apply Kd.aD|apply Kd.aC|apply Kd.aJ));exact HO230.out));(case aS=>exact(az (by with_reducible repeat(first|exact HB.out|apply ah|apply aa|apply ai|refine ae ?_ GE218.out|refine ae ?_ GE220.out))));(case aL=>have:=LMc35.out;omega);intro v246 w49 ho hb hg hat;rw[← Ny245.out] at ho;replace BK218:=au (bn (g:=gb218) (o:=.cells #[.int .i64 a2_0,.int .i64 a2_1] 35 (0,0)) (by(with_reducible repeat(first|apply ag|apply aj|apply af));exact BK218.out) hg (Kd.dA HO230.out (fun _ hk=>hk.1)));replace BK220:=au (bn (g:=gb220) (o:=.cells #[.int .i64 ((ax l0 a1).f0),.int .i64 ((ax l0 a1).f1)] 35 (0,0)) (by(with_reducible repeat(first|apply ag|apply aj|apply af));exact BK220.out) hg (Kd.dA HO230.out (fun _ hk=>hk.2)));replace HB:=au (hb);have HO247:=au (ho);clear HO230;clear ho hb hg hat))
           go_ret
           exact⟨_,by first|rfl|(simp[cO,cZ] <;> rfl)|(simp only[← hji32];first|rfl|(simp[cO,cZ] <;> rfl))|(simp[*,cO,cZ] <;> rfl)|(simp[E.eH];done)|(rw[E.fG]),by(with_reducible repeat(first|apply Kd.aD|apply Kd.aC|apply Kd.aJ));exact Kd.aY HO247.out (fun _ hk=>trivial),by with_reducible repeat(first|exact HB.out|apply ah|apply aa|apply ai|refine ae ?_ GE218.out|refine ae ?_ GE220.out)⟩
          ·rw[if_neg c35] at H
           exact absurd H (by simp)
         ·rw[if_neg c34] at H
          exact absurd H (by simp)
        ·rw[if_neg c33] at H
         exact absurd H (by simp)
      ·rw[if_neg c10] at H
       exact absurd H (by simp)
     ·rw [if_neg c9] at H
      have c9b0:decide (((ax l0 a1).f0)<a2_0)=false:=decide_eq_false c9
      clear c9
      by_cases c50:(wrap64 (a2_0+a2_1)) < (wrap64 (((ax l0 a1).f0) + ((ax l0 a1).f1)))
      ·rw [if_pos c50] at H
       have c50b0:decide ((wrap64 (a2_0+a2_1)) < (wrap64 (((ax l0 a1).f0) + ((ax l0 a1).f1))))=true:=decide_eq_true c50
       clear c50
       by_cases c51:y225.length<8796093022208
       ·rw [if_pos c51] at H
        have LMc51:=au c51
        clear c51
        obtain⟨y248,hy248⟩:∃ y_:List (S35),y_ = (y225++[(⟨wrap64 (a2_0+a2_1),wrap64 ((wrap64 (((ax l0 a1).f0) + ((ax l0 a1).f1))) - (wrap64 (a2_0+a2_1)))⟩:S35)]):=⟨_,rfl⟩
        replace H:(if 0≤(wrap64 (a1+1)) then (if (wrap64 (a1+1))≤(l0.length:Int) then ((some (l0.drop ((wrap64 (a1+1)):Int).toNat:List (S35))).bind fun y251=>(if y248.length+y251.length<8796093022208 then (some (y248++y251)) else (none))) else (none)) else (none))=some r:=by first|(rw[hy248];with_reducible exact H)|(have H2_:=(Option.bind_some _ _).symm.trans H;rw[hy248];with_reducible exact H2_)|(have H2_:=(Option.bind_some _ _).symm.trans H;with_reducible exact H2_)|with_reducible exact H|(rw[hy248];exact H)|exact H
        have Ny248:=au hy248
        clear hy248
        obtain⟨ji52,hji52⟩:∃ j_:Int,(wrap64 (a1+1))=j_:=⟨_,rfl⟩
        replace H:(if 0≤(ji52) then (if (ji52)≤(l0.length:Int) then ((some (l0.drop ((ji52):Int).toNat:List (S35))).bind fun y251=>(if y248.length+y251.length<8796093022208 then (some (y248++y251)) else (none))) else (none)) else (none))=some r:=by first|(rw[hji52] at H;exact H)|(simp only[hji52] at H ⊢;exact H)
        have hji52w:(IntKind.i64.wrap (a1+1))=ji52:=(jW _).trans hji52
        by_cases c53:0≤(ji52)
        ·rw[if_pos c53] at H
         have c53b0:=eq_true c53
         have c53b1:decide (0≤(ji52))=true:=decide_eq_true c53
         clear c53
         by_cases c54:(ji52)≤(l0.length:Int)
         ·rw[if_pos c54] at H
          have c54b0:=eq_true c54
          have c54b1:decide ((ji52)≤(l0.length:Int))=true:=decide_eq_true c54
          clear c54
          obtain⟨y251,hy251⟩:∃ y_:List (S35),y_ = (l0.drop ((ji52):Int).toNat):=⟨_,rfl⟩
          replace H:(if y248.length+y251.length<8796093022208 then (some (y248++y251)) else (none))=some r:=by first|(rw[hy251];with_reducible exact H)|(have H2_:=(Option.bind_some _ _).symm.trans H;rw[hy251];with_reducible exact H2_)|(have H2_:=(Option.bind_some _ _).symm.trans H;with_reducible exact H2_)|with_reducible exact H|(rw[hy251];exact H)|exact H
          have Ny251:=au hy251
          clear hy251
          by_cases c55:y248.length+y251.length<8796093022208
          ·rw[if_pos c55] at H
           have LMc55:=au c55
           clear c55
           obtain⟨y255,hy255⟩:∃ y_:List (S35),y_ = (y248++y251):=⟨_,rfl⟩
           replace H:(some y255)=some r:=by first|(rw[hy255];with_reducible exact H)|(have H2_:=(Option.bind_some _ _).symm.trans H;rw[hy255];with_reducible exact H2_)|(have H2_:=(Option.bind_some _ _).symm.trans H;with_reducible exact H2_)|with_reducible exact H|(rw[hy255];exact H)|exact H
           have Ny255:=au hy255
           clear hy255
           obtain rfl:=Option.some.inj H
           go_enter Try.func57,Try.ntmps57
           go_wp2_with (first|((with_reducible refine aM (N:=5) rfl ?_);refine aI ?hg (N:=5) ?hd (cs:=#[.int .i64 a2_0,.int .i64 a2_1]) (t:=35) ?hr ?_;(case hd=>rfl);(case hg=>rfl);(case hr=>first|(go_simp;done)|(go_simp;rfl));intro gb218 hg w56 hbox hb;have BK218:=au (hbox);have GW218:=au ((by rw[hg];exact(az (by with_reducible repeat(first|exact HB.out|apply ah|apply aa|apply ai))):w.heap.size≤gb218));have GE218:=au ((by rw[hg];exact(az (by with_reducible repeat(first|exact HB.out|apply ah|apply aa|apply ai))):w.heap.size≤gb218));replace HB:=au (aA (by with_reducible repeat(first|exact HB.out|apply ah|apply aa|apply ai)) hb);clear hb hbox hg;have p219:0≤(a1:Int):=of_decide_eq_true (by assumption);have q219:a1 < (l0.length:Int):=of_decide_eq_true (by assumption);obtain⟨ad219,e219,hx219_0,hx219_1⟩:=bE HR0.out a1 p219 q219;cases e219;replace hx219_0:=(HB.out.cell (World.block_lt_of_cell? w _ hx219_0)).trans hx219_0;replace hx219_1:=(HB.out.cell (World.block_lt_of_cell? w _ hx219_1)).trans hx219_1;replace p219:=eq_true p219;replace q219:=eq_true q219)|((with_reducible refine aM (N:=7) rfl ?_);refine aI ?hg (N:=7) ?hd (cs:=#[.int .i64 0,.int .i64 0]) (t:=35) ?hr ?_;(case hd=>rfl);(case hg=>rfl);(case hr=>first|(go_simp;done)|(go_simp;rfl));intro gb220 hg w57 hbox hb;have BK220:=au (hbox);have GW220:=au ((by rw[hg];exact(az (by with_reducible repeat(first|exact HB.out|apply ah|apply aa|apply ai|refine ae ?_ GE218.out))):w.heap.size≤gb220));have GE220:=au ((by rw[hg];exact(az (by with_reducible repeat(first|exact HB.out|apply ah|apply aa|apply ai|refine ae ?_ GE218.out))):w.heap.size≤gb220));replace HB:=au (aA (by with_reducible repeat(first|exact HB.out|apply ah|apply aa|apply ai|refine ae ?_ GE218.out)) hb);have NB218_220:=au ((by rw[hg];exact Nat.ne_of_lt (aG (g:=gb218) (o:=.cells #[.int .i64 a2_0,.int .i64 a2_1] 35 (0,0)) (by(with_reducible repeat(first|apply ag|apply aj|apply af));exact BK218.out)):gb218≠gb220));have NB220_218:=au ((by rw[hg];exact Nat.ne_of_gt (aG (g:=gb218) (o:=.cells #[.int .i64 a2_0,.int .i64 a2_1] 35 (0,0)) (by(with_reducible repeat(first|apply ag|apply aj|apply af));exact BK218.out)):gb220≠gb218));replace BK218:=au (ay (g:=gb218) (o:=.cells #[.int .i64 a2_0,.int .i64 a2_1] 35 (0,0)) (by(with_reducible repeat(first|apply ag|apply aj|apply af));exact BK218.out) hb);clear hb hbox hg;have hnb58:=NB220_218.out;have hnc58:=NB218_220.out;have hcz59_0:w57.cell? ⟨gb220,0,none⟩=some (.int .i64 0):=(ak BK220.out 0).trans rfl;have hcz59_1:w57.cell? ⟨gb220,1,none⟩=some (.int .i64 0):=(ak BK220.out 1).trans rfl;have hfz59_0:=av BK220.out 0;have hfz59_1:=av BK220.out 1)|((with_reducible refine gm (t:=35) (p:=7) rfl ?_);refine fJ (t:=35) (p:=7) (v:=?vo_w60) (w1:=((w57.setCell ⟨gb220,0,none⟩ (.int .i64 ((ax l0 a1).f0))).setCell ⟨gb220,1,none⟩ (.int .i64 ((ax l0 a1).f1)))) ?hg ?ho ?hn ?hr ?_;(case ho=>rfl);(case hg=>rfl);(case hn=>rfl);(case hr=>first|(go_simp;done)|(go_simp;rfl));intro w60 hw;have n0_:Aside0 (w60.heap[gb218]? = some (.cells #[.int .i64 a2_0,.int .i64 a2_1] 35 (0,0))):=⟨(by rw[hw];exact(by(with_reducible repeat(first|apply ag|apply aj|apply af));refine aH ?_ NB218_220.out _;(with_reducible repeat(first|apply ag|apply aj|apply af));refine aH ?_ NB218_220.out _;(with_reducible repeat(first|apply ag|apply aj|apply af));exact BK218.out))⟩;have n1_:Aside0 (w60.heap[gb220]? = some (.cells #[.int .i64 ((ax l0 a1).f0),.int .i64 ((ax l0 a1).f1)] 35 (0,0))):=⟨(by rw[hw];exact(by(with_reducible repeat(first|apply ag|apply aj|apply af));refine aK (cs:=#[.int .i64 ((ax l0 a1).f0),.int .i64 0]) ?_ 1 _ rfl;(with_reducible repeat(first|apply ag|apply aj|apply af));refine aK (cs:=#[.int .i64 0,.int .i64 0]) ?_ 0 _ rfl;(with_reducible repeat(first|apply ag|apply aj|apply af));exact BK220.out))⟩;have n2_:Aside0 (Below w.heap.size w w60):=⟨(by rw[hw];exact(by with_reducible repeat(first|exact HB.out|apply ah|apply aa|apply ai|refine ae ?_ GE218.out|refine ae ?_ GE220.out)))⟩;clear hw;clear BK218;clear BK220;clear HB;have BK218:=n0_;have BK220:=n1_;have HB:=n2_;clear n0_ n1_ n2_;have q61:(a1:Int)≤((l0.length:Int):Int):=of_decide_eq_true (by assumption);obtain⟨i061,hi061,_,hsz61,_⟩:=info_parts cz;have hroom61:l0.length≤c0:=HC0.out;have hC61:Kd.C k35 _ (some ad219) l0.length l0:=HR0.out;have hcut61:=jB (P:=Try.prog) 22 35 .i64 Try.underlying22 hi061 (some ad219) l0.length c0 a1 (of_decide_eq_true (by assumption)) q61 hroom61;have hr61:=Kd.fO (m:=(a1:Int).toNat) hC61 (by omega);have hy61:y221.length = (a1:Int).toNat:=(by rw[Ny221.out,List.length_take];omega);rw[← Ny221.out] at hr61;rw[← hy61] at hcut61;have HR224:=au hr61;have HC224:=au (show y221.length≤c0 from by omega);clear hr61 hC61 hroom61 hi061 hsz61;have KY61:=au hy61;clear hy61;replace q61:=eq_true q61)|((with_reducible refine bB (b:=.append) (xs:=#[.tmp 14,.tmp 17]) rfl ?_);at_builtin;refine Kd.cu k35 (w0:=w) w.heap.size rfl (.tmp 14) (.tmp 17) 22 35 (.agg #[(.int .i64 0),(.int .i64 0)]) 16 rfl Try.underlying22 cz rfl (by decide) (by omega) (.slice none 0 0) ([]:List (S35)) y221 _ _ _ (fun k_=>k_≠gb218∧k_≠gb220) (fun _=>False) rfl rfl ?aO ?aR (fun _ _ h=>h) (fun _ h=>h.elim) ?aF ?aB ?aS ?aL ?_;(case aR=>repeat(first|exact(Kd.aN HR224.out HB.out)|(with_reducible first|apply Kd.aV|apply Kd.aW|apply Kd.bf)));(case aB=>exact(by with_reducible repeat(first|exact HB.out|apply ah|apply aa|apply ai|refine ae ?_ GE218.out|refine ae ?_ GE220.out)));(case aF=>exact(fun k_ hk=>⟨Kd.cB (g:=gb218) (o:=.cells #[.int .i64 a2_0,.int .i64 a2_1] 35 (0,0)) (by(with_reducible repeat(first|apply ag|apply aj|apply af));exact BK218.out) k_ hk,Kd.cB (g:=gb220) (o:=.cells #[.int .i64 ((ax l0 a1).f0),.int .i64 ((ax l0 a1).f1)] 35 (0,0)) (by(with_reducible repeat(first|apply ag|apply aj|apply af));exact BK220.out) k_ hk⟩));(case aO=>exact((Kd.df _ _ _ _ (fun k_=>k_≠gb218∧k_≠gb220))));(case aS=>exact(az (by with_reducible repeat(first|exact HB.out|apply ah|apply aa|apply ai|refine ae ?_ GE218.out|refine ae ?_ GE220.out))));(case aL=>have:=LMc8.out;omega);intro v226 w62 ho hb hg hat;rw[← Ny225.out] at ho;replace BK218:=au (bn (g:=gb218) (o:=.cells #[.int .i64 a2_0,.int .i64 a2_1] 35 (0,0)) (by(with_reducible repeat(first|apply ag|apply aj|apply af));exact BK218.out) hg (by simp[Value.ownBlock]));replace BK220:=au (bn (g:=gb220) (o:=.cells #[.int .i64 ((ax l0 a1).f0),.int .i64 ((ax l0 a1).f1)] 35 (0,0)) (by(with_reducible repeat(first|apply ag|apply aj|apply af));exact BK220.out) hg (by simp[Value.ownBlock]));replace HB:=au (hb);have HO227:=au (ho);clear ho hb hg hat;have hcz63_0:w62.cell? ⟨gb218,0,none⟩=some (.int .i64 a2_0):=(ak BK218.out 0).trans rfl;have hcz63_1:w62.cell? ⟨gb218,1,none⟩=some (.int .i64 a2_1):=(ak BK218.out 1).trans rfl;have hfz63_0:=av BK218.out 0;have hfz63_1:=av BK218.out 1;have hcz64_0:w62.cell? ⟨gb220,0,none⟩=some (.int .i64 ((ax l0 a1).f0)):=(ak BK220.out 0).trans rfl;have hcz64_1:w62.cell? ⟨gb220,1,none⟩=some (.int .i64 ((ax l0 a1).f1)):=(ak BK220.out 1).trans rfl;have hfz64_0:=av BK220.out 0;have hfz64_1:=av BK220.out 1)|((with_reducible refine bB (b:=.append) (xs:=#[.tmp 47,.tmp 57]) rfl ?_);at_builtin;refine Kd.ek k35 (w0:=w) w.heap.size rfl (.tmp 47) (.tmp 57) 22 35 (.agg #[(.int .i64 0),(.int .i64 0)]) 16 rfl Try.underlying22 cz rfl (by decide) (by omega) v226 y225 (⟨wrap64 (a2_0+a2_1),wrap64 ((wrap64 (((ax l0 a1).f0) + ((ax l0 a1).f1))) - (wrap64 (a2_0+a2_1)))⟩:S35) [.int .i64 (wrap64 (a2_0+a2_1)),.int .i64 (wrap64 ((wrap64 (((ax l0 a1).f0) + ((ax l0 a1).f1))) - (wrap64 (a2_0+a2_1))))] (fun k_=>k_≠gb218∧k_≠gb220) (fun _=>False) rfl rfl ?aP (fun _ hk=>hk.elim) ?aF ?aO ?aB ?aS ?aL ?_;(case aP=>exact eY _ _ _ (⟨wrap64 (a2_0+a2_1),wrap64 ((wrap64 (((ax l0 a1).f0) + ((ax l0 a1).f1))) - (wrap64 (a2_0+a2_1)))⟩:S35));(case aB=>exact(by with_reducible repeat(first|exact HB.out|apply ah|apply aa|apply ai|refine ae ?_ GE218.out|refine ae ?_ GE220.out)));(case aF=>exact(fun k_ hk=>⟨Kd.cB (g:=gb218) (o:=.cells #[.int .i64 a2_0,.int .i64 a2_1] 35 (0,0)) (by(with_reducible repeat(first|apply ag|apply aj|apply af));exact BK218.out) k_ hk,Kd.cB (g:=gb220) (o:=.cells #[.int .i64 ((ax l0 a1).f0),.int .i64 ((ax l0 a1).f1)] 35 (0,0)) (by(with_reducible repeat(first|apply ag|apply aj|apply af));exact BK220.out) k_ hk⟩));(case aO=>exact(by(with_reducible repeat(first|apply Kd.aD|apply Kd.aC|apply Kd.aJ));exact HO227.out));(case aS=>exact(az (by with_reducible repeat(first|exact HB.out|apply ah|apply aa|apply ai|refine ae ?_ GE218.out|refine ae ?_ GE220.out))));(case aL=>have:=LMc51.out;omega);intro v249 w65 ho hb hg hat;rw[← Ny248.out] at ho;replace BK218:=au (bn (g:=gb218) (o:=.cells #[.int .i64 a2_0,.int .i64 a2_1] 35 (0,0)) (by(with_reducible repeat(first|apply ag|apply aj|apply af));exact BK218.out) hg (Kd.dA HO227.out (fun _ hk=>hk.1)));replace BK220:=au (bn (g:=gb220) (o:=.cells #[.int .i64 ((ax l0 a1).f0),.int .i64 ((ax l0 a1).f1)] 35 (0,0)) (by(with_reducible repeat(first|apply ag|apply aj|apply af));exact BK220.out) hg (Kd.dA HO227.out (fun _ hk=>hk.2)));replace HB:=au (hb);have HO250:=au (ho);clear HO227;clear ho hb hg hat;have q66:((ji52):Int)≤((l0.length:Int):Int):=of_decide_eq_true (by assumption);obtain⟨i066,hi066,_,hsz66,_⟩:=info_parts cz;have hroom66:l0.length≤c0:=HC0.out;have hC66:Kd.C k35 _ (some ad219) l0.length l0:=HR0.out;have q066:(0:Int)≤((ji52):Int):=of_decide_eq_true (by assumption);have hcut66:=gN (P:=Try.prog) 22 35 .i64 Try.underlying22 hi066 2 hsz66 (some ad219) l0.length c0 (ji52) q066 q66;have hr66:=Kd.ib (m:=((ji52):Int).toNat) (c:=c0) hC66 (by omega) hroom66;obtain⟨A66,hA66⟩:∃ A1,A1 = (if c0 = ((ji52):Int).toNat then (some ad219) else ((some ad219):Option Addr).map (·.add (((ji52):Int).toNat*2))):=⟨_,rfl⟩;obtain⟨c66,hc66⟩:∃ c1,c1=c0 - ((ji52):Int).toNat:=⟨_,rfl⟩;have hy66:y251.length=l0.length - ((ji52):Int).toNat:=(by rw[Ny251.out,List.length_drop] <;> omega);rw[show(l0).drop ((ji52):Int).toNat=y251 from Ny251.out.symm] at hr66;replace hr66:Kd.C k35 _ A66 y251.length y251:=(by rw[hA66];exact hr66);rw[← hy66,← hA66,← hc66] at hcut66;have HR254:=au hr66;have HC254:=au (show y251.length≤c66 from by rw[hy66,hc66];exact Nat.sub_le_sub_right hroom66 _);clear hr66 hC66 hroom66 hi066 hsz66 hc66;have KY66:=au hy66;have KA66:=au hA66;clear hy66 hA66;replace q66:=eq_true q66)|((with_reducible refine bB (b:=.append) (xs:=#[.tmp 59,.tmp 63]) rfl ?_);at_builtin;refine Kd.cu k35 (w0:=w) w.heap.size rfl (.tmp 59) (.tmp 63) 22 35 (.agg #[(.int .i64 0),(.int .i64 0)]) 16 rfl Try.underlying22 cz rfl (by decide) (by omega) v249 y248 y251 _ _ _ (fun k_=>k_≠gb218∧k_≠gb220) (fun _=>False) rfl rfl ?aO ?aR (fun _ _ h=>h) (fun _ h=>h.elim) ?aF ?aB ?aS ?aL ?_;(case aR=>repeat(first|exact(Kd.aN HR254.out HB.out)|(with_reducible first|apply Kd.aV|apply Kd.aW|apply Kd.bf)));(case aB=>exact(by with_reducible repeat(first|exact HB.out|apply ah|apply aa|apply ai|refine ae ?_ GE218.out|refine ae ?_ GE220.out)));(case aF=>exact(fun k_ hk=>⟨Kd.cB (g:=gb218) (o:=.cells #[.int .i64 a2_0,.int .i64 a2_1] 35 (0,0)) (by(with_reducible repeat(first|apply ag|apply aj|apply af));exact BK218.out) k_ hk,Kd.cB (g:=gb220) (o:=.cells #[.int .i64 ((ax l0 a1).f0),.int .i64 ((ax l0 a1).f1)] 35 (0,0)) (by(with_reducible repeat(first|apply ag|apply aj|apply af));exact BK220.out) k_ hk⟩));(case aO=>exact(by(with_reducible repeat(first|apply Kd.aD|apply Kd.aC|apply Kd.aJ));exact HO250.out));(case aS=>exact(az (by with_reducible repeat(first|exact HB.out|apply ah|apply aa|apply ai|refine ae ?_ GE218.out|refine ae ?_ GE220.out))));(case aL=>have:=LMc55.out;omega);intro v256 w67 ho hb hg hat;rw[← Ny255.out] at ho;replace BK218:=au (bn (g:=gb218) (o:=.cells #[.int .i64 a2_0,.int .i64 a2_1] 35 (0,0)) (by(with_reducible repeat(first|apply ag|apply aj|apply af));exact BK218.out) hg (Kd.dA HO250.out (fun _ hk=>hk.1)));replace BK220:=au (bn (g:=gb220) (o:=.cells #[.int .i64 ((ax l0 a1).f0),.int .i64 ((ax l0 a1).f1)] 35 (0,0)) (by(with_reducible repeat(first|apply ag|apply aj|apply af));exact BK220.out) hg (Kd.dA HO250.out (fun _ hk=>hk.2)));replace HB:=au (hb);have HO257:=au (ho);clear HO250;clear ho hb hg hat))
           go_ret
           exact⟨_,by first|rfl|(simp[cO,cZ] <;> rfl)|(simp only[← hji52];first|rfl|(simp[cO,cZ] <;> rfl))|(simp[*,cO,cZ] <;> rfl)|(simp[E.eH];done)|(rw[E.fG]),by(with_reducible repeat(first|apply Kd.aD|apply Kd.aC|apply Kd.aJ));exact Kd.aY HO257.out (fun _ hk=>trivial),by with_reducible repeat(first|exact HB.out|apply ah|apply aa|apply ai|refine ae ?_ GE218.out|refine ae ?_ GE220.out)⟩
          ·rw[if_neg c55] at H
           exact absurd H (by simp)
         ·rw[if_neg c54] at H
          exact absurd H (by simp)
        ·rw[if_neg c53] at H
         exact absurd H (by simp)
       ·rw[if_neg c51] at H
        exact absurd H (by simp)
      ·rw [if_neg c50] at H
       have c50b0:decide ((wrap64 (a2_0+a2_1)) < (wrap64 (((ax l0 a1).f0) + ((ax l0 a1).f1))))=false:=decide_eq_false c50
       clear c50
       obtain⟨ji68,hji68⟩:∃ j_:Int,(wrap64 (a1+1))=j_:=⟨_,rfl⟩
       replace H:(if 0≤(ji68) then (if (ji68)≤(l0.length:Int) then ((some (l0.drop ((ji68):Int).toNat:List (S35))).bind fun y258=>(if y225.length+y258.length<8796093022208 then (some (y225++y258)) else (none))) else (none)) else (none))=some r:=by first|(rw[hji68] at H;exact H)|(simp only[hji68] at H ⊢;exact H)
       have hji68w:(IntKind.i64.wrap (a1+1))=ji68:=(jW _).trans hji68
       by_cases c69:0≤(ji68)
       ·rw[if_pos c69] at H
        have c69b0:=eq_true c69
        have c69b1:decide (0≤(ji68))=true:=decide_eq_true c69
        clear c69
        by_cases c70:(ji68)≤(l0.length:Int)
        ·rw[if_pos c70] at H
         have c70b0:=eq_true c70
         have c70b1:decide ((ji68)≤(l0.length:Int))=true:=decide_eq_true c70
         clear c70
         obtain⟨y258,hy258⟩:∃ y_:List (S35),y_ = (l0.drop ((ji68):Int).toNat):=⟨_,rfl⟩
         replace H:(if y225.length+y258.length<8796093022208 then (some (y225++y258)) else (none))=some r:=by first|(rw[hy258];with_reducible exact H)|(have H2_:=(Option.bind_some _ _).symm.trans H;rw[hy258];with_reducible exact H2_)|(have H2_:=(Option.bind_some _ _).symm.trans H;with_reducible exact H2_)|with_reducible exact H|(rw[hy258];exact H)|exact H
         have Ny258:=au hy258
         clear hy258
         by_cases c71:y225.length+y258.length<8796093022208
         ·rw[if_pos c71] at H
          have LMc71:=au c71
          clear c71
          obtain⟨y262,hy262⟩:∃ y_:List (S35),y_ = (y225++y258):=⟨_,rfl⟩
          replace H:(some y262)=some r:=by first|(rw[hy262];with_reducible exact H)|(have H2_:=(Option.bind_some _ _).symm.trans H;rw[hy262];with_reducible exact H2_)|(have H2_:=(Option.bind_some _ _).symm.trans H;with_reducible exact H2_)|with_reducible exact H|(rw[hy262];exact H)|exact H
          have Ny262:=au hy262
          clear hy262
          obtain rfl:=Option.some.inj H
          go_enter Try.func57,Try.ntmps57
          go_wp2_with (first|((with_reducible refine aM (N:=5) rfl ?_);refine aI ?hg (N:=5) ?hd (cs:=#[.int .i64 a2_0,.int .i64 a2_1]) (t:=35) ?hr ?_;(case hd=>rfl);(case hg=>rfl);(case hr=>first|(go_simp;done)|(go_simp;rfl));intro gb218 hg w72 hbox hb;have BK218:=au (hbox);have GW218:=au ((by rw[hg];exact(az (by with_reducible repeat(first|exact HB.out|apply ah|apply aa|apply ai))):w.heap.size≤gb218));have GE218:=au ((by rw[hg];exact(az (by with_reducible repeat(first|exact HB.out|apply ah|apply aa|apply ai))):w.heap.size≤gb218));replace HB:=au (aA (by with_reducible repeat(first|exact HB.out|apply ah|apply aa|apply ai)) hb);clear hb hbox hg;have p219:0≤(a1:Int):=of_decide_eq_true (by assumption);have q219:a1 < (l0.length:Int):=of_decide_eq_true (by assumption);obtain⟨ad219,e219,hx219_0,hx219_1⟩:=bE HR0.out a1 p219 q219;cases e219;replace hx219_0:=(HB.out.cell (World.block_lt_of_cell? w _ hx219_0)).trans hx219_0;replace hx219_1:=(HB.out.cell (World.block_lt_of_cell? w _ hx219_1)).trans hx219_1;replace p219:=eq_true p219;replace q219:=eq_true q219)|((with_reducible refine aM (N:=7) rfl ?_);refine aI ?hg (N:=7) ?hd (cs:=#[.int .i64 0,.int .i64 0]) (t:=35) ?hr ?_;(case hd=>rfl);(case hg=>rfl);(case hr=>first|(go_simp;done)|(go_simp;rfl));intro gb220 hg w73 hbox hb;have BK220:=au (hbox);have GW220:=au ((by rw[hg];exact(az (by with_reducible repeat(first|exact HB.out|apply ah|apply aa|apply ai|refine ae ?_ GE218.out))):w.heap.size≤gb220));have GE220:=au ((by rw[hg];exact(az (by with_reducible repeat(first|exact HB.out|apply ah|apply aa|apply ai|refine ae ?_ GE218.out))):w.heap.size≤gb220));replace HB:=au (aA (by with_reducible repeat(first|exact HB.out|apply ah|apply aa|apply ai|refine ae ?_ GE218.out)) hb);have NB218_220:=au ((by rw[hg];exact Nat.ne_of_lt (aG (g:=gb218) (o:=.cells #[.int .i64 a2_0,.int .i64 a2_1] 35 (0,0)) (by(with_reducible repeat(first|apply ag|apply aj|apply af));exact BK218.out)):gb218≠gb220));have NB220_218:=au ((by rw[hg];exact Nat.ne_of_gt (aG (g:=gb218) (o:=.cells #[.int .i64 a2_0,.int .i64 a2_1] 35 (0,0)) (by(with_reducible repeat(first|apply ag|apply aj|apply af));exact BK218.out)):gb220≠gb218));replace BK218:=au (ay (g:=gb218) (o:=.cells #[.int .i64 a2_0,.int .i64 a2_1] 35 (0,0)) (by(with_reducible repeat(first|apply ag|apply aj|apply af));exact BK218.out) hb);clear hb hbox hg;have hnb74:=NB220_218.out;have hnc74:=NB218_220.out;have hcz75_0:w73.cell? ⟨gb220,0,none⟩=some (.int .i64 0):=(ak BK220.out 0).trans rfl;have hcz75_1:w73.cell? ⟨gb220,1,none⟩=some (.int .i64 0):=(ak BK220.out 1).trans rfl;have hfz75_0:=av BK220.out 0;have hfz75_1:=av BK220.out 1)|((with_reducible refine gm (t:=35) (p:=7) rfl ?_);refine fJ (t:=35) (p:=7) (v:=?vo_w76) (w1:=((w73.setCell ⟨gb220,0,none⟩ (.int .i64 ((ax l0 a1).f0))).setCell ⟨gb220,1,none⟩ (.int .i64 ((ax l0 a1).f1)))) ?hg ?ho ?hn ?hr ?_;(case ho=>rfl);(case hg=>rfl);(case hn=>rfl);(case hr=>first|(go_simp;done)|(go_simp;rfl));intro w76 hw;have n0_:Aside0 (w76.heap[gb218]? = some (.cells #[.int .i64 a2_0,.int .i64 a2_1] 35 (0,0))):=⟨(by rw[hw];exact(by(with_reducible repeat(first|apply ag|apply aj|apply af));refine aH ?_ NB218_220.out _;(with_reducible repeat(first|apply ag|apply aj|apply af));refine aH ?_ NB218_220.out _;(with_reducible repeat(first|apply ag|apply aj|apply af));exact BK218.out))⟩;have n1_:Aside0 (w76.heap[gb220]? = some (.cells #[.int .i64 ((ax l0 a1).f0),.int .i64 ((ax l0 a1).f1)] 35 (0,0))):=⟨(by rw[hw];exact(by(with_reducible repeat(first|apply ag|apply aj|apply af));refine aK (cs:=#[.int .i64 ((ax l0 a1).f0),.int .i64 0]) ?_ 1 _ rfl;(with_reducible repeat(first|apply ag|apply aj|apply af));refine aK (cs:=#[.int .i64 0,.int .i64 0]) ?_ 0 _ rfl;(with_reducible repeat(first|apply ag|apply aj|apply af));exact BK220.out))⟩;have n2_:Aside0 (Below w.heap.size w w76):=⟨(by rw[hw];exact(by with_reducible repeat(first|exact HB.out|apply ah|apply aa|apply ai|refine ae ?_ GE218.out|refine ae ?_ GE220.out)))⟩;clear hw;clear BK218;clear BK220;clear HB;have BK218:=n0_;have BK220:=n1_;have HB:=n2_;clear n0_ n1_ n2_;have q77:(a1:Int)≤((l0.length:Int):Int):=of_decide_eq_true (by assumption);obtain⟨i077,hi077,_,hsz77,_⟩:=info_parts cz;have hroom77:l0.length≤c0:=HC0.out;have hC77:Kd.C k35 _ (some ad219) l0.length l0:=HR0.out;have hcut77:=jB (P:=Try.prog) 22 35 .i64 Try.underlying22 hi077 (some ad219) l0.length c0 a1 (of_decide_eq_true (by assumption)) q77 hroom77;have hr77:=Kd.fO (m:=(a1:Int).toNat) hC77 (by omega);have hy77:y221.length = (a1:Int).toNat:=(by rw[Ny221.out,List.length_take];omega);rw[← Ny221.out] at hr77;rw[← hy77] at hcut77;have HR224:=au hr77;have HC224:=au (show y221.length≤c0 from by omega);clear hr77 hC77 hroom77 hi077 hsz77;have KY77:=au hy77;clear hy77;replace q77:=eq_true q77)|((with_reducible refine bB (b:=.append) (xs:=#[.tmp 14,.tmp 17]) rfl ?_);at_builtin;refine Kd.cu k35 (w0:=w) w.heap.size rfl (.tmp 14) (.tmp 17) 22 35 (.agg #[(.int .i64 0),(.int .i64 0)]) 16 rfl Try.underlying22 cz rfl (by decide) (by omega) (.slice none 0 0) ([]:List (S35)) y221 _ _ _ (fun k_=>k_≠gb218∧k_≠gb220) (fun _=>False) rfl rfl ?aO ?aR (fun _ _ h=>h) (fun _ h=>h.elim) ?aF ?aB ?aS ?aL ?_;(case aR=>repeat(first|exact(Kd.aN HR224.out HB.out)|(with_reducible first|apply Kd.aV|apply Kd.aW|apply Kd.bf)));(case aB=>exact(by with_reducible repeat(first|exact HB.out|apply ah|apply aa|apply ai|refine ae ?_ GE218.out|refine ae ?_ GE220.out)));(case aF=>exact(fun k_ hk=>⟨Kd.cB (g:=gb218) (o:=.cells #[.int .i64 a2_0,.int .i64 a2_1] 35 (0,0)) (by(with_reducible repeat(first|apply ag|apply aj|apply af));exact BK218.out) k_ hk,Kd.cB (g:=gb220) (o:=.cells #[.int .i64 ((ax l0 a1).f0),.int .i64 ((ax l0 a1).f1)] 35 (0,0)) (by(with_reducible repeat(first|apply ag|apply aj|apply af));exact BK220.out) k_ hk⟩));(case aO=>exact((Kd.df _ _ _ _ (fun k_=>k_≠gb218∧k_≠gb220))));(case aS=>exact(az (by with_reducible repeat(first|exact HB.out|apply ah|apply aa|apply ai|refine ae ?_ GE218.out|refine ae ?_ GE220.out))));(case aL=>have:=LMc8.out;omega);intro v226 w78 ho hb hg hat;rw[← Ny225.out] at ho;replace BK218:=au (bn (g:=gb218) (o:=.cells #[.int .i64 a2_0,.int .i64 a2_1] 35 (0,0)) (by(with_reducible repeat(first|apply ag|apply aj|apply af));exact BK218.out) hg (by simp[Value.ownBlock]));replace BK220:=au (bn (g:=gb220) (o:=.cells #[.int .i64 ((ax l0 a1).f0),.int .i64 ((ax l0 a1).f1)] 35 (0,0)) (by(with_reducible repeat(first|apply ag|apply aj|apply af));exact BK220.out) hg (by simp[Value.ownBlock]));replace HB:=au (hb);have HO227:=au (ho);clear ho hb hg hat;have hcz79_0:w78.cell? ⟨gb218,0,none⟩=some (.int .i64 a2_0):=(ak BK218.out 0).trans rfl;have hcz79_1:w78.cell? ⟨gb218,1,none⟩=some (.int .i64 a2_1):=(ak BK218.out 1).trans rfl;have hfz79_0:=av BK218.out 0;have hfz79_1:=av BK218.out 1;have hcz80_0:w78.cell? ⟨gb220,0,none⟩=some (.int .i64 ((ax l0 a1).f0)):=(ak BK220.out 0).trans rfl;have hcz80_1:w78.cell? ⟨gb220,1,none⟩=some (.int .i64 ((ax l0 a1).f1)):=(ak BK220.out 1).trans rfl;have hfz80_0:=av BK220.out 0;have hfz80_1:=av BK220.out 1;have q81:((ji68):Int)≤((l0.length:Int):Int):=of_decide_eq_true (by assumption);obtain⟨i081,hi081,_,hsz81,_⟩:=info_parts cz;have hroom81:l0.length≤c0:=HC0.out;have hC81:Kd.C k35 _ (some ad219) l0.length l0:=HR0.out;have q081:(0:Int)≤((ji68):Int):=of_decide_eq_true (by assumption);have hcut81:=gN (P:=Try.prog) 22 35 .i64 Try.underlying22 hi081 2 hsz81 (some ad219) l0.length c0 (ji68) q081 q81;have hr81:=Kd.ib (m:=((ji68):Int).toNat) (c:=c0) hC81 (by omega) hroom81;obtain⟨A81,hA81⟩:∃ A1,A1 = (if c0 = ((ji68):Int).toNat then (some ad219) else ((some ad219):Option Addr).map (·.add (((ji68):Int).toNat*2))):=⟨_,rfl⟩;obtain⟨c81,hc81⟩:∃ c1,c1=c0 - ((ji68):Int).toNat:=⟨_,rfl⟩;have hy81:y258.length=l0.length - ((ji68):Int).toNat:=(by rw[Ny258.out,List.length_drop] <;> omega);rw[show(l0).drop ((ji68):Int).toNat=y258 from Ny258.out.symm] at hr81;replace hr81:Kd.C k35 _ A81 y258.length y258:=(by rw[hA81];exact hr81);rw[← hy81,← hA81,← hc81] at hcut81;have HR261:=au hr81;have HC261:=au (show y258.length≤c81 from by rw[hy81,hc81];exact Nat.sub_le_sub_right hroom81 _);clear hr81 hC81 hroom81 hi081 hsz81 hc81;have KY81:=au hy81;have KA81:=au hA81;clear hy81 hA81;replace q81:=eq_true q81)|((with_reducible refine bB (b:=.append) (xs:=#[.tmp 59,.tmp 63]) rfl ?_);at_builtin;refine Kd.cu k35 (w0:=w) w.heap.size rfl (.tmp 59) (.tmp 63) 22 35 (.agg #[(.int .i64 0),(.int .i64 0)]) 16 rfl Try.underlying22 cz rfl (by decide) (by omega) v226 y225 y258 _ _ _ (fun k_=>k_≠gb218∧k_≠gb220) (fun _=>False) rfl rfl ?aO ?aR (fun _ _ h=>h) (fun _ h=>h.elim) ?aF ?aB ?aS ?aL ?_;(case aR=>repeat(first|exact(Kd.aN HR261.out HB.out)|(with_reducible first|apply Kd.aV|apply Kd.aW|apply Kd.bf)));(case aB=>exact(by with_reducible repeat(first|exact HB.out|apply ah|apply aa|apply ai|refine ae ?_ GE218.out|refine ae ?_ GE220.out)));(case aF=>exact(fun k_ hk=>⟨Kd.cB (g:=gb218) (o:=.cells #[.int .i64 a2_0,.int .i64 a2_1] 35 (0,0)) (by(with_reducible repeat(first|apply ag|apply aj|apply af));exact BK218.out) k_ hk,Kd.cB (g:=gb220) (o:=.cells #[.int .i64 ((ax l0 a1).f0),.int .i64 ((ax l0 a1).f1)] 35 (0,0)) (by(with_reducible repeat(first|apply ag|apply aj|apply af));exact BK220.out) k_ hk⟩));(case aO=>exact(by(with_reducible repeat(first|apply Kd.aD|apply Kd.aC|apply Kd.aJ));exact HO227.out));(case aS=>exact(az (by with_reducible repeat(first|exact HB.out|apply ah|apply aa|apply ai|refine ae ?_ GE218.out|refine ae ?_ GE220.out))));(case aL=>have:=LMc71.out;omega);intro v263 w82 ho hb hg hat;rw[← Ny262.out] at ho;replace BK218:=au (bn (g:=gb218) (o:=.cells #[.int .i64 a2_0,.int .i64 a2_1] 35 (0,0)) (by(with_reducible repeat(first|apply ag|apply aj|apply af));exact BK218.out) hg (Kd.dA HO227.out (fun _ hk=>hk.1)));replace BK220:=au (bn (g:=gb220) (o:=.cells #[.int .i64 ((ax l0 a1).f0),.int .i64 ((ax l0 a1).f1)] 35 (0,0)) (by(with_reducible repeat(first|apply ag|apply aj|apply af));exact BK220.out) hg (Kd.dA HO227.out (fun _ hk=>hk.2)));replace HB:=au (hb);have HO264:=au (ho);clear HO227;clear ho hb hg hat))
          go_ret
          exact⟨_,by first|rfl|(simp[cO,cZ] <;> rfl)|(simp only[← hji68];first|rfl|(simp[cO,cZ] <;> rfl))|(simp[*,cO,cZ] <;> rfl)|(simp[E.eH];done)|(rw[E.fG]),by(with_reducible repeat(first|apply Kd.aD|apply Kd.aC|apply Kd.aJ));exact Kd.aY HO264.out (fun _ hk=>trivial),by with_reducible repeat(first|exact HB.out|apply ah|apply aa|apply ai|refine ae ?_ GE218.out|refine ae ?_ GE220.out)⟩
         ·rw[if_neg c71] at H
          exact absurd H (by simp)
        ·rw[if_neg c70] at H
         exact absurd H (by simp)
       ·rw[if_neg c69] at H
        exact absurd H (by simp)
    ·rw[if_neg c8] at H
     exact absurd H (by simp)
   ·rw[if_neg c7] at H
    exact absurd H (by simp)
  ·rw[if_neg c5] at H
   exact absurd H (by simp)
 ·rw[if_neg c4] at H
  exact absurd H (by simp)
attribute [local go_sem] bJ bI bR bQ bA bz bM bL
set_option linter.unusedVariables false
set_option linter.unusedSimpArgs false
def spec_l5Within.l0:Nat→List (S35)→Int→Int→Int→Int→Option (Int)
 | 0,_,_,_,_,_=>none
 | k+1,x7,x8,x9,x266000,x266001=>if x9<x8 then (if 0≤x9 then (if x9 < (x7.length:Int) then (if ((ax x7 x9).f0)≤x266000 then (if (wrap64 (x266000+x266001))≤(wrap64 (((ax x7 x9).f0) + ((ax x7 x9).f1))) then (some x9) else (spec_l5Within.l0 k x7 x8 (wrap64 (x9+1)) x266000 x266001)) else (spec_l5Within.l0 k x7 x8 (wrap64 (x9+1)) x266000 x266001)) else (none)) else (none)) else (some (-1))
def spec_l5Within.f (k:Nat) (l0:List (S35)) (a1_0:Int) (a1_1:Int):Option (Int):=spec_l5Within.l0 k l0 (l0.length:Int) 0 a1_0 a1_1
set_option maxHeartbeats 8000000 in
set_option maxRecDepth 100000 in
theorem spec_l5Within.calls (k : Nat) (A0 : Option Addr) (c0 : Nat) (l0 : List (S35)) (a1_0 : Int) (a1_1 : Int) (r : Int) (w : World) (hr0 : Kd.C k35 w A0 l0.length l0) (hc0 : l0.length ≤ c0) (h : spec_l5Within.f k l0 a1_0 a1_1 = some r) :
  Calls Try.prog 58 #[.slice A0 l0.length c0,.agg #[.int .i64 a1_0,.int .i64 a1_1]] w fun e w'=>e = .returned (.int .i64 r)∧Below w.heap.size w w':=by
 have hu35:=Try.underlying35
 have HR0:=au hr0
 have HC0:=au hc0
 clear hr0 hc0
 have HB:=au (Below.refl w.heap.size w)
 have H:(spec_l5Within.l0 k l0 (l0.length:Int) 0 a1_0 a1_1)=some r:=h
 clear h
 have H':=au H
 clear H
 go_enter Try.func58,Try.ntmps58
 go_wp2_with (first|((with_reducible refine aM (N:=3) rfl ?_);refine aI ?hg (N:=3) ?hd (cs:=#[.int .i64 a1_0,.int .i64 a1_1]) (t:=35) ?hr ?_;(case hd=>rfl);(case hg=>rfl);(case hr=>first|(go_simp;done)|(go_simp;rfl));intro gb265 hg w3 hbox hb;have BK265:=au (hbox);have GW265:=au ((by rw[hg];exact(az (by with_reducible repeat(first|exact HB.out|apply ah|apply aa|apply ai))):w.heap.size≤gb265));have GE265:=au ((by rw[hg];exact(az (by with_reducible repeat(first|exact HB.out|apply ah|apply aa|apply ai))):w.heap.size≤gb265));replace HB:=au (aA (by with_reducible repeat(first|exact HB.out|apply ah|apply aa|apply ai)) hb);clear hb hbox hg))
 go_loopg [9] k (fun kq v9 w'=>∃ (x9_1:Int),v9 = .int .i64 x9_1∧Aside0 (spec_l5Within.l0 kq l0 (l0.length:Int) x9_1 a1_0 a1_1=some r)∧Aside0 (kq≤k)∧Aside0 (w'.heap[gb265]? = some (.cells #[.int .i64 a1_0,.int .i64 a1_1] 35 (0,0)))∧Aside0 (Below w.heap.size w w'))
 case atStart=>exact⟨(0),(by first|rfl|(simp;done)|(simp[*];done)),H',⟨Nat.le_refl _⟩,⟨by(with_reducible repeat(first|apply ag|apply aj|apply af));exact BK265.out⟩,⟨by with_reducible repeat(first|exact HB.out|apply ah|apply aa|apply ai|refine ae ?_ GE265.out)⟩⟩
 case round =>
  clear H'
  try clear p2
  obtain⟨x9_1,rfl,HA,HK1,BK265,HB⟩:=hrel
  cases gk with
  | zero=>exact absurd HA.out (by simp[spec_l5Within.l0])
  | succ k1=>
   have H:=HA.out
   clear HA
   simp only[spec_l5Within.l0] at H
   by_cases c4:x9_1 < (l0.length:Int)
   ·rw [if_pos c4] at H
    have c4b0:decide (x9_1 < (l0.length:Int))=true:=decide_eq_true c4
    clear c4
    by_cases c5:0≤x9_1
    ·rw [if_pos c5] at H
     have c5b0:decide (0≤x9_1)=true:=decide_eq_true c5
     clear c5
     by_cases c6:x9_1 < (l0.length:Int)
     ·rw[if_pos c6] at H
      have c6b0:decide (x9_1 < (l0.length:Int))=true:=decide_eq_true c6
      clear c6
      by_cases c7:((ax l0 x9_1).f0)≤a1_0
      ·rw[if_pos c7] at H
       have c7b0:decide (((ax l0 x9_1).f0)≤a1_0)=true:=decide_eq_true c7
       clear c7
       by_cases c8:(wrap64 (a1_0+a1_1))≤(wrap64 (((ax l0 x9_1).f0) + ((ax l0 x9_1).f1)))
       ·rw[if_pos c8] at H
        have c8b0:decide ((wrap64 (a1_0+a1_1))≤(wrap64 (((ax l0 x9_1).f0) + ((ax l0 x9_1).f1))))=true:=decide_eq_true c8
        clear c8
        obtain rfl:=Option.some.inj H
        have p266:0≤(x9_1:Int):=of_decide_eq_true (by assumption)
        have q266:x9_1 < (l0.length:Int):=of_decide_eq_true (by assumption)
        obtain⟨ad266,e266,hx266_0,hx266_1⟩:=bE HR0.out x9_1 p266 q266
        cases e266
        replace hx266_0:=(HB.out.cell (World.block_lt_of_cell? w _ hx266_0)).trans hx266_0
        replace hx266_1:=(HB.out.cell (World.block_lt_of_cell? w _ hx266_1)).trans hx266_1
        replace p266:=eq_true p266
        replace q266:=eq_true q266
        go_wp2_with (first|((with_reducible refine aM (N:=6) rfl ?_);refine aI ?hg (N:=6) ?hd (cs:=#[.int .i64 0,.int .i64 0]) (t:=35) ?hr ?_;(case hd=>rfl);(case hg=>rfl);(case hr=>first|(go_simp;done)|(go_simp;rfl));intro gb267 hg w9 hbox hb;have BK267:=au (hbox);have GW267:=au ((by rw[hg];exact(az (by with_reducible repeat(first|exact HB.out|apply ah|apply aa|apply ai|refine ae ?_ GE265.out))):w.heap.size≤gb267));have GE267:=au ((by rw[hg];exact(az (by with_reducible repeat(first|exact HB.out|apply ah|apply aa|apply ai|refine ae ?_ GE265.out))):w.heap.size≤gb267));replace HB:=au (aA (by with_reducible repeat(first|exact HB.out|apply ah|apply aa|apply ai|refine ae ?_ GE265.out)) hb);have NB265_267:=au ((by rw[hg];exact Nat.ne_of_lt (aG (g:=gb265) (o:=.cells #[.int .i64 a1_0,.int .i64 a1_1] 35 (0,0)) (by(with_reducible repeat(first|apply ag|apply aj|apply af));exact BK265.out)):gb265≠gb267));have NB267_265:=au ((by rw[hg];exact Nat.ne_of_gt (aG (g:=gb265) (o:=.cells #[.int .i64 a1_0,.int .i64 a1_1] 35 (0,0)) (by(with_reducible repeat(first|apply ag|apply aj|apply af));exact BK265.out)):gb267≠gb265));replace BK265:=au (ay (g:=gb265) (o:=.cells #[.int .i64 a1_0,.int .i64 a1_1] 35 (0,0)) (by(with_reducible repeat(first|apply ag|apply aj|apply af));exact BK265.out) hb);clear hb hbox hg;have hnb10:=NB267_265.out;have hnc10:=NB265_267.out;have hcz11_0:w9.cell? ⟨gb267,0,none⟩=some (.int .i64 0):=(ak BK267.out 0).trans rfl;have hcz11_1:w9.cell? ⟨gb267,1,none⟩=some (.int .i64 0):=(ak BK267.out 1).trans rfl;have hfz11_0:=av BK267.out 0;have hfz11_1:=av BK267.out 1;have hcz12_0:w9.cell? ⟨gb265,0,none⟩=some (.int .i64 a1_0):=(ak BK265.out 0).trans rfl;have hcz12_1:w9.cell? ⟨gb265,1,none⟩=some (.int .i64 a1_1):=(ak BK265.out 1).trans rfl;have hfz12_0:=av BK265.out 0;have hfz12_1:=av BK265.out 1))
        go_ret
        exact⟨by first|rfl|(simp <;> rfl)|(simp[*] <;> rfl),by with_reducible repeat(first|exact HB.out|apply ah|apply aa|apply ai|refine ae ?_ GE265.out|refine ae ?_ GE267.out)⟩
       ·rw[if_neg c8] at H
        have c8b0:decide ((wrap64 (a1_0+a1_1))≤(wrap64 (((ax l0 x9_1).f0) + ((ax l0 x9_1).f1))))=false:=decide_eq_false c8
        clear c8
        have H':=au H
        clear H
        have p266:0≤(x9_1:Int):=of_decide_eq_true (by assumption)
        have q266:x9_1 < (l0.length:Int):=of_decide_eq_true (by assumption)
        obtain⟨ad266,e266,hx266_0,hx266_1⟩:=bE HR0.out x9_1 p266 q266
        cases e266
        replace hx266_0:=(HB.out.cell (World.block_lt_of_cell? w _ hx266_0)).trans hx266_0
        replace hx266_1:=(HB.out.cell (World.block_lt_of_cell? w _ hx266_1)).trans hx266_1
        replace p266:=eq_true p266
        replace q266:=eq_true q266
        go_wp2_with (first|((with_reducible refine aM (N:=6) rfl ?_);refine aI ?hg (N:=6) ?hd (cs:=#[.int .i64 0,.int .i64 0]) (t:=35) ?hr ?_;(case hd=>rfl);(case hg=>rfl);(case hr=>first|(go_simp;done)|(go_simp;rfl));intro gb267 hg w13 hbox hb;have BK267:=au (hbox);have GW267:=au ((by rw[hg];exact(az (by with_reducible repeat(first|exact HB.out|apply ah|apply aa|apply ai|refine ae ?_ GE265.out))):w.heap.size≤gb267));have GE267:=au ((by rw[hg];exact(az (by with_reducible repeat(first|exact HB.out|apply ah|apply aa|apply ai|refine ae ?_ GE265.out))):w.heap.size≤gb267));replace HB:=au (aA (by with_reducible repeat(first|exact HB.out|apply ah|apply aa|apply ai|refine ae ?_ GE265.out)) hb);have NB265_267:=au ((by rw[hg];exact Nat.ne_of_lt (aG (g:=gb265) (o:=.cells #[.int .i64 a1_0,.int .i64 a1_1] 35 (0,0)) (by(with_reducible repeat(first|apply ag|apply aj|apply af));exact BK265.out)):gb265≠gb267));have NB267_265:=au ((by rw[hg];exact Nat.ne_of_gt (aG (g:=gb265) (o:=.cells #[.int .i64 a1_0,.int .i64 a1_1] 35 (0,0)) (by(with_reducible repeat(first|apply ag|apply aj|apply af));exact BK265.out)):gb267≠gb265));replace BK265:=au (ay (g:=gb265) (o:=.cells #[.int .i64 a1_0,.int .i64 a1_1] 35 (0,0)) (by(with_reducible repeat(first|apply ag|apply aj|apply af));exact BK265.out) hb);clear hb hbox hg;have hnb14:=NB267_265.out;have hnc14:=NB265_267.out;have hcz15_0:w13.cell? ⟨gb267,0,none⟩=some (.int .i64 0):=(ak BK267.out 0).trans rfl;have hcz15_1:w13.cell? ⟨gb267,1,none⟩=some (.int .i64 0):=(ak BK267.out 1).trans rfl;have hfz15_0:=av BK267.out 0;have hfz15_1:=av BK267.out 1;have hcz16_0:w13.cell? ⟨gb265,0,none⟩=some (.int .i64 a1_0):=(ak BK265.out 0).trans rfl;have hcz16_1:w13.cell? ⟨gb265,1,none⟩=some (.int .i64 a1_1):=(ak BK265.out 1).trans rfl;have hfz16_0:=av BK265.out 0;have hfz16_1:=av BK265.out 1))
        go_roundg k1
        case measure=>have:=HK1.out;omega
        case rel=>exact⟨(wrap64 (x9_1+1)),(by first|rfl|(simp;done)|(simp[*];done)),H',⟨by have:=HK1.out;omega⟩,⟨by(with_reducible repeat(first|apply ag|apply aj|apply af));refine aH ?_ NB265_267.out _;(with_reducible repeat(first|apply ag|apply aj|apply af));refine aH ?_ NB265_267.out _;(with_reducible repeat(first|apply ag|apply aj|apply af));exact BK265.out⟩,⟨by with_reducible repeat(first|exact HB.out|apply ah|apply aa|apply ai|refine ae ?_ GE265.out|refine ae ?_ GE267.out)⟩⟩
      ·rw[if_neg c7] at H
       have c7b0:decide (((ax l0 x9_1).f0)≤a1_0)=false:=decide_eq_false c7
       clear c7
       have H':=au H
       clear H
       have p266:0≤(x9_1:Int):=of_decide_eq_true (by assumption)
       have q266:x9_1 < (l0.length:Int):=of_decide_eq_true (by assumption)
       obtain⟨ad266,e266,hx266_0,hx266_1⟩:=bE HR0.out x9_1 p266 q266
       cases e266
       replace hx266_0:=(HB.out.cell (World.block_lt_of_cell? w _ hx266_0)).trans hx266_0
       replace hx266_1:=(HB.out.cell (World.block_lt_of_cell? w _ hx266_1)).trans hx266_1
       replace p266:=eq_true p266
       replace q266:=eq_true q266
       go_wp2_with (first|((with_reducible refine aM (N:=6) rfl ?_);refine aI ?hg (N:=6) ?hd (cs:=#[.int .i64 0,.int .i64 0]) (t:=35) ?hr ?_;(case hd=>rfl);(case hg=>rfl);(case hr=>first|(go_simp;done)|(go_simp;rfl));intro gb267 hg w17 hbox hb;have BK267:=au (hbox);have GW267:=au ((by rw[hg];exact(az (by with_reducible repeat(first|exact HB.out|apply ah|apply aa|apply ai|refine ae ?_ GE265.out))):w.heap.size≤gb267));have GE267:=au ((by rw[hg];exact(az (by with_reducible repeat(first|exact HB.out|apply ah|apply aa|apply ai|refine ae ?_ GE265.out))):w.heap.size≤gb267));replace HB:=au (aA (by with_reducible repeat(first|exact HB.out|apply ah|apply aa|apply ai|refine ae ?_ GE265.out)) hb);have NB265_267:=au ((by rw[hg];exact Nat.ne_of_lt (aG (g:=gb265) (o:=.cells #[.int .i64 a1_0,.int .i64 a1_1] 35 (0,0)) (by(with_reducible repeat(first|apply ag|apply aj|apply af));exact BK265.out)):gb265≠gb267));have NB267_265:=au ((by rw[hg];exact Nat.ne_of_gt (aG (g:=gb265) (o:=.cells #[.int .i64 a1_0,.int .i64 a1_1] 35 (0,0)) (by(with_reducible repeat(first|apply ag|apply aj|apply af));exact BK265.out)):gb267≠gb265));replace BK265:=au (ay (g:=gb265) (o:=.cells #[.int .i64 a1_0,.int .i64 a1_1] 35 (0,0)) (by(with_reducible repeat(first|apply ag|apply aj|apply af));exact BK265.out) hb);clear hb hbox hg;have hnb18:=NB267_265.out;have hnc18:=NB265_267.out;have hcz19_0:w17.cell? ⟨gb267,0,none⟩=some (.int .i64 0):=(ak BK267.out 0).trans rfl;have hcz19_1:w17.cell? ⟨gb267,1,none⟩=some (.int .i64 0):=(ak BK267.out 1).trans rfl;have hfz19_0:=av BK267.out 0;have hfz19_1:=av BK267.out 1;have hcz20_0:w17.cell? ⟨gb265,0,none⟩=some (.int .i64 a1_0):=(ak BK265.out 0).trans rfl;have hcz20_1:w17.cell? ⟨gb265,1,none⟩=some (.int .i64 a1_1):=(ak BK265.out 1).trans rfl;have hfz20_0:=av BK265.out 0;have hfz20_1:=av BK265.out 1))
       go_roundg k1
       case measure=>have:=HK1.out;omega
       case rel=>exact⟨(wrap64 (x9_1+1)),(by first|rfl|(simp;done)|(simp[*];done)),H',⟨by have:=HK1.out;omega⟩,⟨by(with_reducible repeat(first|apply ag|apply aj|apply af));refine aH ?_ NB265_267.out _;(with_reducible repeat(first|apply ag|apply aj|apply af));refine aH ?_ NB265_267.out _;(with_reducible repeat(first|apply ag|apply aj|apply af));exact BK265.out⟩,⟨by with_reducible repeat(first|exact HB.out|apply ah|apply aa|apply ai|refine ae ?_ GE265.out|refine ae ?_ GE267.out)⟩⟩
     ·rw[if_neg c6] at H
      exact absurd H (by simp)
    ·rw[if_neg c5] at H
     exact absurd H (by simp)
   ·rw[if_neg c4] at H
    have c4b0:decide (x9_1 < (l0.length:Int))=false:=decide_eq_false c4
    clear c4
    obtain rfl:=Option.some.inj H
    go_wp2
    go_ret
    exact⟨by first|rfl|(simp <;> rfl)|(simp[*] <;> rfl),by with_reducible repeat(first|exact HB.out|apply ah|apply aa|apply ai|refine ae ?_ GE265.out)⟩
end Go.Proofs.Ytelblhkbogljnaa.PFre
