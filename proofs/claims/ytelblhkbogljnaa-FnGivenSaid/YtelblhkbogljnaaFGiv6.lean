import Derived.Test.YtelblhkbogljnaaFGiv5
namespace Go.Proofs.Ytelblhkbogljnaa.PFre
open Go.RowKit Go.Proofs.YtelblhkbogljnaaW.PrintWords Go.Proofs.YtelblhkbogljnaaW.PrintLast Go.Proofs.YtelblhkbogljnaaW.PrintMore
attribute [local go_sem] bG bH bS bT bB bA bJ bI
set_option linter.unusedVariables false
set_option linter.unusedSimpArgs false
mutual
def spec_l5Pick.l0:Nat→Int→Int→List (S35)→Int→Int→Option (Int)
 | 0,_,_,_,_,_=>none
 | k+1,x1,x9,x55,x56,x57=>if x57<x56 then (if 0≤x57 then (if x57 < (x55.length:Int) then (if ((ax x55 x57).f1)≥x1 then (some ((ax x55 x57).f0)) else (spec_l5Pick.l0 k x1 x9 x55 x56 (wrap64 (x57+1)))) else (none)) else (none)) else (some x9)
def spec_l5Pick.l1:Nat→Int→Int→List (S35)→Int→Int→Option (Int)
 | 0,_,_,_,_,_=>none
 | k+1,x1,x9,x71,x72,x73=>if x73<x72 then (if 0≤x73 then (if x73 < (x71.length:Int) then (if ((ax x71 x73).f1)≥x1 then (some ((ax x71 x73).f0)) else (spec_l5Pick.l1 k x1 x9 x71 x72 (wrap64 (x73+1)))) else (none)) else (none)) else (some x9)
def spec_l5Pick.l2:Nat→Int→Int→Int→List (S35)→Int→Int→Option (Int)
 | 0,_,_,_,_,_,_=>none
 | k+1,x1,x3,x9,x20,x21,x22=>if x22<x21 then (if 0≤x22 then (if x22 < (x20.length:Int) then (spec_l5Pick.l3 k x1 x3 x9 ((ax x20 x22).f0) x20 x21 x22 ((ax x20 x22).f0) ((ax x20 x22).f1)) else (none)) else (none)) else (some x9)
def spec_l5Pick.l3:Nat→Int→Int→Int→Int→List (S35)→Int→Int→Int→Int→Option (Int)
 | 0,_,_,_,_,_,_,_,_,_=>none
 | k+1,x1,x3,x9,x17,x20,x21,x22,x216000,x216001=>if (wrap64 (x17+x1))≤(wrap64 (x216000+x216001)) then (if x9<0 then (spec_l5Pick.l3 k x1 x3 x17 (wrap64 (x17+1)) x20 x21 x22 x216000 x216001) else ((spec_l5Gap.f x17 x3).bind fun t216=>((spec_l5Gap.f x9 x3).bind fun t217=>(if t216<t217 then (spec_l5Pick.l3 k x1 x3 x17 (wrap64 (x17+1)) x20 x21 x22 x216000 x216001) else (spec_l5Pick.l3 k x1 x3 x9 (wrap64 (x17+1)) x20 x21 x22 x216000 x216001))))) else (spec_l5Pick.l2 k x1 x3 x9 x20 x21 (wrap64 (x22+1)))
end
def spec_l5Pick.f (k:Nat) (a0_0:Int) (l0_1:List (S35)) (l0_2:List (S35)) (a1:Int) (a2:Int) (a3:Int):Option (Int):=if a2=1 then (spec_l5Pick.l0 k a1 (-1) l0_1 (l0_1.length:Int) 0) else (if a2=2 then (spec_l5Pick.l1 k a1 (-1) l0_2 (l0_2.length:Int) 0) else (if a2=3 then (if (l0_2.length:Int) > 0 then (if 0≤(wrap64 ((l0_2.length:Int) - 1)) then (if (wrap64 ((l0_2.length:Int) - 1)) < (l0_2.length:Int) then (if ((ax l0_2 (wrap64 ((l0_2.length:Int) - 1))).f1)≥a1 then (some ((ax l0_2 (wrap64 ((l0_2.length:Int) - 1))).f0)) else (some (-1))) else (none)) else (none)) else (some (-1))) else (spec_l5Pick.l2 k a1 a3 (-1) l0_1 (l0_1.length:Int) 0)))
set_option maxHeartbeats 8000000 in
set_option maxRecDepth 100000 in
theorem spec_l5Pick.calls (k : Nat) (a0_0 : Int) (A0_1 : Option Addr) (c0_1 : Nat) (l0_1 : List (S35)) (A0_2 : Option Addr) (c0_2 : Nat) (l0_2 : List (S35)) (a1 : Int) (a2 : Int) (a3 : Int) (r : Int) (w : World) (hr0_1 : Kd.C k35 w A0_1 l0_1.length l0_1) (hc0_1 : l0_1.length ≤ c0_1) (hr0_2 : Kd.C k35 w A0_2 l0_2.length l0_2) (hc0_2 : l0_2.length ≤ c0_2) (h : spec_l5Pick.f k a0_0 l0_1 l0_2 a1 a2 a3 = some r) :
  Calls Try.prog 56 #[.agg #[.int .i64 a0_0,.slice A0_1 l0_1.length c0_1,.slice A0_2 l0_2.length c0_2],.int .i64 a1,.int .i64 a2,.int .i64 a3] w fun e w'=>e = .returned (.int .i64 r)∧Below w.heap.size w w':=by
 have hu24:=Try.underlying24
 have hu35:=Try.underlying35
 have HR0_1:=au hr0_1
 have HC0_1:=au hc0_1
 clear hr0_1 hc0_1
 have HR0_2:=au hr0_2
 have HC0_2:=au hc0_2
 clear hr0_2 hc0_2
 have HB:=au (Below.refl w.heap.size w)
 have H:(if a2=1 then (spec_l5Pick.l0 k a1 (-1) l0_1 (l0_1.length:Int) 0) else (if a2=2 then (spec_l5Pick.l1 k a1 (-1) l0_2 (l0_2.length:Int) 0) else (if a2=3 then (if (l0_2.length:Int) > 0 then (if 0≤(wrap64 ((l0_2.length:Int) - 1)) then (if (wrap64 ((l0_2.length:Int) - 1)) < (l0_2.length:Int) then (if ((ax l0_2 (wrap64 ((l0_2.length:Int) - 1))).f1)≥a1 then (some ((ax l0_2 (wrap64 ((l0_2.length:Int) - 1))).f0)) else (some (-1))) else (none)) else (none)) else (some (-1))) else (spec_l5Pick.l2 k a1 a3 (-1) l0_1 (l0_1.length:Int) 0))))=some r:=h
 clear h
 by_cases c5:a2=1
 ·rw [if_pos c5] at H
  have c5b0:(a2 == 1)=true:=beq_iff_eq.mpr c5
  have c5b1:(a2 != 1)=false:=bne_eq_false_iff_eq.mpr c5
  clear c5
  have H':=au H
  clear H
  go_enter Try.func56,Try.ntmps56
  go_wp2_with (first|((with_reducible refine aM (N:=4) rfl ?_);refine aJ ?hg (N:=4) ?hd (cs:=#[.int .i64 a0_0,.slice A0_1 l0_1.length c0_1,.slice A0_2 l0_2.length c0_2]) (t:=24) ?hr ?_;(case hd=>rfl);(case hg=>rfl);(case hr=>first|(go_simp;done)|(go_simp;rfl));intro gb207 hg w6 hbox hb;have BK207:=au (hbox);have GW207:=au ((by rw[hg];exact(az (by with_reducible repeat(first|exact HB.out|apply ah|apply aa|apply ai))):w.heap.size≤gb207));have GE207:=au ((by rw[hg];exact(az (by with_reducible repeat(first|exact HB.out|apply ah|apply aa|apply ai))):w.heap.size≤gb207));replace HB:=au (aA (by with_reducible repeat(first|exact HB.out|apply ah|apply aa|apply ai)) hb);clear hb hbox hg;have hcz7_0:w6.cell? ⟨gb207,0,none⟩=some (.int .i64 a0_0):=(ak BK207.out 0).trans rfl;have hcz7_1:w6.cell? ⟨gb207,1,none⟩=some (.slice A0_1 l0_1.length c0_1):=(ak BK207.out 1).trans rfl;have hcz7_2:w6.cell? ⟨gb207,2,none⟩=some (.slice A0_2 l0_2.length c0_2):=(ak BK207.out 2).trans rfl;have hfz7_0:=av BK207.out 0;have hfz7_1:=av BK207.out 1;have hfz7_2:=av BK207.out 2))
  go_loopg [57] k (fun kq v57 w'=>∃ (x57_1:Int),v57 = .int .i64 x57_1∧Aside0 (spec_l5Pick.l0 kq a1 (-1) l0_1 (l0_1.length:Int) x57_1=some r)∧Aside0 (kq≤k)∧Aside0 (w'.heap[gb207]? = some (.cells #[.int .i64 a0_0,(.slice A0_1 l0_1.length c0_1),(.slice A0_2 l0_2.length c0_2)] 24 (0,0)))∧Aside0 (Below w.heap.size w w'))
  case atStart=>exact⟨(0),(by first|rfl|(simp;done)|(simp[*];done)),H',⟨Nat.le_refl _⟩,⟨by(with_reducible repeat(first|apply ag|apply aj|apply af));exact BK207.out⟩,⟨by with_reducible repeat(first|exact HB.out|apply ah|apply aa|apply ai|refine ae ?_ GE207.out)⟩⟩
  case round =>
   clear H'
   try clear p2
   try clear c5
   try clear c5b0
   try clear c5b1
   try clear p6
   try clear hcz7_0
   try clear hcz7_1
   try clear hcz7_2
   try clear hfz7_0
   try clear hfz7_1
   try clear hfz7_2
   obtain⟨x57_1,rfl,HA,HK1,BK207,HB⟩:=hrel
   cases gk with
   | zero=>exact absurd HA.out (by simp[spec_l5Pick.l0])
   | succ k1=>
    have H:=HA.out
    clear HA
    simp only[spec_l5Pick.l0] at H
    by_cases c8:x57_1 < (l0_1.length:Int)
    ·rw [if_pos c8] at H
     have c8b0:decide (x57_1 < (l0_1.length:Int))=true:=decide_eq_true c8
     clear c8
     by_cases c9:0≤x57_1
     ·rw[if_pos c9] at H
      have c9b0:decide (0≤x57_1)=true:=decide_eq_true c9
      clear c9
      by_cases c10:x57_1 < (l0_1.length:Int)
      ·rw[if_pos c10] at H
       have c10b0:decide (x57_1 < (l0_1.length:Int))=true:=decide_eq_true c10
       clear c10
       by_cases c11:((ax l0_1 x57_1).f1)≥a1
       ·rw[if_pos c11] at H
        have c11b0:decide (a1≤((ax l0_1 x57_1).f1))=true:=decide_eq_true c11
        clear c11
        obtain rfl:=Option.some.inj H
        have p208:0≤(x57_1:Int):=of_decide_eq_true (by assumption)
        have q208:x57_1 < (l0_1.length:Int):=of_decide_eq_true (by assumption)
        obtain⟨ad208,e208,hx208_0,hx208_1⟩:=bF HR0_1.out x57_1 p208 q208
        cases e208
        replace hx208_0:=(HB.out.cell (World.block_lt_of_cell? w _ hx208_0)).trans hx208_0
        replace hx208_1:=(HB.out.cell (World.block_lt_of_cell? w _ hx208_1)).trans hx208_1
        replace p208:=eq_true p208
        replace q208:=eq_true q208
        go_wp2_with (first|((with_reducible refine aM (N:=11) rfl ?_);refine aJ ?hg (N:=11) ?hd (cs:=#[.int .i64 0,.int .i64 0]) (t:=35) ?hr ?_;(case hd=>rfl);(case hg=>rfl);(case hr=>first|(go_simp;done)|(go_simp;rfl));intro gb209 hg w12 hbox hb;have BK209:=au (hbox);have GW209:=au ((by rw[hg];exact(az (by with_reducible repeat(first|exact HB.out|apply ah|apply aa|apply ai|refine ae ?_ GE207.out))):w.heap.size≤gb209));have GE209:=au ((by rw[hg];exact(az (by with_reducible repeat(first|exact HB.out|apply ah|apply aa|apply ai|refine ae ?_ GE207.out))):w.heap.size≤gb209));replace HB:=au (aA (by with_reducible repeat(first|exact HB.out|apply ah|apply aa|apply ai|refine ae ?_ GE207.out)) hb);have NB207_209:=au ((by rw[hg];exact Nat.ne_of_lt (aH (g:=gb207) (o:=.cells #[.int .i64 a0_0,.slice (some ad208) l0_1.length c0_1,.slice A0_2 l0_2.length c0_2] 24 (0,0)) (by(with_reducible repeat(first|apply ag|apply aj|apply af));exact BK207.out)):gb207≠gb209));have NB209_207:=au ((by rw[hg];exact Nat.ne_of_gt (aH (g:=gb207) (o:=.cells #[.int .i64 a0_0,.slice (some ad208) l0_1.length c0_1,.slice A0_2 l0_2.length c0_2] 24 (0,0)) (by(with_reducible repeat(first|apply ag|apply aj|apply af));exact BK207.out)):gb209≠gb207));replace BK207:=au (ay (g:=gb207) (o:=.cells #[.int .i64 a0_0,.slice (some ad208) l0_1.length c0_1,.slice A0_2 l0_2.length c0_2] 24 (0,0)) (by(with_reducible repeat(first|apply ag|apply aj|apply af));exact BK207.out) hb);clear hb hbox hg;have hnb13:=NB209_207.out;have hnc13:=NB207_209.out;have hcz14_0:w12.cell? ⟨gb209,0,none⟩=some (.int .i64 0):=(ak BK209.out 0).trans rfl;have hcz14_1:w12.cell? ⟨gb209,1,none⟩=some (.int .i64 0):=(ak BK209.out 1).trans rfl;have hfz14_0:=av BK209.out 0;have hfz14_1:=av BK209.out 1))
        go_ret
        exact⟨by first|rfl|(simp <;> rfl)|(simp[*] <;> rfl),by with_reducible repeat(first|exact HB.out|apply ah|apply aa|apply ai|refine ae ?_ GE207.out|refine ae ?_ GE209.out)⟩
       ·rw[if_neg c11] at H
        have c11b0:decide (a1≤((ax l0_1 x57_1).f1))=false:=decide_eq_false c11
        clear c11
        have H':=au H
        clear H
        have p208:0≤(x57_1:Int):=of_decide_eq_true (by assumption)
        have q208:x57_1 < (l0_1.length:Int):=of_decide_eq_true (by assumption)
        obtain⟨ad208,e208,hx208_0,hx208_1⟩:=bF HR0_1.out x57_1 p208 q208
        cases e208
        replace hx208_0:=(HB.out.cell (World.block_lt_of_cell? w _ hx208_0)).trans hx208_0
        replace hx208_1:=(HB.out.cell (World.block_lt_of_cell? w _ hx208_1)).trans hx208_1
        replace p208:=eq_true p208
        replace q208:=eq_true q208
        go_wp2_with (first|((with_reducible refine aM (N:=11) rfl ?_);refine aJ ?hg (N:=11) ?hd (cs:=#[.int .i64 0,.int .i64 0]) (t:=35) ?hr ?_;(case hd=>rfl);(case hg=>rfl);(case hr=>first|(go_simp;done)|(go_simp;rfl));intro gb209 hg w15 hbox hb;have BK209:=au (hbox);have GW209:=au ((by rw[hg];exact(az (by with_reducible repeat(first|exact HB.out|apply ah|apply aa|apply ai|refine ae ?_ GE207.out))):w.heap.size≤gb209));have GE209:=au ((by rw[hg];exact(az (by with_reducible repeat(first|exact HB.out|apply ah|apply aa|apply ai|refine ae ?_ GE207.out))):w.heap.size≤gb209));replace HB:=au (aA (by with_reducible repeat(first|exact HB.out|apply ah|apply aa|apply ai|refine ae ?_ GE207.out)) hb);have NB207_209:=au ((by rw[hg];exact Nat.ne_of_lt (aH (g:=gb207) (o:=.cells #[.int .i64 a0_0,.slice (some ad208) l0_1.length c0_1,.slice A0_2 l0_2.length c0_2] 24 (0,0)) (by(with_reducible repeat(first|apply ag|apply aj|apply af));exact BK207.out)):gb207≠gb209));have NB209_207:=au ((by rw[hg];exact Nat.ne_of_gt (aH (g:=gb207) (o:=.cells #[.int .i64 a0_0,.slice (some ad208) l0_1.length c0_1,.slice A0_2 l0_2.length c0_2] 24 (0,0)) (by(with_reducible repeat(first|apply ag|apply aj|apply af));exact BK207.out)):gb209≠gb207));replace BK207:=au (ay (g:=gb207) (o:=.cells #[.int .i64 a0_0,.slice (some ad208) l0_1.length c0_1,.slice A0_2 l0_2.length c0_2] 24 (0,0)) (by(with_reducible repeat(first|apply ag|apply aj|apply af));exact BK207.out) hb);clear hb hbox hg;have hnb16:=NB209_207.out;have hnc16:=NB207_209.out;have hcz17_0:w15.cell? ⟨gb209,0,none⟩=some (.int .i64 0):=(ak BK209.out 0).trans rfl;have hcz17_1:w15.cell? ⟨gb209,1,none⟩=some (.int .i64 0):=(ak BK209.out 1).trans rfl;have hfz17_0:=av BK209.out 0;have hfz17_1:=av BK209.out 1))
        go_roundg k1
        case measure=>have:=HK1.out;omega
        case rel=>exact⟨(wrap64 (x57_1+1)),(by first|rfl|(simp;done)|(simp[*];done)),H',⟨by have:=HK1.out;omega⟩,⟨by(with_reducible repeat(first|apply ag|apply aj|apply af));refine aG ?_ NB207_209.out _;(with_reducible repeat(first|apply ag|apply aj|apply af));refine aG ?_ NB207_209.out _;(with_reducible repeat(first|apply ag|apply aj|apply af));exact BK207.out⟩,⟨by with_reducible repeat(first|exact HB.out|apply ah|apply aa|apply ai|refine ae ?_ GE207.out|refine ae ?_ GE209.out)⟩⟩
      ·rw[if_neg c10] at H
       exact absurd H (by simp)
     ·rw[if_neg c9] at H
      exact absurd H (by simp)
    ·rw[if_neg c8] at H
     have c8b0:decide (x57_1 < (l0_1.length:Int))=false:=decide_eq_false c8
     clear c8
     obtain rfl:=Option.some.inj H
     go_wp2
     go_ret
     exact⟨by first|rfl|(simp <;> rfl)|(simp[*] <;> rfl),by with_reducible repeat(first|exact HB.out|apply ah|apply aa|apply ai|refine ae ?_ GE207.out)⟩
 ·rw [if_neg c5] at H
  have c5b0:(a2 == 1)=false:=beq_eq_false_iff_ne.mpr c5
  have c5b1:(a2 != 1)=true:=bne_iff_ne.mpr c5
  by_cases c18:a2=2
  ·rw [if_pos c18] at H
   have c18b0:(a2 == 2)=true:=beq_iff_eq.mpr c18
   have c18b1:(a2 != 2)=false:=bne_eq_false_iff_eq.mpr c18
   clear c18
   have H':=au H
   clear H
   go_enter Try.func56,Try.ntmps56
   go_wp2_with (first|((with_reducible refine aM (N:=4) rfl ?_);refine aJ ?hg (N:=4) ?hd (cs:=#[.int .i64 a0_0,.slice A0_1 l0_1.length c0_1,.slice A0_2 l0_2.length c0_2]) (t:=24) ?hr ?_;(case hd=>rfl);(case hg=>rfl);(case hr=>first|(go_simp;done)|(go_simp;rfl));intro gb207 hg w19 hbox hb;have BK207:=au (hbox);have GW207:=au ((by rw[hg];exact(az (by with_reducible repeat(first|exact HB.out|apply ah|apply aa|apply ai))):w.heap.size≤gb207));have GE207:=au ((by rw[hg];exact(az (by with_reducible repeat(first|exact HB.out|apply ah|apply aa|apply ai))):w.heap.size≤gb207));replace HB:=au (aA (by with_reducible repeat(first|exact HB.out|apply ah|apply aa|apply ai)) hb);clear hb hbox hg;have hcz20_0:w19.cell? ⟨gb207,0,none⟩=some (.int .i64 a0_0):=(ak BK207.out 0).trans rfl;have hcz20_1:w19.cell? ⟨gb207,1,none⟩=some (.slice A0_1 l0_1.length c0_1):=(ak BK207.out 1).trans rfl;have hcz20_2:w19.cell? ⟨gb207,2,none⟩=some (.slice A0_2 l0_2.length c0_2):=(ak BK207.out 2).trans rfl;have hfz20_0:=av BK207.out 0;have hfz20_1:=av BK207.out 1;have hfz20_2:=av BK207.out 2))
   go_loopg [73] k (fun kq v73 w'=>∃ (x73_1:Int),v73 = .int .i64 x73_1∧Aside0 (spec_l5Pick.l1 kq a1 (-1) l0_2 (l0_2.length:Int) x73_1=some r)∧Aside0 (kq≤k)∧Aside0 (w'.heap[gb207]? = some (.cells #[.int .i64 a0_0,(.slice A0_1 l0_1.length c0_1),(.slice A0_2 l0_2.length c0_2)] 24 (0,0)))∧Aside0 (Below w.heap.size w w'))
   case atStart=>exact⟨(0),(by first|rfl|(simp;done)|(simp[*];done)),H',⟨Nat.le_refl _⟩,⟨by(with_reducible repeat(first|apply ag|apply aj|apply af));exact BK207.out⟩,⟨by with_reducible repeat(first|exact HB.out|apply ah|apply aa|apply ai|refine ae ?_ GE207.out)⟩⟩
   case round =>
    clear H'
    try clear c1
    try clear p2
    try clear q2
    try clear hx2
    try clear c5
    try clear c5b0
    try clear c5b1
    try clear p6
    try clear c8
    try clear c8b0
    try clear c9
    try clear c9b0
    try clear c10
    try clear c10b0
    try clear c11
    try clear c11b0
    try clear c13
    try clear c16
    try clear c18
    try clear c18b0
    try clear c18b1
    try clear p20
    try clear q20
    try clear hx20
    try clear hcz14_0
    try clear hcz14_1
    try clear hcz17_0
    try clear hcz17_1
    try clear hcz20_0
    try clear hcz20_1
    try clear hcz20_2
    try clear hcz7_0
    try clear hcz7_1
    try clear hcz7_2
    try clear hfz14_0
    try clear hfz14_1
    try clear hfz17_0
    try clear hfz17_1
    try clear hfz20_0
    try clear hfz20_1
    try clear hfz20_2
    try clear hfz7_0
    try clear hfz7_1
    try clear hfz7_2
    try clear hx208_0
    try clear hx208_1
    try clear p2
    try clear p208
    try clear p6
    try clear q208
    obtain⟨x73_1,rfl,HA,HK1,BK207,HB⟩:=hrel
    cases gk with
    | zero=>exact absurd HA.out (by simp[spec_l5Pick.l1])
    | succ k1=>
     have H:=HA.out
     clear HA
     simp only[spec_l5Pick.l1] at H
     by_cases c21:x73_1 < (l0_2.length:Int)
     ·rw [if_pos c21] at H
      have c21b0:decide (x73_1 < (l0_2.length:Int))=true:=decide_eq_true c21
      clear c21
      by_cases c22:0≤x73_1
      ·rw[if_pos c22] at H
       have c22b0:decide (0≤x73_1)=true:=decide_eq_true c22
       clear c22
       by_cases c23:x73_1 < (l0_2.length:Int)
       ·rw[if_pos c23] at H
        have c23b0:decide (x73_1 < (l0_2.length:Int))=true:=decide_eq_true c23
        clear c23
        by_cases c24:((ax l0_2 x73_1).f1)≥a1
        ·rw[if_pos c24] at H
         have c24b0:decide (a1≤((ax l0_2 x73_1).f1))=true:=decide_eq_true c24
         clear c24
         obtain rfl:=Option.some.inj H
         have p210:0≤(x73_1:Int):=of_decide_eq_true (by assumption)
         have q210:x73_1 < (l0_2.length:Int):=of_decide_eq_true (by assumption)
         obtain⟨ad210,e210,hx210_0,hx210_1⟩:=bF HR0_2.out x73_1 p210 q210
         cases e210
         replace hx210_0:=(HB.out.cell (World.block_lt_of_cell? w _ hx210_0)).trans hx210_0
         replace hx210_1:=(HB.out.cell (World.block_lt_of_cell? w _ hx210_1)).trans hx210_1
         replace p210:=eq_true p210
         replace q210:=eq_true q210
         go_wp2_with (first|((with_reducible refine aM (N:=13) rfl ?_);refine aJ ?hg (N:=13) ?hd (cs:=#[.int .i64 0,.int .i64 0]) (t:=35) ?hr ?_;(case hd=>rfl);(case hg=>rfl);(case hr=>first|(go_simp;done)|(go_simp;rfl));intro gb211 hg w25 hbox hb;have BK211:=au (hbox);have GW211:=au ((by rw[hg];exact(az (by with_reducible repeat(first|exact HB.out|apply ah|apply aa|apply ai|refine ae ?_ GE207.out))):w.heap.size≤gb211));have GE211:=au ((by rw[hg];exact(az (by with_reducible repeat(first|exact HB.out|apply ah|apply aa|apply ai|refine ae ?_ GE207.out))):w.heap.size≤gb211));replace HB:=au (aA (by with_reducible repeat(first|exact HB.out|apply ah|apply aa|apply ai|refine ae ?_ GE207.out)) hb);have NB207_211:=au ((by rw[hg];exact Nat.ne_of_lt (aH (g:=gb207) (o:=.cells #[.int .i64 a0_0,.slice A0_1 l0_1.length c0_1,.slice (some ad210) l0_2.length c0_2] 24 (0,0)) (by(with_reducible repeat(first|apply ag|apply aj|apply af));exact BK207.out)):gb207≠gb211));have NB211_207:=au ((by rw[hg];exact Nat.ne_of_gt (aH (g:=gb207) (o:=.cells #[.int .i64 a0_0,.slice A0_1 l0_1.length c0_1,.slice (some ad210) l0_2.length c0_2] 24 (0,0)) (by(with_reducible repeat(first|apply ag|apply aj|apply af));exact BK207.out)):gb211≠gb207));replace BK207:=au (ay (g:=gb207) (o:=.cells #[.int .i64 a0_0,.slice A0_1 l0_1.length c0_1,.slice (some ad210) l0_2.length c0_2] 24 (0,0)) (by(with_reducible repeat(first|apply ag|apply aj|apply af));exact BK207.out) hb);clear hb hbox hg;have hnb26:=NB211_207.out;have hnc26:=NB207_211.out;have hcz27_0:w25.cell? ⟨gb211,0,none⟩=some (.int .i64 0):=(ak BK211.out 0).trans rfl;have hcz27_1:w25.cell? ⟨gb211,1,none⟩=some (.int .i64 0):=(ak BK211.out 1).trans rfl;have hfz27_0:=av BK211.out 0;have hfz27_1:=av BK211.out 1))
         go_ret
         exact⟨by first|rfl|(simp <;> rfl)|(simp[*] <;> rfl),by with_reducible repeat(first|exact HB.out|apply ah|apply aa|apply ai|refine ae ?_ GE207.out|refine ae ?_ GE211.out)⟩
        ·rw[if_neg c24] at H
         have c24b0:decide (a1≤((ax l0_2 x73_1).f1))=false:=decide_eq_false c24
         clear c24
         have H':=au H
         clear H
         have p210:0≤(x73_1:Int):=of_decide_eq_true (by assumption)
         have q210:x73_1 < (l0_2.length:Int):=of_decide_eq_true (by assumption)
         obtain⟨ad210,e210,hx210_0,hx210_1⟩:=bF HR0_2.out x73_1 p210 q210
         cases e210
         replace hx210_0:=(HB.out.cell (World.block_lt_of_cell? w _ hx210_0)).trans hx210_0
         replace hx210_1:=(HB.out.cell (World.block_lt_of_cell? w _ hx210_1)).trans hx210_1
         replace p210:=eq_true p210
         replace q210:=eq_true q210
         go_wp2_with (first|((with_reducible refine aM (N:=13) rfl ?_);refine aJ ?hg (N:=13) ?hd (cs:=#[.int .i64 0,.int .i64 0]) (t:=35) ?hr ?_;(case hd=>rfl);(case hg=>rfl);(case hr=>first|(go_simp;done)|(go_simp;rfl));intro gb211 hg w28 hbox hb;have BK211:=au (hbox);have GW211:=au ((by rw[hg];exact(az (by with_reducible repeat(first|exact HB.out|apply ah|apply aa|apply ai|refine ae ?_ GE207.out))):w.heap.size≤gb211));have GE211:=au ((by rw[hg];exact(az (by with_reducible repeat(first|exact HB.out|apply ah|apply aa|apply ai|refine ae ?_ GE207.out))):w.heap.size≤gb211));replace HB:=au (aA (by with_reducible repeat(first|exact HB.out|apply ah|apply aa|apply ai|refine ae ?_ GE207.out)) hb);have NB207_211:=au ((by rw[hg];exact Nat.ne_of_lt (aH (g:=gb207) (o:=.cells #[.int .i64 a0_0,.slice A0_1 l0_1.length c0_1,.slice (some ad210) l0_2.length c0_2] 24 (0,0)) (by(with_reducible repeat(first|apply ag|apply aj|apply af));exact BK207.out)):gb207≠gb211));have NB211_207:=au ((by rw[hg];exact Nat.ne_of_gt (aH (g:=gb207) (o:=.cells #[.int .i64 a0_0,.slice A0_1 l0_1.length c0_1,.slice (some ad210) l0_2.length c0_2] 24 (0,0)) (by(with_reducible repeat(first|apply ag|apply aj|apply af));exact BK207.out)):gb211≠gb207));replace BK207:=au (ay (g:=gb207) (o:=.cells #[.int .i64 a0_0,.slice A0_1 l0_1.length c0_1,.slice (some ad210) l0_2.length c0_2] 24 (0,0)) (by(with_reducible repeat(first|apply ag|apply aj|apply af));exact BK207.out) hb);clear hb hbox hg;have hnb29:=NB211_207.out;have hnc29:=NB207_211.out;have hcz30_0:w28.cell? ⟨gb211,0,none⟩=some (.int .i64 0):=(ak BK211.out 0).trans rfl;have hcz30_1:w28.cell? ⟨gb211,1,none⟩=some (.int .i64 0):=(ak BK211.out 1).trans rfl;have hfz30_0:=av BK211.out 0;have hfz30_1:=av BK211.out 1))
         go_roundg k1
         case measure=>have:=HK1.out;omega
         case rel=>exact⟨(wrap64 (x73_1+1)),(by first|rfl|(simp;done)|(simp[*];done)),H',⟨by have:=HK1.out;omega⟩,⟨by(with_reducible repeat(first|apply ag|apply aj|apply af));refine aG ?_ NB207_211.out _;(with_reducible repeat(first|apply ag|apply aj|apply af));refine aG ?_ NB207_211.out _;(with_reducible repeat(first|apply ag|apply aj|apply af));exact BK207.out⟩,⟨by with_reducible repeat(first|exact HB.out|apply ah|apply aa|apply ai|refine ae ?_ GE207.out|refine ae ?_ GE211.out)⟩⟩
       ·rw[if_neg c23] at H
        exact absurd H (by simp)
      ·rw[if_neg c22] at H
       exact absurd H (by simp)
     ·rw[if_neg c21] at H
      have c21b0:decide (x73_1 < (l0_2.length:Int))=false:=decide_eq_false c21
      clear c21
      obtain rfl:=Option.some.inj H
      go_wp2
      go_ret
      exact⟨by first|rfl|(simp <;> rfl)|(simp[*] <;> rfl),by with_reducible repeat(first|exact HB.out|apply ah|apply aa|apply ai|refine ae ?_ GE207.out)⟩
  ·rw [if_neg c18] at H
   have c18b0:(a2 == 2)=false:=beq_eq_false_iff_ne.mpr c18
   have c18b1:(a2 != 2)=true:=bne_iff_ne.mpr c18
   by_cases c31:a2=3
   ·rw [if_pos c31] at H
    have c31b0:(a2 == 3)=true:=beq_iff_eq.mpr c31
    have c31b1:(a2 != 3)=false:=bne_eq_false_iff_eq.mpr c31
    clear c31
    by_cases c32:(l0_2.length:Int) > 0
    ·rw [if_pos c32] at H
     have c32b0:decide (0 < (l0_2.length:Int))=true:=decide_eq_true c32
     have c32b1:decide (0<l0_2.length)=true:=decide_eq_true (by omega)
     clear c32
     obtain⟨ji33,hji33⟩:∃ j_:Int,(wrap64 ((l0_2.length:Int) - 1))=j_:=⟨_,rfl⟩
     replace H:(if 0≤(ji33) then (if (ji33) < (l0_2.length:Int) then (if ((ax l0_2 (ji33)).f1)≥a1 then (some ((ax l0_2 (ji33)).f0)) else (some (-1))) else (none)) else (none))=some r:=by first|(rw[hji33] at H;exact H)|(simp only[hji33] at H ⊢;exact H)
     have hji33w:(IntKind.i64.wrap ((l0_2.length:Int) - 1))=ji33:=(kE _).trans hji33
     by_cases c34:0≤(ji33)
     ·rw[if_pos c34] at H
      have c34b0:decide (0≤(ji33))=true:=decide_eq_true c34
      clear c34
      by_cases c35:(ji33) < (l0_2.length:Int)
      ·rw[if_pos c35] at H
       have c35b0:decide ((ji33) < (l0_2.length:Int))=true:=decide_eq_true c35
       clear c35
       by_cases c36:((ax l0_2 (ji33)).f1)≥a1
       ·rw[if_pos c36] at H
        have c36b0:decide (a1≤((ax l0_2 (ji33)).f1))=true:=decide_eq_true c36
        clear c36
        obtain rfl:=Option.some.inj H
        go_enter Try.func56,Try.ntmps56
        go_wp2_with (first|((with_reducible refine aM (N:=4) rfl ?_);refine aJ ?hg (N:=4) ?hd (cs:=#[.int .i64 a0_0,.slice A0_1 l0_1.length c0_1,.slice A0_2 l0_2.length c0_2]) (t:=24) ?hr ?_;(case hd=>rfl);(case hg=>rfl);(case hr=>first|(go_simp;done)|(go_simp;rfl));intro gb207 hg w37 hbox hb;have BK207:=au (hbox);have GW207:=au ((by rw[hg];exact(az (by with_reducible repeat(first|exact HB.out|apply ah|apply aa|apply ai))):w.heap.size≤gb207));have GE207:=au ((by rw[hg];exact(az (by with_reducible repeat(first|exact HB.out|apply ah|apply aa|apply ai))):w.heap.size≤gb207));replace HB:=au (aA (by with_reducible repeat(first|exact HB.out|apply ah|apply aa|apply ai)) hb);clear hb hbox hg;have hcz38_0:w37.cell? ⟨gb207,0,none⟩=some (.int .i64 a0_0):=(ak BK207.out 0).trans rfl;have hcz38_1:w37.cell? ⟨gb207,1,none⟩=some (.slice A0_1 l0_1.length c0_1):=(ak BK207.out 1).trans rfl;have hcz38_2:w37.cell? ⟨gb207,2,none⟩=some (.slice A0_2 l0_2.length c0_2):=(ak BK207.out 2).trans rfl;have hfz38_0:=av BK207.out 0;have hfz38_1:=av BK207.out 1;have hfz38_2:=av BK207.out 2;have p212:0≤((ji33):Int):=of_decide_eq_true (by assumption);have q212:(ji33) < (l0_2.length:Int):=of_decide_eq_true (by assumption);obtain⟨ad212,e212,hx212_0,hx212_1⟩:=bF HR0_2.out (ji33) p212 q212;cases e212;replace hx212_0:=(HB.out.cell (World.block_lt_of_cell? w _ hx212_0)).trans hx212_0;replace hx212_1:=(HB.out.cell (World.block_lt_of_cell? w _ hx212_1)).trans hx212_1;replace p212:=eq_true p212;replace q212:=eq_true q212;have p213:0≤((ji33):Int):=of_decide_eq_true (by assumption);have q213:(ji33) < (l0_2.length:Int):=of_decide_eq_true (by assumption);obtain⟨ad213,e213,hx213_0,hx213_1⟩:=bF HR0_2.out (ji33) p213 q213;obtain rfl:ad212=ad213:=(by injection e213);replace hx213_0:=(HB.out.cell (World.block_lt_of_cell? w _ hx213_0)).trans hx213_0;replace hx213_1:=(HB.out.cell (World.block_lt_of_cell? w _ hx213_1)).trans hx213_1;replace p213:=eq_true p213;replace q213:=eq_true q213))
        go_ret
        exact⟨by first|rfl|(simp[cu,cB] <;> rfl)|(simp only[← hji33];first|rfl|(simp[cu,cB] <;> rfl))|(simp[*,cu,cB] <;> rfl)|(simp[E.eB];done)|(rw[E.fw]),by with_reducible repeat(first|exact HB.out|apply ah|apply aa|apply ai|refine ae ?_ GE207.out)⟩
       ·rw[if_neg c36] at H
        have c36b0:decide (a1≤((ax l0_2 (ji33)).f1))=false:=decide_eq_false c36
        clear c36
        obtain rfl:=Option.some.inj H
        go_enter Try.func56,Try.ntmps56
        go_wp2_with (first|((with_reducible refine aM (N:=4) rfl ?_);refine aJ ?hg (N:=4) ?hd (cs:=#[.int .i64 a0_0,.slice A0_1 l0_1.length c0_1,.slice A0_2 l0_2.length c0_2]) (t:=24) ?hr ?_;(case hd=>rfl);(case hg=>rfl);(case hr=>first|(go_simp;done)|(go_simp;rfl));intro gb207 hg w39 hbox hb;have BK207:=au (hbox);have GW207:=au ((by rw[hg];exact(az (by with_reducible repeat(first|exact HB.out|apply ah|apply aa|apply ai))):w.heap.size≤gb207));have GE207:=au ((by rw[hg];exact(az (by with_reducible repeat(first|exact HB.out|apply ah|apply aa|apply ai))):w.heap.size≤gb207));replace HB:=au (aA (by with_reducible repeat(first|exact HB.out|apply ah|apply aa|apply ai)) hb);clear hb hbox hg;have hcz40_0:w39.cell? ⟨gb207,0,none⟩=some (.int .i64 a0_0):=(ak BK207.out 0).trans rfl;have hcz40_1:w39.cell? ⟨gb207,1,none⟩=some (.slice A0_1 l0_1.length c0_1):=(ak BK207.out 1).trans rfl;have hcz40_2:w39.cell? ⟨gb207,2,none⟩=some (.slice A0_2 l0_2.length c0_2):=(ak BK207.out 2).trans rfl;have hfz40_0:=av BK207.out 0;have hfz40_1:=av BK207.out 1;have hfz40_2:=av BK207.out 2;have p212:0≤((ji33):Int):=of_decide_eq_true (by assumption);have q212:(ji33) < (l0_2.length:Int):=of_decide_eq_true (by assumption);obtain⟨ad212,e212,hx212_0,hx212_1⟩:=bF HR0_2.out (ji33) p212 q212;cases e212;replace hx212_0:=(HB.out.cell (World.block_lt_of_cell? w _ hx212_0)).trans hx212_0;replace hx212_1:=(HB.out.cell (World.block_lt_of_cell? w _ hx212_1)).trans hx212_1;replace p212:=eq_true p212;replace q212:=eq_true q212))
        go_ret
        exact⟨by first|rfl|(simp[cu,cB] <;> rfl)|(simp only[← hji33];first|rfl|(simp[cu,cB] <;> rfl))|(simp[*,cu,cB] <;> rfl)|(simp[E.eB];done)|(rw[E.fw]),by with_reducible repeat(first|exact HB.out|apply ah|apply aa|apply ai|refine ae ?_ GE207.out)⟩
      ·rw[if_neg c35] at H
       exact absurd H (by simp)
     ·rw[if_neg c34] at H
      exact absurd H (by simp)
    ·rw[if_neg c32] at H
     have c32b0:decide (0 < (l0_2.length:Int))=false:=decide_eq_false c32
     have c32b1:decide (0<l0_2.length)=false:=decide_eq_false (by omega)
     clear c32
     obtain rfl:=Option.some.inj H
     go_enter Try.func56,Try.ntmps56
     go_wp2_with (first|((with_reducible refine aM (N:=4) rfl ?_);refine aJ ?hg (N:=4) ?hd (cs:=#[.int .i64 a0_0,.slice A0_1 l0_1.length c0_1,.slice A0_2 l0_2.length c0_2]) (t:=24) ?hr ?_;(case hd=>rfl);(case hg=>rfl);(case hr=>first|(go_simp;done)|(go_simp;rfl));intro gb207 hg w41 hbox hb;have BK207:=au (hbox);have GW207:=au ((by rw[hg];exact(az (by with_reducible repeat(first|exact HB.out|apply ah|apply aa|apply ai))):w.heap.size≤gb207));have GE207:=au ((by rw[hg];exact(az (by with_reducible repeat(first|exact HB.out|apply ah|apply aa|apply ai))):w.heap.size≤gb207));replace HB:=au (aA (by with_reducible repeat(first|exact HB.out|apply ah|apply aa|apply ai)) hb);clear hb hbox hg;have hcz42_0:w41.cell? ⟨gb207,0,none⟩=some (.int .i64 a0_0):=(ak BK207.out 0).trans rfl;have hcz42_1:w41.cell? ⟨gb207,1,none⟩=some (.slice A0_1 l0_1.length c0_1):=(ak BK207.out 1).trans rfl;have hcz42_2:w41.cell? ⟨gb207,2,none⟩=some (.slice A0_2 l0_2.length c0_2):=(ak BK207.out 2).trans rfl;have hfz42_0:=av BK207.out 0;have hfz42_1:=av BK207.out 1;have hfz42_2:=av BK207.out 2))
     go_ret
     exact⟨by first|rfl|(simp <;> rfl)|(simp[*] <;> rfl),by with_reducible repeat(first|exact HB.out|apply ah|apply aa|apply ai|refine ae ?_ GE207.out)⟩
   ·rw [if_neg c31] at H
    have c31b0:(a2 == 3)=false:=beq_eq_false_iff_ne.mpr c31
    have c31b1:(a2 != 3)=true:=bne_iff_ne.mpr c31
    have H':=au H
    clear H
    go_enter Try.func56,Try.ntmps56
    go_wp2_with (first|((with_reducible refine aM (N:=4) rfl ?_);refine aJ ?hg (N:=4) ?hd (cs:=#[.int .i64 a0_0,.slice A0_1 l0_1.length c0_1,.slice A0_2 l0_2.length c0_2]) (t:=24) ?hr ?_;(case hd=>rfl);(case hg=>rfl);(case hr=>first|(go_simp;done)|(go_simp;rfl));intro gb207 hg w43 hbox hb;have BK207:=au (hbox);have GW207:=au ((by rw[hg];exact(az (by with_reducible repeat(first|exact HB.out|apply ah|apply aa|apply ai))):w.heap.size≤gb207));have GE207:=au ((by rw[hg];exact(az (by with_reducible repeat(first|exact HB.out|apply ah|apply aa|apply ai))):w.heap.size≤gb207));replace HB:=au (aA (by with_reducible repeat(first|exact HB.out|apply ah|apply aa|apply ai)) hb);clear hb hbox hg;have hcz44_0:w43.cell? ⟨gb207,0,none⟩=some (.int .i64 a0_0):=(ak BK207.out 0).trans rfl;have hcz44_1:w43.cell? ⟨gb207,1,none⟩=some (.slice A0_1 l0_1.length c0_1):=(ak BK207.out 1).trans rfl;have hcz44_2:w43.cell? ⟨gb207,2,none⟩=some (.slice A0_2 l0_2.length c0_2):=(ak BK207.out 2).trans rfl;have hfz44_0:=av BK207.out 0;have hfz44_1:=av BK207.out 1;have hfz44_2:=av BK207.out 2))
    go_loopg [9,22] k (fun kq v9 v22 w'=>∃ (x9_1:Int) (x22_1:Int),v9 = .int .i64 x9_1∧v22 = .int .i64 x22_1∧Aside0 (spec_l5Pick.l2 kq a1 a3 x9_1 l0_1 (l0_1.length:Int) x22_1=some r)∧Aside0 (kq≤k)∧Aside0 (w'.heap[gb207]? = some (.cells #[.int .i64 a0_0,(.slice A0_1 l0_1.length c0_1),(.slice A0_2 l0_2.length c0_2)] 24 (0,0)))∧Aside0 (Below w.heap.size w w'))
    case atStart=>exact⟨((-1)),(0),(by first|rfl|(simp;done)|(simp[*];done)),(by first|rfl|(simp;done)|(simp[*];done)),H',⟨Nat.le_refl _⟩,⟨by(with_reducible repeat(first|apply ag|apply aj|apply af));exact BK207.out⟩,⟨by with_reducible repeat(first|exact HB.out|apply ah|apply aa|apply ai|refine ae ?_ GE207.out)⟩⟩
    case round =>
     clear H'
     try clear c1
     try clear c2
     try clear p2
     try clear q2
     try clear hx2
     try clear c3
     try clear c5
     try clear c5b0
     try clear c5b1
     try clear p6
     try clear c8
     try clear c8b0
     try clear c9
     try clear c9b0
     try clear c10
     try clear c10b0
     try clear c11
     try clear c11b0
     try clear c13
     try clear c16
     try clear c18
     try clear c18b0
     try clear c18b1
     try clear p20
     try clear q20
     try clear hx20
     try clear c21
     try clear c21b0
     try clear p21
     try clear q21
     try clear hx21
     try clear c22
     try clear c22b0
     try clear c23
     try clear c23b0
     try clear c24
     try clear c24b0
     try clear c26
     try clear c29
     try clear c31
     try clear c31b0
     try clear c31b1
     try clear c32
     try clear c32b0
     try clear c32b1
     try clear c34
     try clear c34b0
     try clear c35
     try clear c35b0
     try clear c36
     try clear c36b0
     try clear hcz14_0
     try clear hcz14_1
     try clear hcz17_0
     try clear hcz17_1
     try clear hcz20_0
     try clear hcz20_1
     try clear hcz20_2
     try clear hcz27_0
     try clear hcz27_1
     try clear hcz30_0
     try clear hcz30_1
     try clear hcz38_0
     try clear hcz38_1
     try clear hcz38_2
     try clear hcz40_0
     try clear hcz40_1
     try clear hcz40_2
     try clear hcz42_0
     try clear hcz42_1
     try clear hcz42_2
     try clear hcz44_0
     try clear hcz44_1
     try clear hcz44_2
     try clear hcz7_0
     try clear hcz7_1
     try clear hcz7_2
     try clear hfz14_0
     try clear hfz14_1
     try clear hfz17_0
     try clear hfz17_1
     try clear hfz20_0
     try clear hfz20_1
     try clear hfz20_2
     try clear hfz27_0
     try clear hfz27_1
     try clear hfz30_0
     try clear hfz30_1
     try clear hfz38_0
     try clear hfz38_1
     try clear hfz38_2
     try clear hfz40_0
     try clear hfz40_1
     try clear hfz40_2
     try clear hfz42_0
     try clear hfz42_1
     try clear hfz42_2
     try clear hfz44_0
     try clear hfz44_1
     try clear hfz44_2
     try clear hfz7_0
     try clear hfz7_1
     try clear hfz7_2
     try clear hx208_0
     try clear hx208_1
     try clear hx210_0
     try clear hx210_1
     try clear hx212_0
     try clear hx212_1
     try clear hx213_0
     try clear hx213_1
     try clear p2
     try clear p20
     try clear p208
     try clear p210
     try clear p212
     try clear p213
     try clear p6
     try clear q2
     try clear q20
     try clear q208
     try clear q210
     try clear q212
     try clear q213
     obtain⟨x9_1,x22_1,rfl,rfl,HA,HK1,BK207,HB⟩:=hrel
     cases gk with
     | zero=>exact absurd HA.out (by simp[spec_l5Pick.l2])
     | succ k1 =>
      have H:=HA.out
      clear HA
      simp only[spec_l5Pick.l2] at H
      by_cases c45:x22_1 < (l0_1.length:Int)
      ·rw [if_pos c45] at H
       have c45b0:decide (x22_1 < (l0_1.length:Int))=true:=decide_eq_true c45
       clear c45
       by_cases c46:0≤x22_1
       ·rw [if_pos c46] at H
        have c46b0:decide (0≤x22_1)=true:=decide_eq_true c46
        clear c46
        by_cases c47:x22_1 < (l0_1.length:Int)
        ·rw [if_pos c47] at H
         have c47b0:decide (x22_1 < (l0_1.length:Int))=true:=decide_eq_true c47
         clear c47
         have H':=au H
         clear H
         have p214:0≤(x22_1:Int):=of_decide_eq_true (by assumption)
         have q214:x22_1 < (l0_1.length:Int):=of_decide_eq_true (by assumption)
         obtain⟨ad214,e214,hx214_0,hx214_1⟩:=bF HR0_1.out x22_1 p214 q214
         cases e214
         replace hx214_0:=(HB.out.cell (World.block_lt_of_cell? w _ hx214_0)).trans hx214_0
         replace hx214_1:=(HB.out.cell (World.block_lt_of_cell? w _ hx214_1)).trans hx214_1
         replace p214:=eq_true p214
         replace q214:=eq_true q214
         go_wp2_with (first|((with_reducible refine aM (N:=16) rfl ?_);refine aJ ?hg (N:=16) ?hd (cs:=#[.int .i64 0,.int .i64 0]) (t:=35) ?hr ?_;(case hd=>rfl);(case hg=>rfl);(case hr=>first|(go_simp;done)|(go_simp;rfl));intro gb215 hg w48 hbox hb;have BK215:=au (hbox);have GW215:=au ((by rw[hg];exact(az (by with_reducible repeat(first|exact HB.out|apply ah|apply aa|apply ai|refine ae ?_ GE207.out))):w.heap.size≤gb215));have GE215:=au ((by rw[hg];exact(az (by with_reducible repeat(first|exact HB.out|apply ah|apply aa|apply ai|refine ae ?_ GE207.out))):w.heap.size≤gb215));replace HB:=au (aA (by with_reducible repeat(first|exact HB.out|apply ah|apply aa|apply ai|refine ae ?_ GE207.out)) hb);have NB207_215:=au ((by rw[hg];exact Nat.ne_of_lt (aH (g:=gb207) (o:=.cells #[.int .i64 a0_0,.slice (some ad214) l0_1.length c0_1,.slice A0_2 l0_2.length c0_2] 24 (0,0)) (by(with_reducible repeat(first|apply ag|apply aj|apply af));exact BK207.out)):gb207≠gb215));have NB215_207:=au ((by rw[hg];exact Nat.ne_of_gt (aH (g:=gb207) (o:=.cells #[.int .i64 a0_0,.slice (some ad214) l0_1.length c0_1,.slice A0_2 l0_2.length c0_2] 24 (0,0)) (by(with_reducible repeat(first|apply ag|apply aj|apply af));exact BK207.out)):gb215≠gb207));replace BK207:=au (ay (g:=gb207) (o:=.cells #[.int .i64 a0_0,.slice (some ad214) l0_1.length c0_1,.slice A0_2 l0_2.length c0_2] 24 (0,0)) (by(with_reducible repeat(first|apply ag|apply aj|apply af));exact BK207.out) hb);clear hb hbox hg;have hnb49:=NB215_207.out;have hnc49:=NB207_215.out;have hcz50_0:w48.cell? ⟨gb215,0,none⟩=some (.int .i64 0):=(ak BK215.out 0).trans rfl;have hcz50_1:w48.cell? ⟨gb215,1,none⟩=some (.int .i64 0):=(ak BK215.out 1).trans rfl;have hfz50_0:=av BK215.out 0;have hfz50_1:=av BK215.out 1))
         go_loopg [9,17] k1 (fun kq v9 v17 w'=>∃ (x9_2:Int) (x17_2:Int),v9 = .int .i64 x9_2∧v17 = .int .i64 x17_2∧Aside0 (spec_l5Pick.l3 kq a1 a3 x9_2 x17_2 l0_1 (l0_1.length:Int) x22_1 ((ax l0_1 x22_1).f0) ((ax l0_1 x22_1).f1)=some r)∧Aside0 (kq≤k1)∧Aside0 (w'.heap[gb207]? = some (.cells #[.int .i64 a0_0,(.slice (some ad214) l0_1.length c0_1),(.slice A0_2 l0_2.length c0_2)] 24 (0,0)))∧Aside0 (w'.heap[gb215]? = some (.cells #[.int .i64 ((ax l0_1 x22_1).f0),.int .i64 ((ax l0_1 x22_1).f1)] 35 (0,0)))∧Aside0 (Below w.heap.size w w'))
         case atStart=>exact⟨(x9_1),((ax l0_1 x22_1).f0),(by first|rfl|(simp;done)|(simp[*];done)),(by first|rfl|(simp;done)|(simp[*];done)),H',⟨Nat.le_refl _⟩,⟨by(with_reducible repeat(first|apply ag|apply aj|apply af));refine aG ?_ NB207_215.out _;(with_reducible repeat(first|apply ag|apply aj|apply af));refine aG ?_ NB207_215.out _;(with_reducible repeat(first|apply ag|apply aj|apply af));exact BK207.out⟩,⟨by(with_reducible repeat(first|apply ag|apply aj|apply af));refine aK (cs:=#[.int .i64 ((ax l0_1 x22_1).f0),.int .i64 0]) ?_ 1 _ rfl;(with_reducible repeat(first|apply ag|apply aj|apply af));refine aK (cs:=#[.int .i64 0,.int .i64 0]) ?_ 0 _ rfl;(with_reducible repeat(first|apply ag|apply aj|apply af));exact BK215.out⟩,⟨by with_reducible repeat(first|exact HB.out|apply ah|apply aa|apply ai|refine ae ?_ GE207.out|refine ae ?_ GE215.out)⟩⟩
         case round =>
          clear H'
          try clear c1
          try clear c2
          try clear p2
          try clear q2
          try clear hx2
          try clear c3
          try clear c4
          try clear c5
          try clear c5b0
          try clear c5b1
          try clear p6
          try clear c8
          try clear c8b0
          try clear c9
          try clear c9b0
          try clear c10
          try clear c10b0
          try clear c11
          try clear c11b0
          try clear c13
          try clear c16
          try clear c18
          try clear c18b0
          try clear c18b1
          try clear p20
          try clear q20
          try clear hx20
          try clear c21
          try clear c21b0
          try clear p21
          try clear q21
          try clear hx21
          try clear c22
          try clear c22b0
          try clear c23
          try clear c23b0
          try clear c24
          try clear c24b0
          try clear c26
          try clear c29
          try clear c31
          try clear c31b0
          try clear c31b1
          try clear c32
          try clear c32b0
          try clear c32b1
          try clear c34
          try clear c34b0
          try clear c35
          try clear c35b0
          try clear c36
          try clear c36b0
          try clear c45
          try clear c45b0
          try clear c46
          try clear c46b0
          try clear c47
          try clear c47b0
          try clear c49
          try clear hcz14_0
          try clear hcz14_1
          try clear hcz17_0
          try clear hcz17_1
          try clear hcz20_0
          try clear hcz20_1
          try clear hcz20_2
          try clear hcz27_0
          try clear hcz27_1
          try clear hcz30_0
          try clear hcz30_1
          try clear hcz38_0
          try clear hcz38_1
          try clear hcz38_2
          try clear hcz40_0
          try clear hcz40_1
          try clear hcz40_2
          try clear hcz42_0
          try clear hcz42_1
          try clear hcz42_2
          try clear hcz44_0
          try clear hcz44_1
          try clear hcz44_2
          try clear hcz50_0
          try clear hcz50_1
          try clear hcz7_0
          try clear hcz7_1
          try clear hcz7_2
          try clear hfz14_0
          try clear hfz14_1
          try clear hfz17_0
          try clear hfz17_1
          try clear hfz20_0
          try clear hfz20_1
          try clear hfz20_2
          try clear hfz27_0
          try clear hfz27_1
          try clear hfz30_0
          try clear hfz30_1
          try clear hfz38_0
          try clear hfz38_1
          try clear hfz38_2
          try clear hfz40_0
          try clear hfz40_1
          try clear hfz40_2
          try clear hfz42_0
          try clear hfz42_1
          try clear hfz42_2
          try clear hfz44_0
          try clear hfz44_1
          try clear hfz44_2
          try clear hfz50_0
          try clear hfz50_1
          try clear hfz7_0
          try clear hfz7_1
          try clear hfz7_2
          try clear hx208_0
          try clear hx208_1
          try clear hx210_0
          try clear hx210_1
          try clear hx212_0
          try clear hx212_1
          try clear hx213_0
          try clear hx213_1
          try clear hx214_0
          try clear hx214_1
          try clear p2
          try clear p20
          try clear p208
          try clear p21
          try clear p210
          try clear p212
          try clear p213
          try clear p214
          try clear p6
          try clear q2
          try clear q20
          try clear q208
          try clear q21
          try clear q210
          try clear q212
          try clear q213
          try clear q214
          obtain⟨x9_2,x17_2,rfl,rfl,HA,HK2,BK207,BK215,HB⟩:=hrel
          cases gk with
          | zero=>exact absurd HA.out (by simp[spec_l5Pick.l3])
          | succ k2=>
           have H:=HA.out
           clear HA
           simp only[spec_l5Pick.l3] at H
           by_cases c51:(wrap64 (x17_2+a1))≤(wrap64 (((ax l0_1 x22_1).f0) + ((ax l0_1 x22_1).f1)))
           ·rw[if_pos c51] at H
            have c51b0:decide ((wrap64 (x17_2+a1))≤(wrap64 (((ax l0_1 x22_1).f0) + ((ax l0_1 x22_1).f1))))=true:=decide_eq_true c51
            clear c51
            by_cases c52:x9_2<0
            ·rw[if_pos c52] at H
             have c52b0:decide (x9_2<0)=true:=decide_eq_true c52
             clear c52
             have H':=au H
             clear H
             have hnb53:=NB215_207.out
             have hnc53:=NB207_215.out
             have hcz54_0:wr.cell? ⟨gb215,0,none⟩=some (.int .i64 ((ax l0_1 x22_1).f0)):=(ak BK215.out 0).trans rfl
             have hcz54_1:wr.cell? ⟨gb215,1,none⟩=some (.int .i64 ((ax l0_1 x22_1).f1)):=(ak BK215.out 1).trans rfl
             have hfz54_0:=av BK215.out 0
             have hfz54_1:=av BK215.out 1
             go_wp2
             go_roundg k2
             case measure=>have:=HK1.out;have:=HK2.out;omega
             case rel=>exact⟨(x17_2),(wrap64 (x17_2+1)),(by first|rfl|(simp;done)|(simp[*];done)),(by first|rfl|(simp;done)|(simp[*];done)),H',⟨by have:=HK1.out;have:=HK2.out;omega⟩,⟨by(with_reducible repeat(first|apply ag|apply aj|apply af));exact BK207.out⟩,⟨by(with_reducible repeat(first|apply ag|apply aj|apply af));exact BK215.out⟩,⟨by with_reducible repeat(first|exact HB.out|apply ah|apply aa|apply ai|refine ae ?_ GE207.out|refine ae ?_ GE215.out)⟩⟩
            ·rw[if_neg c52] at H
             have c52b0:decide (x9_2<0)=false:=decide_eq_false c52
             clear c52
             replace H:=Option.bind_eq_some_iff.mp H
             obtain⟨t216,A550,H⟩:=H
             replace H:((spec_l5Gap.f x9_2 a3).bind fun t217=>(if t216<t217 then (spec_l5Pick.l3 k2 a1 a3 x17_2 (wrap64 (x17_2+1)) l0_1 (l0_1.length:Int) x22_1 ((ax l0_1 x22_1).f0) ((ax l0_1 x22_1).f1)) else (spec_l5Pick.l3 k2 a1 a3 x9_2 (wrap64 (x17_2+1)) l0_1 (l0_1.length:Int) x22_1 ((ax l0_1 x22_1).f0) ((ax l0_1 x22_1).f1))))=some r:=H
             have A55:=au A550
             clear A550
             replace H:=Option.bind_eq_some_iff.mp H
             obtain⟨t217,A560,H⟩:=H
             replace H:(if t216<t217 then (spec_l5Pick.l3 k2 a1 a3 x17_2 (wrap64 (x17_2+1)) l0_1 (l0_1.length:Int) x22_1 ((ax l0_1 x22_1).f0) ((ax l0_1 x22_1).f1)) else (spec_l5Pick.l3 k2 a1 a3 x9_2 (wrap64 (x17_2+1)) l0_1 (l0_1.length:Int) x22_1 ((ax l0_1 x22_1).f0) ((ax l0_1 x22_1).f1)))=some r:=H
             have A56:=au A560
             clear A560
             by_cases c57:t216<t217
             ·rw[if_pos c57] at H
              have c57b0:decide (t216<t217)=true:=decide_eq_true c57
              clear c57
              have H':=au H
              clear H
              have hnb58:=NB215_207.out
              have hnc58:=NB207_215.out
              have hcz59_0:wr.cell? ⟨gb215,0,none⟩=some (.int .i64 ((ax l0_1 x22_1).f0)):=(ak BK215.out 0).trans rfl
              have hcz59_1:wr.cell? ⟨gb215,1,none⟩=some (.int .i64 ((ax l0_1 x22_1).f1)):=(ak BK215.out 1).trans rfl
              have hfz59_0:=av BK215.out 0
              have hfz59_1:=av BK215.out 1
              go_wp2_with (first|(go_at_call 78;(with_reducible refine(spec_l5Gap.calls x17_2 a3 t216 _ A55.out).mono ?_);rintro e w' ⟨rfl,⟨nd,rfl⟩⟩)|(go_at_call 78;(with_reducible refine(spec_l5Gap.calls x9_2 a3 t217 _ A56.out).mono ?_);rintro e w' ⟨rfl,⟨nd,rfl⟩⟩))
              go_roundg k2
              case measure=>have:=HK1.out;have:=HK2.out;omega
              case rel=>exact⟨(x17_2),(wrap64 (x17_2+1)),(by first|rfl|(simp;done)|(simp[*];done)),(by first|rfl|(simp;done)|(simp[*];done)),H',⟨by have:=HK1.out;have:=HK2.out;omega⟩,⟨by(with_reducible repeat(first|apply ag|apply aj|apply af));exact BK207.out⟩,⟨by(with_reducible repeat(first|apply ag|apply aj|apply af));exact BK215.out⟩,⟨by with_reducible repeat(first|exact HB.out|apply ah|apply aa|apply ai|refine ae ?_ GE207.out|refine ae ?_ GE215.out)⟩⟩
             ·rw[if_neg c57] at H
              have c57b0:decide (t216<t217)=false:=decide_eq_false c57
              clear c57
              have H':=au H
              clear H
              have hnb60:=NB215_207.out
              have hnc60:=NB207_215.out
              have hcz61_0:wr.cell? ⟨gb215,0,none⟩=some (.int .i64 ((ax l0_1 x22_1).f0)):=(ak BK215.out 0).trans rfl
              have hcz61_1:wr.cell? ⟨gb215,1,none⟩=some (.int .i64 ((ax l0_1 x22_1).f1)):=(ak BK215.out 1).trans rfl
              have hfz61_0:=av BK215.out 0
              have hfz61_1:=av BK215.out 1
              go_wp2_with (first|(go_at_call 78;(with_reducible refine(spec_l5Gap.calls x17_2 a3 t216 _ A55.out).mono ?_);rintro e w' ⟨rfl,⟨nd,rfl⟩⟩)|(go_at_call 78;(with_reducible refine(spec_l5Gap.calls x9_2 a3 t217 _ A56.out).mono ?_);rintro e w' ⟨rfl,⟨nd,rfl⟩⟩))
              go_roundg k2
              case measure=>have:=HK1.out;have:=HK2.out;omega
              case rel=>exact⟨(x9_2),(wrap64 (x17_2+1)),(by first|rfl|(simp;done)|(simp[*];done)),(by first|rfl|(simp;done)|(simp[*];done)),H',⟨by have:=HK1.out;have:=HK2.out;omega⟩,⟨by(with_reducible repeat(first|apply ag|apply aj|apply af));exact BK207.out⟩,⟨by(with_reducible repeat(first|apply ag|apply aj|apply af));exact BK215.out⟩,⟨by with_reducible repeat(first|exact HB.out|apply ah|apply aa|apply ai|refine ae ?_ GE207.out|refine ae ?_ GE215.out)⟩⟩
           ·rw[if_neg c51] at H
            have c51b0:decide ((wrap64 (x17_2+a1))≤(wrap64 (((ax l0_1 x22_1).f0) + ((ax l0_1 x22_1).f1))))=false:=decide_eq_false c51
            clear c51
            have H':=au H
            clear H
            have hnb62:=NB215_207.out
            have hnc62:=NB207_215.out
            have hcz63_0:wr.cell? ⟨gb215,0,none⟩=some (.int .i64 ((ax l0_1 x22_1).f0)):=(ak BK215.out 0).trans rfl
            have hcz63_1:wr.cell? ⟨gb215,1,none⟩=some (.int .i64 ((ax l0_1 x22_1).f1)):=(ak BK215.out 1).trans rfl
            have hfz63_0:=av BK215.out 0
            have hfz63_1:=av BK215.out 1
            go_wp2
            go_roundg k2
            case measure=>have:=HK1.out;have:=HK2.out;omega
            case rel=>exact⟨(x9_2),(wrap64 (x22_1+1)),(by first|rfl|(simp;done)|(simp[*];done)),(by first|rfl|(simp;done)|(simp[*];done)),H',⟨by have:=HK1.out;have:=HK2.out;omega⟩,⟨by(with_reducible repeat(first|apply ag|apply aj|apply af));exact BK207.out⟩,⟨by with_reducible repeat(first|exact HB.out|apply ah|apply aa|apply ai|refine ae ?_ GE207.out|refine ae ?_ GE215.out)⟩⟩
        ·rw[if_neg c47] at H
         exact absurd H (by simp)
       ·rw[if_neg c46] at H
        exact absurd H (by simp)
      ·rw[if_neg c45] at H
       have c45b0:decide (x22_1 < (l0_1.length:Int))=false:=decide_eq_false c45
       clear c45
       obtain rfl:=Option.some.inj H
       go_wp2
       go_ret
       exact⟨by first|rfl|(simp <;> rfl)|(simp[*] <;> rfl),by with_reducible repeat(first|exact HB.out|apply ah|apply aa|apply ai|refine ae ?_ GE207.out)⟩
attribute [local go_sem] bG bH bS bT bB bA bJ bI
set_option linter.unusedVariables false
set_option linter.unusedSimpArgs false
def spec_TakeRoom.j0:Nat→Int→Int→Int→Bool→Int→List (S35)→List (S35)→Option (Int×(List (S35))×(List (S35))×Int×Bool)
 | 0,_,_,_,_,_,_,_=>none
 | k+1,x1,x2,x3,x36,x269000,x269001,x269002=>if x36=true then (some (0,([]:List (S35)),([]:List (S35)),0,false)) else ((spec_l5Pick.f k x269000 x269001 x269002 x1 x2 x3).bind fun t274=>(if t274<0 then (some (0,([]:List (S35)),([]:List (S35)),0,false)) else ((spec_l5Within.f k x269001 t274 x1).bind fun t276=>((spec_l5Cut.f x269001 t276 t274 x1).bind fun t277=>((spec_l5Of.f k x269000 t277).bind fun bt280=>((spec_GoodFree.f k bt280.1 bt280.2.1 bt280.2.2).bind fun t288=>(if t288=true then (some (bt280.1,bt280.2.1,bt280.2.2,t274,true)) else (some (0,([]:List (S35)),([]:List (S35)),0,false)))))))))
def spec_TakeRoom.f (k:Nat) (a0_0:Int) (l0_1:List (S35)) (l0_2:List (S35)) (a1:Int) (a2:Int) (a3:Int):Option (Int×(List (S35))×(List (S35))×Int×Bool):=(spec_GoodFree.f k a0_0 l0_1 l0_2).bind fun t270=>(if t270=true then ((spec_l1In.f a1 1 a0_0).bind fun t271=>(if t271=true then ((spec_l1In.f a2 1 4).bind fun t272=>(if t272=true then ((spec_l1In.f a3 0 (wrap64 (a0_0 - 1))).bind fun t273=>(spec_TakeRoom.j0 k a1 a2 a3 (!t273) a0_0 l0_1 l0_2)) else (spec_TakeRoom.j0 k a1 a2 a3 true a0_0 l0_1 l0_2))) else (spec_TakeRoom.j0 k a1 a2 a3 true a0_0 l0_1 l0_2))) else (spec_TakeRoom.j0 k a1 a2 a3 true a0_0 l0_1 l0_2))
def spec_TakeRoom.T7:Bool×List (List Nat×List Nat):=(true,[([],[]),([0],[0]),([],[]),([2],[2]),([],[]),([4],[4]),([],[]),([5,6],[5,6]),([],[]),([3,7,8,7],[3,7,8]),([1,9,9],[1,9]),([],[]),([11,10,10,0,1,2,3,4,5,6,7,8,9,10,11],[10,11])])
def spec_TakeRoom.B7:List Nat:=[0,1,0,4,0,16,0,112,0,508,1023,0,4095]
theorem spec_TakeRoom.tab7:fK .any (opsOf Try.f24 7)=spec_TakeRoom.T7:=by kernel_rfl
theorem spec_TakeRoom.bits7:gH spec_TakeRoom.T7.2 spec_TakeRoom.B7=true:=by kernel_rfl
set_option maxHeartbeats 8000000 in
set_option maxRecDepth 100000 in
theorem spec_TakeRoom.calls (k:Nat) (a0_0:Int) (A0_1:Option Addr) (c0_1:Nat) (l0_1:List (S35)) (A0_2:Option Addr) (c0_2:Nat) (l0_2:List (S35)) (a1:Int) (a2:Int) (a3:Int) (r1:Int) (r2:List (S35)) (r3:List (S35)) (r4:Int) (r5:Bool) (w:World) (hr0_1:Kd.C k35 w A0_1 l0_1.length l0_1) (hc0_1:l0_1.length≤c0_1) (hr0_2:Kd.C k35 w A0_2 l0_2.length l0_2) (hc0_2:l0_2.length≤c0_2) (h:spec_TakeRoom.f k a0_0 l0_1 l0_2 a1 a2 a3=some (r1,r2,r3,r4,r5)) :
  Calls Try.prog 24 #[.agg #[.int .i64 a0_0,.slice A0_1 l0_1.length c0_1,.slice A0_2 l0_2.length c0_2],.int .i64 a1,.int .i64 a2,.int .i64 a3] w fun e w'=>∃ v1_ v2_:Value,e = .returned (.tuple #[.agg #[.int .i64 r1,v1_,v2_],.int .i64 r4,.bool r5])∧Kd.R k35 35 w' w.heap.size (fun k_=>some k_≠(v2_:Value).ownBlock) v1_ r2∧Kd.R k35 35 w' w.heap.size (fun k_=>some k_≠(v1_:Value).ownBlock) v2_ r3∧Below w.heap.size w w':=by
 have hu24:=Try.underlying24
 have hu35:=Try.underlying35
 have HR0_1:=au hr0_1
 have HC0_1:=au hc0_1
 clear hr0_1 hc0_1
 have HR0_2:=au hr0_2
 have HC0_2:=au hc0_2
 clear hr0_2 hc0_2
 have HB:=au (Below.refl w.heap.size w)
 have H:((spec_GoodFree.f k a0_0 l0_1 l0_2).bind fun t270=>(if t270=true then ((spec_l1In.f a1 1 a0_0).bind fun t271=>(if t271=true then ((spec_l1In.f a2 1 4).bind fun t272=>(if t272=true then ((spec_l1In.f a3 0 (wrap64 (a0_0 - 1))).bind fun t273=>(spec_TakeRoom.j0 k a1 a2 a3 (!t273) a0_0 l0_1 l0_2)) else (spec_TakeRoom.j0 k a1 a2 a3 true a0_0 l0_1 l0_2))) else (spec_TakeRoom.j0 k a1 a2 a3 true a0_0 l0_1 l0_2))) else (spec_TakeRoom.j0 k a1 a2 a3 true a0_0 l0_1 l0_2)))=some (r1,r2,r3,r4,r5):=h
 clear h
 have HC5:=au H
 clear H
 go_enter Try.func24,Try.ntmps24
 go_upto_region 1 with(first|((with_reducible refine aM (N:=4) rfl ?_);refine aJ ?hg (N:=4) ?hd (cs:=#[.int .i64 a0_0,.slice A0_1 l0_1.length c0_1,.slice A0_2 l0_2.length c0_2]) (t:=24) ?hr ?_;(case hd=>rfl);(case hg=>rfl);(case hr=>first|(go_simp;done)|(go_simp;rfl));intro gb268 hg w6 hbox hb;have BK268:=au (hbox);have GW268:=au ((by rw[hg];exact(az (by with_reducible repeat(first|exact HB.out|apply ah|apply aa|apply ai))):w.heap.size≤gb268));have GE268:=au ((by rw[hg];exact(az (by with_reducible repeat(first|exact HB.out|apply ah|apply aa|apply ai))):w.heap.size≤gb268));replace HB:=au (aA (by with_reducible repeat(first|exact HB.out|apply ah|apply aa|apply ai)) hb);clear hb hbox hg)|((with_reducible refine aM (N:=8) rfl ?_);refine aJ ?hg (N:=8) ?hd (cs:=#[.int .i64 0,.slice none 0 0,.slice none 0 0]) (t:=24) ?hr ?_;(case hd=>rfl);(case hg=>rfl);(case hr=>first|(go_simp;done)|(go_simp;rfl));intro gb269 hg w7 hbox hb;have BK269:=au (hbox);have GW269:=au ((by rw[hg];exact(az (by with_reducible repeat(first|exact HB.out|apply ah|apply aa|apply ai|refine ae ?_ GE268.out))):w.heap.size≤gb269));have GE269:=au ((by rw[hg];exact(az (by with_reducible repeat(first|exact HB.out|apply ah|apply aa|apply ai|refine ae ?_ GE268.out))):w.heap.size≤gb269));replace HB:=au (aA (by with_reducible repeat(first|exact HB.out|apply ah|apply aa|apply ai|refine ae ?_ GE268.out)) hb);have NB268_269:=au ((by rw[hg];exact Nat.ne_of_lt (aH (g:=gb268) (o:=.cells #[.int .i64 a0_0,.slice A0_1 l0_1.length c0_1,.slice A0_2 l0_2.length c0_2] 24 (0,0)) (by(with_reducible repeat(first|apply ag|apply aj|apply af));exact BK268.out)):gb268≠gb269));have NB269_268:=au ((by rw[hg];exact Nat.ne_of_gt (aH (g:=gb268) (o:=.cells #[.int .i64 a0_0,.slice A0_1 l0_1.length c0_1,.slice A0_2 l0_2.length c0_2] 24 (0,0)) (by(with_reducible repeat(first|apply ag|apply aj|apply af));exact BK268.out)):gb269≠gb268));replace BK268:=au (ay (g:=gb268) (o:=.cells #[.int .i64 a0_0,.slice A0_1 l0_1.length c0_1,.slice A0_2 l0_2.length c0_2] 24 (0,0)) (by(with_reducible repeat(first|apply ag|apply aj|apply af));exact BK268.out) hb);clear hb hbox hg))
 (try simp only[apu_])
 go_cut [36] (fun v36 wc=>∃ (kq:Nat) (x36_4:Bool),v36 = .bool x36_4∧Aside0 (spec_TakeRoom.j0 kq a1 a2 a3 x36_4 a0_0 l0_1 l0_2=some (r1,r2,r3,r4,r5))∧Aside0 (kq≤k)∧Aside0 (wc.heap[gb268]? = some (.cells #[.int .i64 a0_0,(.slice A0_1 l0_1.length c0_1),(.slice A0_2 l0_2.length c0_2)] 24 (0,0)))∧Aside0 (wc.heap[gb269]? = some (.cells #[.int .i64 0,(.slice none 0 0),(.slice none 0 0)] 24 (0,0)))∧Aside0 (Below w.heap.size w wc))
 case first=>
  have H:=HC5.out
  clear HC5
  replace H:=Option.bind_eq_some_iff.mp H
  obtain⟨t270,A80,H⟩:=H
  replace H:(if t270=true then ((spec_l1In.f a1 1 a0_0).bind fun t271=>(if t271=true then ((spec_l1In.f a2 1 4).bind fun t272=>(if t272=true then ((spec_l1In.f a3 0 (wrap64 (a0_0 - 1))).bind fun t273=>(spec_TakeRoom.j0 k a1 a2 a3 (!t273) a0_0 l0_1 l0_2)) else (spec_TakeRoom.j0 k a1 a2 a3 true a0_0 l0_1 l0_2))) else (spec_TakeRoom.j0 k a1 a2 a3 true a0_0 l0_1 l0_2))) else (spec_TakeRoom.j0 k a1 a2 a3 true a0_0 l0_1 l0_2))=some (r1,r2,r3,r4,r5):=H
  have A8:=au A80
  clear A80
  by_cases c9:t270=true
  ·subst c9
   have H1:((spec_l1In.f a1 1 a0_0).bind fun t271=>(if t271=true then ((spec_l1In.f a2 1 4).bind fun t272=>(if t272=true then ((spec_l1In.f a3 0 (wrap64 (a0_0 - 1))).bind fun t273=>(spec_TakeRoom.j0 k a1 a2 a3 (!t273) a0_0 l0_1 l0_2)) else (spec_TakeRoom.j0 k a1 a2 a3 true a0_0 l0_1 l0_2))) else (spec_TakeRoom.j0 k a1 a2 a3 true a0_0 l0_1 l0_2)))=some (r1,r2,r3,r4,r5):=by rw[if_pos rfl] at H;exact H
   clear H
   have H:=H1
   clear H1
   replace H:=Option.bind_eq_some_iff.mp H
   obtain⟨t271,A100,H⟩:=H
   replace H:(if t271=true then ((spec_l1In.f a2 1 4).bind fun t272=>(if t272=true then ((spec_l1In.f a3 0 (wrap64 (a0_0 - 1))).bind fun t273=>(spec_TakeRoom.j0 k a1 a2 a3 (!t273) a0_0 l0_1 l0_2)) else (spec_TakeRoom.j0 k a1 a2 a3 true a0_0 l0_1 l0_2))) else (spec_TakeRoom.j0 k a1 a2 a3 true a0_0 l0_1 l0_2))=some (r1,r2,r3,r4,r5):=H
   have A10:=au A100
   clear A100
   by_cases c11:t271=true
   ·subst c11
    have H1:((spec_l1In.f a2 1 4).bind fun t272=>(if t272=true then ((spec_l1In.f a3 0 (wrap64 (a0_0 - 1))).bind fun t273=>(spec_TakeRoom.j0 k a1 a2 a3 (!t273) a0_0 l0_1 l0_2)) else (spec_TakeRoom.j0 k a1 a2 a3 true a0_0 l0_1 l0_2)))=some (r1,r2,r3,r4,r5):=by rw[if_pos rfl] at H;exact H
    clear H
    have H:=H1
    clear H1
    replace H:=Option.bind_eq_some_iff.mp H
    obtain⟨t272,A120,H⟩:=H
    replace H:(if t272=true then ((spec_l1In.f a3 0 (wrap64 (a0_0 - 1))).bind fun t273=>(spec_TakeRoom.j0 k a1 a2 a3 (!t273) a0_0 l0_1 l0_2)) else (spec_TakeRoom.j0 k a1 a2 a3 true a0_0 l0_1 l0_2))=some (r1,r2,r3,r4,r5):=H
    have A12:=au A120
    clear A120
    by_cases c13:t272=true
    ·subst c13
     have H1:((spec_l1In.f a3 0 (wrap64 (a0_0 - 1))).bind fun t273=>(spec_TakeRoom.j0 k a1 a2 a3 (!t273) a0_0 l0_1 l0_2))=some (r1,r2,r3,r4,r5):=by rw[if_pos rfl] at H;exact H
     clear H
     have H:=H1
     clear H1
     replace H:=Option.bind_eq_some_iff.mp H
     obtain⟨t273,A140,H⟩:=H
     replace H:(spec_TakeRoom.j0 k a1 a2 a3 (!t273) a0_0 l0_1 l0_2)=some (r1,r2,r3,r4,r5):=H
     have A14:=au A140
     clear A140
     have H':=au H
     clear H
     have hnb15:=NB268_269.out
     have hnc15:=NB269_268.out
     have hcz16_0:w7.cell? ⟨gb268,0,none⟩=some (.int .i64 a0_0):=(ak BK268.out 0).trans rfl
     have hcz16_1:w7.cell? ⟨gb268,1,none⟩=some (.slice A0_1 l0_1.length c0_1):=(ak BK268.out 1).trans rfl
     have hcz16_2:w7.cell? ⟨gb268,2,none⟩=some (.slice A0_2 l0_2.length c0_2):=(ak BK268.out 2).trans rfl
     have hfz16_0:=av BK268.out 0
     have hfz16_1:=av BK268.out 1
     have hfz16_2:=av BK268.out 2
     go_wp2_with (first|((with_reducible refine aW (f:=25) rfl ?_);refine bO (some 15) rfl rfl Try.func25 (by kernel_rfl) rfl #[.agg #[.int .i64 a0_0,.slice A0_1 l0_1.length c0_1,.slice A0_2 l0_2.length c0_2]] rfl (by(try simp only[amp_]);first|done|rfl|(simp only[ald_];rfl)) ?_;(with_reducible refine(spec_GoodFree.calls k a0_0 _ _ l0_1 _ _ l0_2 true _ ?side1 ?side2 ?side3 ?side4 A8.out).mono ?_);(case side1=>repeat(first|exact(Kd.aN HR0_1.out HB.out)|(with_reducible first|apply Kd.aY|apply Kd.aZ|apply Kd.bn)));(case side2=>exact HC0_1.out);(case side3=>repeat(first|exact(Kd.aN HR0_2.out HB.out)|(with_reducible first|apply Kd.aY|apply Kd.aZ|apply Kd.bn)));(case side4=>exact HC0_2.out);rintro e w17 ⟨rfl,hb⟩;refine⟨_,rfl,?_⟩;replace BK268:=au (ay (g:=gb268) (o:=.cells #[.int .i64 a0_0,.slice A0_1 l0_1.length c0_1,.slice A0_2 l0_2.length c0_2] 24 (0,0)) (by(with_reducible repeat(first|apply ag|apply aj|apply af));exact BK268.out) hb);replace BK269:=au (ay (g:=gb269) (o:=.cells #[.int .i64 0,.slice none 0 0,.slice none 0 0] 24 (0,0)) (by(with_reducible repeat(first|apply ag|apply aj|apply af));exact BK269.out) hb);replace HB:=au (aA (by with_reducible repeat(first|exact HB.out|apply ah|apply aa|apply ai|refine ae ?_ GE268.out|refine ae ?_ GE269.out)) hb);(try clear hb);(try clear hb2);(try clear hk);(try clear hi);have hcz18_0:w17.cell? ⟨gb268,0,none⟩=some (.int .i64 a0_0):=(ak BK268.out 0).trans rfl;have hcz18_1:w17.cell? ⟨gb268,1,none⟩=some (.slice A0_1 l0_1.length c0_1):=(ak BK268.out 1).trans rfl;have hcz18_2:w17.cell? ⟨gb268,2,none⟩=some (.slice A0_2 l0_2.length c0_2):=(ak BK268.out 2).trans rfl;have hfz18_0:=av BK268.out 0;have hfz18_1:=av BK268.out 1;have hfz18_2:=av BK268.out 2)|(go_at_call 32;(with_reducible refine(spec_l1In.calls a1 1 a0_0 true _ A10.out).mono ?_);rintro e w' ⟨rfl,⟨nd,rfl⟩⟩)|(go_at_call 32;(with_reducible refine(spec_l1In.calls a2 1 4 true _ A12.out).mono ?_);rintro e w' ⟨rfl,⟨nd,rfl⟩⟩)|(go_at_call 32;(with_reducible refine(spec_l1In.calls a3 0 (wrap64 (a0_0 - 1)) t273 _ A14.out).mono ?_);rintro e w' ⟨rfl,⟨nd,rfl⟩⟩))
     go_meet
     case rel=>exact⟨_,(!t273),(by first|rfl|(simp;done)|(simp[*];done)),H',⟨by first|omega|exact Nat.le_refl _⟩,⟨by(with_reducible repeat(first|apply ag|apply aj|apply af));exact BK268.out⟩,⟨by(with_reducible repeat(first|apply ag|apply aj|apply af));exact BK269.out⟩,⟨by with_reducible repeat(first|exact HB.out|apply ah|apply aa|apply ai|refine ae ?_ GE268.out|refine ae ?_ GE269.out)⟩⟩
    ·replace c13:=Bool.eq_false_iff.mpr c13
     subst c13
     have H1:(spec_TakeRoom.j0 k a1 a2 a3 true a0_0 l0_1 l0_2)=some (r1,r2,r3,r4,r5):=by rw[if_neg (show ¬ (false=true) by decide)] at H;exact H
     clear H
     have H:=H1
     clear H1
     have H':=au H
     clear H
     have hnb19:=NB268_269.out
     have hnc19:=NB269_268.out
     have hcz20_0:w7.cell? ⟨gb268,0,none⟩=some (.int .i64 a0_0):=(ak BK268.out 0).trans rfl
     have hcz20_1:w7.cell? ⟨gb268,1,none⟩=some (.slice A0_1 l0_1.length c0_1):=(ak BK268.out 1).trans rfl
     have hcz20_2:w7.cell? ⟨gb268,2,none⟩=some (.slice A0_2 l0_2.length c0_2):=(ak BK268.out 2).trans rfl
     have hfz20_0:=av BK268.out 0
     have hfz20_1:=av BK268.out 1
     have hfz20_2:=av BK268.out 2
     go_wp2_with (first|((with_reducible refine aW (f:=25) rfl ?_);refine bO (some 15) rfl rfl Try.func25 (by kernel_rfl) rfl #[.agg #[.int .i64 a0_0,.slice A0_1 l0_1.length c0_1,.slice A0_2 l0_2.length c0_2]] rfl (by(try simp only[amp_]);first|done|rfl|(simp only[ald_];rfl)) ?_;(with_reducible refine(spec_GoodFree.calls k a0_0 _ _ l0_1 _ _ l0_2 true _ ?side1 ?side2 ?side3 ?side4 A8.out).mono ?_);(case side1=>repeat(first|exact(Kd.aN HR0_1.out HB.out)|(with_reducible first|apply Kd.aY|apply Kd.aZ|apply Kd.bn)));(case side2=>exact HC0_1.out);(case side3=>repeat(first|exact(Kd.aN HR0_2.out HB.out)|(with_reducible first|apply Kd.aY|apply Kd.aZ|apply Kd.bn)));(case side4=>exact HC0_2.out);rintro e w21 ⟨rfl,hb⟩;refine⟨_,rfl,?_⟩;replace BK268:=au (ay (g:=gb268) (o:=.cells #[.int .i64 a0_0,.slice A0_1 l0_1.length c0_1,.slice A0_2 l0_2.length c0_2] 24 (0,0)) (by(with_reducible repeat(first|apply ag|apply aj|apply af));exact BK268.out) hb);replace BK269:=au (ay (g:=gb269) (o:=.cells #[.int .i64 0,.slice none 0 0,.slice none 0 0] 24 (0,0)) (by(with_reducible repeat(first|apply ag|apply aj|apply af));exact BK269.out) hb);replace HB:=au (aA (by with_reducible repeat(first|exact HB.out|apply ah|apply aa|apply ai|refine ae ?_ GE268.out|refine ae ?_ GE269.out)) hb);(try clear hb);(try clear hb2);(try clear hk);(try clear hi);have hcz22_0:w21.cell? ⟨gb268,0,none⟩=some (.int .i64 a0_0):=(ak BK268.out 0).trans rfl;have hcz22_1:w21.cell? ⟨gb268,1,none⟩=some (.slice A0_1 l0_1.length c0_1):=(ak BK268.out 1).trans rfl;have hcz22_2:w21.cell? ⟨gb268,2,none⟩=some (.slice A0_2 l0_2.length c0_2):=(ak BK268.out 2).trans rfl;have hfz22_0:=av BK268.out 0;have hfz22_1:=av BK268.out 1;have hfz22_2:=av BK268.out 2)|(go_at_call 32;(with_reducible refine(spec_l1In.calls a1 1 a0_0 true _ A10.out).mono ?_);rintro e w' ⟨rfl,⟨nd,rfl⟩⟩)|(go_at_call 32;(with_reducible refine(spec_l1In.calls a2 1 4 false _ A12.out).mono ?_);rintro e w' ⟨rfl,⟨nd,rfl⟩⟩))
     go_meet
     case rel=>exact⟨_,(true),(by first|rfl|(simp;done)|(simp[*];done)),H',⟨by first|omega|exact Nat.le_refl _⟩,⟨by(with_reducible repeat(first|apply ag|apply aj|apply af));exact BK268.out⟩,⟨by(with_reducible repeat(first|apply ag|apply aj|apply af));exact BK269.out⟩,⟨by with_reducible repeat(first|exact HB.out|apply ah|apply aa|apply ai|refine ae ?_ GE268.out|refine ae ?_ GE269.out)⟩⟩
   ·replace c11:=Bool.eq_false_iff.mpr c11
    subst c11
    have H1:(spec_TakeRoom.j0 k a1 a2 a3 true a0_0 l0_1 l0_2)=some (r1,r2,r3,r4,r5):=by rw[if_neg (show ¬ (false=true) by decide)] at H;exact H
    clear H
    have H:=H1
    clear H1
    have H':=au H
    clear H
    have hnb23:=NB268_269.out
    have hnc23:=NB269_268.out
    have hcz24_0:w7.cell? ⟨gb268,0,none⟩=some (.int .i64 a0_0):=(ak BK268.out 0).trans rfl
    have hcz24_1:w7.cell? ⟨gb268,1,none⟩=some (.slice A0_1 l0_1.length c0_1):=(ak BK268.out 1).trans rfl
    have hcz24_2:w7.cell? ⟨gb268,2,none⟩=some (.slice A0_2 l0_2.length c0_2):=(ak BK268.out 2).trans rfl
    have hfz24_0:=av BK268.out 0
    have hfz24_1:=av BK268.out 1
    have hfz24_2:=av BK268.out 2
    go_wp2_with (first|((with_reducible refine aW (f:=25) rfl ?_);refine bO (some 15) rfl rfl Try.func25 (by kernel_rfl) rfl #[.agg #[.int .i64 a0_0,.slice A0_1 l0_1.length c0_1,.slice A0_2 l0_2.length c0_2]] rfl (by(try simp only[amp_]);first|done|rfl|(simp only[ald_];rfl)) ?_;(with_reducible refine(spec_GoodFree.calls k a0_0 _ _ l0_1 _ _ l0_2 true _ ?side1 ?side2 ?side3 ?side4 A8.out).mono ?_);(case side1=>repeat(first|exact(Kd.aN HR0_1.out HB.out)|(with_reducible first|apply Kd.aY|apply Kd.aZ|apply Kd.bn)));(case side2=>exact HC0_1.out);(case side3=>repeat(first|exact(Kd.aN HR0_2.out HB.out)|(with_reducible first|apply Kd.aY|apply Kd.aZ|apply Kd.bn)));(case side4=>exact HC0_2.out);rintro e w25 ⟨rfl,hb⟩;refine⟨_,rfl,?_⟩;replace BK268:=au (ay (g:=gb268) (o:=.cells #[.int .i64 a0_0,.slice A0_1 l0_1.length c0_1,.slice A0_2 l0_2.length c0_2] 24 (0,0)) (by(with_reducible repeat(first|apply ag|apply aj|apply af));exact BK268.out) hb);replace BK269:=au (ay (g:=gb269) (o:=.cells #[.int .i64 0,.slice none 0 0,.slice none 0 0] 24 (0,0)) (by(with_reducible repeat(first|apply ag|apply aj|apply af));exact BK269.out) hb);replace HB:=au (aA (by with_reducible repeat(first|exact HB.out|apply ah|apply aa|apply ai|refine ae ?_ GE268.out|refine ae ?_ GE269.out)) hb);(try clear hb);(try clear hb2);(try clear hk);(try clear hi);have hcz26_0:w25.cell? ⟨gb268,0,none⟩=some (.int .i64 a0_0):=(ak BK268.out 0).trans rfl;have hcz26_1:w25.cell? ⟨gb268,1,none⟩=some (.slice A0_1 l0_1.length c0_1):=(ak BK268.out 1).trans rfl;have hcz26_2:w25.cell? ⟨gb268,2,none⟩=some (.slice A0_2 l0_2.length c0_2):=(ak BK268.out 2).trans rfl;have hfz26_0:=av BK268.out 0;have hfz26_1:=av BK268.out 1;have hfz26_2:=av BK268.out 2)|(go_at_call 32;(with_reducible refine(spec_l1In.calls a1 1 a0_0 false _ A10.out).mono ?_);rintro e w' ⟨rfl,⟨nd,rfl⟩⟩))
    go_meet
    case rel=>exact⟨_,(true),(by first|rfl|(simp;done)|(simp[*];done)),H',⟨by first|omega|exact Nat.le_refl _⟩,⟨by(with_reducible repeat(first|apply ag|apply aj|apply af));exact BK268.out⟩,⟨by(with_reducible repeat(first|apply ag|apply aj|apply af));exact BK269.out⟩,⟨by with_reducible repeat(first|exact HB.out|apply ah|apply aa|apply ai|refine ae ?_ GE268.out|refine ae ?_ GE269.out)⟩⟩
  ·replace c9:=Bool.eq_false_iff.mpr c9
   subst c9
   have H1:(spec_TakeRoom.j0 k a1 a2 a3 true a0_0 l0_1 l0_2)=some (r1,r2,r3,r4,r5):=by rw[if_neg (show ¬ (false=true) by decide)] at H;exact H
   clear H
   have H:=H1
   clear H1
   have H':=au H
   clear H
   have hnb27:=NB268_269.out
   have hnc27:=NB269_268.out
   have hcz28_0:w7.cell? ⟨gb268,0,none⟩=some (.int .i64 a0_0):=(ak BK268.out 0).trans rfl
   have hcz28_1:w7.cell? ⟨gb268,1,none⟩=some (.slice A0_1 l0_1.length c0_1):=(ak BK268.out 1).trans rfl
   have hcz28_2:w7.cell? ⟨gb268,2,none⟩=some (.slice A0_2 l0_2.length c0_2):=(ak BK268.out 2).trans rfl
   have hfz28_0:=av BK268.out 0
   have hfz28_1:=av BK268.out 1
   have hfz28_2:=av BK268.out 2
   go_wp2_with (first|((with_reducible refine aW (f:=25) rfl ?_);refine bO (some 15) rfl rfl Try.func25 (by kernel_rfl) rfl #[.agg #[.int .i64 a0_0,.slice A0_1 l0_1.length c0_1,.slice A0_2 l0_2.length c0_2]] rfl (by(try simp only[amp_]);first|done|rfl|(simp only[ald_];rfl)) ?_;(with_reducible refine(spec_GoodFree.calls k a0_0 _ _ l0_1 _ _ l0_2 false _ ?side1 ?side2 ?side3 ?side4 A8.out).mono ?_);(case side1=>repeat(first|exact(Kd.aN HR0_1.out HB.out)|(with_reducible first|apply Kd.aY|apply Kd.aZ|apply Kd.bn)));(case side2=>exact HC0_1.out);(case side3=>repeat(first|exact(Kd.aN HR0_2.out HB.out)|(with_reducible first|apply Kd.aY|apply Kd.aZ|apply Kd.bn)));(case side4=>exact HC0_2.out);rintro e w29 ⟨rfl,hb⟩;refine⟨_,rfl,?_⟩;replace BK268:=au (ay (g:=gb268) (o:=.cells #[.int .i64 a0_0,.slice A0_1 l0_1.length c0_1,.slice A0_2 l0_2.length c0_2] 24 (0,0)) (by(with_reducible repeat(first|apply ag|apply aj|apply af));exact BK268.out) hb);replace BK269:=au (ay (g:=gb269) (o:=.cells #[.int .i64 0,.slice none 0 0,.slice none 0 0] 24 (0,0)) (by(with_reducible repeat(first|apply ag|apply aj|apply af));exact BK269.out) hb);replace HB:=au (aA (by with_reducible repeat(first|exact HB.out|apply ah|apply aa|apply ai|refine ae ?_ GE268.out|refine ae ?_ GE269.out)) hb);(try clear hb);(try clear hb2);(try clear hk);(try clear hi)))
   go_meet
   case rel=>exact⟨_,(true),(by first|rfl|(simp;done)|(simp[*];done)),H',⟨by first|omega|exact Nat.le_refl _⟩,⟨by(with_reducible repeat(first|apply ag|apply aj|apply af));exact BK268.out⟩,⟨by(with_reducible repeat(first|apply ag|apply aj|apply af));exact BK269.out⟩,⟨by with_reducible repeat(first|exact HB.out|apply ah|apply aa|apply ai|refine ae ?_ GE268.out|refine ae ?_ GE269.out)⟩⟩
 case rest =>
  clear HC5
  try clear c1
  try clear c2
  try clear p2
  try clear p6
  try clear c9
  try clear c11
  try clear c13
  try clear c15
  try clear c19
  try clear c23
  try clear c24
  try clear c25
  try clear c27
  try clear hcz16_0
  try clear hcz16_1
  try clear hcz16_2
  try clear hcz18_0
  try clear hcz18_1
  try clear hcz18_2
  try clear hcz20_0
  try clear hcz20_1
  try clear hcz20_2
  try clear hcz22_0
  try clear hcz22_1
  try clear hcz22_2
  try clear hcz24_0
  try clear hcz24_1
  try clear hcz24_2
  try clear hcz26_0
  try clear hcz26_1
  try clear hcz26_2
  try clear hcz28_0
  try clear hcz28_1
  try clear hcz28_2
  try clear hfz16_0
  try clear hfz16_1
  try clear hfz16_2
  try clear hfz18_0
  try clear hfz18_1
  try clear hfz18_2
  try clear hfz20_0
  try clear hfz20_1
  try clear hfz20_2
  try clear hfz22_0
  try clear hfz22_1
  try clear hfz22_2
  try clear hfz24_0
  try clear hfz24_1
  try clear hfz24_2
  try clear hfz26_0
  try clear hfz26_1
  try clear hfz26_2
  try clear hfz28_0
  try clear hfz28_1
  try clear hfz28_2
  obtain⟨kq,x36_4,rfl,HA,HJ4,BK268,BK269,HB⟩:=hcut
  cases kq with
  | zero=>exact absurd HA.out (by simp[spec_TakeRoom.j0])
  | succ kj4 =>
   have H:=HA.out
   clear HA
   simp only[spec_TakeRoom.j0] at H
   by_cases c30:x36_4=true
   ·subst c30
    have H1:(some (0,([]:List (S35)),([]:List (S35)),0,false))=some (r1,r2,r3,r4,r5):=by rw[if_pos rfl] at H;exact H
    clear H
    have H:=H1
    clear H1
    simp only[Option.some.injEq,Prod.mk.injEq] at H
    obtain⟨rfl,rfl,rfl,rfl,rfl⟩:=H
    have hnb31:=NB269_268.out
    have hnc31:=NB268_269.out
    have hcz32_0:wc.cell? ⟨gb269,0,none⟩=some (.int .i64 0):=(ak BK269.out 0).trans rfl
    have hcz32_1:wc.cell? ⟨gb269,1,none⟩=some (.slice none 0 0):=(ak BK269.out 1).trans rfl
    have hcz32_2:wc.cell? ⟨gb269,2,none⟩=some (.slice none 0 0):=(ak BK269.out 2).trans rfl
    have hfz32_0:=av BK269.out 0
    have hfz32_1:=av BK269.out 1
    have hfz32_2:=av BK269.out 2
    go_wp2
    refine bodyPost_ret (gL rfl _ _ gb269 24 #[.int .i64 0,.slice none 0 0,.slice none 0 0] (0,0) _ rfl (by(with_reducible repeat(first|apply ag|apply aj|apply af));refine aK (cs:=#[.int .i64 0,.slice none 0 0,.slice none 0 0]) ?_ 2 _ rfl;(with_reducible repeat(first|apply ag|apply aj|apply af));refine aK (cs:=#[.int .i64 0,.slice none 0 0,.slice none 0 0]) ?_ 1 _ rfl;(with_reducible repeat(first|apply ag|apply aj|apply af));refine aK (cs:=#[.int .i64 0,.slice none 0 0,.slice none 0 0]) ?_ 0 _ rfl;(with_reducible repeat(first|apply ag|apply aj|apply af));exact BK269.out) Try.underlying24 rfl (by kernel_rfl)) rfl ?_
    exact⟨_,_,by first|rfl|(simp <;> rfl)|(simp[*] <;> rfl),by first|exact Kd.dn _ _ _ _ _|exact Kd.dU _ _ _ _ _|exact Kd.dQ _ _ _ _ _|exact Kd.dR _ _ _ _ _|exact Kd.dS _ _ _ _ _,by first|exact Kd.dn _ _ _ _ _|exact Kd.dU _ _ _ _ _|exact Kd.dQ _ _ _ _ _|exact Kd.dR _ _ _ _ _|exact Kd.dS _ _ _ _ _,by with_reducible repeat(first|exact HB.out|apply ah|apply aa|apply ai|refine ae ?_ GE268.out|refine ae ?_ GE269.out)⟩
   ·replace c30:=Bool.eq_false_iff.mpr c30
    subst c30
    have H1:((spec_l5Pick.f kj4 a0_0 l0_1 l0_2 a1 a2 a3).bind fun t274=>(if t274<0 then (some (0,([]:List (S35)),([]:List (S35)),0,false)) else ((spec_l5Within.f kj4 l0_1 t274 a1).bind fun t276=>((spec_l5Cut.f l0_1 t276 t274 a1).bind fun t277=>((spec_l5Of.f kj4 a0_0 t277).bind fun bt280=>((spec_GoodFree.f kj4 bt280.1 bt280.2.1 bt280.2.2).bind fun t288=>(if t288=true then (some (bt280.1,bt280.2.1,bt280.2.2,t274,true)) else (some (0,([]:List (S35)),([]:List (S35)),0,false)))))))))=some (r1,r2,r3,r4,r5):=by rw[if_neg (show ¬ (false=true) by decide)] at H;exact H
    clear H
    have H:=H1
    clear H1
    replace H:=Option.bind_eq_some_iff.mp H
    obtain⟨t274,A330,H⟩:=H
    replace H:(if t274<0 then (some (0,([]:List (S35)),([]:List (S35)),0,false)) else ((spec_l5Within.f kj4 l0_1 t274 a1).bind fun t276=>((spec_l5Cut.f l0_1 t276 t274 a1).bind fun t277=>((spec_l5Of.f kj4 a0_0 t277).bind fun bt280=>((spec_GoodFree.f kj4 bt280.1 bt280.2.1 bt280.2.2).bind fun t288=>(if t288=true then (some (bt280.1,bt280.2.1,bt280.2.2,t274,true)) else (some (0,([]:List (S35)),([]:List (S35)),0,false))))))))=some (r1,r2,r3,r4,r5):=H
    have A33:=au A330
    clear A330
    by_cases c34:t274<0
    ·rw[if_pos c34] at H
     have c34b0:decide (t274<0)=true:=decide_eq_true c34
     clear c34
     simp only[Option.some.injEq,Prod.mk.injEq] at H
     obtain⟨rfl,rfl,rfl,rfl,rfl⟩:=H
     have hnb35:=NB268_269.out
     have hnc35:=NB269_268.out
     have hcz36_0:wc.cell? ⟨gb268,0,none⟩=some (.int .i64 a0_0):=(ak BK268.out 0).trans rfl
     have hcz36_1:wc.cell? ⟨gb268,1,none⟩=some (.slice A0_1 l0_1.length c0_1):=(ak BK268.out 1).trans rfl
     have hcz36_2:wc.cell? ⟨gb268,2,none⟩=some (.slice A0_2 l0_2.length c0_2):=(ak BK268.out 2).trans rfl
     have hfz36_0:=av BK268.out 0
     have hfz36_1:=av BK268.out 1
     have hfz36_2:=av BK268.out 2
     go_wp2_with (first|((with_reducible refine aW (f:=56) rfl ?_);refine bO (some 42) rfl rfl Try.func56 (by kernel_rfl) rfl #[.agg #[.int .i64 a0_0,.slice A0_1 l0_1.length c0_1,.slice A0_2 l0_2.length c0_2],.int .i64 a1,.int .i64 a2,.int .i64 a3] rfl (by(try simp only[amp_]);first|done|rfl|(simp only[ald_];rfl)) ?_;(with_reducible refine(spec_l5Pick.calls kj4 a0_0 _ _ l0_1 _ _ l0_2 a1 a2 a3 t274 _ ?side1 ?side2 ?side3 ?side4 A33.out).mono ?_);(case side1=>repeat(first|exact(Kd.aN HR0_1.out HB.out)|(with_reducible first|apply Kd.aY|apply Kd.aZ|apply Kd.bn)));(case side2=>exact HC0_1.out);(case side3=>repeat(first|exact(Kd.aN HR0_2.out HB.out)|(with_reducible first|apply Kd.aY|apply Kd.aZ|apply Kd.bn)));(case side4=>exact HC0_2.out);rintro e w37 ⟨rfl,hb⟩;refine⟨_,rfl,?_⟩;replace BK268:=au (ay (g:=gb268) (o:=.cells #[.int .i64 a0_0,.slice A0_1 l0_1.length c0_1,.slice A0_2 l0_2.length c0_2] 24 (0,0)) (by(with_reducible repeat(first|apply ag|apply aj|apply af));exact BK268.out) hb);replace BK269:=au (ay (g:=gb269) (o:=.cells #[.int .i64 0,.slice none 0 0,.slice none 0 0] 24 (0,0)) (by(with_reducible repeat(first|apply ag|apply aj|apply af));exact BK269.out) hb);replace HB:=au (aA (by with_reducible repeat(first|exact HB.out|apply ah|apply aa|apply ai|refine ae ?_ GE268.out|refine ae ?_ GE269.out)) hb);(try clear hb);(try clear hb2);(try clear hk);(try clear hi);have hcz38_0:w37.cell? ⟨gb269,0,none⟩=some (.int .i64 0):=(ak BK269.out 0).trans rfl;have hcz38_1:w37.cell? ⟨gb269,1,none⟩=some (.slice none 0 0):=(ak BK269.out 1).trans rfl;have hcz38_2:w37.cell? ⟨gb269,2,none⟩=some (.slice none 0 0):=(ak BK269.out 2).trans rfl;have hfz38_0:=av BK269.out 0;have hfz38_1:=av BK269.out 1;have hfz38_2:=av BK269.out 2))
     refine bodyPost_ret (gL rfl _ _ gb269 24 #[.int .i64 0,.slice none 0 0,.slice none 0 0] (0,0) _ rfl (by(with_reducible repeat(first|apply ag|apply aj|apply af));refine aK (cs:=#[.int .i64 0,.slice none 0 0,.slice none 0 0]) ?_ 2 _ rfl;(with_reducible repeat(first|apply ag|apply aj|apply af));refine aK (cs:=#[.int .i64 0,.slice none 0 0,.slice none 0 0]) ?_ 1 _ rfl;(with_reducible repeat(first|apply ag|apply aj|apply af));refine aK (cs:=#[.int .i64 0,.slice none 0 0,.slice none 0 0]) ?_ 0 _ rfl;(with_reducible repeat(first|apply ag|apply aj|apply af));exact BK269.out) Try.underlying24 rfl (by kernel_rfl)) rfl ?_
     exact⟨_,_,by first|rfl|(simp <;> rfl)|(simp[*] <;> rfl),by first|exact Kd.dn _ _ _ _ _|exact Kd.dU _ _ _ _ _|exact Kd.dQ _ _ _ _ _|exact Kd.dR _ _ _ _ _|exact Kd.dS _ _ _ _ _,by first|exact Kd.dn _ _ _ _ _|exact Kd.dU _ _ _ _ _|exact Kd.dQ _ _ _ _ _|exact Kd.dR _ _ _ _ _|exact Kd.dS _ _ _ _ _,by with_reducible repeat(first|exact HB.out|apply ah|apply aa|apply ai|refine ae ?_ GE268.out|refine ae ?_ GE269.out)⟩
    ·rw [if_neg c34] at H
     have c34b0:decide (t274<0)=false:=decide_eq_false c34
     clear c34
     replace H:=Option.bind_eq_some_iff.mp H
     obtain⟨t276,A390,H⟩:=H
     replace H:((spec_l5Cut.f l0_1 t276 t274 a1).bind fun t277=>((spec_l5Of.f kj4 a0_0 t277).bind fun bt280=>((spec_GoodFree.f kj4 bt280.1 bt280.2.1 bt280.2.2).bind fun t288=>(if t288=true then (some (bt280.1,bt280.2.1,bt280.2.2,t274,true)) else (some (0,([]:List (S35)),([]:List (S35)),0,false))))))=some (r1,r2,r3,r4,r5):=H
     have A39:=au A390
     clear A390
     replace H:=Option.bind_eq_some_iff.mp H
     obtain⟨t277,A400,H⟩:=H
     replace H:((spec_l5Of.f kj4 a0_0 t277).bind fun bt280=>((spec_GoodFree.f kj4 bt280.1 bt280.2.1 bt280.2.2).bind fun t288=>(if t288=true then (some (bt280.1,bt280.2.1,bt280.2.2,t274,true)) else (some (0,([]:List (S35)),([]:List (S35)),0,false)))))=some (r1,r2,r3,r4,r5):=H
     have A40:=au A400
     clear A400
     replace H:=Option.bind_eq_some_iff.mp H
     obtain⟨⟨t280,t281,t284⟩,A410,H⟩:=H
     replace H:((spec_GoodFree.f kj4 t280 t281 t284).bind fun t288=>(if t288=true then (some (t280,t281,t284,t274,true)) else (some (0,([]:List (S35)),([]:List (S35)),0,false))))=some (r1,r2,r3,r4,r5):=H
     have A41:=au A410
     clear A410
     replace H:=Option.bind_eq_some_iff.mp H
     obtain⟨t288,A420,H⟩:=H
     replace H:(if t288=true then (some (t280,t281,t284,t274,true)) else (some (0,([]:List (S35)),([]:List (S35)),0,false)))=some (r1,r2,r3,r4,r5):=H
     have A42:=au A420
     clear A420
     have HQ335:=au H
     clear H
     have hnb44:=NB268_269.out
     have hnc44:=NB269_268.out
     have hcz45_0:wc.cell? ⟨gb268,0,none⟩=some (.int .i64 a0_0):=(ak BK268.out 0).trans rfl
     have hcz45_1:wc.cell? ⟨gb268,1,none⟩=some (.slice A0_1 l0_1.length c0_1):=(ak BK268.out 1).trans rfl
     have hcz45_2:wc.cell? ⟨gb268,2,none⟩=some (.slice A0_2 l0_2.length c0_2):=(ak BK268.out 2).trans rfl
     have hfz45_0:=av BK268.out 0
     have hfz45_1:=av BK268.out 1
     have hfz45_2:=av BK268.out 2
     try go_wp2_with (first|((with_reducible refine aW (f:=56) rfl ?_);refine bO (some 42) rfl rfl Try.func56 (by kernel_rfl) rfl #[.agg #[.int .i64 a0_0,.slice A0_1 l0_1.length c0_1,.slice A0_2 l0_2.length c0_2],.int .i64 a1,.int .i64 a2,.int .i64 a3] rfl (by(try simp only[amp_]);first|done|rfl|(simp only[ald_];rfl)) ?_;(with_reducible refine(spec_l5Pick.calls kj4 a0_0 _ _ l0_1 _ _ l0_2 a1 a2 a3 t274 _ ?side1 ?side2 ?side3 ?side4 A33.out).mono ?_);(case side1=>repeat(first|exact(Kd.aN HR0_1.out HB.out)|(with_reducible first|apply Kd.aY|apply Kd.aZ|apply Kd.bn)));(case side2=>exact HC0_1.out);(case side3=>repeat(first|exact(Kd.aN HR0_2.out HB.out)|(with_reducible first|apply Kd.aY|apply Kd.aZ|apply Kd.bn)));(case side4=>exact HC0_2.out);rintro e w46 ⟨rfl,hb⟩;refine⟨_,rfl,?_⟩;replace BK268:=au (ay (g:=gb268) (o:=.cells #[.int .i64 a0_0,.slice A0_1 l0_1.length c0_1,.slice A0_2 l0_2.length c0_2] 24 (0,0)) (by(with_reducible repeat(first|apply ag|apply aj|apply af));exact BK268.out) hb);replace BK269:=au (ay (g:=gb269) (o:=.cells #[.int .i64 0,.slice none 0 0,.slice none 0 0] 24 (0,0)) (by(with_reducible repeat(first|apply ag|apply aj|apply af));exact BK269.out) hb);replace HB:=au (aA (by with_reducible repeat(first|exact HB.out|apply ah|apply aa|apply ai|refine ae ?_ GE268.out|refine ae ?_ GE269.out)) hb);(try clear hb);(try clear hb2);(try clear hk);(try clear hi))|((with_reducible refine aM (N:=12) rfl ?_);refine aJ ?hg (N:=12) ?hd (cs:=#[.int .i64 0,.int .i64 0]) (t:=35) ?hr ?_;(case hd=>rfl);(case hg=>rfl);(case hr=>first|(go_simp;done)|(go_simp;rfl));intro gb275 hg w47 hbox hb;have BK275:=au (hbox);have GW275:=au ((by rw[hg];exact(az (by with_reducible repeat(first|exact HB.out|apply ah|apply aa|apply ai|refine ae ?_ GE268.out|refine ae ?_ GE269.out))):w.heap.size≤gb275));have GE275:=au ((by rw[hg];exact(az (by with_reducible repeat(first|exact HB.out|apply ah|apply aa|apply ai|refine ae ?_ GE268.out|refine ae ?_ GE269.out))):w.heap.size≤gb275));replace HB:=au (aA (by with_reducible repeat(first|exact HB.out|apply ah|apply aa|apply ai|refine ae ?_ GE268.out|refine ae ?_ GE269.out)) hb);have NB268_275:=au ((by rw[hg];exact Nat.ne_of_lt (aH (g:=gb268) (o:=.cells #[.int .i64 a0_0,.slice A0_1 l0_1.length c0_1,.slice A0_2 l0_2.length c0_2] 24 (0,0)) (by(with_reducible repeat(first|apply ag|apply aj|apply af));exact BK268.out)):gb268≠gb275));have NB275_268:=au ((by rw[hg];exact Nat.ne_of_gt (aH (g:=gb268) (o:=.cells #[.int .i64 a0_0,.slice A0_1 l0_1.length c0_1,.slice A0_2 l0_2.length c0_2] 24 (0,0)) (by(with_reducible repeat(first|apply ag|apply aj|apply af));exact BK268.out)):gb275≠gb268));replace BK268:=au (ay (g:=gb268) (o:=.cells #[.int .i64 a0_0,.slice A0_1 l0_1.length c0_1,.slice A0_2 l0_2.length c0_2] 24 (0,0)) (by(with_reducible repeat(first|apply ag|apply aj|apply af));exact BK268.out) hb);have NB269_275:=au ((by rw[hg];exact Nat.ne_of_lt (aH (g:=gb269) (o:=.cells #[.int .i64 0,.slice none 0 0,.slice none 0 0] 24 (0,0)) (by(with_reducible repeat(first|apply ag|apply aj|apply af));exact BK269.out)):gb269≠gb275));have NB275_269:=au ((by rw[hg];exact Nat.ne_of_gt (aH (g:=gb269) (o:=.cells #[.int .i64 0,.slice none 0 0,.slice none 0 0] 24 (0,0)) (by(with_reducible repeat(first|apply ag|apply aj|apply af));exact BK269.out)):gb275≠gb269));replace BK269:=au (ay (g:=gb269) (o:=.cells #[.int .i64 0,.slice none 0 0,.slice none 0 0] 24 (0,0)) (by(with_reducible repeat(first|apply ag|apply aj|apply af));exact BK269.out) hb);clear hb hbox hg;have hnb48:=NB275_268.out;have hnc48:=NB268_275.out;have hnb49:=NB275_269.out;have hnc49:=NB269_275.out;have hcz50_0:w47.cell? ⟨gb275,0,none⟩=some (.int .i64 0):=(ak BK275.out 0).trans rfl;have hcz50_1:w47.cell? ⟨gb275,1,none⟩=some (.int .i64 0):=(ak BK275.out 1).trans rfl;have hfz50_0:=av BK275.out 0;have hfz50_1:=av BK275.out 1))
     have n0_:Aside0 (((w47.setCell ⟨gb275,0,none⟩ (.int .i64 t274)).setCell ⟨gb275,1,none⟩ (.int .i64 a1)).heap[gb268]? = some (.cells #[.int .i64 a0_0,.slice A0_1 l0_1.length c0_1,.slice A0_2 l0_2.length c0_2] 24 (0,0))):=⟨by(with_reducible repeat(first|apply ag|apply aj|apply af));refine aG ?_ NB268_275.out _;(with_reducible repeat(first|apply ag|apply aj|apply af));refine aG ?_ NB268_275.out _;(with_reducible repeat(first|apply ag|apply aj|apply af));exact BK268.out⟩
     have n1_:Aside0 (((w47.setCell ⟨gb275,0,none⟩ (.int .i64 t274)).setCell ⟨gb275,1,none⟩ (.int .i64 a1)).heap[gb269]? = some (.cells #[.int .i64 0,.slice none 0 0,.slice none 0 0] 24 (0,0))):=⟨by(with_reducible repeat(first|apply ag|apply aj|apply af));refine aG ?_ NB269_275.out _;(with_reducible repeat(first|apply ag|apply aj|apply af));refine aG ?_ NB269_275.out _;(with_reducible repeat(first|apply ag|apply aj|apply af));exact BK269.out⟩
     have n2_:Aside0 (((w47.setCell ⟨gb275,0,none⟩ (.int .i64 t274)).setCell ⟨gb275,1,none⟩ (.int .i64 a1)).heap[gb275]? = some (.cells #[.int .i64 t274,.int .i64 a1] 35 (0,0))):=⟨by(with_reducible repeat(first|apply ag|apply aj|apply af));refine aK (cs:=#[.int .i64 t274,.int .i64 0]) ?_ 1 _ rfl;(with_reducible repeat(first|apply ag|apply aj|apply af));refine aK (cs:=#[.int .i64 0,.int .i64 0]) ?_ 0 _ rfl;(with_reducible repeat(first|apply ag|apply aj|apply af));exact BK275.out⟩
     have n3_:Aside0 (Below w.heap.size w ((w47.setCell ⟨gb275,0,none⟩ (.int .i64 t274)).setCell ⟨gb275,1,none⟩ (.int .i64 a1))):=⟨by with_reducible repeat(first|exact HB.out|apply ah|apply aa|apply ai|refine ae ?_ GE268.out|refine ae ?_ GE269.out|refine ae ?_ GE275.out)⟩
     (try clear BK268)
     (try clear BK269)
     (try clear BK275)
     (try clear HB)
     generalize ((w47.setCell ⟨gb275,0,none⟩ (.int .i64 t274)).setCell ⟨gb275,1,none⟩ (.int .i64 a1))=w51 at n0_ n1_ n2_ n3_ ⊢
     have BK268:=n0_
     have BK269:=n1_
     have BK275:=n2_
     have HB:=n3_
     clear n0_ n1_ n2_ n3_
     have n0_:=au (aj BK268.out)
     have n1_:=au (aj BK269.out)
     have n2_:=au (aj BK275.out)
     have n3_:=au (ai HB.out)
     clear BK268
     clear BK269
     clear BK275
     clear HB
     have BK268:=n0_
     have BK269:=n1_
     have BK275:=n2_
     have HB:=n3_
     clear n0_ n1_ n2_ n3_
     refine dZ (n:=13) (S:=fun w'=>w'.cell? ⟨gb268,0,none⟩=some (.int .i64 a0_0)∧w'.cell? ⟨gb268,1,none⟩=some (.slice A0_1 l0_1.length c0_1)∧w'.cell? ⟨gb268,2,none⟩=some (.slice A0_2 l0_2.length c0_2)∧w'.cell? ⟨gb275,0,none⟩=some (.int .i64 t274)∧w'.cell? ⟨gb275,1,none⟩=some (.int .i64 a1)) (ds:=[]) #[false,false,false,false,false,false,false,false,false,false,false,false,false] (by kernel_rfl) rfl rfl ⟨(ak BK268.out 0).trans rfl,(ak BK268.out 1).trans rfl,(ak BK268.out 2).trans rfl,(ak BK275.out 0).trans rfl,(ak BK275.out 1).trans rfl⟩ (fun hHeld=>?_);refine fB spec_TakeRoom.tab7 spec_TakeRoom.bits7 (fun HT_ HW_=>?_)
     generalize w51.drew=w52 at BK268 BK269 BK275 HB hHeld ⊢
     refine aQ (i:=0) (N:=some 49) (v:=?_) (a':=?_) #[true,false,false,false,false,false,false,false,false,false,false,false,false] rfl rfl (bM HT_.out (by kernel_rfl)) (fun _ _ _ h=>h) (Or.inl ⟨by rfl,?_⟩) ?_ ?_
     rotate_left
     ·intro w'
      go_simp
      with_reducible rfl
     rotate_left
     ·simp only[apu_]
      rfl
     refine aQ (i:=2) (N:=some 51) (v:=?_) (a':=?_) #[true,false,true,false,false,false,false,false,false,false,false,false,false] rfl rfl (bM HT_.out (by kernel_rfl)) (fun _ _ _ h=>h) (Or.inl ⟨by rfl,?_⟩) ?_ ?_
     rotate_left
     ·intro w'
      go_simp
      with_reducible rfl
     rotate_left
     ·simp only[apu_]
      rfl
     refine aQ (i:=4) (N:=some 53) (v:=?_) (a':=?_) #[true,false,true,false,true,false,false,false,false,false,false,false,false] rfl rfl (bM HT_.out (by kernel_rfl)) (fun _ _ _ h=>h) (Or.inl ⟨by rfl,?_⟩) ?_ ?_
     rotate_left
     ·intro w'
      go_simp
      with_reducible rfl
     rotate_left
     ·simp only[apu_]
      rfl
     refine bN (i:=1) (N:=some 50) (v:=?_) (a':=?_) #[true,true,true,false,true,false,false,false,false,false,false,false,false] rfl rfl (dF HT_.out HW_.out (by kernel_rfl)) (fun _ _ _ h=>h) (Or.inl ⟨by rfl,?_⟩) hHeld ?_ ?_
     rotate_left
     ·rintro w' ⟨s0,s1,s2,s3,s4⟩
      go_simp
      with_reducible rfl
     rotate_left
     ·simp only[apu_]
      rfl
     refine bN (i:=3) (N:=some 52) (v:=?_) (a':=?_) #[true,true,true,true,true,false,false,false,false,false,false,false,false] rfl rfl (dF HT_.out HW_.out (by kernel_rfl)) (fun _ _ _ h=>h) (Or.inl ⟨by rfl,?_⟩) hHeld ?_ ?_
     rotate_left
     ·rintro w' ⟨s0,s1,s2,s3,s4⟩
      go_simp
      with_reducible rfl
     rotate_left
     ·simp only[apu_]
      rfl
     refine bN (i:=5) (N:=some 54) (v:=?_) (a':=?_) #[true,true,true,true,true,true,false,false,false,false,false,false,false] rfl rfl (dF HT_.out HW_.out (by kernel_rfl)) (fun _ _ _ h=>h) (Or.inl ⟨by rfl,?_⟩) hHeld ?_ ?_
     rotate_left
     ·rintro w' ⟨s0,s1,s2,s3,s4⟩
      go_simp
      with_reducible rfl
     rotate_left
     ·simp only[apu_]
      rfl
     refine bN (i:=6) (N:=some 55) (v:=?_) (a':=?_) #[true,true,true,true,true,true,true,false,false,false,false,false,false] rfl rfl (dF HT_.out HW_.out (by kernel_rfl)) (fun _ _ _ h=>h) (Or.inl ⟨by rfl,?_⟩) hHeld ?_ ?_
     rotate_left
     ·rintro w' ⟨s0,s1,s2,s3,s4⟩
      go_simp
      with_reducible rfl
     rotate_left
     ·simp only[apu_]
      rfl
     refine bN (i:=8) (N:=some 57) (v:=?_) (a':=?_) #[true,true,true,true,true,true,true,false,true,false,false,false,false] rfl rfl (dF HT_.out HW_.out (by kernel_rfl)) (fun _ _ _ h=>h) (Or.inl ⟨by rfl,?_⟩) hHeld ?_ ?_
     rotate_left
     ·rintro w' ⟨s0,s1,s2,s3,s4⟩
      go_simp
      with_reducible rfl
     rotate_left
     ·simp only[apu_]
      rfl
     refine o7 (σ:=Value×Value×Value×Nat) 1 #[true,true,true,true,true,true,true,true,true,true,true,true,false] (fun s_=>[(56,.int .i64 t276),(58,s_.1),(59,.agg #[.int .i64 t280,s_.2.1,s_.2.2.1]),(13,.pointer (some ⟨s_.2.2.2,0,none⟩))]) (fun s_ w'=>(w'.cell? ⟨gb268,0,none⟩=some (.int .i64 a0_0)∧w'.cell? ⟨gb268,1,none⟩=some (.slice A0_1 l0_1.length c0_1)∧w'.cell? ⟨gb268,2,none⟩=some (.slice A0_2 l0_2.length c0_2)∧w'.cell? ⟨gb275,0,none⟩=some (.int .i64 t274)∧w'.cell? ⟨gb275,1,none⟩=some (.int .i64 a1))∧(Kd.R k35 35 w' w.heap.size (fun k_=>some k_≠(s_.2.1:Value).ownBlock∧some k_≠(s_.2.2.1:Value).ownBlock∧k_≠gb275) s_.1 t277)∧(Kd.R k35 35 w' w.heap.size (fun k_=>some k_≠(s_.1:Value).ownBlock∧some k_≠(s_.2.2.1:Value).ownBlock∧k_≠gb275) s_.2.1 t281)∧(Kd.R k35 35 w' w.heap.size (fun k_=>some k_≠(s_.1:Value).ownBlock∧some k_≠(s_.2.1:Value).ownBlock∧k_≠gb275) s_.2.2.1 t284)∧(w'.heap[gb268]? = some (.cells #[.int .i64 a0_0,.slice A0_1 l0_1.length c0_1,.slice A0_2 l0_2.length c0_2] 24 (0,0)))∧(w'.heap[gb269]? = some (.cells #[.int .i64 0,.slice none 0 0,.slice none 0 0] 24 (0,0)))∧(w'.heap[gb275]? = some (.cells #[.int .i64 t274,.int .i64 a1] 35 (0,0)))∧(w'.heap[s_.2.2.2]? = some (.cells #[.int .i64 0,.slice none 0 0,.slice none 0 0] 24 (0,0)))∧(w.heap.size≤s_.2.2.2)∧(w.heap.size≤s_.2.2.2)∧(gb268≠s_.2.2.2)∧(s_.2.2.2≠gb268)∧(gb269≠s_.2.2.2)∧(s_.2.2.2≠gb269)∧(gb275≠s_.2.2.2)∧(s_.2.2.2≠gb275)∧(Below w.heap.size w w')) ?_ ?_
     rotate_left
     ·intro hCont
      refine nN (i:=7) (j:=11) (Ni:=some 56) (Nj:=some 13) #[true,true,true,true,true,true,true,true,true,false,false,false,false] #[true,true,true,true,true,true,true,false,true,false,false,true,false] rfl rfl rfl rfl (kQ HT_.out (by kernel_rfl)) (by decide) (by decide) (fun K hK=>?_) (fun K hK=>?_)
      ·skip
       refine dh Try.func58 (by kernel_rfl) rfl #[.slice A0_1 l0_1.length c0_1,.agg #[.int .i64 t274,.int .i64 a1]] (by rfl) rfl rfl (by(try simp only[amp_]);first|done|rfl|(simp only[ald_];rfl)) ?_
       with_reducible refine(spec_l5Within.calls kj4 _ _ l0_1 t274 a1 t276 _ ?side1 ?side2 A39.out).mono ?_
       (case side1=>repeat(first|exact(Kd.aN HR0_1.out HB.out)|(with_reducible first|apply Kd.aY|apply Kd.aZ|apply Kd.bn)))
       (case side2=>exact HC0_1.out)
       rintro e w53 ⟨rfl,hb⟩
       refine⟨_,rfl,?_⟩
       have n0_:=au (ay (g:=gb268) (o:=.cells #[.int .i64 a0_0,.slice A0_1 l0_1.length c0_1,.slice A0_2 l0_2.length c0_2] 24 (0,0)) (by(with_reducible repeat(first|apply ag|apply aj|apply af));exact BK268.out) hb)
       have n1_:=au (ay (g:=gb269) (o:=.cells #[.int .i64 0,.slice none 0 0,.slice none 0 0] 24 (0,0)) (by(with_reducible repeat(first|apply ag|apply aj|apply af));exact BK269.out) hb)
       have n2_:=au (ay (g:=gb275) (o:=.cells #[.int .i64 t274,.int .i64 a1] 35 (0,0)) (by(with_reducible repeat(first|apply ag|apply aj|apply af));exact BK275.out) hb)
       have n3_:=au (aA (by with_reducible repeat(first|exact HB.out|apply ah|apply aa|apply ai|refine ae ?_ GE268.out|refine ae ?_ GE269.out|refine ae ?_ GE275.out)) hb)
       clear BK268
       clear BK269
       clear BK275
       clear HB
       have BK268:=n0_
       have BK269:=n1_
       have BK275:=n2_
       have HB:=n3_
       clear n0_ n1_ n2_ n3_
       (try clear hb)
       (try clear hb2)
       (try clear hk)
       (try clear hi)
       refine hK.out _ _ ⟨(ak BK268.out 0).trans rfl,(ak BK268.out 1).trans rfl,(ak BK268.out 2).trans rfl,(ak BK275.out 0).trans rfl,(ak BK275.out 1).trans rfl⟩ (fun hHeld=>?_)
       clear hK K
       refine bQ (a':=?_) ?_ ?_
       rotate_left
       ·show Act.put _ (some 56) _=_
        simp only[apu_]
        rfl
       refine nN (i:=9) (j:=11) (Ni:=some 58) (Nj:=some 13) #[true,true,true,true,true,true,true,true,true,true,false,false,false] #[true,true,true,true,true,true,true,true,true,false,false,true,false] rfl rfl rfl rfl (kQ HT_.out (by kernel_rfl)) (by decide) (by decide) (fun K hK=>?_) (fun K hK=>?_)
       ·skip
        refine dh Try.func57 (by kernel_rfl) rfl #[.slice A0_1 l0_1.length c0_1,.int .i64 t276,.agg #[.int .i64 t274,.int .i64 a1]] (by rfl) rfl rfl (by(try simp only[amp_]);first|done|rfl|(simp only[ald_];rfl)) ?_
        with_reducible refine(spec_l5Cut.calls _ _ l0_1 t276 t274 a1 t277 _ ?side1 ?side2 A40.out).mono ?_
        (case side1=>repeat(first|exact(Kd.aN HR0_1.out HB.out)|(with_reducible first|apply Kd.aY|apply Kd.aZ|apply Kd.bn)))
        (case side2=>exact HC0_1.out)
        rintro e w54 ⟨v278,rfl,ho0,hb⟩
        refine⟨_,rfl,?_⟩
        have n0_:=au (Kd.bz (Kd.dK ho0 (g:=gb275) (o:=.cells #[.int .i64 t274,.int .i64 a1] 35 (0,0)) (by(with_reducible repeat(first|apply ag|apply aj|apply af));exact BK275.out)) (az (by with_reducible repeat(first|exact HB.out|apply ah|apply aa|apply ai|refine ae ?_ GE268.out|refine ae ?_ GE269.out|refine ae ?_ GE275.out))))
        have n1_:=au (ay (g:=gb268) (o:=.cells #[.int .i64 a0_0,.slice A0_1 l0_1.length c0_1,.slice A0_2 l0_2.length c0_2] 24 (0,0)) (by(with_reducible repeat(first|apply ag|apply aj|apply af));exact BK268.out) hb)
        have n2_:=au (ay (g:=gb269) (o:=.cells #[.int .i64 0,.slice none 0 0,.slice none 0 0] 24 (0,0)) (by(with_reducible repeat(first|apply ag|apply aj|apply af));exact BK269.out) hb)
        have n3_:=au (ay (g:=gb275) (o:=.cells #[.int .i64 t274,.int .i64 a1] 35 (0,0)) (by(with_reducible repeat(first|apply ag|apply aj|apply af));exact BK275.out) hb)
        have n4_:=au (aA (by with_reducible repeat(first|exact HB.out|apply ah|apply aa|apply ai|refine ae ?_ GE268.out|refine ae ?_ GE269.out|refine ae ?_ GE275.out)) hb)
        clear BK268
        clear BK269
        clear BK275
        clear HB
        have HO279:=n0_
        have BK268:=n1_
        have BK269:=n2_
        have BK275:=n3_
        have HB:=n4_
        clear n0_ n1_ n2_ n3_ n4_
        (try clear hb)
        (try clear hb2)
        (try clear hk)
        (try clear hi)
        (try clear ho0)
        obtain⟨Ao55,co55,eo55⟩:=Kd.bq HO279.out
        (first|subst eo55|(injection eo55 with f1_ f2_ f3_;have f4_:=f1_.symm;have f5_:=f3_.symm;clear f1_ f2_ f3_;subst f4_;subst f5_))
        refine hK.out _ _ ⟨(ak BK268.out 0).trans rfl,(ak BK268.out 1).trans rfl,(ak BK268.out 2).trans rfl,(ak BK275.out 0).trans rfl,(ak BK275.out 1).trans rfl⟩ (fun hHeld=>?_)
        clear hK K
        refine bQ (a':=?_) ?_ ?_
        rotate_left
        ·show Act.put _ (some 58) _=_
         simp only[apu_]
         rfl
        refine nN (i:=10) (j:=11) (Ni:=some 59) (Nj:=some 13) #[true,true,true,true,true,true,true,true,true,true,true,false,false] #[true,true,true,true,true,true,true,true,true,true,false,true,false] rfl rfl rfl rfl (kQ HT_.out (by kernel_rfl)) (by decide) (by decide) (fun K hK=>?_) (fun K hK=>?_)
        ·skip
         refine dh Try.func33 (by kernel_rfl) rfl #[.int .i64 a0_0,.slice Ao55 t277.length co55] (by rfl) rfl rfl (by(try simp only[amp_]);first|done|rfl|(simp only[ald_];rfl)) ?_
         with_reducible refine(spec_l5Of.calls kj4 a0_0 _ _ t277 t280 t281 t284 _ ?side1 ?side2 A41.out).mono ?_
         (case side1=>repeat(first|exact(Kd.R_reads' HO279.out).2.2|(with_reducible first|apply Kd.aY|apply Kd.aZ|apply Kd.bn)))
         (case side2=>exact(Kd.R_reads' HO279.out).2.1)
         rintro e w56 ⟨v282,v285,rfl,ho0,ho1,hb⟩
         refine⟨_,rfl,?_⟩
         have n0_:=au (Kd.aT (Kd.dX (Kd.dX (Kd.iN (by(with_reducible repeat(first|apply Kd.aD|apply Kd.aC|apply Kd.aI));exact HO279.out) hb) (Kd.dI ho0)) (Kd.dI ho1)) (fun _ h_=>h_.1))
         have n1_:=au (Kd.bz (Kd.dK (Kd.R_new' ho0 (Kd.fq (by(with_reducible repeat(first|apply Kd.aD|apply Kd.aC|apply Kd.aI));exact HO279.out))) (g:=gb275) (o:=.cells #[.int .i64 t274,.int .i64 a1] 35 (0,0)) (by(with_reducible repeat(first|apply ag|apply aj|apply af));exact BK275.out)) (az (by with_reducible repeat(first|exact HB.out|apply ah|apply aa|apply ai|refine ae ?_ GE268.out|refine ae ?_ GE269.out|refine ae ?_ GE275.out))))
         have n2_:=au (Kd.bz (Kd.dK (Kd.R_new' ho1 (Kd.fq (by(with_reducible repeat(first|apply Kd.aD|apply Kd.aC|apply Kd.aI));exact HO279.out))) (g:=gb275) (o:=.cells #[.int .i64 t274,.int .i64 a1] 35 (0,0)) (by(with_reducible repeat(first|apply ag|apply aj|apply af));exact BK275.out)) (az (by with_reducible repeat(first|exact HB.out|apply ah|apply aa|apply ai|refine ae ?_ GE268.out|refine ae ?_ GE269.out|refine ae ?_ GE275.out))))
         have n3_:=au (ay (g:=gb268) (o:=.cells #[.int .i64 a0_0,.slice A0_1 l0_1.length c0_1,.slice A0_2 l0_2.length c0_2] 24 (0,0)) (by(with_reducible repeat(first|apply ag|apply aj|apply af));exact BK268.out) hb)
         have n4_:=au (ay (g:=gb269) (o:=.cells #[.int .i64 0,.slice none 0 0,.slice none 0 0] 24 (0,0)) (by(with_reducible repeat(first|apply ag|apply aj|apply af));exact BK269.out) hb)
         have n5_:=au (ay (g:=gb275) (o:=.cells #[.int .i64 t274,.int .i64 a1] 35 (0,0)) (by(with_reducible repeat(first|apply ag|apply aj|apply af));exact BK275.out) hb)
         have n6_:=au (aA (by with_reducible repeat(first|exact HB.out|apply ah|apply aa|apply ai|refine ae ?_ GE268.out|refine ae ?_ GE269.out|refine ae ?_ GE275.out)) hb)
         clear HO279
         clear BK268
         clear BK269
         clear BK275
         clear HB
         have HO279:=n0_
         have HO283:=n1_
         have HO286:=n2_
         have BK268:=n3_
         have BK269:=n4_
         have BK275:=n5_
         have HB:=n6_
         clear n0_ n1_ n2_ n3_ n4_ n5_ n6_
         (try clear hb)
         (try clear hb2)
         (try clear hk)
         (try clear hi)
         (try clear ho0)
         (try clear ho1)
         refine hK.out _ _ ⟨(ak BK268.out 0).trans rfl,(ak BK268.out 1).trans rfl,(ak BK268.out 2).trans rfl,(ak BK275.out 0).trans rfl,(ak BK275.out 1).trans rfl⟩ (fun hHeld=>?_)
         clear hK K
         refine bQ (a':=?_) ?_ ?_
         rotate_left
         ·show Act.put _ (some 59) _=_
          simp only[apu_]
          rfl
         refine dN (i:=11) (N:=some 13) #[true,true,true,true,true,true,true,true,true,true,true,true,false] rfl rfl (ed HT_.out (by kernel_rfl)) (by decide) (fun K hK=>?_)
         refine gB ?hg (N:=13) ?hd (cs:=#[.int .i64 0,.slice none 0 0,.slice none 0 0]) (t:=24) ?hr ?_;(case hd=>rfl);(case hg=>rfl);(case hr=>first|(go_simp;done)|(go_simp;rfl))
         intro gb287 hg w57 hbox hb
         have n0_:=au (Kd.bi (by(with_reducible repeat(first|apply Kd.aD|apply Kd.aC|apply Kd.aI));exact HO279.out) hb)
         have n1_:=au (Kd.bi (by(with_reducible repeat(first|apply Kd.aD|apply Kd.aC|apply Kd.aI));exact HO283.out) hb)
         have n2_:=au (Kd.bi (by(with_reducible repeat(first|apply Kd.aD|apply Kd.aC|apply Kd.aI));exact HO286.out) hb)
         have n3_:=au (ay (g:=gb268) (o:=.cells #[.int .i64 a0_0,.slice A0_1 l0_1.length c0_1,.slice A0_2 l0_2.length c0_2] 24 (0,0)) (by(with_reducible repeat(first|apply ag|apply aj|apply af));exact BK268.out) hb)
         have n4_:=au (ay (g:=gb269) (o:=.cells #[.int .i64 0,.slice none 0 0,.slice none 0 0] 24 (0,0)) (by(with_reducible repeat(first|apply ag|apply aj|apply af));exact BK269.out) hb)
         have n5_:=au (ay (g:=gb275) (o:=.cells #[.int .i64 t274,.int .i64 a1] 35 (0,0)) (by(with_reducible repeat(first|apply ag|apply aj|apply af));exact BK275.out) hb)
         have n6_:=au (aA (by with_reducible repeat(first|exact HB.out|apply ah|apply aa|apply ai|refine ae ?_ GE268.out|refine ae ?_ GE269.out|refine ae ?_ GE275.out)) hb)
         have n7_:=au (hbox)
         have n8_:=au ((by rw[hg];exact(az (by with_reducible repeat(first|exact HB.out|apply ah|apply aa|apply ai|refine ae ?_ GE268.out|refine ae ?_ GE269.out|refine ae ?_ GE275.out))):w.heap.size≤gb287))
         have n9_:=au ((by rw[hg];exact(az (by with_reducible repeat(first|exact HB.out|apply ah|apply aa|apply ai|refine ae ?_ GE268.out|refine ae ?_ GE269.out|refine ae ?_ GE275.out))):w.heap.size≤gb287))
         have n10_:=au ((by rw[hg];exact Nat.ne_of_lt (aH (g:=gb268) (o:=.cells #[.int .i64 a0_0,.slice A0_1 l0_1.length c0_1,.slice A0_2 l0_2.length c0_2] 24 (0,0)) (by(with_reducible repeat(first|apply ag|apply aj|apply af));exact BK268.out)):gb268≠gb287))
         have n11_:=au ((by rw[hg];exact Nat.ne_of_gt (aH (g:=gb268) (o:=.cells #[.int .i64 a0_0,.slice A0_1 l0_1.length c0_1,.slice A0_2 l0_2.length c0_2] 24 (0,0)) (by(with_reducible repeat(first|apply ag|apply aj|apply af));exact BK268.out)):gb287≠gb268))
         have n12_:=au ((by rw[hg];exact Nat.ne_of_lt (aH (g:=gb269) (o:=.cells #[.int .i64 0,.slice none 0 0,.slice none 0 0] 24 (0,0)) (by(with_reducible repeat(first|apply ag|apply aj|apply af));exact BK269.out)):gb269≠gb287))
         have n13_:=au ((by rw[hg];exact Nat.ne_of_gt (aH (g:=gb269) (o:=.cells #[.int .i64 0,.slice none 0 0,.slice none 0 0] 24 (0,0)) (by(with_reducible repeat(first|apply ag|apply aj|apply af));exact BK269.out)):gb287≠gb269))
         have n14_:=au ((by rw[hg];exact Nat.ne_of_lt (aH (g:=gb275) (o:=.cells #[.int .i64 t274,.int .i64 a1] 35 (0,0)) (by(with_reducible repeat(first|apply ag|apply aj|apply af));exact BK275.out)):gb275≠gb287))
         have n15_:=au ((by rw[hg];exact Nat.ne_of_gt (aH (g:=gb275) (o:=.cells #[.int .i64 t274,.int .i64 a1] 35 (0,0)) (by(with_reducible repeat(first|apply ag|apply aj|apply af));exact BK275.out)):gb287≠gb275))
         clear HO279
         clear HO283
         clear HO286
         clear BK268
         clear BK269
         clear BK275
         clear HB
         have HO279:=n0_
         have HO283:=n1_
         have HO286:=n2_
         have BK268:=n3_
         have BK269:=n4_
         have BK275:=n5_
         have HB:=n6_
         have BK287:=n7_
         have GW287:=n8_
         have GE287:=n9_
         have NB268_287:=n10_
         have NB287_268:=n11_
         have NB269_287:=n12_
         have NB287_269:=n13_
         have NB275_287:=n14_
         have NB287_275:=n15_
         clear n0_ n1_ n2_ n3_ n4_ n5_ n6_ n7_ n8_ n9_ n10_ n11_ n12_ n13_ n14_ n15_
         clear hb hbox hg
         refine hK.out _ _ ⟨(ak BK268.out 0).trans rfl,(ak BK268.out 1).trans rfl,(ak BK268.out 2).trans rfl,(ak BK275.out 0).trans rfl,(ak BK275.out 1).trans rfl⟩ (fun hHeld=>?_)
         clear hK K
         refine bQ (a':=?_) ?_ ?_
         rotate_left
         ·show Act.put _ (some 13) _=_
          simp only[apu_]
          rfl
         exact bQ (by simp only[fC,Act.put,List.setIfInBounds_toArray,List.set_cons_zero,List.set_cons_succ]) (hCont (.slice Ao55 t277.length co55,v282,v285,gb287) _ ⟨hHeld,(by(with_reducible repeat(first|apply Kd.aD|apply Kd.aC|apply Kd.aI));exact Kd.aT HO279.out (fun _ hk=>⟨hk.1.2,⟨hk.2,hk.1.1.2⟩⟩)),(by(with_reducible repeat(first|apply Kd.aD|apply Kd.aC|apply Kd.aI));exact Kd.aT HO283.out (fun _ hk=>⟨hk.1.2,⟨hk.1.1,hk.2⟩⟩)),(by(with_reducible repeat(first|apply Kd.aD|apply Kd.aC|apply Kd.aI));exact Kd.aT HO286.out (fun _ hk=>⟨hk.1.2,⟨hk.1.1,hk.2⟩⟩)),(by(with_reducible repeat(first|apply ag|apply aj|apply af));exact BK268.out),(by(with_reducible repeat(first|apply ag|apply aj|apply af));exact BK269.out),(by(with_reducible repeat(first|apply ag|apply aj|apply af));exact BK275.out),(by(with_reducible repeat(first|apply ag|apply aj|apply af));exact BK287.out),GW287.out,GE287.out,NB268_287.out,NB287_268.out,NB269_287.out,NB287_269.out,NB275_287.out,NB287_275.out,(by with_reducible repeat(first|exact HB.out|apply ah|apply aa|apply ai|refine ae ?_ GE268.out|refine ae ?_ GE269.out|refine ae ?_ GE275.out|refine ae ?_ GE287.out))⟩)
        ·skip
         refine gB ?hg (N:=13) ?hd (cs:=#[.int .i64 0,.slice none 0 0,.slice none 0 0]) (t:=24) ?hr ?_;(case hd=>rfl);(case hg=>rfl);(case hr=>first|(go_simp;done)|(go_simp;rfl))
         intro gb287 hg w55 hbox hb
         have n0_:=au (Kd.bi (by(with_reducible repeat(first|apply Kd.aD|apply Kd.aC|apply Kd.aI));exact HO279.out) hb)
         have n1_:=au (ay (g:=gb268) (o:=.cells #[.int .i64 a0_0,.slice A0_1 l0_1.length c0_1,.slice A0_2 l0_2.length c0_2] 24 (0,0)) (by(with_reducible repeat(first|apply ag|apply aj|apply af));exact BK268.out) hb)
         have n2_:=au (ay (g:=gb269) (o:=.cells #[.int .i64 0,.slice none 0 0,.slice none 0 0] 24 (0,0)) (by(with_reducible repeat(first|apply ag|apply aj|apply af));exact BK269.out) hb)
         have n3_:=au (ay (g:=gb275) (o:=.cells #[.int .i64 t274,.int .i64 a1] 35 (0,0)) (by(with_reducible repeat(first|apply ag|apply aj|apply af));exact BK275.out) hb)
         have n4_:=au (aA (by with_reducible repeat(first|exact HB.out|apply ah|apply aa|apply ai|refine ae ?_ GE268.out|refine ae ?_ GE269.out|refine ae ?_ GE275.out)) hb)
         have n5_:=au (hbox)
         have n6_:=au ((by rw[hg];exact(az (by with_reducible repeat(first|exact HB.out|apply ah|apply aa|apply ai|refine ae ?_ GE268.out|refine ae ?_ GE269.out|refine ae ?_ GE275.out))):w.heap.size≤gb287))
         have n7_:=au ((by rw[hg];exact(az (by with_reducible repeat(first|exact HB.out|apply ah|apply aa|apply ai|refine ae ?_ GE268.out|refine ae ?_ GE269.out|refine ae ?_ GE275.out))):w.heap.size≤gb287))
         have n8_:=au ((by rw[hg];exact Nat.ne_of_lt (aH (g:=gb268) (o:=.cells #[.int .i64 a0_0,.slice A0_1 l0_1.length c0_1,.slice A0_2 l0_2.length c0_2] 24 (0,0)) (by(with_reducible repeat(first|apply ag|apply aj|apply af));exact BK268.out)):gb268≠gb287))
         have n9_:=au ((by rw[hg];exact Nat.ne_of_gt (aH (g:=gb268) (o:=.cells #[.int .i64 a0_0,.slice A0_1 l0_1.length c0_1,.slice A0_2 l0_2.length c0_2] 24 (0,0)) (by(with_reducible repeat(first|apply ag|apply aj|apply af));exact BK268.out)):gb287≠gb268))
         have n10_:=au ((by rw[hg];exact Nat.ne_of_lt (aH (g:=gb269) (o:=.cells #[.int .i64 0,.slice none 0 0,.slice none 0 0] 24 (0,0)) (by(with_reducible repeat(first|apply ag|apply aj|apply af));exact BK269.out)):gb269≠gb287))
         have n11_:=au ((by rw[hg];exact Nat.ne_of_gt (aH (g:=gb269) (o:=.cells #[.int .i64 0,.slice none 0 0,.slice none 0 0] 24 (0,0)) (by(with_reducible repeat(first|apply ag|apply aj|apply af));exact BK269.out)):gb287≠gb269))
         have n12_:=au ((by rw[hg];exact Nat.ne_of_lt (aH (g:=gb275) (o:=.cells #[.int .i64 t274,.int .i64 a1] 35 (0,0)) (by(with_reducible repeat(first|apply ag|apply aj|apply af));exact BK275.out)):gb275≠gb287))
         have n13_:=au ((by rw[hg];exact Nat.ne_of_gt (aH (g:=gb275) (o:=.cells #[.int .i64 t274,.int .i64 a1] 35 (0,0)) (by(with_reducible repeat(first|apply ag|apply aj|apply af));exact BK275.out)):gb287≠gb275))
         clear HO279
         clear BK268
         clear BK269
         clear BK275
         clear HB
         have HO279:=n0_
         have BK268:=n1_
         have BK269:=n2_
         have BK275:=n3_
         have HB:=n4_
         have BK287:=n5_
         have GW287:=n6_
         have GE287:=n7_
         have NB268_287:=n8_
         have NB287_268:=n9_
         have NB269_287:=n10_
         have NB287_269:=n11_
         have NB275_287:=n12_
         have NB287_275:=n13_
         clear n0_ n1_ n2_ n3_ n4_ n5_ n6_ n7_ n8_ n9_ n10_ n11_ n12_ n13_
         clear hb hbox hg
         obtain⟨Ao56,co56,eo56⟩:=Kd.bq HO279.out
         (first|subst eo56|(injection eo56 with f1_ f2_ f3_;have f4_:=f1_.symm;have f5_:=f3_.symm;clear f1_ f2_ f3_;subst f4_;subst f5_))
         refine hK.out _ _ ⟨(ak BK268.out 0).trans rfl,(ak BK268.out 1).trans rfl,(ak BK268.out 2).trans rfl,(ak BK275.out 0).trans rfl,(ak BK275.out 1).trans rfl⟩ (fun hHeld=>?_)
         clear hK K
         refine bQ (a':=?_) ?_ ?_
         rotate_left
         ·show Act.put _ (some 13) _=_
          simp only[apu_]
          rfl
         refine dN (i:=10) (N:=some 59) #[true,true,true,true,true,true,true,true,true,true,true,true,false] rfl rfl (ed HT_.out (by kernel_rfl)) (by decide) (fun K hK=>?_)
         refine dh Try.func33 (by kernel_rfl) rfl #[.int .i64 a0_0,.slice Ao56 t277.length co56] (by rfl) rfl rfl (by(try simp only[amp_]);first|done|rfl|(simp only[ald_];rfl)) ?_
         with_reducible refine(spec_l5Of.calls kj4 a0_0 _ _ t277 t280 t281 t284 _ ?side1 ?side2 A41.out).mono ?_
         (case side1=>repeat(first|exact(Kd.R_reads' HO279.out).2.2|(with_reducible first|apply Kd.aY|apply Kd.aZ|apply Kd.bn)))
         (case side2=>exact(Kd.R_reads' HO279.out).2.1)
         rintro e w57 ⟨v282,v285,rfl,ho0,ho1,hb⟩
         refine⟨_,rfl,?_⟩
         have n0_:=au (Kd.aT (Kd.dX (Kd.dX (Kd.iN (by(with_reducible repeat(first|apply Kd.aD|apply Kd.aC|apply Kd.aI));exact HO279.out) hb) (Kd.dI ho0)) (Kd.dI ho1)) (fun _ h_=>h_.1))
         have n1_:=au (Kd.bz (Kd.dK (Kd.R_new' ho0 (Kd.fq (by(with_reducible repeat(first|apply Kd.aD|apply Kd.aC|apply Kd.aI));exact HO279.out))) (g:=gb275) (o:=.cells #[.int .i64 t274,.int .i64 a1] 35 (0,0)) (by(with_reducible repeat(first|apply ag|apply aj|apply af));exact BK275.out)) (az (by with_reducible repeat(first|exact HB.out|apply ah|apply aa|apply ai|refine ae ?_ GE268.out|refine ae ?_ GE269.out|refine ae ?_ GE275.out|refine ae ?_ GE287.out))))
         have n2_:=au (Kd.bz (Kd.dK (Kd.R_new' ho1 (Kd.fq (by(with_reducible repeat(first|apply Kd.aD|apply Kd.aC|apply Kd.aI));exact HO279.out))) (g:=gb275) (o:=.cells #[.int .i64 t274,.int .i64 a1] 35 (0,0)) (by(with_reducible repeat(first|apply ag|apply aj|apply af));exact BK275.out)) (az (by with_reducible repeat(first|exact HB.out|apply ah|apply aa|apply ai|refine ae ?_ GE268.out|refine ae ?_ GE269.out|refine ae ?_ GE275.out|refine ae ?_ GE287.out))))
         have n3_:=au (ay (g:=gb268) (o:=.cells #[.int .i64 a0_0,.slice A0_1 l0_1.length c0_1,.slice A0_2 l0_2.length c0_2] 24 (0,0)) (by(with_reducible repeat(first|apply ag|apply aj|apply af));exact BK268.out) hb)
         have n4_:=au (ay (g:=gb269) (o:=.cells #[.int .i64 0,.slice none 0 0,.slice none 0 0] 24 (0,0)) (by(with_reducible repeat(first|apply ag|apply aj|apply af));exact BK269.out) hb)
         have n5_:=au (ay (g:=gb275) (o:=.cells #[.int .i64 t274,.int .i64 a1] 35 (0,0)) (by(with_reducible repeat(first|apply ag|apply aj|apply af));exact BK275.out) hb)
         have n6_:=au (ay (g:=gb287) (o:=.cells #[.int .i64 0,.slice none 0 0,.slice none 0 0] 24 (0,0)) (by(with_reducible repeat(first|apply ag|apply aj|apply af));exact BK287.out) hb)
         have n7_:=au (aA (by with_reducible repeat(first|exact HB.out|apply ah|apply aa|apply ai|refine ae ?_ GE268.out|refine ae ?_ GE269.out|refine ae ?_ GE275.out|refine ae ?_ GE287.out)) hb)
         clear HO279
         clear BK268
         clear BK269
         clear BK275
         clear BK287
         clear HB
         have HO279:=n0_
         have HO283:=n1_
         have HO286:=n2_
         have BK268:=n3_
         have BK269:=n4_
         have BK275:=n5_
         have BK287:=n6_
         have HB:=n7_
         clear n0_ n1_ n2_ n3_ n4_ n5_ n6_ n7_
         (try clear hb)
         (try clear hb2)
         (try clear hk)
         (try clear hi)
         (try clear ho0)
         (try clear ho1)
         refine hK.out _ _ ⟨(ak BK268.out 0).trans rfl,(ak BK268.out 1).trans rfl,(ak BK268.out 2).trans rfl,(ak BK275.out 0).trans rfl,(ak BK275.out 1).trans rfl⟩ (fun hHeld=>?_)
         clear hK K
         refine bQ (a':=?_) ?_ ?_
         rotate_left
         ·show Act.put _ (some 59) _=_
          simp only[apu_]
          rfl
         exact bQ (by simp only[fC,Act.put,List.setIfInBounds_toArray,List.set_cons_zero,List.set_cons_succ]) (hCont (.slice Ao56 t277.length co56,v282,v285,gb287) _ ⟨hHeld,(by(with_reducible repeat(first|apply Kd.aD|apply Kd.aC|apply Kd.aI));exact Kd.aT HO279.out (fun _ hk=>⟨hk.1.2,⟨hk.2,hk.1.1.2⟩⟩)),(by(with_reducible repeat(first|apply Kd.aD|apply Kd.aC|apply Kd.aI));exact Kd.aT HO283.out (fun _ hk=>⟨hk.1.2,⟨hk.1.1,hk.2⟩⟩)),(by(with_reducible repeat(first|apply Kd.aD|apply Kd.aC|apply Kd.aI));exact Kd.aT HO286.out (fun _ hk=>⟨hk.1.2,⟨hk.1.1,hk.2⟩⟩)),(by(with_reducible repeat(first|apply ag|apply aj|apply af));exact BK268.out),(by(with_reducible repeat(first|apply ag|apply aj|apply af));exact BK269.out),(by(with_reducible repeat(first|apply ag|apply aj|apply af));exact BK275.out),(by(with_reducible repeat(first|apply ag|apply aj|apply af));exact BK287.out),GW287.out,GE287.out,NB268_287.out,NB287_268.out,NB269_287.out,NB287_269.out,NB275_287.out,NB287_275.out,(by with_reducible repeat(first|exact HB.out|apply ah|apply aa|apply ai|refine ae ?_ GE268.out|refine ae ?_ GE269.out|refine ae ?_ GE275.out|refine ae ?_ GE287.out))⟩)
       ·skip
        refine gB ?hg (N:=13) ?hd (cs:=#[.int .i64 0,.slice none 0 0,.slice none 0 0]) (t:=24) ?hr ?_;(case hd=>rfl);(case hg=>rfl);(case hr=>first|(go_simp;done)|(go_simp;rfl))
        intro gb287 hg w54 hbox hb
        have n0_:=au (ay (g:=gb268) (o:=.cells #[.int .i64 a0_0,.slice A0_1 l0_1.length c0_1,.slice A0_2 l0_2.length c0_2] 24 (0,0)) (by(with_reducible repeat(first|apply ag|apply aj|apply af));exact BK268.out) hb)
        have n1_:=au (ay (g:=gb269) (o:=.cells #[.int .i64 0,.slice none 0 0,.slice none 0 0] 24 (0,0)) (by(with_reducible repeat(first|apply ag|apply aj|apply af));exact BK269.out) hb)
        have n2_:=au (ay (g:=gb275) (o:=.cells #[.int .i64 t274,.int .i64 a1] 35 (0,0)) (by(with_reducible repeat(first|apply ag|apply aj|apply af));exact BK275.out) hb)
        have n3_:=au (aA (by with_reducible repeat(first|exact HB.out|apply ah|apply aa|apply ai|refine ae ?_ GE268.out|refine ae ?_ GE269.out|refine ae ?_ GE275.out)) hb)
        have n4_:=au (hbox)
        have n5_:=au ((by rw[hg];exact(az (by with_reducible repeat(first|exact HB.out|apply ah|apply aa|apply ai|refine ae ?_ GE268.out|refine ae ?_ GE269.out|refine ae ?_ GE275.out))):w.heap.size≤gb287))
        have n6_:=au ((by rw[hg];exact(az (by with_reducible repeat(first|exact HB.out|apply ah|apply aa|apply ai|refine ae ?_ GE268.out|refine ae ?_ GE269.out|refine ae ?_ GE275.out))):w.heap.size≤gb287))
        have n7_:=au ((by rw[hg];exact Nat.ne_of_lt (aH (g:=gb268) (o:=.cells #[.int .i64 a0_0,.slice A0_1 l0_1.length c0_1,.slice A0_2 l0_2.length c0_2] 24 (0,0)) (by(with_reducible repeat(first|apply ag|apply aj|apply af));exact BK268.out)):gb268≠gb287))
        have n8_:=au ((by rw[hg];exact Nat.ne_of_gt (aH (g:=gb268) (o:=.cells #[.int .i64 a0_0,.slice A0_1 l0_1.length c0_1,.slice A0_2 l0_2.length c0_2] 24 (0,0)) (by(with_reducible repeat(first|apply ag|apply aj|apply af));exact BK268.out)):gb287≠gb268))
        have n9_:=au ((by rw[hg];exact Nat.ne_of_lt (aH (g:=gb269) (o:=.cells #[.int .i64 0,.slice none 0 0,.slice none 0 0] 24 (0,0)) (by(with_reducible repeat(first|apply ag|apply aj|apply af));exact BK269.out)):gb269≠gb287))
        have n10_:=au ((by rw[hg];exact Nat.ne_of_gt (aH (g:=gb269) (o:=.cells #[.int .i64 0,.slice none 0 0,.slice none 0 0] 24 (0,0)) (by(with_reducible repeat(first|apply ag|apply aj|apply af));exact BK269.out)):gb287≠gb269))
        have n11_:=au ((by rw[hg];exact Nat.ne_of_lt (aH (g:=gb275) (o:=.cells #[.int .i64 t274,.int .i64 a1] 35 (0,0)) (by(with_reducible repeat(first|apply ag|apply aj|apply af));exact BK275.out)):gb275≠gb287))
        have n12_:=au ((by rw[hg];exact Nat.ne_of_gt (aH (g:=gb275) (o:=.cells #[.int .i64 t274,.int .i64 a1] 35 (0,0)) (by(with_reducible repeat(first|apply ag|apply aj|apply af));exact BK275.out)):gb287≠gb275))
        clear BK268
        clear BK269
        clear BK275
        clear HB
        have BK268:=n0_
        have BK269:=n1_
        have BK275:=n2_
        have HB:=n3_
        have BK287:=n4_
        have GW287:=n5_
        have GE287:=n6_
        have NB268_287:=n7_
        have NB287_268:=n8_
        have NB269_287:=n9_
        have NB287_269:=n10_
        have NB275_287:=n11_
        have NB287_275:=n12_
        clear n0_ n1_ n2_ n3_ n4_ n5_ n6_ n7_ n8_ n9_ n10_ n11_ n12_
        clear hb hbox hg
        refine hK.out _ _ ⟨(ak BK268.out 0).trans rfl,(ak BK268.out 1).trans rfl,(ak BK268.out 2).trans rfl,(ak BK275.out 0).trans rfl,(ak BK275.out 1).trans rfl⟩ (fun hHeld=>?_)
        clear hK K
        refine bQ (a':=?_) ?_ ?_
        rotate_left
        ·show Act.put _ (some 13) _=_
         simp only[apu_]
         rfl
        refine dN (i:=9) (N:=some 58) #[true,true,true,true,true,true,true,true,true,true,false,true,false] rfl rfl (ed HT_.out (by kernel_rfl)) (by decide) (fun K hK=>?_)
        refine dh Try.func57 (by kernel_rfl) rfl #[.slice A0_1 l0_1.length c0_1,.int .i64 t276,.agg #[.int .i64 t274,.int .i64 a1]] (by rfl) rfl rfl (by(try simp only[amp_]);first|done|rfl|(simp only[ald_];rfl)) ?_
        with_reducible refine(spec_l5Cut.calls _ _ l0_1 t276 t274 a1 t277 _ ?side1 ?side2 A40.out).mono ?_
        (case side1=>repeat(first|exact(Kd.aN HR0_1.out HB.out)|(with_reducible first|apply Kd.aY|apply Kd.aZ|apply Kd.bn)))
        (case side2=>exact HC0_1.out)
        rintro e w55 ⟨v278,rfl,ho0,hb⟩
        refine⟨_,rfl,?_⟩
        have n0_:=au (Kd.bz (Kd.dK ho0 (g:=gb275) (o:=.cells #[.int .i64 t274,.int .i64 a1] 35 (0,0)) (by(with_reducible repeat(first|apply ag|apply aj|apply af));exact BK275.out)) (az (by with_reducible repeat(first|exact HB.out|apply ah|apply aa|apply ai|refine ae ?_ GE268.out|refine ae ?_ GE269.out|refine ae ?_ GE275.out|refine ae ?_ GE287.out))))
        have n1_:=au (ay (g:=gb268) (o:=.cells #[.int .i64 a0_0,.slice A0_1 l0_1.length c0_1,.slice A0_2 l0_2.length c0_2] 24 (0,0)) (by(with_reducible repeat(first|apply ag|apply aj|apply af));exact BK268.out) hb)
        have n2_:=au (ay (g:=gb269) (o:=.cells #[.int .i64 0,.slice none 0 0,.slice none 0 0] 24 (0,0)) (by(with_reducible repeat(first|apply ag|apply aj|apply af));exact BK269.out) hb)
        have n3_:=au (ay (g:=gb275) (o:=.cells #[.int .i64 t274,.int .i64 a1] 35 (0,0)) (by(with_reducible repeat(first|apply ag|apply aj|apply af));exact BK275.out) hb)
        have n4_:=au (ay (g:=gb287) (o:=.cells #[.int .i64 0,.slice none 0 0,.slice none 0 0] 24 (0,0)) (by(with_reducible repeat(first|apply ag|apply aj|apply af));exact BK287.out) hb)
        have n5_:=au (aA (by with_reducible repeat(first|exact HB.out|apply ah|apply aa|apply ai|refine ae ?_ GE268.out|refine ae ?_ GE269.out|refine ae ?_ GE275.out|refine ae ?_ GE287.out)) hb)
        clear BK268
        clear BK269
        clear BK275
        clear BK287
        clear HB
        have HO279:=n0_
        have BK268:=n1_
        have BK269:=n2_
        have BK275:=n3_
        have BK287:=n4_
        have HB:=n5_
        clear n0_ n1_ n2_ n3_ n4_ n5_
        (try clear hb)
        (try clear hb2)
        (try clear hk)
        (try clear hi)
        (try clear ho0)
        obtain⟨Ao56,co56,eo56⟩:=Kd.bq HO279.out
        (first|subst eo56|(injection eo56 with f1_ f2_ f3_;have f4_:=f1_.symm;have f5_:=f3_.symm;clear f1_ f2_ f3_;subst f4_;subst f5_))
        refine hK.out _ _ ⟨(ak BK268.out 0).trans rfl,(ak BK268.out 1).trans rfl,(ak BK268.out 2).trans rfl,(ak BK275.out 0).trans rfl,(ak BK275.out 1).trans rfl⟩ (fun hHeld=>?_)
        clear hK K
        refine bQ (a':=?_) ?_ ?_
        rotate_left
        ·show Act.put _ (some 58) _=_
         simp only[apu_]
         rfl
        refine dN (i:=10) (N:=some 59) #[true,true,true,true,true,true,true,true,true,true,true,true,false] rfl rfl (ed HT_.out (by kernel_rfl)) (by decide) (fun K hK=>?_)
        refine dh Try.func33 (by kernel_rfl) rfl #[.int .i64 a0_0,.slice Ao56 t277.length co56] (by rfl) rfl rfl (by(try simp only[amp_]);first|done|rfl|(simp only[ald_];rfl)) ?_
        with_reducible refine(spec_l5Of.calls kj4 a0_0 _ _ t277 t280 t281 t284 _ ?side1 ?side2 A41.out).mono ?_
        (case side1=>repeat(first|exact(Kd.R_reads' HO279.out).2.2|(with_reducible first|apply Kd.aY|apply Kd.aZ|apply Kd.bn)))
        (case side2=>exact(Kd.R_reads' HO279.out).2.1)
        rintro e w57 ⟨v282,v285,rfl,ho0,ho1,hb⟩
        refine⟨_,rfl,?_⟩
        have n0_:=au (Kd.aT (Kd.dX (Kd.dX (Kd.iN (by(with_reducible repeat(first|apply Kd.aD|apply Kd.aC|apply Kd.aI));exact HO279.out) hb) (Kd.dI ho0)) (Kd.dI ho1)) (fun _ h_=>h_.1))
        have n1_:=au (Kd.bz (Kd.dK (Kd.R_new' ho0 (Kd.fq (by(with_reducible repeat(first|apply Kd.aD|apply Kd.aC|apply Kd.aI));exact HO279.out))) (g:=gb275) (o:=.cells #[.int .i64 t274,.int .i64 a1] 35 (0,0)) (by(with_reducible repeat(first|apply ag|apply aj|apply af));exact BK275.out)) (az (by with_reducible repeat(first|exact HB.out|apply ah|apply aa|apply ai|refine ae ?_ GE268.out|refine ae ?_ GE269.out|refine ae ?_ GE275.out|refine ae ?_ GE287.out))))
        have n2_:=au (Kd.bz (Kd.dK (Kd.R_new' ho1 (Kd.fq (by(with_reducible repeat(first|apply Kd.aD|apply Kd.aC|apply Kd.aI));exact HO279.out))) (g:=gb275) (o:=.cells #[.int .i64 t274,.int .i64 a1] 35 (0,0)) (by(with_reducible repeat(first|apply ag|apply aj|apply af));exact BK275.out)) (az (by with_reducible repeat(first|exact HB.out|apply ah|apply aa|apply ai|refine ae ?_ GE268.out|refine ae ?_ GE269.out|refine ae ?_ GE275.out|refine ae ?_ GE287.out))))
        have n3_:=au (ay (g:=gb268) (o:=.cells #[.int .i64 a0_0,.slice A0_1 l0_1.length c0_1,.slice A0_2 l0_2.length c0_2] 24 (0,0)) (by(with_reducible repeat(first|apply ag|apply aj|apply af));exact BK268.out) hb)
        have n4_:=au (ay (g:=gb269) (o:=.cells #[.int .i64 0,.slice none 0 0,.slice none 0 0] 24 (0,0)) (by(with_reducible repeat(first|apply ag|apply aj|apply af));exact BK269.out) hb)
        have n5_:=au (ay (g:=gb275) (o:=.cells #[.int .i64 t274,.int .i64 a1] 35 (0,0)) (by(with_reducible repeat(first|apply ag|apply aj|apply af));exact BK275.out) hb)
        have n6_:=au (ay (g:=gb287) (o:=.cells #[.int .i64 0,.slice none 0 0,.slice none 0 0] 24 (0,0)) (by(with_reducible repeat(first|apply ag|apply aj|apply af));exact BK287.out) hb)
        have n7_:=au (aA (by with_reducible repeat(first|exact HB.out|apply ah|apply aa|apply ai|refine ae ?_ GE268.out|refine ae ?_ GE269.out|refine ae ?_ GE275.out|refine ae ?_ GE287.out)) hb)
        clear HO279
        clear BK268
        clear BK269
        clear BK275
        clear BK287
        clear HB
        have HO279:=n0_
        have HO283:=n1_
        have HO286:=n2_
        have BK268:=n3_
        have BK269:=n4_
        have BK275:=n5_
        have BK287:=n6_
        have HB:=n7_
        clear n0_ n1_ n2_ n3_ n4_ n5_ n6_ n7_
        (try clear hb)
        (try clear hb2)
        (try clear hk)
        (try clear hi)
        (try clear ho0)
        (try clear ho1)
        refine hK.out _ _ ⟨(ak BK268.out 0).trans rfl,(ak BK268.out 1).trans rfl,(ak BK268.out 2).trans rfl,(ak BK275.out 0).trans rfl,(ak BK275.out 1).trans rfl⟩ (fun hHeld=>?_)
        clear hK K
        refine bQ (a':=?_) ?_ ?_
        rotate_left
        ·show Act.put _ (some 59) _=_
         simp only[apu_]
         rfl
        exact bQ (by simp only[fC,Act.put,List.setIfInBounds_toArray,List.set_cons_zero,List.set_cons_succ]) (hCont (.slice Ao56 t277.length co56,v282,v285,gb287) _ ⟨hHeld,(by(with_reducible repeat(first|apply Kd.aD|apply Kd.aC|apply Kd.aI));exact Kd.aT HO279.out (fun _ hk=>⟨hk.1.2,⟨hk.2,hk.1.1.2⟩⟩)),(by(with_reducible repeat(first|apply Kd.aD|apply Kd.aC|apply Kd.aI));exact Kd.aT HO283.out (fun _ hk=>⟨hk.1.2,⟨hk.1.1,hk.2⟩⟩)),(by(with_reducible repeat(first|apply Kd.aD|apply Kd.aC|apply Kd.aI));exact Kd.aT HO286.out (fun _ hk=>⟨hk.1.2,⟨hk.1.1,hk.2⟩⟩)),(by(with_reducible repeat(first|apply ag|apply aj|apply af));exact BK268.out),(by(with_reducible repeat(first|apply ag|apply aj|apply af));exact BK269.out),(by(with_reducible repeat(first|apply ag|apply aj|apply af));exact BK275.out),(by(with_reducible repeat(first|apply ag|apply aj|apply af));exact BK287.out),GW287.out,GE287.out,NB268_287.out,NB287_268.out,NB269_287.out,NB287_269.out,NB275_287.out,NB287_275.out,(by with_reducible repeat(first|exact HB.out|apply ah|apply aa|apply ai|refine ae ?_ GE268.out|refine ae ?_ GE269.out|refine ae ?_ GE275.out|refine ae ?_ GE287.out))⟩)
      ·skip
       refine gB ?hg (N:=13) ?hd (cs:=#[.int .i64 0,.slice none 0 0,.slice none 0 0]) (t:=24) ?hr ?_;(case hd=>rfl);(case hg=>rfl);(case hr=>first|(go_simp;done)|(go_simp;rfl))
       intro gb287 hg w53 hbox hb
       have n0_:=au (ay (g:=gb268) (o:=.cells #[.int .i64 a0_0,.slice A0_1 l0_1.length c0_1,.slice A0_2 l0_2.length c0_2] 24 (0,0)) (by(with_reducible repeat(first|apply ag|apply aj|apply af));exact BK268.out) hb)
       have n1_:=au (ay (g:=gb269) (o:=.cells #[.int .i64 0,.slice none 0 0,.slice none 0 0] 24 (0,0)) (by(with_reducible repeat(first|apply ag|apply aj|apply af));exact BK269.out) hb)
       have n2_:=au (ay (g:=gb275) (o:=.cells #[.int .i64 t274,.int .i64 a1] 35 (0,0)) (by(with_reducible repeat(first|apply ag|apply aj|apply af));exact BK275.out) hb)
       have n3_:=au (aA (by with_reducible repeat(first|exact HB.out|apply ah|apply aa|apply ai|refine ae ?_ GE268.out|refine ae ?_ GE269.out|refine ae ?_ GE275.out)) hb)
       have n4_:=au (hbox)
       have n5_:=au ((by rw[hg];exact(az (by with_reducible repeat(first|exact HB.out|apply ah|apply aa|apply ai|refine ae ?_ GE268.out|refine ae ?_ GE269.out|refine ae ?_ GE275.out))):w.heap.size≤gb287))
       have n6_:=au ((by rw[hg];exact(az (by with_reducible repeat(first|exact HB.out|apply ah|apply aa|apply ai|refine ae ?_ GE268.out|refine ae ?_ GE269.out|refine ae ?_ GE275.out))):w.heap.size≤gb287))
       have n7_:=au ((by rw[hg];exact Nat.ne_of_lt (aH (g:=gb268) (o:=.cells #[.int .i64 a0_0,.slice A0_1 l0_1.length c0_1,.slice A0_2 l0_2.length c0_2] 24 (0,0)) (by(with_reducible repeat(first|apply ag|apply aj|apply af));exact BK268.out)):gb268≠gb287))
       have n8_:=au ((by rw[hg];exact Nat.ne_of_gt (aH (g:=gb268) (o:=.cells #[.int .i64 a0_0,.slice A0_1 l0_1.length c0_1,.slice A0_2 l0_2.length c0_2] 24 (0,0)) (by(with_reducible repeat(first|apply ag|apply aj|apply af));exact BK268.out)):gb287≠gb268))
       have n9_:=au ((by rw[hg];exact Nat.ne_of_lt (aH (g:=gb269) (o:=.cells #[.int .i64 0,.slice none 0 0,.slice none 0 0] 24 (0,0)) (by(with_reducible repeat(first|apply ag|apply aj|apply af));exact BK269.out)):gb269≠gb287))
       have n10_:=au ((by rw[hg];exact Nat.ne_of_gt (aH (g:=gb269) (o:=.cells #[.int .i64 0,.slice none 0 0,.slice none 0 0] 24 (0,0)) (by(with_reducible repeat(first|apply ag|apply aj|apply af));exact BK269.out)):gb287≠gb269))
       have n11_:=au ((by rw[hg];exact Nat.ne_of_lt (aH (g:=gb275) (o:=.cells #[.int .i64 t274,.int .i64 a1] 35 (0,0)) (by(with_reducible repeat(first|apply ag|apply aj|apply af));exact BK275.out)):gb275≠gb287))
       have n12_:=au ((by rw[hg];exact Nat.ne_of_gt (aH (g:=gb275) (o:=.cells #[.int .i64 t274,.int .i64 a1] 35 (0,0)) (by(with_reducible repeat(first|apply ag|apply aj|apply af));exact BK275.out)):gb287≠gb275))
       clear BK268
       clear BK269
       clear BK275
       clear HB
       have BK268:=n0_
       have BK269:=n1_
       have BK275:=n2_
       have HB:=n3_
       have BK287:=n4_
       have GW287:=n5_
       have GE287:=n6_
       have NB268_287:=n7_
       have NB287_268:=n8_
       have NB269_287:=n9_
       have NB287_269:=n10_
       have NB275_287:=n11_
       have NB287_275:=n12_
       clear n0_ n1_ n2_ n3_ n4_ n5_ n6_ n7_ n8_ n9_ n10_ n11_ n12_
       clear hb hbox hg
       refine hK.out _ _ ⟨(ak BK268.out 0).trans rfl,(ak BK268.out 1).trans rfl,(ak BK268.out 2).trans rfl,(ak BK275.out 0).trans rfl,(ak BK275.out 1).trans rfl⟩ (fun hHeld=>?_)
       clear hK K
       refine bQ (a':=?_) ?_ ?_
       rotate_left
       ·show Act.put _ (some 13) _=_
        simp only[apu_]
        rfl
       refine dN (i:=7) (N:=some 56) #[true,true,true,true,true,true,true,true,true,false,false,true,false] rfl rfl (ed HT_.out (by kernel_rfl)) (by decide) (fun K hK=>?_)
       refine dh Try.func58 (by kernel_rfl) rfl #[.slice A0_1 l0_1.length c0_1,.agg #[.int .i64 t274,.int .i64 a1]] (by rfl) rfl rfl (by(try simp only[amp_]);first|done|rfl|(simp only[ald_];rfl)) ?_
       with_reducible refine(spec_l5Within.calls kj4 _ _ l0_1 t274 a1 t276 _ ?side1 ?side2 A39.out).mono ?_
       (case side1=>repeat(first|exact(Kd.aN HR0_1.out HB.out)|(with_reducible first|apply Kd.aY|apply Kd.aZ|apply Kd.bn)))
       (case side2=>exact HC0_1.out)
       rintro e w54 ⟨rfl,hb⟩
       refine⟨_,rfl,?_⟩
       have n0_:=au (ay (g:=gb268) (o:=.cells #[.int .i64 a0_0,.slice A0_1 l0_1.length c0_1,.slice A0_2 l0_2.length c0_2] 24 (0,0)) (by(with_reducible repeat(first|apply ag|apply aj|apply af));exact BK268.out) hb)
       have n1_:=au (ay (g:=gb269) (o:=.cells #[.int .i64 0,.slice none 0 0,.slice none 0 0] 24 (0,0)) (by(with_reducible repeat(first|apply ag|apply aj|apply af));exact BK269.out) hb)
       have n2_:=au (ay (g:=gb275) (o:=.cells #[.int .i64 t274,.int .i64 a1] 35 (0,0)) (by(with_reducible repeat(first|apply ag|apply aj|apply af));exact BK275.out) hb)
       have n3_:=au (ay (g:=gb287) (o:=.cells #[.int .i64 0,.slice none 0 0,.slice none 0 0] 24 (0,0)) (by(with_reducible repeat(first|apply ag|apply aj|apply af));exact BK287.out) hb)
       have n4_:=au (aA (by with_reducible repeat(first|exact HB.out|apply ah|apply aa|apply ai|refine ae ?_ GE268.out|refine ae ?_ GE269.out|refine ae ?_ GE275.out|refine ae ?_ GE287.out)) hb)
       clear BK268
       clear BK269
       clear BK275
       clear BK287
       clear HB
       have BK268:=n0_
       have BK269:=n1_
       have BK275:=n2_
       have BK287:=n3_
       have HB:=n4_
       clear n0_ n1_ n2_ n3_ n4_
       (try clear hb)
       (try clear hb2)
       (try clear hk)
       (try clear hi)
       refine hK.out _ _ ⟨(ak BK268.out 0).trans rfl,(ak BK268.out 1).trans rfl,(ak BK268.out 2).trans rfl,(ak BK275.out 0).trans rfl,(ak BK275.out 1).trans rfl⟩ (fun hHeld=>?_)
       clear hK K
       refine bQ (a':=?_) ?_ ?_
       rotate_left
       ·show Act.put _ (some 56) _=_
        simp only[apu_]
        rfl
       refine dN (i:=9) (N:=some 58) #[true,true,true,true,true,true,true,true,true,true,false,true,false] rfl rfl (ed HT_.out (by kernel_rfl)) (by decide) (fun K hK=>?_)
       refine dh Try.func57 (by kernel_rfl) rfl #[.slice A0_1 l0_1.length c0_1,.int .i64 t276,.agg #[.int .i64 t274,.int .i64 a1]] (by rfl) rfl rfl (by(try simp only[amp_]);first|done|rfl|(simp only[ald_];rfl)) ?_
       with_reducible refine(spec_l5Cut.calls _ _ l0_1 t276 t274 a1 t277 _ ?side1 ?side2 A40.out).mono ?_
       (case side1=>repeat(first|exact(Kd.aN HR0_1.out HB.out)|(with_reducible first|apply Kd.aY|apply Kd.aZ|apply Kd.bn)))
       (case side2=>exact HC0_1.out)
       rintro e w55 ⟨v278,rfl,ho0,hb⟩
       refine⟨_,rfl,?_⟩
       have n0_:=au (Kd.bz (Kd.dK ho0 (g:=gb275) (o:=.cells #[.int .i64 t274,.int .i64 a1] 35 (0,0)) (by(with_reducible repeat(first|apply ag|apply aj|apply af));exact BK275.out)) (az (by with_reducible repeat(first|exact HB.out|apply ah|apply aa|apply ai|refine ae ?_ GE268.out|refine ae ?_ GE269.out|refine ae ?_ GE275.out|refine ae ?_ GE287.out))))
       have n1_:=au (ay (g:=gb268) (o:=.cells #[.int .i64 a0_0,.slice A0_1 l0_1.length c0_1,.slice A0_2 l0_2.length c0_2] 24 (0,0)) (by(with_reducible repeat(first|apply ag|apply aj|apply af));exact BK268.out) hb)
       have n2_:=au (ay (g:=gb269) (o:=.cells #[.int .i64 0,.slice none 0 0,.slice none 0 0] 24 (0,0)) (by(with_reducible repeat(first|apply ag|apply aj|apply af));exact BK269.out) hb)
       have n3_:=au (ay (g:=gb275) (o:=.cells #[.int .i64 t274,.int .i64 a1] 35 (0,0)) (by(with_reducible repeat(first|apply ag|apply aj|apply af));exact BK275.out) hb)
       have n4_:=au (ay (g:=gb287) (o:=.cells #[.int .i64 0,.slice none 0 0,.slice none 0 0] 24 (0,0)) (by(with_reducible repeat(first|apply ag|apply aj|apply af));exact BK287.out) hb)
       have n5_:=au (aA (by with_reducible repeat(first|exact HB.out|apply ah|apply aa|apply ai|refine ae ?_ GE268.out|refine ae ?_ GE269.out|refine ae ?_ GE275.out|refine ae ?_ GE287.out)) hb)
       clear BK268
       clear BK269
       clear BK275
       clear BK287
       clear HB
       have HO279:=n0_
       have BK268:=n1_
       have BK269:=n2_
       have BK275:=n3_
       have BK287:=n4_
       have HB:=n5_
       clear n0_ n1_ n2_ n3_ n4_ n5_
       (try clear hb)
       (try clear hb2)
       (try clear hk)
       (try clear hi)
       (try clear ho0)
       obtain⟨Ao56,co56,eo56⟩:=Kd.bq HO279.out
       (first|subst eo56|(injection eo56 with f1_ f2_ f3_;have f4_:=f1_.symm;have f5_:=f3_.symm;clear f1_ f2_ f3_;subst f4_;subst f5_))
       refine hK.out _ _ ⟨(ak BK268.out 0).trans rfl,(ak BK268.out 1).trans rfl,(ak BK268.out 2).trans rfl,(ak BK275.out 0).trans rfl,(ak BK275.out 1).trans rfl⟩ (fun hHeld=>?_)
       clear hK K
       refine bQ (a':=?_) ?_ ?_
       rotate_left
       ·show Act.put _ (some 58) _=_
        simp only[apu_]
        rfl
       refine dN (i:=10) (N:=some 59) #[true,true,true,true,true,true,true,true,true,true,true,true,false] rfl rfl (ed HT_.out (by kernel_rfl)) (by decide) (fun K hK=>?_)
       refine dh Try.func33 (by kernel_rfl) rfl #[.int .i64 a0_0,.slice Ao56 t277.length co56] (by rfl) rfl rfl (by(try simp only[amp_]);first|done|rfl|(simp only[ald_];rfl)) ?_
       with_reducible refine(spec_l5Of.calls kj4 a0_0 _ _ t277 t280 t281 t284 _ ?side1 ?side2 A41.out).mono ?_
       (case side1=>repeat(first|exact(Kd.R_reads' HO279.out).2.2|(with_reducible first|apply Kd.aY|apply Kd.aZ|apply Kd.bn)))
       (case side2=>exact(Kd.R_reads' HO279.out).2.1)
       rintro e w57 ⟨v282,v285,rfl,ho0,ho1,hb⟩
       refine⟨_,rfl,?_⟩
       have n0_:=au (Kd.aT (Kd.dX (Kd.dX (Kd.iN (by(with_reducible repeat(first|apply Kd.aD|apply Kd.aC|apply Kd.aI));exact HO279.out) hb) (Kd.dI ho0)) (Kd.dI ho1)) (fun _ h_=>h_.1))
       have n1_:=au (Kd.bz (Kd.dK (Kd.R_new' ho0 (Kd.fq (by(with_reducible repeat(first|apply Kd.aD|apply Kd.aC|apply Kd.aI));exact HO279.out))) (g:=gb275) (o:=.cells #[.int .i64 t274,.int .i64 a1] 35 (0,0)) (by(with_reducible repeat(first|apply ag|apply aj|apply af));exact BK275.out)) (az (by with_reducible repeat(first|exact HB.out|apply ah|apply aa|apply ai|refine ae ?_ GE268.out|refine ae ?_ GE269.out|refine ae ?_ GE275.out|refine ae ?_ GE287.out))))
       have n2_:=au (Kd.bz (Kd.dK (Kd.R_new' ho1 (Kd.fq (by(with_reducible repeat(first|apply Kd.aD|apply Kd.aC|apply Kd.aI));exact HO279.out))) (g:=gb275) (o:=.cells #[.int .i64 t274,.int .i64 a1] 35 (0,0)) (by(with_reducible repeat(first|apply ag|apply aj|apply af));exact BK275.out)) (az (by with_reducible repeat(first|exact HB.out|apply ah|apply aa|apply ai|refine ae ?_ GE268.out|refine ae ?_ GE269.out|refine ae ?_ GE275.out|refine ae ?_ GE287.out))))
       have n3_:=au (ay (g:=gb268) (o:=.cells #[.int .i64 a0_0,.slice A0_1 l0_1.length c0_1,.slice A0_2 l0_2.length c0_2] 24 (0,0)) (by(with_reducible repeat(first|apply ag|apply aj|apply af));exact BK268.out) hb)
       have n4_:=au (ay (g:=gb269) (o:=.cells #[.int .i64 0,.slice none 0 0,.slice none 0 0] 24 (0,0)) (by(with_reducible repeat(first|apply ag|apply aj|apply af));exact BK269.out) hb)
       have n5_:=au (ay (g:=gb275) (o:=.cells #[.int .i64 t274,.int .i64 a1] 35 (0,0)) (by(with_reducible repeat(first|apply ag|apply aj|apply af));exact BK275.out) hb)
       have n6_:=au (ay (g:=gb287) (o:=.cells #[.int .i64 0,.slice none 0 0,.slice none 0 0] 24 (0,0)) (by(with_reducible repeat(first|apply ag|apply aj|apply af));exact BK287.out) hb)
       have n7_:=au (aA (by with_reducible repeat(first|exact HB.out|apply ah|apply aa|apply ai|refine ae ?_ GE268.out|refine ae ?_ GE269.out|refine ae ?_ GE275.out|refine ae ?_ GE287.out)) hb)
       clear HO279
       clear BK268
       clear BK269
       clear BK275
       clear BK287
       clear HB
       have HO279:=n0_
       have HO283:=n1_
       have HO286:=n2_
       have BK268:=n3_
       have BK269:=n4_
       have BK275:=n5_
       have BK287:=n6_
       have HB:=n7_
       clear n0_ n1_ n2_ n3_ n4_ n5_ n6_ n7_
       (try clear hb)
       (try clear hb2)
       (try clear hk)
       (try clear hi)
       (try clear ho0)
       (try clear ho1)
       refine hK.out _ _ ⟨(ak BK268.out 0).trans rfl,(ak BK268.out 1).trans rfl,(ak BK268.out 2).trans rfl,(ak BK275.out 0).trans rfl,(ak BK275.out 1).trans rfl⟩ (fun hHeld=>?_)
       clear hK K
       refine bQ (a':=?_) ?_ ?_
       rotate_left
       ·show Act.put _ (some 59) _=_
        simp only[apu_]
        rfl
       exact bQ (by simp only[fC,Act.put,List.setIfInBounds_toArray,List.set_cons_zero,List.set_cons_succ]) (hCont (.slice Ao56 t277.length co56,v282,v285,gb287) _ ⟨hHeld,(by(with_reducible repeat(first|apply Kd.aD|apply Kd.aC|apply Kd.aI));exact Kd.aT HO279.out (fun _ hk=>⟨hk.1.2,⟨hk.2,hk.1.1.2⟩⟩)),(by(with_reducible repeat(first|apply Kd.aD|apply Kd.aC|apply Kd.aI));exact Kd.aT HO283.out (fun _ hk=>⟨hk.1.2,⟨hk.1.1,hk.2⟩⟩)),(by(with_reducible repeat(first|apply Kd.aD|apply Kd.aC|apply Kd.aI));exact Kd.aT HO286.out (fun _ hk=>⟨hk.1.2,⟨hk.1.1,hk.2⟩⟩)),(by(with_reducible repeat(first|apply ag|apply aj|apply af));exact BK268.out),(by(with_reducible repeat(first|apply ag|apply aj|apply af));exact BK269.out),(by(with_reducible repeat(first|apply ag|apply aj|apply af));exact BK275.out),(by(with_reducible repeat(first|apply ag|apply aj|apply af));exact BK287.out),GW287.out,GE287.out,NB268_287.out,NB287_268.out,NB269_287.out,NB287_269.out,NB275_287.out,NB287_275.out,(by with_reducible repeat(first|exact HB.out|apply ah|apply aa|apply ai|refine ae ?_ GE268.out|refine ae ?_ GE269.out|refine ae ?_ GE275.out|refine ae ?_ GE287.out))⟩)
     rintro⟨v278,v282,v285,gb287⟩ w58 ⟨hS_,h0_,h1_,h2_,h3_,h4_,h5_,h6_,h7_,h8_,h9_,h10_,h11_,h12_,h13_,h14_,h15_⟩
     have n0_:Aside0 (Kd.R k35 35 w58 w.heap.size (fun k_=>some k_≠(v282:Value).ownBlock∧some k_≠(v285:Value).ownBlock∧k_≠gb275) v278 t277):=⟨h0_⟩
     have n1_:Aside0 (Kd.R k35 35 w58 w.heap.size (fun k_=>some k_≠(v278:Value).ownBlock∧some k_≠(v285:Value).ownBlock∧k_≠gb275) v282 t281):=⟨h1_⟩
     have n2_:Aside0 (Kd.R k35 35 w58 w.heap.size (fun k_=>some k_≠(v278:Value).ownBlock∧some k_≠(v282:Value).ownBlock∧k_≠gb275) v285 t284):=⟨h2_⟩
     have n3_:Aside0 (w58.heap[gb268]? = some (.cells #[.int .i64 a0_0,.slice A0_1 l0_1.length c0_1,.slice A0_2 l0_2.length c0_2] 24 (0,0))):=⟨h3_⟩
     have n4_:Aside0 (w58.heap[gb269]? = some (.cells #[.int .i64 0,.slice none 0 0,.slice none 0 0] 24 (0,0))):=⟨h4_⟩
     have n5_:Aside0 (w58.heap[gb275]? = some (.cells #[.int .i64 t274,.int .i64 a1] 35 (0,0))):=⟨h5_⟩
     have n6_:Aside0 (w58.heap[gb287]? = some (.cells #[.int .i64 0,.slice none 0 0,.slice none 0 0] 24 (0,0))):=⟨h6_⟩
     have n7_:Aside0 (w.heap.size≤gb287):=⟨h7_⟩
     have n8_:Aside0 (w.heap.size≤gb287):=⟨h8_⟩
     have n9_:Aside0 (gb268≠gb287):=⟨h9_⟩
     have n10_:Aside0 (gb287≠gb268):=⟨h10_⟩
     have n11_:Aside0 (gb269≠gb287):=⟨h11_⟩
     have n12_:Aside0 (gb287≠gb269):=⟨h12_⟩
     have n13_:Aside0 (gb275≠gb287):=⟨h13_⟩
     have n14_:Aside0 (gb287≠gb275):=⟨h14_⟩
     have n15_:Aside0 (Below w.heap.size w w58):=⟨h15_⟩
     clear BK268
     clear BK269
     clear BK275
     clear HB
     clear h0_ h1_ h2_ h3_ h4_ h5_ h6_ h7_ h8_ h9_ h10_ h11_ h12_ h13_ h14_ h15_
     have HO279:=n0_
     have HO283:=n1_
     have HO286:=n2_
     have BK268:=n3_
     have BK269:=n4_
     have BK275:=n5_
     have BK287:=n6_
     have GW287:=n7_
     have GE287:=n8_
     have NB268_287:=n9_
     have NB287_268:=n10_
     have NB269_287:=n11_
     have NB287_269:=n12_
     have NB275_287:=n13_
     have NB287_275:=n14_
     have HB:=n15_
     clear n0_ n1_ n2_ n3_ n4_ n5_ n6_ n7_ n8_ n9_ n10_ n11_ n12_ n13_ n14_ n15_
     have hHeld:w58.cell? ⟨gb268,0,none⟩=some (.int .i64 a0_0)∧w58.cell? ⟨gb268,1,none⟩=some (.slice A0_1 l0_1.length c0_1)∧w58.cell? ⟨gb268,2,none⟩=some (.slice A0_2 l0_2.length c0_2)∧w58.cell? ⟨gb275,0,none⟩=some (.int .i64 t274)∧w58.cell? ⟨gb275,1,none⟩=some (.int .i64 a1):=hS_
     obtain⟨Ao60,co60,eo60⟩:=Kd.bq HO283.out
     (first|subst eo60|(injection eo60 with f1_ f2_ f3_;have f4_:=f1_.symm;have f5_:=f3_.symm;clear f1_ f2_ f3_;subst f4_;subst f5_))
     obtain⟨Ao62,co62,eo62⟩:=Kd.bq HO286.out
     (first|subst eo62|(injection eo62 with f1_ f2_ f3_;have f4_:=f1_.symm;have f5_:=f3_.symm;clear f1_ f2_ f3_;subst f4_;subst f5_))
     refine bQ (a':=?_) ?_ ?_
     rotate_left
     ·simp only[fC,Act.put,List.setIfInBounds_toArray,List.set_cons_zero,List.set_cons_succ]
      rfl
     refine dN (i:=12) (N:=none) #[true,true,true,true,true,true,true,true,true,true,true,true,true] rfl rfl (ed HT_.out (by kernel_rfl)) (by decide) (fun K hK=>?_)
     have hs59:w58.cell? ⟨gb287,0,none⟩=some (.int .i64 0):=(ak BK287.out 0).trans rfl
     have hfs59:=av BK287.out 0
     have hns59_0:=NB268_287.out
     have hns59_1:=NB269_287.out
     have hns59_2:=NB275_287.out
     have hms59_0:=NB287_268.out
     have hms59_1:=NB287_269.out
     have hms59_2:=NB287_275.out
     have hs61:w58.cell? ⟨gb287,1,none⟩=some (.slice none 0 0):=(ak BK287.out 1).trans rfl
     have hfs61:=av BK287.out 1
     have hns61_0:=NB268_287.out
     have hns61_1:=NB269_287.out
     have hns61_2:=NB275_287.out
     have hms61_0:=NB287_268.out
     have hms61_1:=NB287_269.out
     have hms61_2:=NB287_275.out
     have hs63:w58.cell? ⟨gb287,2,none⟩=some (.slice none 0 0):=(ak BK287.out 2).trans rfl
     have hfs63:=av BK287.out 2
     have hns63_0:=NB268_287.out
     have hns63_1:=NB269_287.out
     have hns63_2:=NB275_287.out
     have hms63_0:=NB287_268.out
     have hms63_1:=NB287_269.out
     have hms63_2:=NB287_275.out
     refine jb (w1:=?_) (by rfl) rfl ?_ ?_
     rotate_left
     ·go_simp
      rfl
     refine hK.out _ _ ⟨((cell_far (p:=⟨gb287,_,none⟩) NB268_287.out _).trans (((cell_far (p:=⟨gb287,_,none⟩) NB268_287.out _).trans (((cell_far (p:=⟨gb287,_,none⟩) NB268_287.out _).trans (hHeld.1)))))),((cell_far (p:=⟨gb287,_,none⟩) NB268_287.out _).trans (((cell_far (p:=⟨gb287,_,none⟩) NB268_287.out _).trans (((cell_far (p:=⟨gb287,_,none⟩) NB268_287.out _).trans (hHeld.2.1)))))),((cell_far (p:=⟨gb287,_,none⟩) NB268_287.out _).trans (((cell_far (p:=⟨gb287,_,none⟩) NB268_287.out _).trans (((cell_far (p:=⟨gb287,_,none⟩) NB268_287.out _).trans (hHeld.2.2.1)))))),((cell_far (p:=⟨gb287,_,none⟩) NB275_287.out _).trans (((cell_far (p:=⟨gb287,_,none⟩) NB275_287.out _).trans (((cell_far (p:=⟨gb287,_,none⟩) NB275_287.out _).trans (hHeld.2.2.2.1)))))),((cell_far (p:=⟨gb287,_,none⟩) NB275_287.out _).trans (((cell_far (p:=⟨gb287,_,none⟩) NB275_287.out _).trans (((cell_far (p:=⟨gb287,_,none⟩) NB275_287.out _).trans (hHeld.2.2.2.2))))))⟩ (fun hHeld=>?_)
     clear hK K
     refine fo (gZ HT_.out (by kernel_rfl)) ?_
     have hnb64:=NB287_268.out
     have hnc64:=NB268_287.out
     have hnb65:=NB287_269.out
     have hnc65:=NB269_287.out
     have hnb66:=NB287_275.out
     have hnc66:=NB275_287.out
     have hcz67_0:w58.cell? ⟨gb287,0,none⟩=some (.int .i64 0):=(ak BK287.out 0).trans rfl
     have hcz67_1:w58.cell? ⟨gb287,1,none⟩=some (.slice none 0 0):=(ak BK287.out 1).trans rfl
     have hcz67_2:w58.cell? ⟨gb287,2,none⟩=some (.slice none 0 0):=(ak BK287.out 2).trans rfl
     have hfz67_0:=av BK287.out 0
     have hfz67_1:=av BK287.out 1
     have hfz67_2:=av BK287.out 2
     have H:=HQ335.out
     clear HQ335
     by_cases c43:t288=true
     ·subst c43
      have H1:(some (t280,t281,t284,t274,true))=some (r1,r2,r3,r4,r5):=by rw[if_pos rfl] at H;exact H
      clear H
      have H:=H1
      clear H1
      simp only[Option.some.injEq,Prod.mk.injEq] at H
      obtain⟨rfl,rfl,rfl,rfl,rfl⟩:=H
      try go_wp2_with (first|((with_reducible refine aW (f:=25) rfl ?_);refine bO (some 61) rfl rfl Try.func25 (by kernel_rfl) rfl #[.agg #[.int .i64 t280,.slice Ao60 t281.length co60,.slice Ao62 t284.length co62]] rfl (by(try simp only[amp_]);first|done|rfl|(simp only[ald_];rfl)) ?_;(with_reducible refine(spec_GoodFree.calls kj4 t280 _ _ t281 _ _ t284 true _ ?side1 ?side2 ?side3 ?side4 A42.out).mono ?_);(case side1=>refine(Kd.R_reads' (e:=35) (base:=w.heap.size) (ok:=fun k_=>(some k_≠(v278:Value).ownBlock∧(some k_≠(.slice Ao62 t284.length co62:Value).ownBlock∧k_≠gb275))) (n:=t281.length) (c:=co60) ?_).2.2;exact(by(with_reducible repeat(first|apply Kd.aD|apply Kd.aC|apply Kd.aI));exact(Kd.aT (Kd.aV (p:=⟨gb287,2,none⟩) (Kd.aV (p:=⟨gb287,1,none⟩) (Kd.aV (p:=⟨gb287,0,none⟩) (Kd.bK HO283.out BK287.out (by decide)) (fun _ hk=>hk.2) (.int .i64 t280)) (fun _ hk=>hk.2) (.slice Ao60 t281.length co60)) (fun _ hk=>hk.2) (.slice Ao62 t284.length co62)) (fun _ h_=>h_.1))));(case side2=>exact(Kd.R_reads' HO283.out).2.1);(case side3=>refine(Kd.R_reads' (e:=35) (base:=w.heap.size) (ok:=fun k_=>(some k_≠(v278:Value).ownBlock∧(some k_≠(.slice Ao60 t281.length co60:Value).ownBlock∧k_≠gb275))) (n:=t284.length) (c:=co62) ?_).2.2;exact(by(with_reducible repeat(first|apply Kd.aD|apply Kd.aC|apply Kd.aI));exact(Kd.aT (Kd.aV (p:=⟨gb287,2,none⟩) (Kd.aV (p:=⟨gb287,1,none⟩) (Kd.aV (p:=⟨gb287,0,none⟩) (Kd.bK HO286.out BK287.out (by decide)) (fun _ hk=>hk.2) (.int .i64 t280)) (fun _ hk=>hk.2) (.slice Ao60 t281.length co60)) (fun _ hk=>hk.2) (.slice Ao62 t284.length co62)) (fun _ h_=>h_.1))));(case side4=>exact(Kd.R_reads' HO286.out).2.1);rintro e w68 ⟨rfl,hb⟩;refine⟨_,rfl,?_⟩;replace HO279:=au (Kd.bi (by(with_reducible repeat(first|apply Kd.aD|apply Kd.aC|apply Kd.aI));exact(Kd.aT (Kd.aV (p:=⟨gb287,2,none⟩) (Kd.aV (p:=⟨gb287,1,none⟩) (Kd.aV (p:=⟨gb287,0,none⟩) (Kd.bK HO279.out BK287.out (by decide)) (fun _ hk=>hk.2) (.int .i64 t280)) (fun _ hk=>hk.2) (.slice Ao60 t281.length co60)) (fun _ hk=>hk.2) (.slice Ao62 t284.length co62)) (fun _ h_=>h_.1))) hb);replace HO283:=au (Kd.bi (by(with_reducible repeat(first|apply Kd.aD|apply Kd.aC|apply Kd.aI));exact(Kd.aT (Kd.aV (p:=⟨gb287,2,none⟩) (Kd.aV (p:=⟨gb287,1,none⟩) (Kd.aV (p:=⟨gb287,0,none⟩) (Kd.bK HO283.out BK287.out (by decide)) (fun _ hk=>hk.2) (.int .i64 t280)) (fun _ hk=>hk.2) (.slice Ao60 t281.length co60)) (fun _ hk=>hk.2) (.slice Ao62 t284.length co62)) (fun _ h_=>h_.1))) hb);replace HO286:=au (Kd.bi (by(with_reducible repeat(first|apply Kd.aD|apply Kd.aC|apply Kd.aI));exact(Kd.aT (Kd.aV (p:=⟨gb287,2,none⟩) (Kd.aV (p:=⟨gb287,1,none⟩) (Kd.aV (p:=⟨gb287,0,none⟩) (Kd.bK HO286.out BK287.out (by decide)) (fun _ hk=>hk.2) (.int .i64 t280)) (fun _ hk=>hk.2) (.slice Ao60 t281.length co60)) (fun _ hk=>hk.2) (.slice Ao62 t284.length co62)) (fun _ h_=>h_.1))) hb);replace BK268:=au (ay (g:=gb268) (o:=.cells #[.int .i64 a0_0,.slice A0_1 l0_1.length c0_1,.slice A0_2 l0_2.length c0_2] 24 (0,0)) (by(with_reducible repeat(first|apply ag|apply aj|apply af));refine aG ?_ NB268_287.out _;(with_reducible repeat(first|apply ag|apply aj|apply af));refine aG ?_ NB268_287.out _;(with_reducible repeat(first|apply ag|apply aj|apply af));refine aG ?_ NB268_287.out _;(with_reducible repeat(first|apply ag|apply aj|apply af));exact BK268.out) hb);replace BK269:=au (ay (g:=gb269) (o:=.cells #[.int .i64 0,.slice none 0 0,.slice none 0 0] 24 (0,0)) (by(with_reducible repeat(first|apply ag|apply aj|apply af));refine aG ?_ NB269_287.out _;(with_reducible repeat(first|apply ag|apply aj|apply af));refine aG ?_ NB269_287.out _;(with_reducible repeat(first|apply ag|apply aj|apply af));refine aG ?_ NB269_287.out _;(with_reducible repeat(first|apply ag|apply aj|apply af));exact BK269.out) hb);replace BK275:=au (ay (g:=gb275) (o:=.cells #[.int .i64 t274,.int .i64 a1] 35 (0,0)) (by(with_reducible repeat(first|apply ag|apply aj|apply af));refine aG ?_ NB275_287.out _;(with_reducible repeat(first|apply ag|apply aj|apply af));refine aG ?_ NB275_287.out _;(with_reducible repeat(first|apply ag|apply aj|apply af));refine aG ?_ NB275_287.out _;(with_reducible repeat(first|apply ag|apply aj|apply af));exact BK275.out) hb);replace BK287:=au (ay (g:=gb287) (o:=.cells #[.int .i64 t280,.slice Ao60 t281.length co60,.slice Ao62 t284.length co62] 24 (0,0)) (by(with_reducible repeat(first|apply ag|apply aj|apply af));refine aK (cs:=#[.int .i64 t280,.slice Ao60 t281.length co60,.slice none 0 0]) ?_ 2 _ rfl;(with_reducible repeat(first|apply ag|apply aj|apply af));refine aK (cs:=#[.int .i64 t280,.slice none 0 0,.slice none 0 0]) ?_ 1 _ rfl;(with_reducible repeat(first|apply ag|apply aj|apply af));refine aK (cs:=#[.int .i64 0,.slice none 0 0,.slice none 0 0]) ?_ 0 _ rfl;(with_reducible repeat(first|apply ag|apply aj|apply af));exact BK287.out) hb);replace HB:=au (aA (by with_reducible repeat(first|exact HB.out|apply ah|apply aa|apply ai|refine ae ?_ GE268.out|refine ae ?_ GE269.out|refine ae ?_ GE275.out|refine ae ?_ GE287.out)) hb);(try clear hb);(try clear hb2);(try clear hk);(try clear hi);have hcz69_0:w68.cell? ⟨gb287,0,none⟩=some (.int .i64 t280):=(ak BK287.out 0).trans rfl;have hcz69_1:w68.cell? ⟨gb287,1,none⟩=some (.slice Ao60 t281.length co60):=(ak BK287.out 1).trans rfl;have hcz69_2:w68.cell? ⟨gb287,2,none⟩=some (.slice Ao62 t284.length co62):=(ak BK287.out 2).trans rfl;have hfz69_0:=av BK287.out 0;have hfz69_1:=av BK287.out 1;have hfz69_2:=av BK287.out 2;have hcz70_0:w68.cell? ⟨gb269,0,none⟩=some (.int .i64 0):=(ak BK269.out 0).trans rfl;have hcz70_1:w68.cell? ⟨gb269,1,none⟩=some (.slice none 0 0):=(ak BK269.out 1).trans rfl;have hcz70_2:w68.cell? ⟨gb269,2,none⟩=some (.slice none 0 0):=(ak BK269.out 2).trans rfl;have hfz70_0:=av BK269.out 0;have hfz70_1:=av BK269.out 1;have hfz70_2:=av BK269.out 2))
      refine bodyPost_ret (gL rfl _ _ gb269 24 #[.int .i64 t280,.slice Ao60 t281.length co60,.slice Ao62 t284.length co62] (0,0) _ rfl (by(with_reducible repeat(first|apply ag|apply aj|apply af));refine aK (cs:=#[.int .i64 t280,.slice Ao60 t281.length co60,.slice none 0 0]) ?_ 2 _ rfl;(with_reducible repeat(first|apply ag|apply aj|apply af));refine aK (cs:=#[.int .i64 t280,.slice none 0 0,.slice none 0 0]) ?_ 1 _ rfl;(with_reducible repeat(first|apply ag|apply aj|apply af));refine aK (cs:=#[.int .i64 0,.slice none 0 0,.slice none 0 0]) ?_ 0 _ rfl;(with_reducible repeat(first|apply ag|apply aj|apply af));exact BK269.out) Try.underlying24 rfl (by kernel_rfl)) rfl ?_
      exact⟨_,_,by first|rfl|(simp <;> rfl)|(simp[*] <;> rfl),by(with_reducible repeat(first|apply Kd.aD|apply Kd.aC|apply Kd.aI));exact Kd.aT (Kd.aV (p:=⟨gb269,2,none⟩) (Kd.aV (p:=⟨gb269,1,none⟩) (Kd.aV (p:=⟨gb269,0,none⟩) (Kd.bK HO283.out BK269.out (by decide)) (fun _ hk=>hk.2) (.int .i64 t280)) (fun _ hk=>hk.2) (.slice Ao60 t281.length co60)) (fun _ hk=>hk.2) (.slice Ao62 t284.length co62)) (fun _ hk=>hk.1.2.1),by(with_reducible repeat(first|apply Kd.aD|apply Kd.aC|apply Kd.aI));exact Kd.aT (Kd.aV (p:=⟨gb269,2,none⟩) (Kd.aV (p:=⟨gb269,1,none⟩) (Kd.aV (p:=⟨gb269,0,none⟩) (Kd.bK HO286.out BK269.out (by decide)) (fun _ hk=>hk.2) (.int .i64 t280)) (fun _ hk=>hk.2) (.slice Ao60 t281.length co60)) (fun _ hk=>hk.2) (.slice Ao62 t284.length co62)) (fun _ hk=>hk.1.2.1),by with_reducible repeat(first|exact HB.out|apply ah|apply aa|apply ai|refine ae ?_ GE268.out|refine ae ?_ GE269.out|refine ae ?_ GE275.out|refine ae ?_ GE287.out)⟩
     ·replace c43:=Bool.eq_false_iff.mpr c43
      subst c43
      have H1:(some (0,([]:List (S35)),([]:List (S35)),0,false))=some (r1,r2,r3,r4,r5):=by rw[if_neg (show ¬ (false=true) by decide)] at H;exact H
      clear H
      have H:=H1
      clear H1
      simp only[Option.some.injEq,Prod.mk.injEq] at H
      obtain⟨rfl,rfl,rfl,rfl,rfl⟩:=H
      try go_wp2_with (first|((with_reducible refine aW (f:=25) rfl ?_);refine bO (some 61) rfl rfl Try.func25 (by kernel_rfl) rfl #[.agg #[.int .i64 t280,.slice Ao60 t281.length co60,.slice Ao62 t284.length co62]] rfl (by(try simp only[amp_]);first|done|rfl|(simp only[ald_];rfl)) ?_;(with_reducible refine(spec_GoodFree.calls kj4 t280 _ _ t281 _ _ t284 false _ ?side1 ?side2 ?side3 ?side4 A42.out).mono ?_);(case side1=>refine(Kd.R_reads' (e:=35) (base:=w.heap.size) (ok:=fun k_=>(some k_≠(v278:Value).ownBlock∧(some k_≠(.slice Ao62 t284.length co62:Value).ownBlock∧k_≠gb275))) (n:=t281.length) (c:=co60) ?_).2.2;exact(by(with_reducible repeat(first|apply Kd.aD|apply Kd.aC|apply Kd.aI));exact(Kd.aT (Kd.aV (p:=⟨gb287,2,none⟩) (Kd.aV (p:=⟨gb287,1,none⟩) (Kd.aV (p:=⟨gb287,0,none⟩) (Kd.bK HO283.out BK287.out (by decide)) (fun _ hk=>hk.2) (.int .i64 t280)) (fun _ hk=>hk.2) (.slice Ao60 t281.length co60)) (fun _ hk=>hk.2) (.slice Ao62 t284.length co62)) (fun _ h_=>h_.1))));(case side2=>exact(Kd.R_reads' HO283.out).2.1);(case side3=>refine(Kd.R_reads' (e:=35) (base:=w.heap.size) (ok:=fun k_=>(some k_≠(v278:Value).ownBlock∧(some k_≠(.slice Ao60 t281.length co60:Value).ownBlock∧k_≠gb275))) (n:=t284.length) (c:=co62) ?_).2.2;exact(by(with_reducible repeat(first|apply Kd.aD|apply Kd.aC|apply Kd.aI));exact(Kd.aT (Kd.aV (p:=⟨gb287,2,none⟩) (Kd.aV (p:=⟨gb287,1,none⟩) (Kd.aV (p:=⟨gb287,0,none⟩) (Kd.bK HO286.out BK287.out (by decide)) (fun _ hk=>hk.2) (.int .i64 t280)) (fun _ hk=>hk.2) (.slice Ao60 t281.length co60)) (fun _ hk=>hk.2) (.slice Ao62 t284.length co62)) (fun _ h_=>h_.1))));(case side4=>exact(Kd.R_reads' HO286.out).2.1);rintro e w95 ⟨rfl,hb⟩;refine⟨_,rfl,?_⟩;replace HO279:=au (Kd.bi (by(with_reducible repeat(first|apply Kd.aD|apply Kd.aC|apply Kd.aI));exact(Kd.aT (Kd.aV (p:=⟨gb287,2,none⟩) (Kd.aV (p:=⟨gb287,1,none⟩) (Kd.aV (p:=⟨gb287,0,none⟩) (Kd.bK HO279.out BK287.out (by decide)) (fun _ hk=>hk.2) (.int .i64 t280)) (fun _ hk=>hk.2) (.slice Ao60 t281.length co60)) (fun _ hk=>hk.2) (.slice Ao62 t284.length co62)) (fun _ h_=>h_.1))) hb);replace HO283:=au (Kd.bi (by(with_reducible repeat(first|apply Kd.aD|apply Kd.aC|apply Kd.aI));exact(Kd.aT (Kd.aV (p:=⟨gb287,2,none⟩) (Kd.aV (p:=⟨gb287,1,none⟩) (Kd.aV (p:=⟨gb287,0,none⟩) (Kd.bK HO283.out BK287.out (by decide)) (fun _ hk=>hk.2) (.int .i64 t280)) (fun _ hk=>hk.2) (.slice Ao60 t281.length co60)) (fun _ hk=>hk.2) (.slice Ao62 t284.length co62)) (fun _ h_=>h_.1))) hb);replace HO286:=au (Kd.bi (by(with_reducible repeat(first|apply Kd.aD|apply Kd.aC|apply Kd.aI));exact(Kd.aT (Kd.aV (p:=⟨gb287,2,none⟩) (Kd.aV (p:=⟨gb287,1,none⟩) (Kd.aV (p:=⟨gb287,0,none⟩) (Kd.bK HO286.out BK287.out (by decide)) (fun _ hk=>hk.2) (.int .i64 t280)) (fun _ hk=>hk.2) (.slice Ao60 t281.length co60)) (fun _ hk=>hk.2) (.slice Ao62 t284.length co62)) (fun _ h_=>h_.1))) hb);replace BK268:=au (ay (g:=gb268) (o:=.cells #[.int .i64 a0_0,.slice A0_1 l0_1.length c0_1,.slice A0_2 l0_2.length c0_2] 24 (0,0)) (by(with_reducible repeat(first|apply ag|apply aj|apply af));refine aG ?_ NB268_287.out _;(with_reducible repeat(first|apply ag|apply aj|apply af));refine aG ?_ NB268_287.out _;(with_reducible repeat(first|apply ag|apply aj|apply af));refine aG ?_ NB268_287.out _;(with_reducible repeat(first|apply ag|apply aj|apply af));exact BK268.out) hb);replace BK269:=au (ay (g:=gb269) (o:=.cells #[.int .i64 0,.slice none 0 0,.slice none 0 0] 24 (0,0)) (by(with_reducible repeat(first|apply ag|apply aj|apply af));refine aG ?_ NB269_287.out _;(with_reducible repeat(first|apply ag|apply aj|apply af));refine aG ?_ NB269_287.out _;(with_reducible repeat(first|apply ag|apply aj|apply af));refine aG ?_ NB269_287.out _;(with_reducible repeat(first|apply ag|apply aj|apply af));exact BK269.out) hb);replace BK275:=au (ay (g:=gb275) (o:=.cells #[.int .i64 t274,.int .i64 a1] 35 (0,0)) (by(with_reducible repeat(first|apply ag|apply aj|apply af));refine aG ?_ NB275_287.out _;(with_reducible repeat(first|apply ag|apply aj|apply af));refine aG ?_ NB275_287.out _;(with_reducible repeat(first|apply ag|apply aj|apply af));refine aG ?_ NB275_287.out _;(with_reducible repeat(first|apply ag|apply aj|apply af));exact BK275.out) hb);replace BK287:=au (ay (g:=gb287) (o:=.cells #[.int .i64 t280,.slice Ao60 t281.length co60,.slice Ao62 t284.length co62] 24 (0,0)) (by(with_reducible repeat(first|apply ag|apply aj|apply af));refine aK (cs:=#[.int .i64 t280,.slice Ao60 t281.length co60,.slice none 0 0]) ?_ 2 _ rfl;(with_reducible repeat(first|apply ag|apply aj|apply af));refine aK (cs:=#[.int .i64 t280,.slice none 0 0,.slice none 0 0]) ?_ 1 _ rfl;(with_reducible repeat(first|apply ag|apply aj|apply af));refine aK (cs:=#[.int .i64 0,.slice none 0 0,.slice none 0 0]) ?_ 0 _ rfl;(with_reducible repeat(first|apply ag|apply aj|apply af));exact BK287.out) hb);replace HB:=au (aA (by with_reducible repeat(first|exact HB.out|apply ah|apply aa|apply ai|refine ae ?_ GE268.out|refine ae ?_ GE269.out|refine ae ?_ GE275.out|refine ae ?_ GE287.out)) hb);(try clear hb);(try clear hb2);(try clear hk);(try clear hi);have hcz96_0:w95.cell? ⟨gb269,0,none⟩=some (.int .i64 0):=(ak BK269.out 0).trans rfl;have hcz96_1:w95.cell? ⟨gb269,1,none⟩=some (.slice none 0 0):=(ak BK269.out 1).trans rfl;have hcz96_2:w95.cell? ⟨gb269,2,none⟩=some (.slice none 0 0):=(ak BK269.out 2).trans rfl;have hfz96_0:=av BK269.out 0;have hfz96_1:=av BK269.out 1;have hfz96_2:=av BK269.out 2))
      refine bodyPost_ret (gL rfl _ _ gb269 24 #[.int .i64 0,.slice none 0 0,.slice none 0 0] (0,0) _ rfl (by(with_reducible repeat(first|apply ag|apply aj|apply af));refine aK (cs:=#[.int .i64 0,.slice none 0 0,.slice none 0 0]) ?_ 2 _ rfl;(with_reducible repeat(first|apply ag|apply aj|apply af));refine aK (cs:=#[.int .i64 0,.slice none 0 0,.slice none 0 0]) ?_ 1 _ rfl;(with_reducible repeat(first|apply ag|apply aj|apply af));refine aK (cs:=#[.int .i64 0,.slice none 0 0,.slice none 0 0]) ?_ 0 _ rfl;(with_reducible repeat(first|apply ag|apply aj|apply af));exact BK269.out) Try.underlying24 rfl (by kernel_rfl)) rfl ?_
      exact⟨_,_,by first|rfl|(simp <;> rfl)|(simp[*] <;> rfl),by first|exact Kd.dn _ _ _ _ _|exact Kd.dU _ _ _ _ _|exact Kd.dQ _ _ _ _ _|exact Kd.dR _ _ _ _ _|exact Kd.dS _ _ _ _ _,by first|exact Kd.dn _ _ _ _ _|exact Kd.dU _ _ _ _ _|exact Kd.dQ _ _ _ _ _|exact Kd.dR _ _ _ _ _|exact Kd.dS _ _ _ _ _,by with_reducible repeat(first|exact HB.out|apply ah|apply aa|apply ai|refine ae ?_ GE268.out|refine ae ?_ GE269.out|refine ae ?_ GE275.out|refine ae ?_ GE287.out)⟩
attribute [local go_sem] bG bH bS bT bB bA bJ bI
set_option linter.unusedVariables false
set_option linter.unusedSimpArgs false
def impl_TakeRoom.j0:Nat→Int→Int→Int→Bool→Int→List (S35)→List (S35)→Option (Int×(List (S35))×(List (S35))×Int×Bool)
 | 0,_,_,_,_,_,_,_=>none
 | k+1,x1,x2,x3,x36,x483000,x483001,x483002=>if x36=true then (some (0,([]:List (S35)),([]:List (S35)),0,false)) else ((impl_Free_placeFor.f x483000 x483001 x483002 x1 x2 x3).bind fun bt488=>(if bt488.2=true then ((impl_Free_changed.f x483000 x483001 x483002 bt488.1 x1 false).bind fun bt490=>(if bt490.2.2.2=true then (some (bt490.1,bt490.2.1,bt490.2.2.1,bt488.1,true)) else (some (0,([]:List (S35)),([]:List (S35)),0,false)))) else (some (0,([]:List (S35)),([]:List (S35)),0,false))))
def impl_TakeRoom.f (k:Nat) (a0_0:Int) (l0_1:List (S35)) (l0_2:List (S35)) (a1:Int) (a2:Int) (a3:Int):Option (Int×(List (S35))×(List (S35))×Int×Bool):=(impl_GoodFree.f a0_0 l0_1 l0_2).bind fun t484=>(if t484=true then ((impl_within.f a1 1 a0_0).bind fun t485=>(if t485=true then ((impl_within.f a2 1 4).bind fun t486=>(if t486=true then ((impl_within.f a3 0 (wrap64 (a0_0 - 1))).bind fun t487=>(impl_TakeRoom.j0 k a1 a2 a3 (!t487) a0_0 l0_1 l0_2)) else (impl_TakeRoom.j0 k a1 a2 a3 true a0_0 l0_1 l0_2))) else (impl_TakeRoom.j0 k a1 a2 a3 true a0_0 l0_1 l0_2))) else (impl_TakeRoom.j0 k a1 a2 a3 true a0_0 l0_1 l0_2))
open Go.RowKit Go.Proofs.YtelblhkbogljnaaW.PrintWords Go.Proofs.YtelblhkbogljnaaW.PrintLast Go.Proofs.YtelblhkbogljnaaW.PrintMore Go.Proofs.Ytelblhkbogljnaa.E
def eT (long:Int):List EX→Int×Bool
  | []=>(0,false)
  | x::r=>if x.f1≥long then (x.f0,true) else eT long r
theorem iV (long : Int) : ∀ (l : List EX) (i : Int), 0 ≤ i → fM long l i = if fM long l 0 < 0 then -1 else i + fM long l 0
  | [],i,_=>rfl
  | x :: r, i, h => by
    rw[fM,fM]
    by_cases c:x.f1≥long
    · rw[if_pos c,if_pos c,if_neg (by omega)];omega
    · rw[if_neg c,if_neg c,iV long r (i+1) (by omega),iV long r (0+1) (by omega)]
      rcases ku long r 0 (Int.le_refl _) with e|⟨e1,e2⟩
      · simp only[show fM long r 0<0 by omega,if_true]
        rfl
      · rw[if_neg (show ¬ fM long r 0<0 by omega),if_neg (show ¬ fM long r 0<0 by omega),if_neg (by omega)];omega
theorem mE (long : Int) : ∀ l : List EX, (if fM long l 0 < 0 then ((0 : Int), false) else ((ax l (fM long l 0)).f0, true)) = eT long l
  | []=>rfl
  | x :: r => by
    have ih:=mE long r
    rw[eT,fM]
    by_cases c:x.f1≥long
    · rw[if_pos c,if_pos c,if_neg (by omega)];rfl
    · rw [if_neg c, if_neg c, iV long r (0 + 1) (by omega), ← ih]
      rcases ku long r 0 (Int.le_refl _) with e|⟨e1,e2⟩
      · rw[if_pos (show fM long r 0<0 by omega),if_pos (by omega),if_pos (show fM long r 0<0 by omega)]
      · rw[if_neg (show ¬ fM long r 0<0 by omega),if_neg (by omega),if_neg (by omega)]
        have er:ax (x::r) (0+1+fM long r 0)=ax r (fM long r 0):=by
          rw[ic,ic,show(0+1+fM long r 0).toNat = (fM long r 0).toNat+1 by omega]
          rfl
        rw[er]
theorem lV (long:Int):∀ l:List EX,(eT long l).2=true→∃ o∈l,o.f1≥long∧(eT long l).1=o.f0
  | [],h=>by cases h
  | x :: r, h => by
    rw[eT] at h ⊢
    by_cases c:x.f1≥long
    · rw[if_pos c] at h ⊢;exact⟨x,List.mem_cons_self ..,c,rfl⟩
    · rw[if_neg c] at h ⊢
      obtain⟨o,ho,h1,h2⟩:=lV long r h
      exact⟨o,List.mem_cons_of_mem _ ho,h1,h2⟩
def ou (p:Int×Bool):Int:=if p.2=true then p.1 else -1
section
variable {B:Int} {P S:List EX}
theorem qa (long:Int) (hP:P.length≤60):∀ (f i:Nat),i+f=P.length→Ev (fun k=>spec_l5Pick.l0 k long (-1) P (P.length:Int) (i:Int)) (ou (eT long (P.drop i))):=by
  intro f
  induction f with
  | zero=>
    intro i hi
    refine Ev.step (fun _=>spec_l5Pick.l0.eq_2 ..) (bE (by omega) (bP ?_))
    rw[List.drop_of_length_le (by omega)];rfl
  | succ f ih=>
    intro i hi
    have hil:i<P.length:=by omega
    refine Ev.step (fun _=>spec_l5Pick.l0.eq_2 ..) (aX (by omega) (aX (by omega) (aX (by omega) ?_)))
    rw[fE hil,gQ hil,eT]
    by_cases c:P[i].f1≥long
    · exact aX c (bP (by rw[if_pos c];rfl))
    · refine bE c ?_
      rw[if_neg c,w64 (x:=(i:Int)+1) (by omega) (by omega),show(i:Int)+1 = ((i+1:Nat):Int) by omega]
      exact ih (i+1) (by omega)
theorem o9 (long:Int) (hP:P.length≤60):∀ (f i:Nat),i+f=P.length→Ev (fun k=>spec_l5Pick.l1 k long (-1) P (P.length:Int) (i:Int)) (ou (eT long (P.drop i))):=by
  intro f
  induction f with
  | zero=>
    intro i hi
    refine Ev.step (fun _=>spec_l5Pick.l1.eq_2 ..) (bE (by omega) (bP ?_))
    rw[List.drop_of_length_le (by omega)];rfl
  | succ f ih=>
    intro i hi
    have hil:i<P.length:=by omega
    refine Ev.step (fun _=>spec_l5Pick.l1.eq_2 ..) (aX (by omega) (aX (by omega) (aX (by omega) ?_)))
    rw[fE hil,gQ hil,eT]
    by_cases c:P[i].f1≥long
    · exact aX c (bP (by rw[if_pos c];rfl))
    · refine bE c ?_
      rw[if_neg c,w64 (x:=(i:Int)+1) (by omega) (by omega),show(i:Int)+1 = ((i+1:Nat):Int) by omega]
      exact ih (i+1) (by omega)
theorem jf (a b:Int):(0≤a - b→gD a b=a - b)∧(a - b≤0→gD a b=b - a):=by
  unfold gD
  constructor
  · intro h;split <;> omega
  · intro h;split <;> omega
theorem gT (a b:Int) (ha:0≤a∧a≤1000) (hb:0≤b∧b≤1000):spec_l5Gap.f a b=some (gD a b):=by
  have h:=jf a b
  unfold spec_l5Gap.f
  by_cases c:a<b
  · rw[if_pos c,w64 (by omega) (by omega),h.2 (by omega)]
  · rw[if_neg c,w64 (by omega) (by omega),h.1 (by omega)]
theorem iZ {long near:Int} {x:EX} (hr:x.f1≥long):x.f0≤df long near x∧df long near x≤x.f0+x.f1 - long∧(df long near x<near→df long near x=x.f0+x.f1 - long)∧(near<df long near x→df long near x=x.f0):=by
  unfold df
  by_cases c:near<x.f0
  · rw[if_pos c,if_neg (by omega)];omega
  · rw[if_neg c]
    by_cases d:x.f0+x.f1 - long<near
    · rw[if_pos d];omega
    · rw[if_neg d];omega
def nu (long near:Int) (x:EX) (b:Int):Int:=if b<0∨gD (df long near x) near<gD b near then df long near x else b
theorem jl {long near : Int} (hl : 1 ≤ long ∧ long ≤ 400) (hn : 0 ≤ near ∧ near ≤ 400) {x : EX} (hx : 0 ≤ x.f0 ∧ 1 ≤ x.f1 ∧ x.f0 + x.f1 ≤ 400) (hr : x.f1 ≥ long) {b : Int} (hb : 0 ≤ b ∧ b ≤ 400) (hg : gD b near ≤ gD (df long near x) near) {i : Int} {r : Int} (hi : Ev (fun k => spec_l5Pick.l2 k long near b P (P.length : Int) (wrap64 (i + 1))) r) :
    ∀ (f:Nat) (j:Int),df long near x<j→x.f0≤j→j + (f:Int)=x.f0+x.f1 - long+1→Ev (fun k=>spec_l5Pick.l3 k long near b j P (P.length:Int) i x.f0 x.f1) r:=by
  have hc:=iZ (near:=near) hr
  intro f
  induction f with
  | zero=>
    intro j h0 h1 h2
    refine Ev.step (fun _=>spec_l5Pick.l3.eq_2 ..) ?_
    rw[w64 (x:=j+long) (by omega) (by omega),w64 (x:=x.f0+x.f1) (by omega) (by omega)]
    exact bE (by omega) hi
  | succ f ih=>
    intro j h0 h1 h2
    refine Ev.step (fun _=>spec_l5Pick.l3.eq_2 ..) ?_
    rw[w64 (x:=j+long) (by omega) (by omega),w64 (x:=x.f0+x.f1) (by omega) (by omega)]
    refine aX (by omega) (bE (by omega) (bL (gT j near (by omega) (by omega)) (bL (gT b near (by omega) (by omega)) ?_)))
    have g1:=jf j near
    have g2:=jf (df long near x) near
    have hnl:¬ gD j near<gD b near:=by
      intro h
      have h3:near≤df long near x:=by
        refine Int.not_lt.1 (fun h4=>?_)
        have:=hc.2.2.1 h4;omega
      have e1:=g1.1 (by omega)
      have e2:=g2.1 (by omega)
      omega
    refine bE hnl ?_
    rw[w64 (x:=j+1) (by omega) (by omega)]
    exact ih (j+1) (by omega) (by omega) (by omega)
theorem oN {long near : Int} (hl : 1 ≤ long ∧ long ≤ 400) (hn : 0 ≤ near ∧ near ≤ 400) {x : EX} (hx : 0 ≤ x.f0 ∧ 1 ≤ x.f1 ∧ x.f0 + x.f1 ≤ 400) (hr : x.f1 ≥ long) {i : Int} {r : Int} :
    ∀ (f:Nat) (j b:Int),x.f0≤j→j + (f:Int)=df long near x→(-1≤b∧b≤400)→Ev (fun k=>spec_l5Pick.l2 k long near (nu long near x b) P (P.length:Int) (wrap64 (i+1))) r→Ev (fun k=>spec_l5Pick.l3 k long near b j P (P.length:Int) i x.f0 x.f1) r:=by
  have hc:=iZ (near:=near) hr
  have g2:=jf (df long near x) near
  intro f
  induction f with
  | zero=>
    intro j b h0 h1 hb hi
    obtain rfl:j=df long near x:=by omega
    refine Ev.step (fun _=>spec_l5Pick.l3.eq_2 ..) ?_
    rw[w64 (x:=df long near x+long) (by omega) (by omega),w64 (x:=x.f0+x.f1) (by omega) (by omega),w64 (x:=df long near x+1) (by omega) (by omega)]
    refine aX (by omega) ?_
    unfold nu at hi
    by_cases c:b<0
    · rw[if_pos (.inl c)] at hi
      exact aX c (jl hl hn hx hr (by omega) (Int.le_refl _) hi (x.f0+x.f1 - long - df long near x).toNat _ (by omega) (by omega) (by omega))
    · refine bE c (bL (gT _ near (by omega) (by omega)) (bL (gT b near (by omega) (by omega)) ?_))
      by_cases d:gD (df long near x) near<gD b near
      · rw[if_pos (.inr d)] at hi
        exact aX d (jl hl hn hx hr (by omega) (Int.le_refl _) hi (x.f0+x.f1 - long - df long near x).toNat _ (by omega) (by omega) (by omega))
      · rw[if_neg (by omega)] at hi
        exact bE d (jl hl hn hx hr (by omega) (by omega) hi (x.f0+x.f1 - long - df long near x).toNat _ (by omega) (by omega) (by omega))
  | succ f ih=>
    intro j b h0 h1 hb hi
    have hj:df long near x≤near:=by
      refine Int.not_lt.1 (fun h4=>?_)
      have:=hc.2.2.2 h4;omega
    have e1:=(jf j near).2 (by omega)
    have e2:=g2.2 (by omega)
    refine Ev.step (fun _=>spec_l5Pick.l3.eq_2 ..) ?_
    rw[w64 (x:=j+long) (by omega) (by omega),w64 (x:=x.f0+x.f1) (by omega) (by omega),w64 (x:=j+1) (by omega) (by omega)]
    refine aX (by omega) ?_
    have up:gD j near<gD b near∨b<0→nu long near x j=nu long near x b:=fun h=>by
      unfold nu
      rw[if_pos (.inr (by omega)),if_pos (by omega)]
    by_cases c:b<0
    · exact aX c (ih (j+1) j (by omega) (by omega) (by omega) (by rw[up (.inr c)];exact hi))
    · refine bE c (bL (gT _ near (by omega) (by omega)) (bL (gT b near (by omega) (by omega)) ?_))
      by_cases d:gD j near<gD b near
      · exact aX d (ih (j+1) j (by omega) (by omega) (by omega) (by rw[up (.inl d)];exact hi))
      · exact bE d (ih (j+1) b (by omega) (by omega) hb hi)
theorem oM {long near : Int} (hl : 1 ≤ long ∧ long ≤ 400) (hn : 0 ≤ near ∧ near ≤ 400) (hP : P.length ≤ 60) (hB : B ≤ 400) (hS : Sep B P) : ∀ (f i : Nat) (b : Int) (fb : Bool), i + f = P.length → (fb = true → 0 ≤ b) → (-1 ≤ b ∧ b ≤ 400) → Ev (fun k => spec_l5Pick.l2 k long near (if fb = true then b else -1) P (P.length : Int) (i : Int)) (ou (gm long near (P.drop i) b fb)) := by
  intro f
  induction f with
  | zero=>
    intro i b fb hi hf hb
    refine Ev.step (fun _=>spec_l5Pick.l2.eq_2 ..) (bE (by omega) (bP ?_))
    rw[List.drop_of_length_le (by omega)];rfl
  | succ f ih=>
    intro i b fb hi hf hb
    have hil:i<P.length:=by omega
    have ho:=hS.a _ (List.getElem_mem hil)
    have ei:wrap64 ((i:Int)+1) = ((i+1:Nat):Int):=by rw[w64 (by omega) (by omega)];omega
    refine Ev.step (fun _=>spec_l5Pick.l2.eq_2 ..) (aX (by omega) (aX (by omega) (aX (by omega) ?_)))
    rw[fE hil,gQ hil,gm]
    generalize P[i]=x at ho
    by_cases c:x.f1≥long
    · rw [if_pos c]
      have hc:=iZ (near:=near) c
      refine oN hl hn (by omega) c (df long near x - x.f0).toNat x.f0 _ (Int.le_refl _) (by omega) (by split <;> omega) ?_
      rw[ei]
      cases fb with
      | false=>
        rw[if_neg (by decide),if_pos (.inl rfl)]
        have:=ih (i+1) (df long near x) true (by omega) (fun _=>by omega) (by omega)
        rw[if_pos rfl] at this
        have e:nu long near x (-1)=df long near x:=by unfold nu;rw[if_pos (.inl (by omega))]
        rw[e]
        exact this
      | true=>
        rw[if_pos rfl]
        have hb0:=hf rfl
        unfold nu
        by_cases d:gD (df long near x) near<gD b near
        · rw[if_pos (.inr d),if_pos (.inr d)]
          have:=ih (i+1) (df long near x) true (by omega) (fun _=>by omega) (by omega)
          rw[if_pos rfl] at this
          exact this
        · rw[if_neg (by omega),if_neg (by simp[d])]
          have:=ih (i+1) b true (by omega) hf hb
          rw[if_pos rfl] at this
          exact this
    · rw[if_neg c]
      refine Ev.step (fun _=>spec_l5Pick.l3.eq_2 ..) ?_
      rw[w64 (x:=x.f0+long) (by omega) (by omega),w64 (x:=x.f0+x.f1) (by omega) (by omega)]
      refine bE (by omega) ?_
      rw[ei]
      exact ih (i+1) b fb (by omega) hf hb
theorem iX {long near : Int} : ∀ (l : List EX) (b : Int) (fb : Bool), (gm long near l b fb).2 = true → (fb = true ∧ (gm long near l b fb).1 = b) ∨ ∃ o ∈ l, o.f1 ≥ long ∧ (gm long near l b fb).1 = df long near o
  | [],b,fb,h=>.inl ⟨h,rfl⟩
  | x :: r, b, fb, h => by
    rw[gm] at h ⊢
    have up:∀ {b:Int} {fb:Bool},(fb=true∧(gm long near r b fb).1=b)∨(∃ o∈r,o.f1≥long∧(gm long near r b fb).1=df long near o)→(fb=true∧(gm long near r b fb).1=b)∨∃ o∈x::r,o.f1≥long∧(gm long near r b fb).1=df long near o:=fun h=>h.imp id (fun ⟨o,ho,h1⟩=>⟨o,List.mem_cons_of_mem _ ho,h1⟩)
    by_cases c:x.f1≥long
    · rw[if_pos c] at h ⊢
      by_cases d:fb=false∨gD (df long near x) near<gD b near
      · rw[if_pos d] at h ⊢
        rcases iX r _ _ h with⟨_,e⟩|e
        · exact .inr ⟨x,List.mem_cons_self ..,c,e⟩
        · exact up (.inr e) |>.elim (fun h=>.inr ⟨x,List.mem_cons_self ..,c,h.2⟩) .inr
      · rw[if_neg d] at h ⊢
        exact up (iX r _ _ h)
    · rw[if_neg c] at h ⊢
      exact up (iX r _ _ h)
theorem qo {long how near : Int} (hg : cK B P S = true) (hl : 1 ≤ long ∧ long ≤ 400) (hh : 1 ≤ how ∧ how ≤ 4) (hn : 0 ≤ near ∧ near ≤ 400) : Ev (fun k => spec_l5Pick.f k B P S long how near) (ou (ib P S long how near)) ∧ ((ib P S long how near).2 = true → ∃ o ∈ P, o.f0 ≤ (ib P S long how near).1 ∧ (ib P S long how near).1 + long ≤ o.f0 + o.f1) := by
  obtain⟨hB,hP,hS,rfl⟩:=dx.1 hg
  have hSl:=fu P
  have fin:∀ l:List EX,(∀ o∈l,o∈P)→(eT long l).2=true→∃ o∈P,o.f0≤(eT long l).1∧(eT long l).1+long≤o.f0+o.f1:=fun l h h2=>by
    obtain⟨o,ho,h3,h4⟩:=lV long l h2
    exact⟨o,h o ho,by omega,by omega⟩
  have hmem:∀ o∈bD P,o∈P:=fun o ho=>(iT P).mem_iff.1 ho
  have hw:how≠4→ib P (bD P) long how near=eT long (if how=3 then (bD P).drop ((bD P).length - 1) else if how=2 then bD P else P):=fun h4=>by
    unfold ib
    rw[if_neg h4]
    exact mE long _
  unfold spec_l5Pick.f
  by_cases h1:how=1
  · rw[hw (by omega),if_neg (show ¬ how=3 by omega),if_neg (show ¬ how=2 by omega)]
    have:=qa (P:=P) long hP P.length 0 (by omega)
    rw[List.drop_zero] at this
    exact⟨aX h1 this,fin P (fun o h=>h)⟩
  · by_cases h2:how=2
    · rw[hw (by omega),if_neg (show ¬ how=3 by omega),if_pos h2]
      have:=o9 (P:=bD P) long (by omega) (bD P).length 0 (by omega)
      rw[List.drop_zero] at this
      exact⟨bE h1 (aX h2 this),fin _ hmem⟩
    · by_cases h3:how=3
      · rw[hw (by omega),if_pos h3]
        refine⟨bE h1 (bE h2 (aX h3 ?_)),fin _ (fun o ho=>hmem o (List.mem_of_mem_drop ho))⟩
        by_cases hz:(bD P).length=0
        · rw[List.eq_nil_of_length_eq_zero hz]
          exact bE (by simp) (bP rfl)
        · have hi:(bD P).length - 1 < (bD P).length:=by omega
          have ew:wrap64 (((bD P).length:Int) - 1) = (((bD P).length - 1:Nat):Int):=by rw[w64 (by omega) (by omega)];omega
          rw[ew,fE hi,List.drop_of_length_le (by omega),eT]
          refine aX (by omega) (aX (by omega) (aX (by omega) ?_))
          by_cases c:(ax (bD P) (((bD P).length - 1:Nat):Int)).f1≥long
          · exact aX c (bP (by rw[if_pos c];rfl))
          · exact bE c (bP (by rw[if_neg c];rfl))
      · obtain rfl:how=4:=by omega
        have ep:ib P (bD P) long 4 near=gm long near P 0 false:=by unfold ib;rw[if_pos rfl]
        rw[ep]
        have:=oM (P:=P) hl hn hP hB.2 hS P.length 0 0 false (by omega) (fun h=>by cases h) (by omega)
        rw[List.drop_zero] at this
        refine⟨bE h1 (bE h2 (bE h3 this)),fun h=>?_⟩
        rcases iX P 0 false h with⟨h,_⟩|⟨o,ho,h4,h5⟩
        · cases h
        · have:=iZ (near:=near) h4
          exact⟨o,ho,by omega,by omega⟩
end
section
variable {B:Int} {P S:List EX}
theorem oG (B : Int) (P S : List EX) (long how near : Int) (hsB : -4611686018427387904 ≤ B ∧ B ≤ 4611686018427387904) (hsP : P.length ≤ 100000) : ∃ r, Ev (fun k => spec_TakeRoom.f k B P S long how near) r ∧ Ev (fun k => impl_TakeRoom.f k B P S long how near) r ∧ (r = (0, [], [], 0, false) ∨ ∃ Q a, r = (B, Q, bD Q, a, true) ∧ Took B P S ⟨a, long⟩ Q ∧ (1 ≤ long ∧ long ≤ B) ∧ (1 ≤ how ∧ how ≤ 4) ∧ (0 ≤ near ∧ near < B) ∧ ib P S long how near = (a, true)) := by
  have hg:=eD B P S hsB hsP
  have no:Ev (fun k=>spec_TakeRoom.j0 k long how near true B P S) (0,[],[],0,false):=Ev.step (fun _=>spec_TakeRoom.j0.eq_2 ..) (bR rfl (bP rfl))
  have noI:Ev (fun k=>impl_TakeRoom.j0 k long how near true B P S) (0,[],[],0,false):=Ev.step (fun _=>impl_TakeRoom.j0.eq_2 ..) (bR rfl (bP rfl))
  unfold spec_TakeRoom.f impl_TakeRoom.f impl_GoodFree.f
  cases hb:cK B P S with
  | false=>
    rw[hb] at hg
    exact⟨_,Ev.bind hg (dB rfl no),fF (dB rfl noI),.inl rfl⟩
  | true=>
    rw[hb] at hg
    obtain⟨hB,hP,hS,hSS⟩:=dx.1 hb
    by_cases hl:1≤long∧long≤B
    · by_cases hh:1≤how∧how≤4
      · have ew : wrap64 (B - 1) = B - 1 := w64 (by omega) (by omega)
        by_cases hn:0≤near∧near≤B - 1
        · have lead:∀ {r:Int×List EX×List EX×Int×Bool},Ev (fun k=>(spec_l5Pick.f k B P S long how near).bind fun t274=>(if t274<0 then (some (0,([]:List EX),([]:List EX),0,false)) else ((spec_l5Within.f k P t274 long).bind fun t276=>((spec_l5Cut.f P t276 t274 long).bind fun t277=>((spec_l5Of.f k B t277).bind fun bt280=>((spec_GoodFree.f k bt280.1 bt280.2.1 bt280.2.2).bind fun t288=>(if t288=true then (some (bt280.1,bt280.2.1,bt280.2.2,t274,true)) else (some (0,([]:List EX),([]:List EX),0,false))))))))) r→
              Ev (fun k=>(spec_GoodFree.f k B P S).bind fun t270=>(if t270=true then ((spec_l1In.f long 1 B).bind fun t271=>(if t271=true then ((spec_l1In.f how 1 4).bind fun t272=>(if t272=true then ((spec_l1In.f near 0 (wrap64 (B - 1))).bind fun t273=>(spec_TakeRoom.j0 k long how near (!t273) B P S)) else (spec_TakeRoom.j0 k long how near true B P S))) else (spec_TakeRoom.j0 k long how near true B P S))) else (spec_TakeRoom.j0 k long how near true B P S))) r:=fun h=>by
            refine Ev.bind hg (bR rfl (bL (eP long 1 B) (bR (decide_eq_true hl) (bL (eP how 1 4) (bR (decide_eq_true hh) ?_)))))
            rw[ew]
            refine bL (eP near 0 (B - 1)) ?_
            rw[decide_eq_true hn]
            exact Ev.step (fun _=>spec_TakeRoom.j0.eq_2 ..) (bE (by decide) h)
          have leadI:∀ {r:Int×List EX×List EX×Int×Bool},Ev (fun k=>(impl_Free_placeFor.f B P S long how near).bind fun bt488=>(if bt488.2=true then ((impl_Free_changed.f B P S bt488.1 long false).bind fun bt490=>(if bt490.2.2.2=true then (some (bt490.1,bt490.2.1,bt490.2.2.1,bt488.1,true)) else (some (0,([]:List EX),([]:List EX),0,false)))) else (some (0,([]:List EX),([]:List EX),0,false)))) r→
              Ev (fun k=>(some true).bind fun t484=>(if t484=true then ((impl_within.f long 1 B).bind fun t485=>(if t485=true then ((impl_within.f how 1 4).bind fun t486=>(if t486=true then ((impl_within.f near 0 (wrap64 (B - 1))).bind fun t487=>(impl_TakeRoom.j0 k long how near (!t487) B P S)) else (impl_TakeRoom.j0 k long how near true B P S))) else (impl_TakeRoom.j0 k long how near true B P S))) else (impl_TakeRoom.j0 k long how near true B P S))) r:=fun h=>by
            refine fF (bR rfl (bL (dM long 1 B) (bR (decide_eq_true hl) (bL (dM how 1 4) (bR (decide_eq_true hh) ?_)))))
            rw[ew]
            refine bL (dM near 0 (B - 1)) ?_
            rw[decide_eq_true hn]
            exact Ev.step (fun _=>impl_TakeRoom.j0.eq_2 ..) (bE (by decide) h)
          obtain⟨p1,p2⟩:=qo (S:=S) hb ⟨hl.1,by omega⟩ hh ⟨hn.1,by omega⟩
          have hpf:impl_Free_placeFor.f B P S long how near=some (ib P S long how near):=by
            unfold impl_Free_placeFor.f
            rw[if_pos ⟨hb,by omega,by omega⟩]
          obtain⟨a,fb,hp⟩:∃ a fb,ib P S long how near = (a,fb):=⟨_,_,rfl⟩
          rw[hp] at p1 p2 hpf
          cases fb with
          | false=>
            exact⟨_,lead (Ev.bind p1 (aX (by show(-1:Int)<0;omega) (bP rfl))),leadI (bL hpf (dB rfl (bP rfl))),.inl rfl⟩
          | true=>
            obtain⟨o,ho,h1,h2⟩:=p2 rfl
            simp only at h1 h2
            have hor:=hS.a o ho
            have hx:0≤(⟨a,long⟩:EX).f0∧1≤(⟨a,long⟩:EX).f1∧(⟨a,long⟩:EX).f0 + (⟨a,long⟩:EX).f1≤B:=⟨by show 0≤a;omega,hl.1,by show a+long≤B;omega⟩
            have hall:∀ k,inX ⟨a,long⟩ k=true→cov P k=true:=fun k hk=>by
              have h3:=dw.1 hk
              simp only at h3
              exact gW.2 ⟨o,ho,by omega,by omega⟩
            obtain⟨j,Q,e1,e2,e3,e4,e5,e6⟩:=mW hb hx hall
            refine⟨if Q.length≤60 then (B,Q,bD Q,a,true) else (0,[],[],0,false),lead (Ev.bind p1 (bE (by show ¬ a<0;omega) (Ev.bind e1 (bL e2 (Ev.bind (nO Q hB (by omega)) (Ev.bind (eD B Q (bD Q) (by omega) (by omega)) ?_)))))),leadI (bL hpf (bR rfl (bL e6 ?_))),?_⟩
            · rw[fQ hB e4]
              by_cases hq:Q.length≤60
              · rw[if_pos hq];exact bR (decide_eq_true hq) (bP rfl)
              · rw[if_neg hq];exact dB (decide_eq_false hq) (bP rfl)
            · unfold mf
              by_cases hq:Q.length≤60
              · rw[if_pos hq,if_pos hq];exact bR rfl (bP rfl)
              · rw[if_neg hq,if_neg hq];exact dB rfl (bP rfl)
            · by_cases hq:Q.length≤60
              · rw[if_pos hq]
                exact .inr ⟨Q,a,rfl,⟨hb,hx,e4,hq,e5,hall⟩,hl,hh,by omega,hp⟩
              · rw[if_neg hq];exact .inl rfl
        · have hn1:=decide_eq_false hn
          refine⟨(0,[],[],0,false),Ev.bind hg (bR rfl (bL (eP long 1 B) (bR (decide_eq_true hl) (bL (eP how 1 4) (bR (decide_eq_true hh) ?_))))),fF (bR rfl (bL (dM long 1 B) (bR (decide_eq_true hl) (bL (dM how 1 4) (bR (decide_eq_true hh) ?_))))),.inl rfl⟩
          · rw[ew]
            refine bL (eP near 0 (B - 1)) ?_
            rw[hn1];exact no
          · rw[ew]
            refine bL (dM near 0 (B - 1)) ?_
            rw[hn1];exact noI
      · exact⟨(0,[],[],0,false),Ev.bind hg (bR rfl (bL (eP long 1 B) (bR (decide_eq_true hl) (bL (eP how 1 4) (dB (decide_eq_false hh) no))))),fF (bR rfl (bL (dM long 1 B) (bR (decide_eq_true hl) (bL (dM how 1 4) (dB (decide_eq_false hh) noI))))),.inl rfl⟩
    · exact⟨(0,[],[],0,false),Ev.bind hg (bR rfl (bL (eP long 1 B) (dB (decide_eq_false hl) no))),fF (bR rfl (bL (dM long 1 B) (dB (decide_eq_false hl) noI))),.inl rfl⟩
end
end Go.Proofs.Ytelblhkbogljnaa.PFre
namespace Go.Proofs.Ytelblhkbogljnaa.PFre
open Go.RowKit Go.Proofs.YtelblhkbogljnaaW.PrintWords Go.Proofs.YtelblhkbogljnaaW.PrintLast Go.Proofs.YtelblhkbogljnaaW.PrintMore
attribute [local go_sem] bG bH bS bT bB bA bJ bI
set_option linter.unusedVariables false
set_option linter.unusedSimpArgs false
def aU (w0 W:World) (g:Nat) (f0:List Int) (f1:Int) (f2:Int):Prop:=∃ A0 c0,W.heap[g]? = some (.cells #[.slice A0 f0.length c0,.int .i64 f1,.int .u64 f2] 67 (0,0))∧w0.heap.size≤g∧Kd.C (Kd.int .u8) w0 A0 f0.length f0
theorem aU.grown {w0 W:World} {g:Nat} {f0:List Int} {f1:Int} {f2:Int} {W1:World} {row:Option Nat} (h:aU w0 W g f0 f1 f2) (hw:W.grownBy W1 row) (hne:some g≠row):aU w0 W1 g f0 f1 f2:=by
 obtain⟨A0,c0,hb,hg,hr0⟩:=h
 exact⟨A0,c0,bf hb hw hne,hg,hr0⟩
theorem aU.kept {w0 W:World} {g:Nat} {f0:List Int} {f1:Int} {f2:Int} {W1:World} {S:Nat→Prop} (h:aU w0 W g f0 f1 f2) (hk:Kept W W1 S) (hne:¬ S g):aU w0 W1 g f0 f1 f2:=by
 obtain⟨A0,c0,hb,hg,hr0⟩:=h
 exact⟨A0,c0,ko hb hk hne,hg,hr0⟩
theorem aU.below {w0 W:World} {g:Nat} {f0:List Int} {f1:Int} {f2:Int} {W1:World} (h:aU w0 W g f0 f1 f2) (hw:Below W.heap.size W W1):aU w0 W1 g f0 f1 f2:=h.grown (iB hw none) (by simp)
theorem aU.alloc {w0 W:World} {g:Nat} {f0:List Int} {f1:Int} {f2:Int} (h:aU w0 W g f0 f1 f2) (o:Obj):aU w0 (W.alloc o) g f0 f1 f2:=h.below (ah (Below.refl _ _) o)
theorem aU.drewN {w0 W:World} {g:Nat} {f0:List Int} {f1:Int} {f2:Int} (h:aU w0 W g f0 f1 f2) (m:Nat):aU w0 (W.drewN m) g f0 f1 f2:=h
theorem aU.drew {w0 W:World} {g:Nat} {f0:List Int} {f1:Int} {f2:Int} (h:aU w0 W g f0 f1 f2):aU w0 W.drew g f0 f1 f2:=h
theorem aU.at_ {w0 W:World} {g:Nat} {f0:List Int} {f1:Int} {f2:Int} {w':World} {m:Nat} (hq:W.drewN m=w') (h:aU w0 W g f0 f1 f2):aU w0 w' g f0 f1 f2:=by subst hq;exact aU.drewN h m
theorem aU.apart {w0 W:World} {g:Nat} {f0:List Int} {f1:Int} {f2:Int} {α:Type} {d:Kd α} {e:Nat} {base:Nat} {ok:Nat→Prop} {v:Value} {xs:List α} (h:aU w0 W g f0 f1 f2) (ho:d.R e W base ok v xs) (ht:∀ q,q∈e::d.E→q≠67):d.R e W base (fun k=>ok k∧k≠g) v xs:=by
 obtain⟨A0,c0,hb,hg,hr0⟩:=h
 exact Kd.bK ho hb ht
theorem aU.own_ne {w0 W:World} {g:Nat} {f0:List Int} {f1:Int} {f2:Int} {α:Type} {d:Kd α} {e:Nat} {base:Nat} {ok:Nat→Prop} {v:Value} {xs:List α} (h:aU w0 W g f0 f1 f2) (ho:d.R e W base ok v xs) (ht:e≠67):some g≠v.ownBlock:=by
 obtain⟨A0,c0,hb,hg,hr0⟩:=h
 exact Kd.gN ho hb ht
theorem aU.lt {w0 W:World} {g:Nat} {f0:List Int} {f1:Int} {f2:Int} (h:aU w0 W g f0 f1 f2):g<W.heap.size:=by
 obtain⟨A0,c0,hb,hg,hr0⟩:=h
 exact aH hb
theorem aU.ge {w0 W:World} {g:Nat} {f0:List Int} {f1:Int} {f2:Int} (h:aU w0 W g f0 f1 f2):w0.heap.size≤g:=by
 obtain⟨A0,c0,hb,hg,hr0⟩:=h
 exact hg
theorem aU.far {w0 W:World} {g:Nat} {f0:List Int} {f1:Int} {f2:Int} {p:Addr} (h:aU w0 W g f0 f1 f2) (hne:g≠p.block) (u:Value):aU w0 (W.setCell p u) g f0 f1 f2:=by
 obtain⟨A0,c0,hb,hg,hr0⟩:=h
 exact⟨A0,c0,aG hb hne u,hg,hr0⟩
theorem iD {W:World} {g:Nat} {A0:Option Addr} {c0:Nat} {f0:List Int} {f1:Int} {f2:Int} (h:W.heap[g]? = some (.cells #[.slice A0 f0.length c0,.int .i64 f1,.int .u64 f2] 67 (0,0))):W.cell? ⟨g,0,none⟩=some (.slice A0 f0.length c0):=(ak h 0).trans rfl
theorem iH {W:World} {g:Nat} {A0:Option Addr} {c0:Nat} {f0:List Int} {f1:Int} {f2:Int} (h:W.heap[g]? = some (.cells #[.slice A0 f0.length c0,.int .i64 f1,.int .u64 f2] 67 (0,0))):W.cell? ⟨g,1,none⟩=some (.int .i64 f1):=(ak h 1).trans rfl
theorem aU.set_1 {w0 W:World} {g:Nat} {f0:List Int} {f1:Int} {f2:Int} (h:aU w0 W g f0 f1 f2) (x:Int):aU w0 (W.setCell ⟨g,1,none⟩ (.int .i64 x)) g f0 x f2:=by
 obtain⟨A0,c0,hb,hg,hr0⟩:=h
 exact⟨A0,c0,by simpa using jR hb 1 (.int .i64 x),hg,hr0⟩
theorem iC {W:World} {g:Nat} {A0:Option Addr} {c0:Nat} {f0:List Int} {f1:Int} {f2:Int} (h:W.heap[g]? = some (.cells #[.slice A0 f0.length c0,.int .i64 f1,.int .u64 f2] 67 (0,0))):W.cell? ⟨g,2,none⟩=some (.int .u64 f2):=(ak h 2).trans rfl
theorem aU.set_2 {w0 W:World} {g:Nat} {f0:List Int} {f1:Int} {f2:Int} (h:aU w0 W g f0 f1 f2) (x:Int):aU w0 (W.setCell ⟨g,2,none⟩ (.int .u64 x)) g f0 f1 x:=by
 obtain⟨A0,c0,hb,hg,hr0⟩:=h
 exact⟨A0,c0,by simpa using jR hb 2 (.int .u64 x),hg,hr0⟩
theorem aU.new (w0 W:World) (A0:Option Addr) (c0:Nat) (f0:List Int) (f1:Int) (f2:Int) (hB:Below w0.heap.size w0 W) (hr0:Kd.C (Kd.int .u8) w0 A0 f0.length f0):aU w0 (W.alloc (.cells #[.slice A0 f0.length c0,.int .i64 f1,.int .u64 f2] 67)) W.heap.size f0 f1 f2:=⟨A0,c0,by simpa using heap_alloc_new W _,hB.size,hr0⟩
def spec_l1Cur_next.f (s0_0:List Int) (s0_1:Int) (s0_2:Int):Option (Int×Int×Int):=if s0_1 < (s0_0.length:Int) then (if 0≤s0_1 then (if (wrap64 (s0_1+1))≤(s0_0.length:Int) then (some (wrap64 (rd s0_0 s0_1),wrap64 (s0_1+1),IntKind.u64.wrap ((IntKind.u64.wrap ((IntKind.u64.wrap (s0_2*6364136223846793005)) + (IntKind.u64.wrap (wrap64 (rd s0_0 s0_1)))))+1442695040888963407))) else (some (wrap64 (Go.bits .and .u64 ((IntKind.u64.wrap ((IntKind.u64.wrap ((IntKind.u64.wrap (s0_2*6364136223846793005)) + (IntKind.u64.wrap (wrap64 (rd s0_0 s0_1)))))+1442695040888963407)) / 1099511627776) 255),wrap64 (s0_1+1),IntKind.u64.wrap ((IntKind.u64.wrap ((IntKind.u64.wrap (s0_2*6364136223846793005)) + (IntKind.u64.wrap (wrap64 (rd s0_0 s0_1)))))+1442695040888963407)))) else (none)) else (if (wrap64 (s0_1+1))≤(s0_0.length:Int) then (some (0,wrap64 (s0_1+1),IntKind.u64.wrap ((IntKind.u64.wrap ((IntKind.u64.wrap (s0_2*6364136223846793005))+0))+1442695040888963407))) else (some (wrap64 (Go.bits .and .u64 ((IntKind.u64.wrap ((IntKind.u64.wrap ((IntKind.u64.wrap (s0_2*6364136223846793005))+0))+1442695040888963407)) / 1099511627776) 255),wrap64 (s0_1+1),IntKind.u64.wrap ((IntKind.u64.wrap ((IntKind.u64.wrap (s0_2*6364136223846793005))+0))+1442695040888963407))))
set_option maxHeartbeats 8000000 in
set_option maxRecDepth 100000 in
theorem spec_l1Cur_next.calls (g:Nat) (s0_0:List Int) (s0_1:Int) (s0_2:Int) (r1:Int) (r2:Int) (r3:Int) (w0 w:World) (hI:aU w0 w g s0_0 s0_1 s0_2) (hB:Below w0.heap.size w0 w) (h:spec_l1Cur_next.f s0_0 s0_1 s0_2=some (r1,r2,r3)) :
  Calls Try.prog 74 #[.pointer (some ⟨g,0,none⟩)] w fun e w'=>e = .returned (.int .i64 r1)∧aU w0 w' g s0_0 r2 r3∧Below w0.heap.size w0 w'∧bg w w' g none:=by
 have HI0:=au hI
 have HK:=au (bg.refl w g none)
 have HL:=au hB.size
 clear hI
 have HW0:=au hB.size
 have HB:=au hB
 clear hB
 have H:(if s0_1 < (s0_0.length:Int) then (if 0≤s0_1 then (if (wrap64 (s0_1+1))≤(s0_0.length:Int) then (some (wrap64 (rd s0_0 s0_1),wrap64 (s0_1+1),IntKind.u64.wrap ((IntKind.u64.wrap ((IntKind.u64.wrap (s0_2*6364136223846793005)) + (IntKind.u64.wrap (wrap64 (rd s0_0 s0_1)))))+1442695040888963407))) else (some (wrap64 (Go.bits .and .u64 ((IntKind.u64.wrap ((IntKind.u64.wrap ((IntKind.u64.wrap (s0_2*6364136223846793005)) + (IntKind.u64.wrap (wrap64 (rd s0_0 s0_1)))))+1442695040888963407)) / 1099511627776) 255),wrap64 (s0_1+1),IntKind.u64.wrap ((IntKind.u64.wrap ((IntKind.u64.wrap (s0_2*6364136223846793005)) + (IntKind.u64.wrap (wrap64 (rd s0_0 s0_1)))))+1442695040888963407)))) else (none)) else (if (wrap64 (s0_1+1))≤(s0_0.length:Int) then (some (0,wrap64 (s0_1+1),IntKind.u64.wrap ((IntKind.u64.wrap ((IntKind.u64.wrap (s0_2*6364136223846793005))+0))+1442695040888963407))) else (some (wrap64 (Go.bits .and .u64 ((IntKind.u64.wrap ((IntKind.u64.wrap ((IntKind.u64.wrap (s0_2*6364136223846793005))+0))+1442695040888963407)) / 1099511627776) 255),wrap64 (s0_1+1),IntKind.u64.wrap ((IntKind.u64.wrap ((IntKind.u64.wrap (s0_2*6364136223846793005))+0))+1442695040888963407)))))=some (r1,r2,r3):=h
 clear h
 by_cases c2:s0_1 < (s0_0.length:Int)
 ·rw[if_pos c2] at H
  have c2b0:decide (s0_1 < (s0_0.length:Int))=true:=decide_eq_true c2
  clear c2
  by_cases c3:0≤s0_1
  ·rw[if_pos c3] at H
   have c3b0:decide (0≤s0_1)=true:=decide_eq_true c3
   clear c3
   by_cases c4:(wrap64 (s0_1+1))≤(s0_0.length:Int)
   ·rw[if_pos c4] at H
    have c4b0:decide ((wrap64 (s0_1+1))≤(s0_0.length:Int))=true:=decide_eq_true c4
    clear c4
    simp only[Option.some.injEq,Prod.mk.injEq] at H
    obtain⟨rfl,rfl,rfl⟩:=H
    obtain⟨ASz5_0,cSz5_0,HGz5,hgz5,HSz5_0⟩:=HI0.out
    have hcz5_0:=iD HGz5
    have hcz5_1:=iH HGz5
    have hcz5_2:=iC HGz5
    have hfz5_1:=av HGz5 1
    have hfz5_2:=av HGz5 2
    clear HGz5 hgz5
    have p307:0≤(s0_1:Int):=of_decide_eq_true (by assumption)
    have q307:s0_1 < (s0_0.length:Int):=of_decide_eq_true (by assumption)
    obtain⟨ad307,e307,hx307_0⟩:=Kd.kv HSz5_0 s0_1 p307 q307
    cases e307
    replace hx307_0:=bX HB.out hx307_0
    replace p307:=eq_true p307
    replace q307:=eq_true q307
    go_enter Try.func74,Try.ntmps74
    go_wp2
    repeat(go_quiet (fail);try go_wp2)
    go_ret
    exact⟨by first|rfl|(simp <;> rfl)|(simp[*] <;> rfl),by(try simp only[Int.add_zero]);with_reducible repeat(first|exact HI0.out|apply aU.alloc|apply aU.drewN|apply aU.drew|apply aU.set_1|apply aU.set_2),by with_reducible repeat(first|exact HB.out|apply ah|apply aa|apply ai|refine ae ?_ (aU.ge HI0.out)),by with_reducible repeat(first|exact HK.out|apply bg.set_|apply cZ|apply dz|apply cO)⟩
   ·rw[if_neg c4] at H
    have c4b0:decide ((wrap64 (s0_1+1))≤(s0_0.length:Int))=false:=decide_eq_false c4
    clear c4
    simp only[Option.some.injEq,Prod.mk.injEq] at H
    obtain⟨rfl,rfl,rfl⟩:=H
    obtain⟨ASz6_0,cSz6_0,HGz6,hgz6,HSz6_0⟩:=HI0.out
    have hcz6_0:=iD HGz6
    have hcz6_1:=iH HGz6
    have hcz6_2:=iC HGz6
    have hfz6_1:=av HGz6 1
    have hfz6_2:=av HGz6 2
    clear HGz6 hgz6
    have p307:0≤(s0_1:Int):=of_decide_eq_true (by assumption)
    have q307:s0_1 < (s0_0.length:Int):=of_decide_eq_true (by assumption)
    obtain⟨ad307,e307,hx307_0⟩:=Kd.kv HSz6_0 s0_1 p307 q307
    cases e307
    replace hx307_0:=bX HB.out hx307_0
    replace p307:=eq_true p307
    replace q307:=eq_true q307
    go_enter Try.func74,Try.ntmps74
    go_wp2
    repeat(go_quiet (fail);try go_wp2)
    go_ret
    exact⟨by first|rfl|(simp <;> rfl)|(simp[*] <;> rfl),by(try simp only[Int.add_zero]);with_reducible repeat(first|exact HI0.out|apply aU.alloc|apply aU.drewN|apply aU.drew|apply aU.set_1|apply aU.set_2),by with_reducible repeat(first|exact HB.out|apply ah|apply aa|apply ai|refine ae ?_ (aU.ge HI0.out)),by with_reducible repeat(first|exact HK.out|apply bg.set_|apply cZ|apply dz|apply cO)⟩
  ·rw[if_neg c3] at H
   exact absurd H (by simp)
 ·rw[if_neg c2] at H
  have c2b0:decide (s0_1 < (s0_0.length:Int))=false:=decide_eq_false c2
  clear c2
  by_cases c7:(wrap64 (s0_1+1))≤(s0_0.length:Int)
  ·rw[if_pos c7] at H
   have c7b0:decide ((wrap64 (s0_1+1))≤(s0_0.length:Int))=true:=decide_eq_true c7
   clear c7
   simp only[Option.some.injEq,Prod.mk.injEq] at H
   obtain⟨rfl,rfl,rfl⟩:=H
   obtain⟨ASz8_0,cSz8_0,HGz8,hgz8,HSz8_0⟩:=HI0.out
   have hcz8_0:=iD HGz8
   have hcz8_1:=iH HGz8
   have hcz8_2:=iC HGz8
   have hfz8_1:=av HGz8 1
   have hfz8_2:=av HGz8 2
   clear HGz8 hgz8
   go_enter Try.func74,Try.ntmps74
   go_wp2
   repeat(go_quiet (fail);try go_wp2)
   go_ret
   exact⟨by first|rfl|(simp <;> rfl)|(simp[*] <;> rfl),by(try simp only[Int.add_zero]);with_reducible repeat(first|exact HI0.out|apply aU.alloc|apply aU.drewN|apply aU.drew|apply aU.set_1|apply aU.set_2),by with_reducible repeat(first|exact HB.out|apply ah|apply aa|apply ai|refine ae ?_ (aU.ge HI0.out)),by with_reducible repeat(first|exact HK.out|apply bg.set_|apply cZ|apply dz|apply cO)⟩
  ·rw[if_neg c7] at H
   have c7b0:decide ((wrap64 (s0_1+1))≤(s0_0.length:Int))=false:=decide_eq_false c7
   clear c7
   simp only[Option.some.injEq,Prod.mk.injEq] at H
   obtain⟨rfl,rfl,rfl⟩:=H
   obtain⟨ASz9_0,cSz9_0,HGz9,hgz9,HSz9_0⟩:=HI0.out
   have hcz9_0:=iD HGz9
   have hcz9_1:=iH HGz9
   have hcz9_2:=iC HGz9
   have hfz9_1:=av HGz9 1
   have hfz9_2:=av HGz9 2
   clear HGz9 hgz9
   go_enter Try.func74,Try.ntmps74
   go_wp2
   repeat(go_quiet (fail);try go_wp2)
   go_ret
   exact⟨by first|rfl|(simp <;> rfl)|(simp[*] <;> rfl),by(try simp only[Int.add_zero]);with_reducible repeat(first|exact HI0.out|apply aU.alloc|apply aU.drewN|apply aU.drew|apply aU.set_1|apply aU.set_2),by with_reducible repeat(first|exact HB.out|apply ah|apply aa|apply ai|refine ae ?_ (aU.ge HI0.out)),by with_reducible repeat(first|exact HK.out|apply bg.set_|apply cZ|apply dz|apply cO)⟩
attribute [local go_sem] bG bH bS bT bB bA bJ bI
set_option linter.unusedVariables false
set_option linter.unusedSimpArgs false
def spec_l1Cur_pick.f (s0_0:List Int) (s0_1:Int) (s0_2:Int) (a1:Int):Option (Int×Int×Int):=if a1≤1 then (some (0,s0_1,s0_2)) else ((spec_l1Cur_next.f s0_0 s0_1 s0_2).bind fun bt308=>(if a1 > 200 then ((spec_l1Cur_next.f s0_0 bt308.2.1 bt308.2.2).bind fun bt311=>(if a1=0 then (none) else (some (Int.tmod (wrap64 ((wrap64 (bt308.1*256))+bt311.1)) a1,bt311.2.1,bt311.2.2)))) else (if a1=0 then (none) else (some (Int.tmod bt308.1 a1,bt308.2.1,bt308.2.2)))))
set_option maxHeartbeats 8000000 in
set_option maxRecDepth 100000 in
theorem spec_l1Cur_pick.calls (g:Nat) (s0_0:List Int) (s0_1:Int) (s0_2:Int) (a1:Int) (r1:Int) (r2:Int) (r3:Int) (w0 w:World) (hI:aU w0 w g s0_0 s0_1 s0_2) (hB:Below w0.heap.size w0 w) (h:spec_l1Cur_pick.f s0_0 s0_1 s0_2 a1=some (r1,r2,r3)) :
  Calls Try.prog 46 #[.pointer (some ⟨g,0,none⟩),.int .i64 a1] w fun e w'=>e = .returned (.int .i64 r1)∧aU w0 w' g s0_0 r2 r3∧Below w0.heap.size w0 w'∧bg w w' g none:=by
 have HI0:=au hI
 have HK:=au (bg.refl w g none)
 have HL:=au hB.size
 clear hI
 have HW0:=au hB.size
 have HB:=au hB
 clear hB
 have H:(if a1≤1 then (some (0,s0_1,s0_2)) else ((spec_l1Cur_next.f s0_0 s0_1 s0_2).bind fun bt308=>(if a1 > 200 then ((spec_l1Cur_next.f s0_0 bt308.2.1 bt308.2.2).bind fun bt311=>(if a1=0 then (none) else (some (Int.tmod (wrap64 ((wrap64 (bt308.1*256))+bt311.1)) a1,bt311.2.1,bt311.2.2)))) else (if a1=0 then (none) else (some (Int.tmod bt308.1 a1,bt308.2.1,bt308.2.2))))))=some (r1,r2,r3):=h
 clear h
 by_cases c3:a1≤1
 ·rw[if_pos c3] at H
  have c3b0:decide (a1≤1)=true:=decide_eq_true c3
  clear c3
  simp only[Option.some.injEq,Prod.mk.injEq] at H
  obtain⟨rfl,rfl,rfl⟩:=H
  go_enter Try.func46,Try.ntmps46
  go_wp2
  go_ret
  exact⟨by first|rfl|(simp <;> rfl)|(simp[*] <;> rfl),by(try simp only[Int.add_zero]);with_reducible repeat(first|exact HI0.out|apply aU.alloc|apply aU.drewN|apply aU.drew|apply aU.set_1|apply aU.set_2),by with_reducible repeat(first|exact HB.out|apply ah|apply aa|apply ai|refine ae ?_ (aU.ge HI0.out)),by with_reducible repeat(first|exact HK.out|apply bg.set_|apply cZ|apply dz|apply cO)⟩
 ·rw[if_neg c3] at H
  have c3b0:decide (a1≤1)=false:=decide_eq_false c3
  clear c3
  replace H:=Option.bind_eq_some_iff.mp H
  obtain⟨⟨t308,t309,t310⟩,A40,H⟩:=H
  replace H:(if a1 > 200 then ((spec_l1Cur_next.f s0_0 t309 t310).bind fun bt311=>(if a1=0 then (none) else (some (Int.tmod (wrap64 ((wrap64 (t308*256))+bt311.1)) a1,bt311.2.1,bt311.2.2)))) else (if a1=0 then (none) else (some (Int.tmod t308 a1,t309,t310))))=some (r1,r2,r3):=H
  have A4:=au A40
  clear A40
  by_cases c5:a1 > 200
  ·rw[if_pos c5] at H
   have c5b0:decide (200<a1)=true:=decide_eq_true c5
   clear c5
   replace H:=Option.bind_eq_some_iff.mp H
   obtain⟨⟨t311,t312,t313⟩,A60,H⟩:=H
   replace H:(if a1=0 then (none) else (some (Int.tmod (wrap64 ((wrap64 (t308*256))+t311)) a1,t312,t313)))=some (r1,r2,r3):=H
   have A6:=au A60
   clear A60
   by_cases c7:a1=0
   ·rw[if_pos c7] at H
    exact absurd H (by simp)
   ·rw[if_neg c7] at H
    have c7b0:(a1 == 0)=false:=beq_eq_false_iff_ne.mpr c7
    have c7b1:(a1 != 0)=true:=bne_iff_ne.mpr c7
    simp only[Option.some.injEq,Prod.mk.injEq] at H
    obtain⟨rfl,rfl,rfl⟩:=H
    go_enter Try.func46,Try.ntmps46
    go_wp2_with (first|((with_reducible refine aW (f:=74) rfl ?_);refine bO (some 9) rfl rfl Try.func74 (by kernel_rfl) rfl #[.pointer (some ⟨g,0,none⟩)] rfl (by(try simp only[amp_]);first|done|rfl|(simp only[ald_];rfl)) ?_;(with_reducible refine(spec_l1Cur_next.calls g s0_0 s0_1 s0_2 t308 t309 t310 w0 _ ?side1 ?side2 A4.out).mono ?_);(case side1=>with_reducible repeat(first|exact HI0.out|apply aU.alloc|apply aU.drewN|apply aU.drew|apply aU.set_1|apply aU.set_2));(case side2=>with_reducible repeat(first|exact HB.out|apply ah|apply aa|apply ai|refine ae ?_ (aU.ge HI0.out)));rintro e w8 ⟨rfl,hi,hb,hk⟩;refine⟨_,rfl,?_⟩;replace HK:=au (bg.trans (by with_reducible repeat(first|exact HK.out|apply bg.set_|apply cZ|apply dz|apply cO)) hk (.inl rfl));replace HB:=au (hb);replace HI0:=au (hi);(try clear hb);(try clear hb2);(try clear hk);(try clear hi))|((with_reducible refine aW (f:=74) rfl ?_);refine bO (some 15) rfl rfl Try.func74 (by kernel_rfl) rfl #[.pointer (some ⟨g,0,none⟩)] rfl (by(try simp only[amp_]);first|done|rfl|(simp only[ald_];rfl)) ?_;(with_reducible refine(spec_l1Cur_next.calls g s0_0 t309 t310 t311 t312 t313 w0 _ ?side1 ?side2 A6.out).mono ?_);(case side1=>with_reducible repeat(first|exact HI0.out|apply aU.alloc|apply aU.drewN|apply aU.drew|apply aU.set_1|apply aU.set_2));(case side2=>with_reducible repeat(first|exact HB.out|apply ah|apply aa|apply ai|refine ae ?_ (aU.ge HI0.out)));rintro e w9 ⟨rfl,hi,hb,hk⟩;refine⟨_,rfl,?_⟩;replace HK:=au (bg.trans (by with_reducible repeat(first|exact HK.out|apply bg.set_|apply cZ|apply dz|apply cO)) hk (.inl rfl));replace HB:=au (hb);replace HI0:=au (hi);(try clear hb);(try clear hb2);(try clear hk);(try clear hi)))
    go_ret
    exact⟨by first|rfl|(simp <;> rfl)|(simp[*] <;> rfl),by(try simp only[Int.add_zero]);with_reducible repeat(first|exact HI0.out|apply aU.alloc|apply aU.drewN|apply aU.drew|apply aU.set_1|apply aU.set_2),by with_reducible repeat(first|exact HB.out|apply ah|apply aa|apply ai|refine ae ?_ (aU.ge HI0.out)),by with_reducible repeat(first|exact HK.out|apply bg.set_|apply cZ|apply dz|apply cO)⟩
  ·rw[if_neg c5] at H
   have c5b0:decide (200<a1)=false:=decide_eq_false c5
   clear c5
   by_cases c10:a1=0
   ·rw[if_pos c10] at H
    exact absurd H (by simp)
   ·rw[if_neg c10] at H
    have c10b0:(a1 == 0)=false:=beq_eq_false_iff_ne.mpr c10
    have c10b1:(a1 != 0)=true:=bne_iff_ne.mpr c10
    simp only[Option.some.injEq,Prod.mk.injEq] at H
    obtain⟨rfl,rfl,rfl⟩:=H
    go_enter Try.func46,Try.ntmps46
    go_wp2_with (first|((with_reducible refine aW (f:=74) rfl ?_);refine bO (some 9) rfl rfl Try.func74 (by kernel_rfl) rfl #[.pointer (some ⟨g,0,none⟩)] rfl (by(try simp only[amp_]);first|done|rfl|(simp only[ald_];rfl)) ?_;(with_reducible refine(spec_l1Cur_next.calls g s0_0 s0_1 s0_2 t308 t309 t310 w0 _ ?side1 ?side2 A4.out).mono ?_);(case side1=>with_reducible repeat(first|exact HI0.out|apply aU.alloc|apply aU.drewN|apply aU.drew|apply aU.set_1|apply aU.set_2));(case side2=>with_reducible repeat(first|exact HB.out|apply ah|apply aa|apply ai|refine ae ?_ (aU.ge HI0.out)));rintro e w11 ⟨rfl,hi,hb,hk⟩;refine⟨_,rfl,?_⟩;replace HK:=au (bg.trans (by with_reducible repeat(first|exact HK.out|apply bg.set_|apply cZ|apply dz|apply cO)) hk (.inl rfl));replace HB:=au (hb);replace HI0:=au (hi);(try clear hb);(try clear hb2);(try clear hk);(try clear hi)))
    go_ret
    exact⟨by first|rfl|(simp <;> rfl)|(simp[*] <;> rfl),by(try simp only[Int.add_zero]);with_reducible repeat(first|exact HI0.out|apply aU.alloc|apply aU.drewN|apply aU.drew|apply aU.set_1|apply aU.set_2),by with_reducible repeat(first|exact HB.out|apply ah|apply aa|apply ai|refine ae ?_ (aU.ge HI0.out)),by with_reducible repeat(first|exact HK.out|apply bg.set_|apply cZ|apply dz|apply cO)⟩
attribute [local go_sem] bG bH bS bT bB bA bJ bI
set_option linter.unusedVariables false
set_option linter.unusedSimpArgs false
def spec_l1Cur_among.f (s0_0:List Int) (s0_1:Int) (s0_2:Int) (l1:List Int):Option (Int×Int×Int):=(spec_l1Cur_pick.f s0_0 s0_1 s0_2 (l1.length:Int)).bind fun bt329=>(if 0≤bt329.1 then (if bt329.1 < (l1.length:Int) then (some (rd l1 bt329.1,bt329.2.1,bt329.2.2)) else (none)) else (none))
set_option maxHeartbeats 8000000 in
set_option maxRecDepth 100000 in
theorem spec_l1Cur_among.calls (g:Nat) (s0_0:List Int) (s0_1:Int) (s0_2:Int) (A1:Option Addr) (c1:Nat) (l1:List Int) (r1:Int) (r2:Int) (r3:Int) (w0 w:World) (hI:aU w0 w g s0_0 s0_1 s0_2) (hB:Below w0.heap.size w0 w) (hr1:Kd.C (Kd.int .i64) w A1 l1.length l1) (hc1:l1.length≤c1) (hf1:∀ ad,A1=some ad→0<l1.length→ad.block≠g) (h:spec_l1Cur_among.f s0_0 s0_1 s0_2 l1=some (r1,r2,r3)) :
  Calls Try.prog 73 #[.pointer (some ⟨g,0,none⟩),.slice A1 l1.length c1] w fun e w'=>e = .returned (.int .i64 r1)∧aU w0 w' g s0_0 r2 r3∧Below w0.heap.size w0 w'∧bg w w' g none:=by
 have HR1:=au hr1
 have HC1:=au hc1
 clear hr1 hc1
 have HI0:=au hI
 have HK:=au (bg.refl w g none)
 have HL:=au hB.size
 clear hI
 have HW0:=au hB.size
 have HB:=au hB
 clear hB
 have H:((spec_l1Cur_pick.f s0_0 s0_1 s0_2 (l1.length:Int)).bind fun bt329=>(if 0≤bt329.1 then (if bt329.1 < (l1.length:Int) then (some (rd l1 bt329.1,bt329.2.1,bt329.2.2)) else (none)) else (none)))=some (r1,r2,r3):=h
 clear h
 replace H:=Option.bind_eq_some_iff.mp H
 obtain⟨⟨t329,t330,t331⟩,A30,H⟩:=H
 replace H:(if 0≤t329 then (if t329 < (l1.length:Int) then (some (rd l1 t329,t330,t331)) else (none)) else (none))=some (r1,r2,r3):=H
 have A3:=au A30
 clear A30
 by_cases c4:0≤t329
 ·rw[if_pos c4] at H
  have c4b0:decide (0≤t329)=true:=decide_eq_true c4
  clear c4
  by_cases c5:t329 < (l1.length:Int)
  ·rw[if_pos c5] at H
   have c5b0:decide (t329 < (l1.length:Int))=true:=decide_eq_true c5
   clear c5
   simp only[Option.some.injEq,Prod.mk.injEq] at H
   obtain⟨rfl,rfl,rfl⟩:=H
   go_enter Try.func73,Try.ntmps73
   go_wp2_with (first|((with_reducible refine aW (f:=46) rfl ?_);refine bO (some 9) rfl rfl Try.func46 (by kernel_rfl) rfl #[.pointer (some ⟨g,0,none⟩),.int .i64 (l1.length:Int)] rfl (by(try simp only[amp_]);first|done|rfl|(simp only[ald_];rfl)) ?_;(with_reducible refine(spec_l1Cur_pick.calls g s0_0 s0_1 s0_2 (l1.length:Int) t329 t330 t331 w0 _ ?side1 ?side2 A3.out).mono ?_);(case side1=>with_reducible repeat(first|exact HI0.out|apply aU.alloc|apply aU.drewN|apply aU.drew|apply aU.set_1|apply aU.set_2));(case side2=>with_reducible repeat(first|exact HB.out|apply ah|apply aa|apply ai|refine ae ?_ (aU.ge HI0.out)));rintro e w6 ⟨rfl,hi,hb,hk⟩;refine⟨_,rfl,?_⟩;replace HK:=au (bg.trans (by with_reducible repeat(first|exact HK.out|apply bg.set_|apply cZ|apply dz|apply cO)) hk (.inl rfl));replace HB:=au (hb);replace HI0:=au (hi);(try clear hb);(try clear hb2);(try clear hk);(try clear hi);have p332:0≤(t329:Int):=of_decide_eq_true (by assumption);have q332:t329 < (l1.length:Int):=of_decide_eq_true (by assumption);obtain⟨ad332,e332,hx332_0⟩:=Kd.kv HR1.out t329 p332 q332;cases e332;replace hx332_0:=jm HK.out hx332_0 (by first|(rw[add_block];exact hf1 _ rfl (by omega))|exact hf1 _ rfl (by omega)|exact hf1 ad332 rfl (by omega));replace p332:=eq_true p332;replace q332:=eq_true q332))
   go_ret
   exact⟨by first|rfl|(simp <;> rfl)|(simp[*] <;> rfl),by(try simp only[Int.add_zero]);with_reducible repeat(first|exact HI0.out|apply aU.alloc|apply aU.drewN|apply aU.drew|apply aU.set_1|apply aU.set_2),by with_reducible repeat(first|exact HB.out|apply ah|apply aa|apply ai|refine ae ?_ (aU.ge HI0.out)),by with_reducible repeat(first|exact HK.out|apply bg.set_|apply cZ|apply dz|apply cO)⟩
  ·rw[if_neg c5] at H
   exact absurd H (by simp)
 ·rw[if_neg c4] at H
  exact absurd H (by simp)
attribute [local go_sem] bG bH bS bT bB bA bJ bI
set_option linter.unusedVariables false
set_option linter.unusedSimpArgs false
def spec_l1Cur_below.f (s0_0:List Int) (s0_1:Int) (s0_2:Int) (a1:Int):Option (Int×Int×Int):=if a1<1 then (some (0,s0_1,s0_2)) else ((spec_l1Cur_pick.f s0_0 s0_1 s0_2 a1).bind fun bt422=>(some (bt422.1,bt422.2.1,bt422.2.2)))
set_option maxHeartbeats 8000000 in
set_option maxRecDepth 100000 in
theorem spec_l1Cur_below.calls (g:Nat) (s0_0:List Int) (s0_1:Int) (s0_2:Int) (a1:Int) (r1:Int) (r2:Int) (r3:Int) (w0 w:World) (hI:aU w0 w g s0_0 s0_1 s0_2) (hB:Below w0.heap.size w0 w) (h:spec_l1Cur_below.f s0_0 s0_1 s0_2 a1=some (r1,r2,r3)) :
  Calls Try.prog 45 #[.pointer (some ⟨g,0,none⟩),.int .i64 a1] w fun e w'=>e = .returned (.int .i64 r1)∧aU w0 w' g s0_0 r2 r3∧Below w0.heap.size w0 w'∧bg w w' g none:=by
 have HI0:=au hI
 have HK:=au (bg.refl w g none)
 have HL:=au hB.size
 clear hI
 have HW0:=au hB.size
 have HB:=au hB
 clear hB
 have H:(if a1<1 then (some (0,s0_1,s0_2)) else ((spec_l1Cur_pick.f s0_0 s0_1 s0_2 a1).bind fun bt422=>(some (bt422.1,bt422.2.1,bt422.2.2))))=some (r1,r2,r3):=h
 clear h
 by_cases c3:a1<1
 ·rw[if_pos c3] at H
  have c3b0:decide (a1<1)=true:=decide_eq_true c3
  clear c3
  simp only[Option.some.injEq,Prod.mk.injEq] at H
  obtain⟨rfl,rfl,rfl⟩:=H
  go_enter Try.func45,Try.ntmps45
  go_wp2
  go_ret
  exact⟨by first|rfl|(simp <;> rfl)|(simp[*] <;> rfl),by(try simp only[Int.add_zero]);with_reducible repeat(first|exact HI0.out|apply aU.alloc|apply aU.drewN|apply aU.drew|apply aU.set_1|apply aU.set_2),by with_reducible repeat(first|exact HB.out|apply ah|apply aa|apply ai|refine ae ?_ (aU.ge HI0.out)),by with_reducible repeat(first|exact HK.out|apply bg.set_|apply cZ|apply dz|apply cO)⟩
 ·rw[if_neg c3] at H
  have c3b0:decide (a1<1)=false:=decide_eq_false c3
  clear c3
  replace H:=Option.bind_eq_some_iff.mp H
  obtain⟨⟨t422,t423,t424⟩,A40,H⟩:=H
  replace H:(some (t422,t423,t424))=some (r1,r2,r3):=H
  have A4:=au A40
  clear A40
  simp only[Option.some.injEq,Prod.mk.injEq] at H
  obtain⟨rfl,rfl,rfl⟩:=H
  go_enter Try.func45,Try.ntmps45
  go_wp2_with (first|((with_reducible refine aW (f:=46) rfl ?_);refine bO (some 9) rfl rfl Try.func46 (by kernel_rfl) rfl #[.pointer (some ⟨g,0,none⟩),.int .i64 a1] rfl (by(try simp only[amp_]);first|done|rfl|(simp only[ald_];rfl)) ?_;(with_reducible refine(spec_l1Cur_pick.calls g s0_0 s0_1 s0_2 a1 t422 t423 t424 w0 _ ?side1 ?side2 A4.out).mono ?_);(case side1=>with_reducible repeat(first|exact HI0.out|apply aU.alloc|apply aU.drewN|apply aU.drew|apply aU.set_1|apply aU.set_2));(case side2=>with_reducible repeat(first|exact HB.out|apply ah|apply aa|apply ai|refine ae ?_ (aU.ge HI0.out)));rintro e w5 ⟨rfl,hi,hb,hk⟩;refine⟨_,rfl,?_⟩;replace HK:=au (bg.trans (by with_reducible repeat(first|exact HK.out|apply bg.set_|apply cZ|apply dz|apply cO)) hk (.inl rfl));replace HB:=au (hb);replace HI0:=au (hi);(try clear hb);(try clear hb2);(try clear hk);(try clear hi)))
  go_ret
  exact⟨by first|rfl|(simp <;> rfl)|(simp[*] <;> rfl),by(try simp only[Int.add_zero]);with_reducible repeat(first|exact HI0.out|apply aU.alloc|apply aU.drewN|apply aU.drew|apply aU.set_1|apply aU.set_2),by with_reducible repeat(first|exact HB.out|apply ah|apply aa|apply ai|refine ae ?_ (aU.ge HI0.out)),by with_reducible repeat(first|exact HK.out|apply bg.set_|apply cZ|apply dz|apply cO)⟩
attribute [local go_sem] bG bH bS bT bB bA bJ bI
set_option linter.unusedVariables false
set_option linter.unusedSimpArgs false
def spec_l1Cur_one.f (s0_0:List Int) (s0_1:Int) (s0_2:Int) (a1:Int):Option (Bool×Int×Int):=(spec_l1Cur_pick.f s0_0 s0_1 s0_2 a1).bind fun bt314=>(some ((bt314.1 == 0),bt314.2.1,bt314.2.2))
set_option maxHeartbeats 8000000 in
set_option maxRecDepth 100000 in
theorem spec_l1Cur_one.calls (g:Nat) (s0_0:List Int) (s0_1:Int) (s0_2:Int) (a1:Int) (r1:Bool) (r2:Int) (r3:Int) (w0 w:World) (hI:aU w0 w g s0_0 s0_1 s0_2) (hB:Below w0.heap.size w0 w) (h:spec_l1Cur_one.f s0_0 s0_1 s0_2 a1=some (r1,r2,r3)) :
  Calls Try.prog 47 #[.pointer (some ⟨g,0,none⟩),.int .i64 a1] w fun e w'=>e = .returned (.bool r1)∧aU w0 w' g s0_0 r2 r3∧Below w0.heap.size w0 w'∧bg w w' g none:=by
 have HI0:=au hI
 have HK:=au (bg.refl w g none)
 have HL:=au hB.size
 clear hI
 have HW0:=au hB.size
 have HB:=au hB
 clear hB
 have H:((spec_l1Cur_pick.f s0_0 s0_1 s0_2 a1).bind fun bt314=>(some ((bt314.1 == 0),bt314.2.1,bt314.2.2)))=some (r1,r2,r3):=h
 clear h
 replace H:=Option.bind_eq_some_iff.mp H
 obtain⟨⟨t314,t315,t316⟩,A30,H⟩:=H
 replace H:(some ((t314 == 0),t315,t316))=some (r1,r2,r3):=H
 have A3:=au A30
 clear A30
 simp only[Option.some.injEq,Prod.mk.injEq] at H
 obtain⟨rfl,rfl,rfl⟩:=H
 go_enter Try.func47,Try.ntmps47
 go_wp2_with (first|((with_reducible refine aW (f:=46) rfl ?_);refine bO (some 7) rfl rfl Try.func46 (by kernel_rfl) rfl #[.pointer (some ⟨g,0,none⟩),.int .i64 a1] rfl (by(try simp only[amp_]);first|done|rfl|(simp only[ald_];rfl)) ?_;(with_reducible refine(spec_l1Cur_pick.calls g s0_0 s0_1 s0_2 a1 t314 t315 t316 w0 _ ?side1 ?side2 A3.out).mono ?_);(case side1=>with_reducible repeat(first|exact HI0.out|apply aU.alloc|apply aU.drewN|apply aU.drew|apply aU.set_1|apply aU.set_2));(case side2=>with_reducible repeat(first|exact HB.out|apply ah|apply aa|apply ai|refine ae ?_ (aU.ge HI0.out)));rintro e w4 ⟨rfl,hi,hb,hk⟩;refine⟨_,rfl,?_⟩;replace HK:=au (bg.trans (by with_reducible repeat(first|exact HK.out|apply bg.set_|apply cZ|apply dz|apply cO)) hk (.inl rfl));replace HB:=au (hb);replace HI0:=au (hi);(try clear hb);(try clear hb2);(try clear hk);(try clear hi)))
 go_ret
 exact⟨by first|rfl|(simp <;> rfl)|(simp[*] <;> rfl),by(try simp only[Int.add_zero]);with_reducible repeat(first|exact HI0.out|apply aU.alloc|apply aU.drewN|apply aU.drew|apply aU.set_1|apply aU.set_2),by with_reducible repeat(first|exact HB.out|apply ah|apply aa|apply ai|refine ae ?_ (aU.ge HI0.out)),by with_reducible repeat(first|exact HK.out|apply bg.set_|apply cZ|apply dz|apply cO)⟩
end Go.Proofs.Ytelblhkbogljnaa.PFre
namespace Go.Proofs.Ytelblhkbogljnaa.ZFre
open Go.RowKit Go.Proofs.Ytelblhkbogljnaa.PFre Go.Proofs.YtelblhkbogljnaaW.PrintWords Go.Proofs.YtelblhkbogljnaaW.PrintLast Go.Proofs.YtelblhkbogljnaaW.PrintMore Go.Proofs.Ytelblhkbogljnaa.E
set_option linter.unusedSimpArgs false
set_option linter.unusedVariables false
theorem wrap_u64 (n:Int):IntKind.u64.wrap n=n % 18446744073709551616:=by simp[IntKind.wrap,IntKind.bits,IntKind.signed]
theorem nK (x:Int) (h0:0≤x) (h1:x<18446744073709551616):bits .and .u64 x 255=x % 256:=
  bits_mask .u64 64 (by decide) (fun n a b=>by rw[wrap_u64];omega) 8 (by decide) x h0 h1
def Bytes (l:List Int):Prop:=∀ x∈l,0≤x∧x≤255
theorem p9 {l:List Int} (h:Bytes l) (i:Int):0≤rd l i∧rd l i≤255:=by
  unfold rd
  rw[List.getD_eq_getElem?_getD]
  by_cases hi:i.toNat<l.length
  · rw[List.getElem?_eq_getElem hi]
    exact h _ (List.getElem_mem hi)
  · rw[List.getElem?_eq_none (by omega)]
    simp
theorem og {l:List Int} (hl:Bytes l) (p q:Int) (h0:0≤p) (h1:p≤1000000000000):∃ b q',spec_l1Cur_next.f l p q=some (b,p+1,q')∧0≤b∧b≤255:=by
  have hr:=p9 hl p
  have e:∀ y:Int,0≤wrap64 (bits .and .u64 (IntKind.u64.wrap y / 1099511627776) 255)∧wrap64 (bits .and .u64 (IntKind.u64.wrap y / 1099511627776) 255)≤255:=by
    intro y
    rw[wrap_u64,nK _ (by omega) (by omega),w64 (by omega) (by omega)]
    omega
  unfold spec_l1Cur_next.f
  rw[w64 (x:=p+1) (by omega) (by omega),w64 (x:=rd l p) (by omega) (by omega)]
  by_cases a:p < (l.length:Int)
  · rw[if_pos a,if_pos h0]
    by_cases b:p+1≤(l.length:Int)
    · rw[if_pos b]
      exact⟨_,_,rfl,hr⟩
    · rw[if_neg b]
      exact⟨_,_,rfl,e _⟩
  · rw[if_neg a]
    by_cases b:p+1≤(l.length:Int)
    · rw[if_pos b]
      exact⟨_,_,rfl,by omega⟩
    · rw[if_neg b]
      exact⟨_,_,rfl,e _⟩
theorem dW {l:List Int} (hl:Bytes l) (p q n:Int) (h0:0≤p) (h1:p≤100000000000) (hn:n≤1000000000000):∃ r p' q',spec_l1Cur_pick.f l p q n=some (r,p',q')∧0≤r∧(r<n∨n≤1∧r=0)∧p≤p'∧p'≤p+2:=by
  unfold spec_l1Cur_pick.f
  by_cases a:n≤1
  · rw[if_pos a]
    exact⟨0,p,q,rfl,by omega,by omega,by omega,by omega⟩
  · rw[if_neg a]
    obtain⟨b,q1,e1,hb⟩:=og hl p q h0 (by omega)
    rw[e1]
    simp only[Option.bind_some]
    by_cases c:n > 200
    · rw[if_pos c]
      obtain⟨b2,q2,e2,hb2⟩:=og hl (p+1) q1 (by omega) (by omega)
      rw[e2]
      simp only[Option.bind_some]
      rw[if_neg (by omega),w64 (x:=b*256) (by omega) (by omega),w64 (x:=b*256+b2) (by omega) (by omega),mq (by omega)]
      refine⟨_,_,_,rfl,Int.emod_nonneg _ (by omega),.inl (Int.emod_lt_of_pos _ (by omega)),by omega,by omega⟩
    · rw[if_neg c,if_neg (by omega),mq (by omega)]
      refine⟨_,_,_,rfl,Int.emod_nonneg _ (by omega),.inl (Int.emod_lt_of_pos _ (by omega)),by omega,by omega⟩
theorem qc {l:List Int} (hl:Bytes l) (p q:Int) (xs:List Int) (h0:0≤p) (h1:p≤100000000000) (hx:1≤xs.length) (hx2:xs.length≤1000000) :
    ∃ r p' q',spec_l1Cur_among.f l p q xs=some (r,p',q')∧r∈xs∧p≤p'∧p'≤p+2:=by
  obtain⟨i,p1,q1,e1,h2,h3,h4,h5⟩:=dW hl p q xs.length h0 h1 (by omega)
  have hi:i.toNat<xs.length:=by omega
  refine⟨rd xs i,p1,q1,?_,?_,h4,h5⟩
  · unfold spec_l1Cur_among.f
    rw[e1]
    simp only[Option.bind_some]
    rw[if_pos h2,if_pos (by omega)]
  · unfold rd
    rw[List.getD_eq_getElem?_getD,List.getElem?_eq_getElem hi]
    exact List.getElem_mem hi
end Go.Proofs.Ytelblhkbogljnaa.ZFre
namespace Go.Proofs.Ytelblhkbogljnaa.PFre
open Go.RowKit Go.Proofs.YtelblhkbogljnaaW.PrintWords Go.Proofs.YtelblhkbogljnaaW.PrintLast Go.Proofs.YtelblhkbogljnaaW.PrintMore
attribute [local go_sem] bG bH bS bT bB bA bJ bI
set_option linter.unusedVariables false
set_option linter.unusedSimpArgs false
def spec_NewFree.f (k:Nat) (a0:Int):Option (Int×(List (S35))×(List (S35))×Bool):=(spec_l1In.f a0 1 400).bind fun t318=>(if t318=true then ((spec_l5Of.f k a0 (([(⟨0,a0⟩:S35)]:List (S35)))).bind fun bt322=>(some (bt322.1,bt322.2.1,bt322.2.2,true))) else (some (0,([]:List (S35)),([]:List (S35)),false)))
set_option maxHeartbeats 8000000 in
set_option maxRecDepth 100000 in
theorem spec_NewFree.calls (k:Nat) (a0:Int) (r1:Int) (r2:List (S35)) (r3:List (S35)) (r4:Bool) (w:World) (h:spec_NewFree.f k a0=some (r1,r2,r3,r4)) :
  Calls Try.prog 72 #[.int .i64 a0] w fun e w'=>∃ v1_ v2_:Value,e = .returned (.tuple #[.agg #[.int .i64 r1,v1_,v2_],.bool r4])∧Kd.R k35 35 w' w.heap.size (fun k_=>some k_≠(v2_:Value).ownBlock) v1_ r2∧Kd.R k35 35 w' w.heap.size (fun k_=>some k_≠(v1_:Value).ownBlock) v2_ r3∧Below w.heap.size w w':=by
 have hu24:=Try.underlying24
 have hu35:=Try.underlying35
 have HB:=au (Below.refl w.heap.size w)
 have H:((spec_l1In.f a0 1 400).bind fun t318=>(if t318=true then ((spec_l5Of.f k a0 (([(⟨0,a0⟩:S35)]:List (S35)))).bind fun bt322=>(some (bt322.1,bt322.2.1,bt322.2.2,true))) else (some (0,([]:List (S35)),([]:List (S35)),false))))=some (r1,r2,r3,r4):=h
 clear h
 replace H:=Option.bind_eq_some_iff.mp H
 obtain⟨t318,A20,H⟩:=H
 replace H:(if t318=true then ((spec_l5Of.f k a0 (([(⟨0,a0⟩:S35)]:List (S35)))).bind fun bt322=>(some (bt322.1,bt322.2.1,bt322.2.2,true))) else (some (0,([]:List (S35)),([]:List (S35)),false)))=some (r1,r2,r3,r4):=H
 have A2:=au A20
 clear A20
 by_cases c3:t318=true
 ·subst c3
  have H1:((spec_l5Of.f k a0 (([(⟨0,a0⟩:S35)]:List (S35)))).bind fun bt322=>(some (bt322.1,bt322.2.1,bt322.2.2,true)))=some (r1,r2,r3,r4):=by rw[if_pos rfl] at H;exact H
  clear H
  have H:=H1
  clear H1
  obtain⟨y319,hy319⟩:∃ y_:List (S35),y_ = (([(⟨0,a0⟩:S35)]:List (S35))):=⟨_,rfl⟩
  replace H:((spec_l5Of.f k a0 y319).bind fun bt322=>(some (bt322.1,bt322.2.1,bt322.2.2,true)))=some (r1,r2,r3,r4):=by first|(rw[hy319];with_reducible exact H)|(have H2_:=(Option.bind_some _ _).symm.trans H;rw[hy319];with_reducible exact H2_)|(have H2_:=(Option.bind_some _ _).symm.trans H;with_reducible exact H2_)|with_reducible exact H|(rw[hy319];exact H)|exact H
  have Ny319:=au hy319
  clear hy319
  replace H:=Option.bind_eq_some_iff.mp H
  obtain⟨⟨t322,t323,t326⟩,A40,H⟩:=H
  replace H:(some (t322,t323,t326,true))=some (r1,r2,r3,r4):=H
  have A4:=au A40
  clear A40
  simp only[Option.some.injEq,Prod.mk.injEq] at H
  obtain⟨rfl,rfl,rfl,rfl⟩:=H
  go_enter Try.func72,Try.ntmps72
  go_wp2_with (first|((with_reducible refine aM (N:=2) rfl ?_);refine aJ ?hg (N:=2) ?hd (cs:=#[.int .i64 0,.slice none 0 0,.slice none 0 0]) (t:=24) ?hr ?_;(case hd=>rfl);(case hg=>rfl);(case hr=>first|(go_simp;done)|(go_simp;rfl));intro gb317 hg w5 hbox hb;have BK317:=au (hbox);have GW317:=au ((by rw[hg];exact(az (by with_reducible repeat(first|exact HB.out|apply ah|apply aa|apply ai))):w.heap.size≤gb317));have GE317:=au ((by rw[hg];exact(az (by with_reducible repeat(first|exact HB.out|apply ah|apply aa|apply ai))):w.heap.size≤gb317));replace HB:=au (aA (by with_reducible repeat(first|exact HB.out|apply ah|apply aa|apply ai)) hb);clear hb hbox hg)|((with_reducible refine aW (f:=32) rfl ?_);refine bO (some 5) rfl rfl Try.func32 (by kernel_rfl) rfl #[.int .i64 a0,.int .i64 1,.int .i64 400] rfl (by(try simp only[amp_]);first|done|rfl|(simp only[ald_];rfl)) ?_;(with_reducible refine(spec_l1In.calls a0 1 400 true _ A2.out).mono ?_);rintro e w' ⟨rfl,⟨nd,rfl⟩⟩;refine⟨_,rfl,?_⟩;(try(rw[kR w5];generalize hq_:World.drewN w5 _=w5;have n0_:Aside0 (w5.heap[gb317]? = some (.cells #[.int .i64 0,.slice none 0 0,.slice none 0 0] 24 (0,0))):=⟨by rw[← hq_];exact(by(with_reducible repeat(first|apply ag|apply aj|apply af));exact BK317.out)⟩;have n1_:Aside0 (Below w.heap.size w w5):=⟨by rw[← hq_];exact(by with_reducible repeat(first|exact HB.out|apply ah|apply aa|apply ai|refine ae ?_ GE317.out))⟩;clear BK317 HB hq_;have BK317:=n0_;have HB:=n1_;clear n0_ n1_)))|((with_reducible refine aM (N:=11) rfl ?_);refine Kd.lC k35 _ 35 ?hg (N:=11) ?hd (xs:=([(⟨0,a0⟩:S35)]:List (S35))) (inner:=[.int .i64 0,.int .i64 a0]) (ok:=fun _=>True) (okp:=fun _=>True) ?hr ?hp (fun _ hk=>hk) trivial (Below.refl _ _) (Nat.le_refl _) (by simp) ?_;(case hd=>rfl);(case hg=>rfl);(case hr=>first|(go_simp;done)|(go_simp;rfl));(case hp=>exact(cz.c2 (show Kd.M k35 _ _ _ (⟨0,a0⟩:S35) [.int .i64 0,.int .i64 a0] from(eu _ _ _ (⟨0,a0⟩:S35))) (cz.none _ _)));intro v320 w6 ho7 hb hg_ hnew_;clear hg_ hnew_;(first|rw[← Ny319.out] at ho7|(simp only[Int.reduceToNat] at ho7;rw[← Ny319.out] at ho7));have HO321:=au (Kd.bz ho7 (az (by with_reducible repeat(first|exact HB.out|apply ah|apply aa|apply ai|refine ae ?_ GE317.out))));replace BK317:=au (ay (g:=gb317) (o:=.cells #[.int .i64 0,.slice none 0 0,.slice none 0 0] 24 (0,0)) (by(with_reducible repeat(first|apply ag|apply aj|apply af));exact BK317.out) hb);replace HB:=au (aA (by with_reducible repeat(first|exact HB.out|apply ah|apply aa|apply ai|refine ae ?_ GE317.out)) hb);clear hb ho7;obtain⟨Ao8,co8,eo8⟩:=Kd.bq HO321.out;subst eo8)|((with_reducible refine aW (f:=33) rfl ?_);refine bO (some 12) rfl rfl Try.func33 (by kernel_rfl) rfl #[.int .i64 a0,.slice Ao8 y319.length co8] rfl (by(try simp only[amp_]);first|done|rfl|(simp only[ald_];rfl)) ?_;(with_reducible refine(spec_l5Of.calls k a0 _ _ y319 t322 t323 t326 _ ?side1 ?side2 A4.out).mono ?_);(case side1=>repeat(first|exact(Kd.R_reads' HO321.out).2.2|(with_reducible first|apply Kd.aY|apply Kd.aZ|apply Kd.bn)));(case side2=>exact(Kd.R_reads' HO321.out).2.1);rintro e w9 ⟨v324,v327,rfl,ho0,ho1,hb⟩;refine⟨_,rfl,?_⟩;have HO325:=au (Kd.bz (Kd.R_new' ho0 (Kd.fq (by(with_reducible repeat(first|apply Kd.aD|apply Kd.aC|apply Kd.aI));exact HO321.out))) (az (by with_reducible repeat(first|exact HB.out|apply ah|apply aa|apply ai|refine ae ?_ GE317.out))));have HO328:=au (Kd.bz (Kd.R_new' ho1 (Kd.fq (by(with_reducible repeat(first|apply Kd.aD|apply Kd.aC|apply Kd.aI));exact HO321.out))) (az (by with_reducible repeat(first|exact HB.out|apply ah|apply aa|apply ai|refine ae ?_ GE317.out))));replace HO321:=au (Kd.aT (Kd.dX (Kd.dX (Kd.iN (by(with_reducible repeat(first|apply Kd.aD|apply Kd.aC|apply Kd.aI));exact HO321.out) hb) (Kd.dI ho0)) (Kd.dI ho1)) (fun _ h_=>h_.1));replace BK317:=au (ay (g:=gb317) (o:=.cells #[.int .i64 0,.slice none 0 0,.slice none 0 0] 24 (0,0)) (by(with_reducible repeat(first|apply ag|apply aj|apply af));exact BK317.out) hb);replace HB:=au (aA (by with_reducible repeat(first|exact HB.out|apply ah|apply aa|apply ai|refine ae ?_ GE317.out)) hb);(try clear hb);(try clear hb2);(try clear hk);(try clear hi);(try clear ho0);(try clear ho1);have hcz10_0:w9.cell? ⟨gb317,0,none⟩=some (.int .i64 0):=(ak BK317.out 0).trans rfl;have hcz10_1:w9.cell? ⟨gb317,1,none⟩=some (.slice none 0 0):=(ak BK317.out 1).trans rfl;have hcz10_2:w9.cell? ⟨gb317,2,none⟩=some (.slice none 0 0):=(ak BK317.out 2).trans rfl;have hfz10_0:=av BK317.out 0;have hfz10_1:=av BK317.out 1;have hfz10_2:=av BK317.out 2;obtain⟨Ao11,co11,eo11⟩:=Kd.bq HO325.out;subst eo11;obtain⟨Ao12,co12,eo12⟩:=Kd.bq HO328.out;subst eo12))
  refine bodyPost_ret (di rfl _ _ gb317 24 #[.int .i64 t322,.slice Ao11 t323.length co11,.slice Ao12 t326.length co12] (0,0) _ rfl (by(with_reducible repeat(first|apply ag|apply aj|apply af));refine aK (cs:=#[.int .i64 t322,.slice Ao11 t323.length co11,.slice none 0 0]) ?_ 2 _ rfl;(with_reducible repeat(first|apply ag|apply aj|apply af));refine aK (cs:=#[.int .i64 t322,.slice none 0 0,.slice none 0 0]) ?_ 1 _ rfl;(with_reducible repeat(first|apply ag|apply aj|apply af));refine aK (cs:=#[.int .i64 0,.slice none 0 0,.slice none 0 0]) ?_ 0 _ rfl;(with_reducible repeat(first|apply ag|apply aj|apply af));exact BK317.out) Try.underlying24 rfl (by kernel_rfl)) rfl ?_
  exact⟨_,_,by first|rfl|(simp <;> rfl)|(simp[*] <;> rfl),by(with_reducible repeat(first|apply Kd.aD|apply Kd.aC|apply Kd.aI));exact Kd.aT (Kd.aV (p:=⟨gb317,2,none⟩) (Kd.aV (p:=⟨gb317,1,none⟩) (Kd.aV (p:=⟨gb317,0,none⟩) (Kd.bK HO325.out BK317.out (by decide)) (fun _ hk=>hk.2) (.int .i64 t322)) (fun _ hk=>hk.2) (.slice Ao11 t323.length co11)) (fun _ hk=>hk.2) (.slice Ao12 t326.length co12)) (fun _ hk=>hk.1.1),by(with_reducible repeat(first|apply Kd.aD|apply Kd.aC|apply Kd.aI));exact Kd.aT (Kd.aV (p:=⟨gb317,2,none⟩) (Kd.aV (p:=⟨gb317,1,none⟩) (Kd.aV (p:=⟨gb317,0,none⟩) (Kd.bK HO328.out BK317.out (by decide)) (fun _ hk=>hk.2) (.int .i64 t322)) (fun _ hk=>hk.2) (.slice Ao11 t323.length co11)) (fun _ hk=>hk.2) (.slice Ao12 t326.length co12)) (fun _ hk=>hk.1.1),by with_reducible repeat(first|exact HB.out|apply ah|apply aa|apply ai|refine ae ?_ GE317.out)⟩
 ·replace c3:=Bool.eq_false_iff.mpr c3
  subst c3
  have H1:(some (0,([]:List (S35)),([]:List (S35)),false))=some (r1,r2,r3,r4):=by rw[if_neg (show ¬ (false=true) by decide)] at H;exact H
  clear H
  have H:=H1
  clear H1
  simp only[Option.some.injEq,Prod.mk.injEq] at H
  obtain⟨rfl,rfl,rfl,rfl⟩:=H
  go_enter Try.func72,Try.ntmps72
  go_wp2_with (first|((with_reducible refine aM (N:=2) rfl ?_);refine aJ ?hg (N:=2) ?hd (cs:=#[.int .i64 0,.slice none 0 0,.slice none 0 0]) (t:=24) ?hr ?_;(case hd=>rfl);(case hg=>rfl);(case hr=>first|(go_simp;done)|(go_simp;rfl));intro gb317 hg w13 hbox hb;have BK317:=au (hbox);have GW317:=au ((by rw[hg];exact(az (by with_reducible repeat(first|exact HB.out|apply ah|apply aa|apply ai))):w.heap.size≤gb317));have GE317:=au ((by rw[hg];exact(az (by with_reducible repeat(first|exact HB.out|apply ah|apply aa|apply ai))):w.heap.size≤gb317));replace HB:=au (aA (by with_reducible repeat(first|exact HB.out|apply ah|apply aa|apply ai)) hb);clear hb hbox hg)|((with_reducible refine aW (f:=32) rfl ?_);refine bO (some 5) rfl rfl Try.func32 (by kernel_rfl) rfl #[.int .i64 a0,.int .i64 1,.int .i64 400] rfl (by(try simp only[amp_]);first|done|rfl|(simp only[ald_];rfl)) ?_;(with_reducible refine(spec_l1In.calls a0 1 400 false _ A2.out).mono ?_);rintro e w' ⟨rfl,⟨nd,rfl⟩⟩;refine⟨_,rfl,?_⟩;(try(rw[kR w13];generalize hq_:World.drewN w13 _=w13;have n0_:Aside0 (w13.heap[gb317]? = some (.cells #[.int .i64 0,.slice none 0 0,.slice none 0 0] 24 (0,0))):=⟨by rw[← hq_];exact(by(with_reducible repeat(first|apply ag|apply aj|apply af));exact BK317.out)⟩;have n1_:Aside0 (Below w.heap.size w w13):=⟨by rw[← hq_];exact(by with_reducible repeat(first|exact HB.out|apply ah|apply aa|apply ai|refine ae ?_ GE317.out))⟩;clear BK317 HB hq_;have BK317:=n0_;have HB:=n1_;clear n0_ n1_));have hcz14_0:w13.cell? ⟨gb317,0,none⟩=some (.int .i64 0):=(ak BK317.out 0).trans rfl;have hcz14_1:w13.cell? ⟨gb317,1,none⟩=some (.slice none 0 0):=(ak BK317.out 1).trans rfl;have hcz14_2:w13.cell? ⟨gb317,2,none⟩=some (.slice none 0 0):=(ak BK317.out 2).trans rfl;have hfz14_0:=av BK317.out 0;have hfz14_1:=av BK317.out 1;have hfz14_2:=av BK317.out 2))
  refine bodyPost_ret (di rfl _ _ gb317 24 #[.int .i64 0,.slice none 0 0,.slice none 0 0] (0,0) _ rfl (by(with_reducible repeat(first|apply ag|apply aj|apply af));refine aK (cs:=#[.int .i64 0,.slice none 0 0,.slice none 0 0]) ?_ 2 _ rfl;(with_reducible repeat(first|apply ag|apply aj|apply af));refine aK (cs:=#[.int .i64 0,.slice none 0 0,.slice none 0 0]) ?_ 1 _ rfl;(with_reducible repeat(first|apply ag|apply aj|apply af));refine aK (cs:=#[.int .i64 0,.slice none 0 0,.slice none 0 0]) ?_ 0 _ rfl;(with_reducible repeat(first|apply ag|apply aj|apply af));exact BK317.out) Try.underlying24 rfl (by kernel_rfl)) rfl ?_
  exact⟨_,_,by first|rfl|(simp <;> rfl)|(simp[*] <;> rfl),by first|exact Kd.dn _ _ _ _ _|exact Kd.dU _ _ _ _ _|exact Kd.dQ _ _ _ _ _|exact Kd.dR _ _ _ _ _|exact Kd.dS _ _ _ _ _,by first|exact Kd.dn _ _ _ _ _|exact Kd.dU _ _ _ _ _|exact Kd.dQ _ _ _ _ _|exact Kd.dR _ _ _ _ _|exact Kd.dS _ _ _ _ _,by with_reducible repeat(first|exact HB.out|apply ah|apply aa|apply ai|refine ae ?_ GE317.out)⟩
end Go.Proofs.Ytelblhkbogljnaa.PFre
