import Derived.Test.YtdghdjachbbdmaaDoorSGoo4
namespace Go.Proofs.YtdghdjachbbdmaaDoor.PFre
open Go.RowKit Go.Proofs.YtdghdjachbbdmaaDoorW.PrintWords Go.Proofs.YtdghdjachbbdmaaDoorW.PrintLast Go.Proofs.YtdghdjachbbdmaaDoorW.PrintMore
attribute [local go_sem] bG bF bQ bR bB bC bH bE
set_option linter.unusedVariables false
set_option linter.unusedSimpArgs false
def spec_l5Place.l0:Nat→List (S72)→Int→List (S72)→Int→Int→Option (Bool)
 | 0,_,_,_,_,_=>none
 | k+1,x0,x1,x7,x8,x9=>if x9<x8 then (if 0≤x9 then (if x9 < (x7.length:Int) then (if ((aH x7 x9).f0)<0 then (some false) else (if ((aH x7 x9).f1)<1 then (some false) else (if ((aH x7 x9).f1) > x1 then (some false) else (if ((aH x7 x9).f0) > (wrap64 (x1 - ((aH x7 x9).f1))) then (some false) else (if x9 > 0 then (if 0≤(wrap64 (x9 - 1)) then (if (wrap64 (x9 - 1)) < (x0.length:Int) then (if (wrap64 (((aH x0 (wrap64 (x9 - 1))).f0) + ((aH x0 (wrap64 (x9 - 1))).f1)))≥((aH x7 x9).f0) then (some false) else (spec_l5Place.l0 k x0 x1 x7 x8 (wrap64 (x9+1)))) else (none)) else (none)) else (spec_l5Place.l0 k x0 x1 x7 x8 (wrap64 (x9+1)))))))) else (none)) else (none)) else ((spec_l1In.f x1 1 400).bind fun t117=>(if t117=true then (some (decide ((x0.length:Int)≤60))) else (some false)))
def spec_l5Place.f (k:Nat) (l0:List (S72)) (a1:Int):Option (Bool):=spec_l5Place.l0 k l0 a1 l0 (l0.length:Int) 0
set_option maxHeartbeats 8000000 in
set_option maxRecDepth 100000 in
theorem spec_l5Place.calls (k : Nat) (A0 : Option Addr) (c0 : Nat) (l0 : List (S72)) (a1 : Int) (r : Bool) (w : World) (hr0 : Kd.C k72 w A0 l0.length l0) (hc0 : l0.length ≤ c0) (h : spec_l5Place.f k l0 a1 = some r) :
  Calls Tryd.prog 24 #[.slice A0 l0.length c0,.int .i64 a1] w fun e w'=>e = .returned (.bool r)∧Below w.heap.size w w':=by
 have hu72:=Tryd.underlying72
 have HR0:=av hr0
 have HC0:=av hc0
 clear hr0 hc0
 have HB:=av (Below.refl w.heap.size w)
 have H:(spec_l5Place.l0 k l0 a1 l0 (l0.length:Int) 0)=some r:=h
 clear h
 have H':=av H
 clear H
 go_enter Tryd.func24,Tryd.ntmps24
 go_wp2
 repeat(go_quiet (fail);try go_wp2)
 go_loopg [9] k (fun kq v9 w'=>∃ (x9_1:Int),v9 = .int .i64 x9_1∧Aside0 (spec_l5Place.l0 kq l0 a1 l0 (l0.length:Int) x9_1=some r)∧Aside0 (kq≤k)∧Aside0 (Below w.heap.size w w'))
 case atStart=>exact⟨(0),(by first|rfl|(simp;done)|(simp[*];done)),H',⟨Nat.le_refl _⟩,⟨by with_reducible repeat(first|exact HB.out|apply af|apply aa|apply ae)⟩⟩
 case round =>
  clear H'
  try clear c2
  try clear p2
  obtain⟨x9_1,rfl,HA,HK1,HB⟩:=hrel
  cases gk with
  | zero=>exact absurd HA.out (by simp[spec_l5Place.l0])
  | succ k1 =>
   have H:=HA.out
   clear HA
   simp only[spec_l5Place.l0] at H
   by_cases c3:x9_1 < (l0.length:Int)
   ·rw [if_pos c3] at H
    have c3b0:decide (x9_1 < (l0.length:Int))=true:=decide_eq_true c3
    clear c3
    by_cases c4:0≤x9_1
    ·rw [if_pos c4] at H
     have c4b0:decide (0≤x9_1)=true:=decide_eq_true c4
     clear c4
     by_cases c5:x9_1 < (l0.length:Int)
     ·rw [if_pos c5] at H
      have c5b0:decide (x9_1 < (l0.length:Int))=true:=decide_eq_true c5
      clear c5
      by_cases c6:((aH l0 x9_1).f0)<0
      ·rw[if_pos c6] at H
       have c6b0:decide (((aH l0 x9_1).f0)<0)=true:=decide_eq_true c6
       clear c6
       obtain rfl:=Option.some.inj H
       have p113:0≤(x9_1:Int):=of_decide_eq_true (by assumption)
       have q113:x9_1 < (l0.length:Int):=of_decide_eq_true (by assumption)
       obtain⟨ad113,e113,hx113_0,hx113_1⟩:=bI HR0.out x9_1 p113 q113
       cases e113
       replace hx113_0:=(HB.out.cell (World.block_lt_of_cell? w _ hx113_0)).trans hx113_0
       replace hx113_1:=(HB.out.cell (World.block_lt_of_cell? w _ hx113_1)).trans hx113_1
       replace p113:=eq_true p113
       replace q113:=eq_true q113
       go_wp2_with (first|((with_reducible refine aJ (N:=6) rfl ?_);(try(refine bu (by rfl) ?_;dsimp only));refine aI ?hg (N:=6) ?hd (cs:=#[.int .i64 0,.int .i64 0]) (t:=72) ?hr ?_;(case hd=>rfl);(case hg=>rfl);(case hr=>first|(go_simp;done)|(go_simp;rfl));intro gb114 hg w7 hbox hb;have BK114:=av (hbox);have GW114:=av ((by rw[hg];exact(ay (by with_reducible repeat(first|exact HB.out|apply af|apply aa|apply ae))):w.heap.size≤gb114));have GE114:=av ((by rw[hg];exact(ay (by with_reducible repeat(first|exact HB.out|apply af|apply aa|apply ae))):w.heap.size≤gb114));replace HB:=av (aA (by with_reducible repeat(first|exact HB.out|apply af|apply aa|apply ae)) hb);clear hb hbox hg;have hcz8_0:w7.cell? ⟨gb114,0,none⟩=some (.int .i64 0):=(ag BK114.out 0).trans rfl;have hcz8_1:w7.cell? ⟨gb114,1,none⟩=some (.int .i64 0):=(ag BK114.out 1).trans rfl;have hfz8_0:=ah BK114.out 0;have hfz8_1:=ah BK114.out 1))
       repeat(go_quiet (first|((with_reducible refine aJ (N:=6) rfl ?_);(try(refine bu (by rfl) ?_;dsimp only));refine aI ?hg (N:=6) ?hd (cs:=#[.int .i64 0,.int .i64 0]) (t:=72) ?hr ?_;(case hd=>rfl);(case hg=>rfl);(case hr=>first|(go_simp;done)|(go_simp;rfl));intro gb114 hg w7 hbox hb;have BK114:=av (hbox);have GW114:=av ((by rw[hg];exact(ay (by with_reducible repeat(first|exact HB.out|apply af|apply aa|apply ae))):w.heap.size≤gb114));have GE114:=av ((by rw[hg];exact(ay (by with_reducible repeat(first|exact HB.out|apply af|apply aa|apply ae))):w.heap.size≤gb114));replace HB:=av (aA (by with_reducible repeat(first|exact HB.out|apply af|apply aa|apply ae)) hb);clear hb hbox hg;have hcz8_0:w7.cell? ⟨gb114,0,none⟩=some (.int .i64 0):=(ag BK114.out 0).trans rfl;have hcz8_1:w7.cell? ⟨gb114,1,none⟩=some (.int .i64 0):=(ag BK114.out 1).trans rfl;have hfz8_0:=ah BK114.out 0;have hfz8_1:=ah BK114.out 1));try go_wp2_with (first|((with_reducible refine aJ (N:=6) rfl ?_);(try(refine bu (by rfl) ?_;dsimp only));refine aI ?hg (N:=6) ?hd (cs:=#[.int .i64 0,.int .i64 0]) (t:=72) ?hr ?_;(case hd=>rfl);(case hg=>rfl);(case hr=>first|(go_simp;done)|(go_simp;rfl));intro gb114 hg w7 hbox hb;have BK114:=av (hbox);have GW114:=av ((by rw[hg];exact(ay (by with_reducible repeat(first|exact HB.out|apply af|apply aa|apply ae))):w.heap.size≤gb114));have GE114:=av ((by rw[hg];exact(ay (by with_reducible repeat(first|exact HB.out|apply af|apply aa|apply ae))):w.heap.size≤gb114));replace HB:=av (aA (by with_reducible repeat(first|exact HB.out|apply af|apply aa|apply ae)) hb);clear hb hbox hg;have hcz8_0:w7.cell? ⟨gb114,0,none⟩=some (.int .i64 0):=(ag BK114.out 0).trans rfl;have hcz8_1:w7.cell? ⟨gb114,1,none⟩=some (.int .i64 0):=(ag BK114.out 1).trans rfl;have hfz8_0:=ah BK114.out 0;have hfz8_1:=ah BK114.out 1)))
       go_ret
       exact⟨by first|rfl|(simp <;> rfl)|(simp[*] <;> rfl),by with_reducible repeat(first|exact HB.out|apply af|apply aa|apply ae|refine ai ?_ GE114.out)⟩
      ·rw [if_neg c6] at H
       have c6b0:decide (((aH l0 x9_1).f0)<0)=false:=decide_eq_false c6
       clear c6
       by_cases c9:((aH l0 x9_1).f1)<1
       ·rw[if_pos c9] at H
        have c9b0:decide (((aH l0 x9_1).f1)<1)=true:=decide_eq_true c9
        clear c9
        obtain rfl:=Option.some.inj H
        have p113:0≤(x9_1:Int):=of_decide_eq_true (by assumption)
        have q113:x9_1 < (l0.length:Int):=of_decide_eq_true (by assumption)
        obtain⟨ad113,e113,hx113_0,hx113_1⟩:=bI HR0.out x9_1 p113 q113
        cases e113
        replace hx113_0:=(HB.out.cell (World.block_lt_of_cell? w _ hx113_0)).trans hx113_0
        replace hx113_1:=(HB.out.cell (World.block_lt_of_cell? w _ hx113_1)).trans hx113_1
        replace p113:=eq_true p113
        replace q113:=eq_true q113
        go_wp2_with (first|((with_reducible refine aJ (N:=6) rfl ?_);(try(refine bu (by rfl) ?_;dsimp only));refine aI ?hg (N:=6) ?hd (cs:=#[.int .i64 0,.int .i64 0]) (t:=72) ?hr ?_;(case hd=>rfl);(case hg=>rfl);(case hr=>first|(go_simp;done)|(go_simp;rfl));intro gb114 hg w10 hbox hb;have BK114:=av (hbox);have GW114:=av ((by rw[hg];exact(ay (by with_reducible repeat(first|exact HB.out|apply af|apply aa|apply ae))):w.heap.size≤gb114));have GE114:=av ((by rw[hg];exact(ay (by with_reducible repeat(first|exact HB.out|apply af|apply aa|apply ae))):w.heap.size≤gb114));replace HB:=av (aA (by with_reducible repeat(first|exact HB.out|apply af|apply aa|apply ae)) hb);clear hb hbox hg;have hcz11_0:w10.cell? ⟨gb114,0,none⟩=some (.int .i64 0):=(ag BK114.out 0).trans rfl;have hcz11_1:w10.cell? ⟨gb114,1,none⟩=some (.int .i64 0):=(ag BK114.out 1).trans rfl;have hfz11_0:=ah BK114.out 0;have hfz11_1:=ah BK114.out 1))
        repeat(go_quiet (first|((with_reducible refine aJ (N:=6) rfl ?_);(try(refine bu (by rfl) ?_;dsimp only));refine aI ?hg (N:=6) ?hd (cs:=#[.int .i64 0,.int .i64 0]) (t:=72) ?hr ?_;(case hd=>rfl);(case hg=>rfl);(case hr=>first|(go_simp;done)|(go_simp;rfl));intro gb114 hg w10 hbox hb;have BK114:=av (hbox);have GW114:=av ((by rw[hg];exact(ay (by with_reducible repeat(first|exact HB.out|apply af|apply aa|apply ae))):w.heap.size≤gb114));have GE114:=av ((by rw[hg];exact(ay (by with_reducible repeat(first|exact HB.out|apply af|apply aa|apply ae))):w.heap.size≤gb114));replace HB:=av (aA (by with_reducible repeat(first|exact HB.out|apply af|apply aa|apply ae)) hb);clear hb hbox hg;have hcz11_0:w10.cell? ⟨gb114,0,none⟩=some (.int .i64 0):=(ag BK114.out 0).trans rfl;have hcz11_1:w10.cell? ⟨gb114,1,none⟩=some (.int .i64 0):=(ag BK114.out 1).trans rfl;have hfz11_0:=ah BK114.out 0;have hfz11_1:=ah BK114.out 1));try go_wp2_with (first|((with_reducible refine aJ (N:=6) rfl ?_);(try(refine bu (by rfl) ?_;dsimp only));refine aI ?hg (N:=6) ?hd (cs:=#[.int .i64 0,.int .i64 0]) (t:=72) ?hr ?_;(case hd=>rfl);(case hg=>rfl);(case hr=>first|(go_simp;done)|(go_simp;rfl));intro gb114 hg w10 hbox hb;have BK114:=av (hbox);have GW114:=av ((by rw[hg];exact(ay (by with_reducible repeat(first|exact HB.out|apply af|apply aa|apply ae))):w.heap.size≤gb114));have GE114:=av ((by rw[hg];exact(ay (by with_reducible repeat(first|exact HB.out|apply af|apply aa|apply ae))):w.heap.size≤gb114));replace HB:=av (aA (by with_reducible repeat(first|exact HB.out|apply af|apply aa|apply ae)) hb);clear hb hbox hg;have hcz11_0:w10.cell? ⟨gb114,0,none⟩=some (.int .i64 0):=(ag BK114.out 0).trans rfl;have hcz11_1:w10.cell? ⟨gb114,1,none⟩=some (.int .i64 0):=(ag BK114.out 1).trans rfl;have hfz11_0:=ah BK114.out 0;have hfz11_1:=ah BK114.out 1)))
        go_ret
        exact⟨by first|rfl|(simp <;> rfl)|(simp[*] <;> rfl),by with_reducible repeat(first|exact HB.out|apply af|apply aa|apply ae|refine ai ?_ GE114.out)⟩
       ·rw [if_neg c9] at H
        have c9b0:decide (((aH l0 x9_1).f1)<1)=false:=decide_eq_false c9
        clear c9
        by_cases c12:((aH l0 x9_1).f1) > a1
        ·rw[if_pos c12] at H
         have c12b0:decide (a1 < ((aH l0 x9_1).f1))=true:=decide_eq_true c12
         clear c12
         obtain rfl:=Option.some.inj H
         have p113:0≤(x9_1:Int):=of_decide_eq_true (by assumption)
         have q113:x9_1 < (l0.length:Int):=of_decide_eq_true (by assumption)
         obtain⟨ad113,e113,hx113_0,hx113_1⟩:=bI HR0.out x9_1 p113 q113
         cases e113
         replace hx113_0:=(HB.out.cell (World.block_lt_of_cell? w _ hx113_0)).trans hx113_0
         replace hx113_1:=(HB.out.cell (World.block_lt_of_cell? w _ hx113_1)).trans hx113_1
         replace p113:=eq_true p113
         replace q113:=eq_true q113
         go_wp2_with (first|((with_reducible refine aJ (N:=6) rfl ?_);(try(refine bu (by rfl) ?_;dsimp only));refine aI ?hg (N:=6) ?hd (cs:=#[.int .i64 0,.int .i64 0]) (t:=72) ?hr ?_;(case hd=>rfl);(case hg=>rfl);(case hr=>first|(go_simp;done)|(go_simp;rfl));intro gb114 hg w13 hbox hb;have BK114:=av (hbox);have GW114:=av ((by rw[hg];exact(ay (by with_reducible repeat(first|exact HB.out|apply af|apply aa|apply ae))):w.heap.size≤gb114));have GE114:=av ((by rw[hg];exact(ay (by with_reducible repeat(first|exact HB.out|apply af|apply aa|apply ae))):w.heap.size≤gb114));replace HB:=av (aA (by with_reducible repeat(first|exact HB.out|apply af|apply aa|apply ae)) hb);clear hb hbox hg;have hcz14_0:w13.cell? ⟨gb114,0,none⟩=some (.int .i64 0):=(ag BK114.out 0).trans rfl;have hcz14_1:w13.cell? ⟨gb114,1,none⟩=some (.int .i64 0):=(ag BK114.out 1).trans rfl;have hfz14_0:=ah BK114.out 0;have hfz14_1:=ah BK114.out 1))
         repeat(go_quiet (first|((with_reducible refine aJ (N:=6) rfl ?_);(try(refine bu (by rfl) ?_;dsimp only));refine aI ?hg (N:=6) ?hd (cs:=#[.int .i64 0,.int .i64 0]) (t:=72) ?hr ?_;(case hd=>rfl);(case hg=>rfl);(case hr=>first|(go_simp;done)|(go_simp;rfl));intro gb114 hg w13 hbox hb;have BK114:=av (hbox);have GW114:=av ((by rw[hg];exact(ay (by with_reducible repeat(first|exact HB.out|apply af|apply aa|apply ae))):w.heap.size≤gb114));have GE114:=av ((by rw[hg];exact(ay (by with_reducible repeat(first|exact HB.out|apply af|apply aa|apply ae))):w.heap.size≤gb114));replace HB:=av (aA (by with_reducible repeat(first|exact HB.out|apply af|apply aa|apply ae)) hb);clear hb hbox hg;have hcz14_0:w13.cell? ⟨gb114,0,none⟩=some (.int .i64 0):=(ag BK114.out 0).trans rfl;have hcz14_1:w13.cell? ⟨gb114,1,none⟩=some (.int .i64 0):=(ag BK114.out 1).trans rfl;have hfz14_0:=ah BK114.out 0;have hfz14_1:=ah BK114.out 1));try go_wp2_with (first|((with_reducible refine aJ (N:=6) rfl ?_);(try(refine bu (by rfl) ?_;dsimp only));refine aI ?hg (N:=6) ?hd (cs:=#[.int .i64 0,.int .i64 0]) (t:=72) ?hr ?_;(case hd=>rfl);(case hg=>rfl);(case hr=>first|(go_simp;done)|(go_simp;rfl));intro gb114 hg w13 hbox hb;have BK114:=av (hbox);have GW114:=av ((by rw[hg];exact(ay (by with_reducible repeat(first|exact HB.out|apply af|apply aa|apply ae))):w.heap.size≤gb114));have GE114:=av ((by rw[hg];exact(ay (by with_reducible repeat(first|exact HB.out|apply af|apply aa|apply ae))):w.heap.size≤gb114));replace HB:=av (aA (by with_reducible repeat(first|exact HB.out|apply af|apply aa|apply ae)) hb);clear hb hbox hg;have hcz14_0:w13.cell? ⟨gb114,0,none⟩=some (.int .i64 0):=(ag BK114.out 0).trans rfl;have hcz14_1:w13.cell? ⟨gb114,1,none⟩=some (.int .i64 0):=(ag BK114.out 1).trans rfl;have hfz14_0:=ah BK114.out 0;have hfz14_1:=ah BK114.out 1)))
         go_ret
         exact⟨by first|rfl|(simp <;> rfl)|(simp[*] <;> rfl),by with_reducible repeat(first|exact HB.out|apply af|apply aa|apply ae|refine ai ?_ GE114.out)⟩
        ·rw [if_neg c12] at H
         have c12b0:decide (a1 < ((aH l0 x9_1).f1))=false:=decide_eq_false c12
         clear c12
         by_cases c15:((aH l0 x9_1).f0) > (wrap64 (a1 - ((aH l0 x9_1).f1)))
         ·rw[if_pos c15] at H
          have c15b0:decide ((wrap64 (a1 - ((aH l0 x9_1).f1))) < ((aH l0 x9_1).f0))=true:=decide_eq_true c15
          clear c15
          obtain rfl:=Option.some.inj H
          have p113:0≤(x9_1:Int):=of_decide_eq_true (by assumption)
          have q113:x9_1 < (l0.length:Int):=of_decide_eq_true (by assumption)
          obtain⟨ad113,e113,hx113_0,hx113_1⟩:=bI HR0.out x9_1 p113 q113
          cases e113
          replace hx113_0:=(HB.out.cell (World.block_lt_of_cell? w _ hx113_0)).trans hx113_0
          replace hx113_1:=(HB.out.cell (World.block_lt_of_cell? w _ hx113_1)).trans hx113_1
          replace p113:=eq_true p113
          replace q113:=eq_true q113
          go_wp2_with (first|((with_reducible refine aJ (N:=6) rfl ?_);(try(refine bu (by rfl) ?_;dsimp only));refine aI ?hg (N:=6) ?hd (cs:=#[.int .i64 0,.int .i64 0]) (t:=72) ?hr ?_;(case hd=>rfl);(case hg=>rfl);(case hr=>first|(go_simp;done)|(go_simp;rfl));intro gb114 hg w16 hbox hb;have BK114:=av (hbox);have GW114:=av ((by rw[hg];exact(ay (by with_reducible repeat(first|exact HB.out|apply af|apply aa|apply ae))):w.heap.size≤gb114));have GE114:=av ((by rw[hg];exact(ay (by with_reducible repeat(first|exact HB.out|apply af|apply aa|apply ae))):w.heap.size≤gb114));replace HB:=av (aA (by with_reducible repeat(first|exact HB.out|apply af|apply aa|apply ae)) hb);clear hb hbox hg;have hcz17_0:w16.cell? ⟨gb114,0,none⟩=some (.int .i64 0):=(ag BK114.out 0).trans rfl;have hcz17_1:w16.cell? ⟨gb114,1,none⟩=some (.int .i64 0):=(ag BK114.out 1).trans rfl;have hfz17_0:=ah BK114.out 0;have hfz17_1:=ah BK114.out 1))
          repeat(go_quiet (first|((with_reducible refine aJ (N:=6) rfl ?_);(try(refine bu (by rfl) ?_;dsimp only));refine aI ?hg (N:=6) ?hd (cs:=#[.int .i64 0,.int .i64 0]) (t:=72) ?hr ?_;(case hd=>rfl);(case hg=>rfl);(case hr=>first|(go_simp;done)|(go_simp;rfl));intro gb114 hg w16 hbox hb;have BK114:=av (hbox);have GW114:=av ((by rw[hg];exact(ay (by with_reducible repeat(first|exact HB.out|apply af|apply aa|apply ae))):w.heap.size≤gb114));have GE114:=av ((by rw[hg];exact(ay (by with_reducible repeat(first|exact HB.out|apply af|apply aa|apply ae))):w.heap.size≤gb114));replace HB:=av (aA (by with_reducible repeat(first|exact HB.out|apply af|apply aa|apply ae)) hb);clear hb hbox hg;have hcz17_0:w16.cell? ⟨gb114,0,none⟩=some (.int .i64 0):=(ag BK114.out 0).trans rfl;have hcz17_1:w16.cell? ⟨gb114,1,none⟩=some (.int .i64 0):=(ag BK114.out 1).trans rfl;have hfz17_0:=ah BK114.out 0;have hfz17_1:=ah BK114.out 1));try go_wp2_with (first|((with_reducible refine aJ (N:=6) rfl ?_);(try(refine bu (by rfl) ?_;dsimp only));refine aI ?hg (N:=6) ?hd (cs:=#[.int .i64 0,.int .i64 0]) (t:=72) ?hr ?_;(case hd=>rfl);(case hg=>rfl);(case hr=>first|(go_simp;done)|(go_simp;rfl));intro gb114 hg w16 hbox hb;have BK114:=av (hbox);have GW114:=av ((by rw[hg];exact(ay (by with_reducible repeat(first|exact HB.out|apply af|apply aa|apply ae))):w.heap.size≤gb114));have GE114:=av ((by rw[hg];exact(ay (by with_reducible repeat(first|exact HB.out|apply af|apply aa|apply ae))):w.heap.size≤gb114));replace HB:=av (aA (by with_reducible repeat(first|exact HB.out|apply af|apply aa|apply ae)) hb);clear hb hbox hg;have hcz17_0:w16.cell? ⟨gb114,0,none⟩=some (.int .i64 0):=(ag BK114.out 0).trans rfl;have hcz17_1:w16.cell? ⟨gb114,1,none⟩=some (.int .i64 0):=(ag BK114.out 1).trans rfl;have hfz17_0:=ah BK114.out 0;have hfz17_1:=ah BK114.out 1)))
          go_ret
          exact⟨by first|rfl|(simp <;> rfl)|(simp[*] <;> rfl),by with_reducible repeat(first|exact HB.out|apply af|apply aa|apply ae|refine ai ?_ GE114.out)⟩
         ·rw [if_neg c15] at H
          have c15b0:decide ((wrap64 (a1 - ((aH l0 x9_1).f1))) < ((aH l0 x9_1).f0))=false:=decide_eq_false c15
          clear c15
          by_cases c18:x9_1 > 0
          ·rw [if_pos c18] at H
           have c18b0:decide (0<x9_1)=true:=decide_eq_true c18
           clear c18
           obtain⟨ji19,hji19⟩:∃ j_:Int,(wrap64 (x9_1 - 1))=j_:=⟨_,rfl⟩
           replace H:(if 0≤(ji19) then (if (ji19) < (l0.length:Int) then (if (wrap64 (((aH l0 (ji19)).f0) + ((aH l0 (ji19)).f1)))≥((aH l0 x9_1).f0) then (some false) else (spec_l5Place.l0 k1 l0 a1 l0 (l0.length:Int) (wrap64 (x9_1+1)))) else (none)) else (none))=some r:=by first|(rw[hji19] at H;exact H)|(simp only[hji19] at H ⊢;exact H)
           have hji19w:(IntKind.i64.wrap (x9_1 - 1))=ji19:=(fo _).trans hji19
           by_cases c20:0≤(ji19)
           ·rw[if_pos c20] at H
            have c20b0:decide (0≤(ji19))=true:=decide_eq_true c20
            clear c20
            by_cases c21:(ji19) < (l0.length:Int)
            ·rw[if_pos c21] at H
             have c21b0:decide ((ji19) < (l0.length:Int))=true:=decide_eq_true c21
             clear c21
             by_cases c22:(wrap64 (((aH l0 (ji19)).f0) + ((aH l0 (ji19)).f1)))≥((aH l0 x9_1).f0)
             ·rw[if_pos c22] at H
              have c22b0:decide (((aH l0 x9_1).f0)≤(wrap64 (((aH l0 (ji19)).f0) + ((aH l0 (ji19)).f1))))=true:=decide_eq_true c22
              clear c22
              obtain rfl:=Option.some.inj H
              have p113:0≤(x9_1:Int):=of_decide_eq_true (by assumption)
              have q113:x9_1 < (l0.length:Int):=of_decide_eq_true (by assumption)
              obtain⟨ad113,e113,hx113_0,hx113_1⟩:=bI HR0.out x9_1 p113 q113
              cases e113
              replace hx113_0:=(HB.out.cell (World.block_lt_of_cell? w _ hx113_0)).trans hx113_0
              replace hx113_1:=(HB.out.cell (World.block_lt_of_cell? w _ hx113_1)).trans hx113_1
              replace p113:=eq_true p113
              replace q113:=eq_true q113
              go_wp2_with (first|((with_reducible refine aJ (N:=6) rfl ?_);(try(refine bu (by rfl) ?_;dsimp only));refine aI ?hg (N:=6) ?hd (cs:=#[.int .i64 0,.int .i64 0]) (t:=72) ?hr ?_;(case hd=>rfl);(case hg=>rfl);(case hr=>first|(go_simp;done)|(go_simp;rfl));intro gb114 hg w23 hbox hb;have BK114:=av (hbox);have GW114:=av ((by rw[hg];exact(ay (by with_reducible repeat(first|exact HB.out|apply af|apply aa|apply ae))):w.heap.size≤gb114));have GE114:=av ((by rw[hg];exact(ay (by with_reducible repeat(first|exact HB.out|apply af|apply aa|apply ae))):w.heap.size≤gb114));replace HB:=av (aA (by with_reducible repeat(first|exact HB.out|apply af|apply aa|apply ae)) hb);clear hb hbox hg;have hcz24_0:w23.cell? ⟨gb114,0,none⟩=some (.int .i64 0):=(ag BK114.out 0).trans rfl;have hcz24_1:w23.cell? ⟨gb114,1,none⟩=some (.int .i64 0):=(ag BK114.out 1).trans rfl;have hfz24_0:=ah BK114.out 0;have hfz24_1:=ah BK114.out 1;have p115:0≤((ji19):Int):=of_decide_eq_true (by assumption);have q115:(ji19) < (l0.length:Int):=of_decide_eq_true (by assumption);obtain⟨ad115,e115,hx115_0,hx115_1⟩:=bI HR0.out (ji19) p115 q115;obtain rfl:ad113=ad115:=(by injection e115);have hn115_0:ad113.block≠gb114:=Nat.ne_of_lt (Nat.lt_of_lt_of_le (by have:=World.block_lt_of_cell? _ _ hx115_0;first|rwa [add_block] at this|exact this) GW114.out);have hn115_1:ad113.block≠gb114:=Nat.ne_of_lt (Nat.lt_of_lt_of_le (by have:=World.block_lt_of_cell? _ _ hx115_0;first|rwa [add_block] at this|exact this) GW114.out);replace hx115_0:=(HB.out.cell (World.block_lt_of_cell? w _ hx115_0)).trans hx115_0;replace hx115_1:=(HB.out.cell (World.block_lt_of_cell? w _ hx115_1)).trans hx115_1;replace hx115_0:=(cell_far (p:=⟨gb114,0,none⟩) (by first|(rw[add_block];exact hn115_0)|(show(Addr.add _ _).block≠_;rw[add_block];exact hn115_0)|exact hn115_0) (.int .i64 ((aH l0 x9_1).f0))).trans hx115_0;replace hx115_1:=(cell_far (p:=⟨gb114,0,none⟩) (by first|(rw[add_block];exact hn115_0)|(show(Addr.add _ _).block≠_;rw[add_block];exact hn115_0)|exact hn115_0) (.int .i64 ((aH l0 x9_1).f0))).trans hx115_1;replace hx115_0:=(cell_far (p:=⟨gb114,1,none⟩) (by first|(rw[add_block];exact hn115_1)|(show(Addr.add _ _).block≠_;rw[add_block];exact hn115_1)|exact hn115_1) (.int .i64 ((aH l0 x9_1).f1))).trans hx115_0;replace hx115_1:=(cell_far (p:=⟨gb114,1,none⟩) (by first|(rw[add_block];exact hn115_1)|(show(Addr.add _ _).block≠_;rw[add_block];exact hn115_1)|exact hn115_1) (.int .i64 ((aH l0 x9_1).f1))).trans hx115_1;(try have hy115_0:=fun (n_:Nat)=>(show((((w23.drewN n_).setCell ⟨gb114,0,none⟩ (.int .i64 ((aH l0 x9_1).f0))).setCell ⟨gb114,1,none⟩ (.int .i64 ((aH l0 x9_1).f1)))).cell? _=some _ from hx115_0));(try have hy115_1:=fun (n_:Nat)=>(show((((w23.drewN n_).setCell ⟨gb114,0,none⟩ (.int .i64 ((aH l0 x9_1).f0))).setCell ⟨gb114,1,none⟩ (.int .i64 ((aH l0 x9_1).f1)))).cell? _=some _ from hx115_1));clear hn115_0;clear hn115_1;replace p115:=eq_true p115;replace q115:=eq_true q115;have p116:0≤((ji19):Int):=of_decide_eq_true (by assumption);have q116:(ji19) < (l0.length:Int):=of_decide_eq_true (by assumption);obtain⟨ad116,e116,hx116_0,hx116_1⟩:=bI HR0.out (ji19) p116 q116;obtain rfl:ad113=ad116:=(by injection e116);have hn116_0:ad113.block≠gb114:=Nat.ne_of_lt (Nat.lt_of_lt_of_le (by have:=World.block_lt_of_cell? _ _ hx116_0;first|rwa [add_block] at this|exact this) GW114.out);have hn116_1:ad113.block≠gb114:=Nat.ne_of_lt (Nat.lt_of_lt_of_le (by have:=World.block_lt_of_cell? _ _ hx116_0;first|rwa [add_block] at this|exact this) GW114.out);replace hx116_0:=(HB.out.cell (World.block_lt_of_cell? w _ hx116_0)).trans hx116_0;replace hx116_1:=(HB.out.cell (World.block_lt_of_cell? w _ hx116_1)).trans hx116_1;replace hx116_0:=(cell_far (p:=⟨gb114,0,none⟩) (by first|(rw[add_block];exact hn116_0)|(show(Addr.add _ _).block≠_;rw[add_block];exact hn116_0)|exact hn116_0) (.int .i64 ((aH l0 x9_1).f0))).trans hx116_0;replace hx116_1:=(cell_far (p:=⟨gb114,0,none⟩) (by first|(rw[add_block];exact hn116_0)|(show(Addr.add _ _).block≠_;rw[add_block];exact hn116_0)|exact hn116_0) (.int .i64 ((aH l0 x9_1).f0))).trans hx116_1;replace hx116_0:=(cell_far (p:=⟨gb114,1,none⟩) (by first|(rw[add_block];exact hn116_1)|(show(Addr.add _ _).block≠_;rw[add_block];exact hn116_1)|exact hn116_1) (.int .i64 ((aH l0 x9_1).f1))).trans hx116_0;replace hx116_1:=(cell_far (p:=⟨gb114,1,none⟩) (by first|(rw[add_block];exact hn116_1)|(show(Addr.add _ _).block≠_;rw[add_block];exact hn116_1)|exact hn116_1) (.int .i64 ((aH l0 x9_1).f1))).trans hx116_1;(try have hy116_0:=fun (n_:Nat)=>(show((((w23.drewN n_).setCell ⟨gb114,0,none⟩ (.int .i64 ((aH l0 x9_1).f0))).setCell ⟨gb114,1,none⟩ (.int .i64 ((aH l0 x9_1).f1)))).cell? _=some _ from hx116_0));(try have hy116_1:=fun (n_:Nat)=>(show((((w23.drewN n_).setCell ⟨gb114,0,none⟩ (.int .i64 ((aH l0 x9_1).f0))).setCell ⟨gb114,1,none⟩ (.int .i64 ((aH l0 x9_1).f1)))).cell? _=some _ from hx116_1));clear hn116_0;clear hn116_1;replace p116:=eq_true p116;replace q116:=eq_true q116))
              repeat(go_quiet (first|((with_reducible refine aJ (N:=6) rfl ?_);(try(refine bu (by rfl) ?_;dsimp only));refine aI ?hg (N:=6) ?hd (cs:=#[.int .i64 0,.int .i64 0]) (t:=72) ?hr ?_;(case hd=>rfl);(case hg=>rfl);(case hr=>first|(go_simp;done)|(go_simp;rfl));intro gb114 hg w23 hbox hb;have BK114:=av (hbox);have GW114:=av ((by rw[hg];exact(ay (by with_reducible repeat(first|exact HB.out|apply af|apply aa|apply ae))):w.heap.size≤gb114));have GE114:=av ((by rw[hg];exact(ay (by with_reducible repeat(first|exact HB.out|apply af|apply aa|apply ae))):w.heap.size≤gb114));replace HB:=av (aA (by with_reducible repeat(first|exact HB.out|apply af|apply aa|apply ae)) hb);clear hb hbox hg;have hcz24_0:w23.cell? ⟨gb114,0,none⟩=some (.int .i64 0):=(ag BK114.out 0).trans rfl;have hcz24_1:w23.cell? ⟨gb114,1,none⟩=some (.int .i64 0):=(ag BK114.out 1).trans rfl;have hfz24_0:=ah BK114.out 0;have hfz24_1:=ah BK114.out 1;have p115:0≤((ji19):Int):=of_decide_eq_true (by assumption);have q115:(ji19) < (l0.length:Int):=of_decide_eq_true (by assumption);obtain⟨ad115,e115,hx115_0,hx115_1⟩:=bI HR0.out (ji19) p115 q115;obtain rfl:ad113=ad115:=(by injection e115);have hn115_0:ad113.block≠gb114:=Nat.ne_of_lt (Nat.lt_of_lt_of_le (by have:=World.block_lt_of_cell? _ _ hx115_0;first|rwa [add_block] at this|exact this) GW114.out);have hn115_1:ad113.block≠gb114:=Nat.ne_of_lt (Nat.lt_of_lt_of_le (by have:=World.block_lt_of_cell? _ _ hx115_0;first|rwa [add_block] at this|exact this) GW114.out);replace hx115_0:=(HB.out.cell (World.block_lt_of_cell? w _ hx115_0)).trans hx115_0;replace hx115_1:=(HB.out.cell (World.block_lt_of_cell? w _ hx115_1)).trans hx115_1;replace hx115_0:=(cell_far (p:=⟨gb114,0,none⟩) (by first|(rw[add_block];exact hn115_0)|(show(Addr.add _ _).block≠_;rw[add_block];exact hn115_0)|exact hn115_0) (.int .i64 ((aH l0 x9_1).f0))).trans hx115_0;replace hx115_1:=(cell_far (p:=⟨gb114,0,none⟩) (by first|(rw[add_block];exact hn115_0)|(show(Addr.add _ _).block≠_;rw[add_block];exact hn115_0)|exact hn115_0) (.int .i64 ((aH l0 x9_1).f0))).trans hx115_1;replace hx115_0:=(cell_far (p:=⟨gb114,1,none⟩) (by first|(rw[add_block];exact hn115_1)|(show(Addr.add _ _).block≠_;rw[add_block];exact hn115_1)|exact hn115_1) (.int .i64 ((aH l0 x9_1).f1))).trans hx115_0;replace hx115_1:=(cell_far (p:=⟨gb114,1,none⟩) (by first|(rw[add_block];exact hn115_1)|(show(Addr.add _ _).block≠_;rw[add_block];exact hn115_1)|exact hn115_1) (.int .i64 ((aH l0 x9_1).f1))).trans hx115_1;(try have hy115_0:=fun (n_:Nat)=>(show((((w23.drewN n_).setCell ⟨gb114,0,none⟩ (.int .i64 ((aH l0 x9_1).f0))).setCell ⟨gb114,1,none⟩ (.int .i64 ((aH l0 x9_1).f1)))).cell? _=some _ from hx115_0));(try have hy115_1:=fun (n_:Nat)=>(show((((w23.drewN n_).setCell ⟨gb114,0,none⟩ (.int .i64 ((aH l0 x9_1).f0))).setCell ⟨gb114,1,none⟩ (.int .i64 ((aH l0 x9_1).f1)))).cell? _=some _ from hx115_1));clear hn115_0;clear hn115_1;replace p115:=eq_true p115;replace q115:=eq_true q115;have p116:0≤((ji19):Int):=of_decide_eq_true (by assumption);have q116:(ji19) < (l0.length:Int):=of_decide_eq_true (by assumption);obtain⟨ad116,e116,hx116_0,hx116_1⟩:=bI HR0.out (ji19) p116 q116;obtain rfl:ad113=ad116:=(by injection e116);have hn116_0:ad113.block≠gb114:=Nat.ne_of_lt (Nat.lt_of_lt_of_le (by have:=World.block_lt_of_cell? _ _ hx116_0;first|rwa [add_block] at this|exact this) GW114.out);have hn116_1:ad113.block≠gb114:=Nat.ne_of_lt (Nat.lt_of_lt_of_le (by have:=World.block_lt_of_cell? _ _ hx116_0;first|rwa [add_block] at this|exact this) GW114.out);replace hx116_0:=(HB.out.cell (World.block_lt_of_cell? w _ hx116_0)).trans hx116_0;replace hx116_1:=(HB.out.cell (World.block_lt_of_cell? w _ hx116_1)).trans hx116_1;replace hx116_0:=(cell_far (p:=⟨gb114,0,none⟩) (by first|(rw[add_block];exact hn116_0)|(show(Addr.add _ _).block≠_;rw[add_block];exact hn116_0)|exact hn116_0) (.int .i64 ((aH l0 x9_1).f0))).trans hx116_0;replace hx116_1:=(cell_far (p:=⟨gb114,0,none⟩) (by first|(rw[add_block];exact hn116_0)|(show(Addr.add _ _).block≠_;rw[add_block];exact hn116_0)|exact hn116_0) (.int .i64 ((aH l0 x9_1).f0))).trans hx116_1;replace hx116_0:=(cell_far (p:=⟨gb114,1,none⟩) (by first|(rw[add_block];exact hn116_1)|(show(Addr.add _ _).block≠_;rw[add_block];exact hn116_1)|exact hn116_1) (.int .i64 ((aH l0 x9_1).f1))).trans hx116_0;replace hx116_1:=(cell_far (p:=⟨gb114,1,none⟩) (by first|(rw[add_block];exact hn116_1)|(show(Addr.add _ _).block≠_;rw[add_block];exact hn116_1)|exact hn116_1) (.int .i64 ((aH l0 x9_1).f1))).trans hx116_1;(try have hy116_0:=fun (n_:Nat)=>(show((((w23.drewN n_).setCell ⟨gb114,0,none⟩ (.int .i64 ((aH l0 x9_1).f0))).setCell ⟨gb114,1,none⟩ (.int .i64 ((aH l0 x9_1).f1)))).cell? _=some _ from hx116_0));(try have hy116_1:=fun (n_:Nat)=>(show((((w23.drewN n_).setCell ⟨gb114,0,none⟩ (.int .i64 ((aH l0 x9_1).f0))).setCell ⟨gb114,1,none⟩ (.int .i64 ((aH l0 x9_1).f1)))).cell? _=some _ from hx116_1));clear hn116_0;clear hn116_1;replace p116:=eq_true p116;replace q116:=eq_true q116));try go_wp2_with (first|((with_reducible refine aJ (N:=6) rfl ?_);(try(refine bu (by rfl) ?_;dsimp only));refine aI ?hg (N:=6) ?hd (cs:=#[.int .i64 0,.int .i64 0]) (t:=72) ?hr ?_;(case hd=>rfl);(case hg=>rfl);(case hr=>first|(go_simp;done)|(go_simp;rfl));intro gb114 hg w23 hbox hb;have BK114:=av (hbox);have GW114:=av ((by rw[hg];exact(ay (by with_reducible repeat(first|exact HB.out|apply af|apply aa|apply ae))):w.heap.size≤gb114));have GE114:=av ((by rw[hg];exact(ay (by with_reducible repeat(first|exact HB.out|apply af|apply aa|apply ae))):w.heap.size≤gb114));replace HB:=av (aA (by with_reducible repeat(first|exact HB.out|apply af|apply aa|apply ae)) hb);clear hb hbox hg;have hcz24_0:w23.cell? ⟨gb114,0,none⟩=some (.int .i64 0):=(ag BK114.out 0).trans rfl;have hcz24_1:w23.cell? ⟨gb114,1,none⟩=some (.int .i64 0):=(ag BK114.out 1).trans rfl;have hfz24_0:=ah BK114.out 0;have hfz24_1:=ah BK114.out 1;have p115:0≤((ji19):Int):=of_decide_eq_true (by assumption);have q115:(ji19) < (l0.length:Int):=of_decide_eq_true (by assumption);obtain⟨ad115,e115,hx115_0,hx115_1⟩:=bI HR0.out (ji19) p115 q115;obtain rfl:ad113=ad115:=(by injection e115);have hn115_0:ad113.block≠gb114:=Nat.ne_of_lt (Nat.lt_of_lt_of_le (by have:=World.block_lt_of_cell? _ _ hx115_0;first|rwa [add_block] at this|exact this) GW114.out);have hn115_1:ad113.block≠gb114:=Nat.ne_of_lt (Nat.lt_of_lt_of_le (by have:=World.block_lt_of_cell? _ _ hx115_0;first|rwa [add_block] at this|exact this) GW114.out);replace hx115_0:=(HB.out.cell (World.block_lt_of_cell? w _ hx115_0)).trans hx115_0;replace hx115_1:=(HB.out.cell (World.block_lt_of_cell? w _ hx115_1)).trans hx115_1;replace hx115_0:=(cell_far (p:=⟨gb114,0,none⟩) (by first|(rw[add_block];exact hn115_0)|(show(Addr.add _ _).block≠_;rw[add_block];exact hn115_0)|exact hn115_0) (.int .i64 ((aH l0 x9_1).f0))).trans hx115_0;replace hx115_1:=(cell_far (p:=⟨gb114,0,none⟩) (by first|(rw[add_block];exact hn115_0)|(show(Addr.add _ _).block≠_;rw[add_block];exact hn115_0)|exact hn115_0) (.int .i64 ((aH l0 x9_1).f0))).trans hx115_1;replace hx115_0:=(cell_far (p:=⟨gb114,1,none⟩) (by first|(rw[add_block];exact hn115_1)|(show(Addr.add _ _).block≠_;rw[add_block];exact hn115_1)|exact hn115_1) (.int .i64 ((aH l0 x9_1).f1))).trans hx115_0;replace hx115_1:=(cell_far (p:=⟨gb114,1,none⟩) (by first|(rw[add_block];exact hn115_1)|(show(Addr.add _ _).block≠_;rw[add_block];exact hn115_1)|exact hn115_1) (.int .i64 ((aH l0 x9_1).f1))).trans hx115_1;(try have hy115_0:=fun (n_:Nat)=>(show((((w23.drewN n_).setCell ⟨gb114,0,none⟩ (.int .i64 ((aH l0 x9_1).f0))).setCell ⟨gb114,1,none⟩ (.int .i64 ((aH l0 x9_1).f1)))).cell? _=some _ from hx115_0));(try have hy115_1:=fun (n_:Nat)=>(show((((w23.drewN n_).setCell ⟨gb114,0,none⟩ (.int .i64 ((aH l0 x9_1).f0))).setCell ⟨gb114,1,none⟩ (.int .i64 ((aH l0 x9_1).f1)))).cell? _=some _ from hx115_1));clear hn115_0;clear hn115_1;replace p115:=eq_true p115;replace q115:=eq_true q115;have p116:0≤((ji19):Int):=of_decide_eq_true (by assumption);have q116:(ji19) < (l0.length:Int):=of_decide_eq_true (by assumption);obtain⟨ad116,e116,hx116_0,hx116_1⟩:=bI HR0.out (ji19) p116 q116;obtain rfl:ad113=ad116:=(by injection e116);have hn116_0:ad113.block≠gb114:=Nat.ne_of_lt (Nat.lt_of_lt_of_le (by have:=World.block_lt_of_cell? _ _ hx116_0;first|rwa [add_block] at this|exact this) GW114.out);have hn116_1:ad113.block≠gb114:=Nat.ne_of_lt (Nat.lt_of_lt_of_le (by have:=World.block_lt_of_cell? _ _ hx116_0;first|rwa [add_block] at this|exact this) GW114.out);replace hx116_0:=(HB.out.cell (World.block_lt_of_cell? w _ hx116_0)).trans hx116_0;replace hx116_1:=(HB.out.cell (World.block_lt_of_cell? w _ hx116_1)).trans hx116_1;replace hx116_0:=(cell_far (p:=⟨gb114,0,none⟩) (by first|(rw[add_block];exact hn116_0)|(show(Addr.add _ _).block≠_;rw[add_block];exact hn116_0)|exact hn116_0) (.int .i64 ((aH l0 x9_1).f0))).trans hx116_0;replace hx116_1:=(cell_far (p:=⟨gb114,0,none⟩) (by first|(rw[add_block];exact hn116_0)|(show(Addr.add _ _).block≠_;rw[add_block];exact hn116_0)|exact hn116_0) (.int .i64 ((aH l0 x9_1).f0))).trans hx116_1;replace hx116_0:=(cell_far (p:=⟨gb114,1,none⟩) (by first|(rw[add_block];exact hn116_1)|(show(Addr.add _ _).block≠_;rw[add_block];exact hn116_1)|exact hn116_1) (.int .i64 ((aH l0 x9_1).f1))).trans hx116_0;replace hx116_1:=(cell_far (p:=⟨gb114,1,none⟩) (by first|(rw[add_block];exact hn116_1)|(show(Addr.add _ _).block≠_;rw[add_block];exact hn116_1)|exact hn116_1) (.int .i64 ((aH l0 x9_1).f1))).trans hx116_1;(try have hy116_0:=fun (n_:Nat)=>(show((((w23.drewN n_).setCell ⟨gb114,0,none⟩ (.int .i64 ((aH l0 x9_1).f0))).setCell ⟨gb114,1,none⟩ (.int .i64 ((aH l0 x9_1).f1)))).cell? _=some _ from hx116_0));(try have hy116_1:=fun (n_:Nat)=>(show((((w23.drewN n_).setCell ⟨gb114,0,none⟩ (.int .i64 ((aH l0 x9_1).f0))).setCell ⟨gb114,1,none⟩ (.int .i64 ((aH l0 x9_1).f1)))).cell? _=some _ from hx116_1));clear hn116_0;clear hn116_1;replace p116:=eq_true p116;replace q116:=eq_true q116)))
              go_ret
              exact⟨by first|rfl|(simp[dD,dG] <;> rfl)|(simp only[← hji19];first|rfl|(simp[dD,dG] <;> rfl))|(simp[*,dD,dG] <;> rfl)|(simp[E.fu];done)|(rw[E.gI]),by with_reducible repeat(first|exact HB.out|apply af|apply aa|apply ae|refine ai ?_ GE114.out)⟩
             ·rw[if_neg c22] at H
              have c22b0:decide (((aH l0 x9_1).f0)≤(wrap64 (((aH l0 (ji19)).f0) + ((aH l0 (ji19)).f1))))=false:=decide_eq_false c22
              clear c22
              have H':=av H
              clear H
              have p113:0≤(x9_1:Int):=of_decide_eq_true (by assumption)
              have q113:x9_1 < (l0.length:Int):=of_decide_eq_true (by assumption)
              obtain⟨ad113,e113,hx113_0,hx113_1⟩:=bI HR0.out x9_1 p113 q113
              cases e113
              replace hx113_0:=(HB.out.cell (World.block_lt_of_cell? w _ hx113_0)).trans hx113_0
              replace hx113_1:=(HB.out.cell (World.block_lt_of_cell? w _ hx113_1)).trans hx113_1
              replace p113:=eq_true p113
              replace q113:=eq_true q113
              go_wp2_with (first|((with_reducible refine aJ (N:=6) rfl ?_);(try(refine bu (by rfl) ?_;dsimp only));refine aI ?hg (N:=6) ?hd (cs:=#[.int .i64 0,.int .i64 0]) (t:=72) ?hr ?_;(case hd=>rfl);(case hg=>rfl);(case hr=>first|(go_simp;done)|(go_simp;rfl));intro gb114 hg w25 hbox hb;have BK114:=av (hbox);have GW114:=av ((by rw[hg];exact(ay (by with_reducible repeat(first|exact HB.out|apply af|apply aa|apply ae))):w.heap.size≤gb114));have GE114:=av ((by rw[hg];exact(ay (by with_reducible repeat(first|exact HB.out|apply af|apply aa|apply ae))):w.heap.size≤gb114));replace HB:=av (aA (by with_reducible repeat(first|exact HB.out|apply af|apply aa|apply ae)) hb);clear hb hbox hg;have hcz26_0:w25.cell? ⟨gb114,0,none⟩=some (.int .i64 0):=(ag BK114.out 0).trans rfl;have hcz26_1:w25.cell? ⟨gb114,1,none⟩=some (.int .i64 0):=(ag BK114.out 1).trans rfl;have hfz26_0:=ah BK114.out 0;have hfz26_1:=ah BK114.out 1;have p115:0≤((ji19):Int):=of_decide_eq_true (by assumption);have q115:(ji19) < (l0.length:Int):=of_decide_eq_true (by assumption);obtain⟨ad115,e115,hx115_0,hx115_1⟩:=bI HR0.out (ji19) p115 q115;obtain rfl:ad113=ad115:=(by injection e115);have hn115_0:ad113.block≠gb114:=Nat.ne_of_lt (Nat.lt_of_lt_of_le (by have:=World.block_lt_of_cell? _ _ hx115_0;first|rwa [add_block] at this|exact this) GW114.out);have hn115_1:ad113.block≠gb114:=Nat.ne_of_lt (Nat.lt_of_lt_of_le (by have:=World.block_lt_of_cell? _ _ hx115_0;first|rwa [add_block] at this|exact this) GW114.out);replace hx115_0:=(HB.out.cell (World.block_lt_of_cell? w _ hx115_0)).trans hx115_0;replace hx115_1:=(HB.out.cell (World.block_lt_of_cell? w _ hx115_1)).trans hx115_1;replace hx115_0:=(cell_far (p:=⟨gb114,0,none⟩) (by first|(rw[add_block];exact hn115_0)|(show(Addr.add _ _).block≠_;rw[add_block];exact hn115_0)|exact hn115_0) (.int .i64 ((aH l0 x9_1).f0))).trans hx115_0;replace hx115_1:=(cell_far (p:=⟨gb114,0,none⟩) (by first|(rw[add_block];exact hn115_0)|(show(Addr.add _ _).block≠_;rw[add_block];exact hn115_0)|exact hn115_0) (.int .i64 ((aH l0 x9_1).f0))).trans hx115_1;replace hx115_0:=(cell_far (p:=⟨gb114,1,none⟩) (by first|(rw[add_block];exact hn115_1)|(show(Addr.add _ _).block≠_;rw[add_block];exact hn115_1)|exact hn115_1) (.int .i64 ((aH l0 x9_1).f1))).trans hx115_0;replace hx115_1:=(cell_far (p:=⟨gb114,1,none⟩) (by first|(rw[add_block];exact hn115_1)|(show(Addr.add _ _).block≠_;rw[add_block];exact hn115_1)|exact hn115_1) (.int .i64 ((aH l0 x9_1).f1))).trans hx115_1;(try have hy115_0:=fun (n_:Nat)=>(show((((w25.drewN n_).setCell ⟨gb114,0,none⟩ (.int .i64 ((aH l0 x9_1).f0))).setCell ⟨gb114,1,none⟩ (.int .i64 ((aH l0 x9_1).f1)))).cell? _=some _ from hx115_0));(try have hy115_1:=fun (n_:Nat)=>(show((((w25.drewN n_).setCell ⟨gb114,0,none⟩ (.int .i64 ((aH l0 x9_1).f0))).setCell ⟨gb114,1,none⟩ (.int .i64 ((aH l0 x9_1).f1)))).cell? _=some _ from hx115_1));clear hn115_0;clear hn115_1;replace p115:=eq_true p115;replace q115:=eq_true q115;have p116:0≤((ji19):Int):=of_decide_eq_true (by assumption);have q116:(ji19) < (l0.length:Int):=of_decide_eq_true (by assumption);obtain⟨ad116,e116,hx116_0,hx116_1⟩:=bI HR0.out (ji19) p116 q116;obtain rfl:ad113=ad116:=(by injection e116);have hn116_0:ad113.block≠gb114:=Nat.ne_of_lt (Nat.lt_of_lt_of_le (by have:=World.block_lt_of_cell? _ _ hx116_0;first|rwa [add_block] at this|exact this) GW114.out);have hn116_1:ad113.block≠gb114:=Nat.ne_of_lt (Nat.lt_of_lt_of_le (by have:=World.block_lt_of_cell? _ _ hx116_0;first|rwa [add_block] at this|exact this) GW114.out);replace hx116_0:=(HB.out.cell (World.block_lt_of_cell? w _ hx116_0)).trans hx116_0;replace hx116_1:=(HB.out.cell (World.block_lt_of_cell? w _ hx116_1)).trans hx116_1;replace hx116_0:=(cell_far (p:=⟨gb114,0,none⟩) (by first|(rw[add_block];exact hn116_0)|(show(Addr.add _ _).block≠_;rw[add_block];exact hn116_0)|exact hn116_0) (.int .i64 ((aH l0 x9_1).f0))).trans hx116_0;replace hx116_1:=(cell_far (p:=⟨gb114,0,none⟩) (by first|(rw[add_block];exact hn116_0)|(show(Addr.add _ _).block≠_;rw[add_block];exact hn116_0)|exact hn116_0) (.int .i64 ((aH l0 x9_1).f0))).trans hx116_1;replace hx116_0:=(cell_far (p:=⟨gb114,1,none⟩) (by first|(rw[add_block];exact hn116_1)|(show(Addr.add _ _).block≠_;rw[add_block];exact hn116_1)|exact hn116_1) (.int .i64 ((aH l0 x9_1).f1))).trans hx116_0;replace hx116_1:=(cell_far (p:=⟨gb114,1,none⟩) (by first|(rw[add_block];exact hn116_1)|(show(Addr.add _ _).block≠_;rw[add_block];exact hn116_1)|exact hn116_1) (.int .i64 ((aH l0 x9_1).f1))).trans hx116_1;(try have hy116_0:=fun (n_:Nat)=>(show((((w25.drewN n_).setCell ⟨gb114,0,none⟩ (.int .i64 ((aH l0 x9_1).f0))).setCell ⟨gb114,1,none⟩ (.int .i64 ((aH l0 x9_1).f1)))).cell? _=some _ from hx116_0));(try have hy116_1:=fun (n_:Nat)=>(show((((w25.drewN n_).setCell ⟨gb114,0,none⟩ (.int .i64 ((aH l0 x9_1).f0))).setCell ⟨gb114,1,none⟩ (.int .i64 ((aH l0 x9_1).f1)))).cell? _=some _ from hx116_1));clear hn116_0;clear hn116_1;replace p116:=eq_true p116;replace q116:=eq_true q116))
              repeat(go_quiet (first|((with_reducible refine aJ (N:=6) rfl ?_);(try(refine bu (by rfl) ?_;dsimp only));refine aI ?hg (N:=6) ?hd (cs:=#[.int .i64 0,.int .i64 0]) (t:=72) ?hr ?_;(case hd=>rfl);(case hg=>rfl);(case hr=>first|(go_simp;done)|(go_simp;rfl));intro gb114 hg w25 hbox hb;have BK114:=av (hbox);have GW114:=av ((by rw[hg];exact(ay (by with_reducible repeat(first|exact HB.out|apply af|apply aa|apply ae))):w.heap.size≤gb114));have GE114:=av ((by rw[hg];exact(ay (by with_reducible repeat(first|exact HB.out|apply af|apply aa|apply ae))):w.heap.size≤gb114));replace HB:=av (aA (by with_reducible repeat(first|exact HB.out|apply af|apply aa|apply ae)) hb);clear hb hbox hg;have hcz26_0:w25.cell? ⟨gb114,0,none⟩=some (.int .i64 0):=(ag BK114.out 0).trans rfl;have hcz26_1:w25.cell? ⟨gb114,1,none⟩=some (.int .i64 0):=(ag BK114.out 1).trans rfl;have hfz26_0:=ah BK114.out 0;have hfz26_1:=ah BK114.out 1;have p115:0≤((ji19):Int):=of_decide_eq_true (by assumption);have q115:(ji19) < (l0.length:Int):=of_decide_eq_true (by assumption);obtain⟨ad115,e115,hx115_0,hx115_1⟩:=bI HR0.out (ji19) p115 q115;obtain rfl:ad113=ad115:=(by injection e115);have hn115_0:ad113.block≠gb114:=Nat.ne_of_lt (Nat.lt_of_lt_of_le (by have:=World.block_lt_of_cell? _ _ hx115_0;first|rwa [add_block] at this|exact this) GW114.out);have hn115_1:ad113.block≠gb114:=Nat.ne_of_lt (Nat.lt_of_lt_of_le (by have:=World.block_lt_of_cell? _ _ hx115_0;first|rwa [add_block] at this|exact this) GW114.out);replace hx115_0:=(HB.out.cell (World.block_lt_of_cell? w _ hx115_0)).trans hx115_0;replace hx115_1:=(HB.out.cell (World.block_lt_of_cell? w _ hx115_1)).trans hx115_1;replace hx115_0:=(cell_far (p:=⟨gb114,0,none⟩) (by first|(rw[add_block];exact hn115_0)|(show(Addr.add _ _).block≠_;rw[add_block];exact hn115_0)|exact hn115_0) (.int .i64 ((aH l0 x9_1).f0))).trans hx115_0;replace hx115_1:=(cell_far (p:=⟨gb114,0,none⟩) (by first|(rw[add_block];exact hn115_0)|(show(Addr.add _ _).block≠_;rw[add_block];exact hn115_0)|exact hn115_0) (.int .i64 ((aH l0 x9_1).f0))).trans hx115_1;replace hx115_0:=(cell_far (p:=⟨gb114,1,none⟩) (by first|(rw[add_block];exact hn115_1)|(show(Addr.add _ _).block≠_;rw[add_block];exact hn115_1)|exact hn115_1) (.int .i64 ((aH l0 x9_1).f1))).trans hx115_0;replace hx115_1:=(cell_far (p:=⟨gb114,1,none⟩) (by first|(rw[add_block];exact hn115_1)|(show(Addr.add _ _).block≠_;rw[add_block];exact hn115_1)|exact hn115_1) (.int .i64 ((aH l0 x9_1).f1))).trans hx115_1;(try have hy115_0:=fun (n_:Nat)=>(show((((w25.drewN n_).setCell ⟨gb114,0,none⟩ (.int .i64 ((aH l0 x9_1).f0))).setCell ⟨gb114,1,none⟩ (.int .i64 ((aH l0 x9_1).f1)))).cell? _=some _ from hx115_0));(try have hy115_1:=fun (n_:Nat)=>(show((((w25.drewN n_).setCell ⟨gb114,0,none⟩ (.int .i64 ((aH l0 x9_1).f0))).setCell ⟨gb114,1,none⟩ (.int .i64 ((aH l0 x9_1).f1)))).cell? _=some _ from hx115_1));clear hn115_0;clear hn115_1;replace p115:=eq_true p115;replace q115:=eq_true q115;have p116:0≤((ji19):Int):=of_decide_eq_true (by assumption);have q116:(ji19) < (l0.length:Int):=of_decide_eq_true (by assumption);obtain⟨ad116,e116,hx116_0,hx116_1⟩:=bI HR0.out (ji19) p116 q116;obtain rfl:ad113=ad116:=(by injection e116);have hn116_0:ad113.block≠gb114:=Nat.ne_of_lt (Nat.lt_of_lt_of_le (by have:=World.block_lt_of_cell? _ _ hx116_0;first|rwa [add_block] at this|exact this) GW114.out);have hn116_1:ad113.block≠gb114:=Nat.ne_of_lt (Nat.lt_of_lt_of_le (by have:=World.block_lt_of_cell? _ _ hx116_0;first|rwa [add_block] at this|exact this) GW114.out);replace hx116_0:=(HB.out.cell (World.block_lt_of_cell? w _ hx116_0)).trans hx116_0;replace hx116_1:=(HB.out.cell (World.block_lt_of_cell? w _ hx116_1)).trans hx116_1;replace hx116_0:=(cell_far (p:=⟨gb114,0,none⟩) (by first|(rw[add_block];exact hn116_0)|(show(Addr.add _ _).block≠_;rw[add_block];exact hn116_0)|exact hn116_0) (.int .i64 ((aH l0 x9_1).f0))).trans hx116_0;replace hx116_1:=(cell_far (p:=⟨gb114,0,none⟩) (by first|(rw[add_block];exact hn116_0)|(show(Addr.add _ _).block≠_;rw[add_block];exact hn116_0)|exact hn116_0) (.int .i64 ((aH l0 x9_1).f0))).trans hx116_1;replace hx116_0:=(cell_far (p:=⟨gb114,1,none⟩) (by first|(rw[add_block];exact hn116_1)|(show(Addr.add _ _).block≠_;rw[add_block];exact hn116_1)|exact hn116_1) (.int .i64 ((aH l0 x9_1).f1))).trans hx116_0;replace hx116_1:=(cell_far (p:=⟨gb114,1,none⟩) (by first|(rw[add_block];exact hn116_1)|(show(Addr.add _ _).block≠_;rw[add_block];exact hn116_1)|exact hn116_1) (.int .i64 ((aH l0 x9_1).f1))).trans hx116_1;(try have hy116_0:=fun (n_:Nat)=>(show((((w25.drewN n_).setCell ⟨gb114,0,none⟩ (.int .i64 ((aH l0 x9_1).f0))).setCell ⟨gb114,1,none⟩ (.int .i64 ((aH l0 x9_1).f1)))).cell? _=some _ from hx116_0));(try have hy116_1:=fun (n_:Nat)=>(show((((w25.drewN n_).setCell ⟨gb114,0,none⟩ (.int .i64 ((aH l0 x9_1).f0))).setCell ⟨gb114,1,none⟩ (.int .i64 ((aH l0 x9_1).f1)))).cell? _=some _ from hx116_1));clear hn116_0;clear hn116_1;replace p116:=eq_true p116;replace q116:=eq_true q116));try go_wp2_with (first|((with_reducible refine aJ (N:=6) rfl ?_);(try(refine bu (by rfl) ?_;dsimp only));refine aI ?hg (N:=6) ?hd (cs:=#[.int .i64 0,.int .i64 0]) (t:=72) ?hr ?_;(case hd=>rfl);(case hg=>rfl);(case hr=>first|(go_simp;done)|(go_simp;rfl));intro gb114 hg w25 hbox hb;have BK114:=av (hbox);have GW114:=av ((by rw[hg];exact(ay (by with_reducible repeat(first|exact HB.out|apply af|apply aa|apply ae))):w.heap.size≤gb114));have GE114:=av ((by rw[hg];exact(ay (by with_reducible repeat(first|exact HB.out|apply af|apply aa|apply ae))):w.heap.size≤gb114));replace HB:=av (aA (by with_reducible repeat(first|exact HB.out|apply af|apply aa|apply ae)) hb);clear hb hbox hg;have hcz26_0:w25.cell? ⟨gb114,0,none⟩=some (.int .i64 0):=(ag BK114.out 0).trans rfl;have hcz26_1:w25.cell? ⟨gb114,1,none⟩=some (.int .i64 0):=(ag BK114.out 1).trans rfl;have hfz26_0:=ah BK114.out 0;have hfz26_1:=ah BK114.out 1;have p115:0≤((ji19):Int):=of_decide_eq_true (by assumption);have q115:(ji19) < (l0.length:Int):=of_decide_eq_true (by assumption);obtain⟨ad115,e115,hx115_0,hx115_1⟩:=bI HR0.out (ji19) p115 q115;obtain rfl:ad113=ad115:=(by injection e115);have hn115_0:ad113.block≠gb114:=Nat.ne_of_lt (Nat.lt_of_lt_of_le (by have:=World.block_lt_of_cell? _ _ hx115_0;first|rwa [add_block] at this|exact this) GW114.out);have hn115_1:ad113.block≠gb114:=Nat.ne_of_lt (Nat.lt_of_lt_of_le (by have:=World.block_lt_of_cell? _ _ hx115_0;first|rwa [add_block] at this|exact this) GW114.out);replace hx115_0:=(HB.out.cell (World.block_lt_of_cell? w _ hx115_0)).trans hx115_0;replace hx115_1:=(HB.out.cell (World.block_lt_of_cell? w _ hx115_1)).trans hx115_1;replace hx115_0:=(cell_far (p:=⟨gb114,0,none⟩) (by first|(rw[add_block];exact hn115_0)|(show(Addr.add _ _).block≠_;rw[add_block];exact hn115_0)|exact hn115_0) (.int .i64 ((aH l0 x9_1).f0))).trans hx115_0;replace hx115_1:=(cell_far (p:=⟨gb114,0,none⟩) (by first|(rw[add_block];exact hn115_0)|(show(Addr.add _ _).block≠_;rw[add_block];exact hn115_0)|exact hn115_0) (.int .i64 ((aH l0 x9_1).f0))).trans hx115_1;replace hx115_0:=(cell_far (p:=⟨gb114,1,none⟩) (by first|(rw[add_block];exact hn115_1)|(show(Addr.add _ _).block≠_;rw[add_block];exact hn115_1)|exact hn115_1) (.int .i64 ((aH l0 x9_1).f1))).trans hx115_0;replace hx115_1:=(cell_far (p:=⟨gb114,1,none⟩) (by first|(rw[add_block];exact hn115_1)|(show(Addr.add _ _).block≠_;rw[add_block];exact hn115_1)|exact hn115_1) (.int .i64 ((aH l0 x9_1).f1))).trans hx115_1;(try have hy115_0:=fun (n_:Nat)=>(show((((w25.drewN n_).setCell ⟨gb114,0,none⟩ (.int .i64 ((aH l0 x9_1).f0))).setCell ⟨gb114,1,none⟩ (.int .i64 ((aH l0 x9_1).f1)))).cell? _=some _ from hx115_0));(try have hy115_1:=fun (n_:Nat)=>(show((((w25.drewN n_).setCell ⟨gb114,0,none⟩ (.int .i64 ((aH l0 x9_1).f0))).setCell ⟨gb114,1,none⟩ (.int .i64 ((aH l0 x9_1).f1)))).cell? _=some _ from hx115_1));clear hn115_0;clear hn115_1;replace p115:=eq_true p115;replace q115:=eq_true q115;have p116:0≤((ji19):Int):=of_decide_eq_true (by assumption);have q116:(ji19) < (l0.length:Int):=of_decide_eq_true (by assumption);obtain⟨ad116,e116,hx116_0,hx116_1⟩:=bI HR0.out (ji19) p116 q116;obtain rfl:ad113=ad116:=(by injection e116);have hn116_0:ad113.block≠gb114:=Nat.ne_of_lt (Nat.lt_of_lt_of_le (by have:=World.block_lt_of_cell? _ _ hx116_0;first|rwa [add_block] at this|exact this) GW114.out);have hn116_1:ad113.block≠gb114:=Nat.ne_of_lt (Nat.lt_of_lt_of_le (by have:=World.block_lt_of_cell? _ _ hx116_0;first|rwa [add_block] at this|exact this) GW114.out);replace hx116_0:=(HB.out.cell (World.block_lt_of_cell? w _ hx116_0)).trans hx116_0;replace hx116_1:=(HB.out.cell (World.block_lt_of_cell? w _ hx116_1)).trans hx116_1;replace hx116_0:=(cell_far (p:=⟨gb114,0,none⟩) (by first|(rw[add_block];exact hn116_0)|(show(Addr.add _ _).block≠_;rw[add_block];exact hn116_0)|exact hn116_0) (.int .i64 ((aH l0 x9_1).f0))).trans hx116_0;replace hx116_1:=(cell_far (p:=⟨gb114,0,none⟩) (by first|(rw[add_block];exact hn116_0)|(show(Addr.add _ _).block≠_;rw[add_block];exact hn116_0)|exact hn116_0) (.int .i64 ((aH l0 x9_1).f0))).trans hx116_1;replace hx116_0:=(cell_far (p:=⟨gb114,1,none⟩) (by first|(rw[add_block];exact hn116_1)|(show(Addr.add _ _).block≠_;rw[add_block];exact hn116_1)|exact hn116_1) (.int .i64 ((aH l0 x9_1).f1))).trans hx116_0;replace hx116_1:=(cell_far (p:=⟨gb114,1,none⟩) (by first|(rw[add_block];exact hn116_1)|(show(Addr.add _ _).block≠_;rw[add_block];exact hn116_1)|exact hn116_1) (.int .i64 ((aH l0 x9_1).f1))).trans hx116_1;(try have hy116_0:=fun (n_:Nat)=>(show((((w25.drewN n_).setCell ⟨gb114,0,none⟩ (.int .i64 ((aH l0 x9_1).f0))).setCell ⟨gb114,1,none⟩ (.int .i64 ((aH l0 x9_1).f1)))).cell? _=some _ from hx116_0));(try have hy116_1:=fun (n_:Nat)=>(show((((w25.drewN n_).setCell ⟨gb114,0,none⟩ (.int .i64 ((aH l0 x9_1).f0))).setCell ⟨gb114,1,none⟩ (.int .i64 ((aH l0 x9_1).f1)))).cell? _=some _ from hx116_1));clear hn116_0;clear hn116_1;replace p116:=eq_true p116;replace q116:=eq_true q116)))
              go_roundg k1
              case measure=>have:=HK1.out;omega
              case rel=>exact⟨(wrap64 (x9_1+1)),(by first|rfl|(simp;done)|(simp[*];done)),H',⟨by have:=HK1.out;omega⟩,⟨by with_reducible repeat(first|exact HB.out|apply af|apply aa|apply ae|refine ai ?_ GE114.out)⟩⟩
            ·rw[if_neg c21] at H
             exact absurd H (by simp)
           ·rw[if_neg c20] at H
            exact absurd H (by simp)
          ·rw[if_neg c18] at H
           have c18b0:decide (0<x9_1)=false:=decide_eq_false c18
           clear c18
           have H':=av H
           clear H
           have p113:0≤(x9_1:Int):=of_decide_eq_true (by assumption)
           have q113:x9_1 < (l0.length:Int):=of_decide_eq_true (by assumption)
           obtain⟨ad113,e113,hx113_0,hx113_1⟩:=bI HR0.out x9_1 p113 q113
           cases e113
           replace hx113_0:=(HB.out.cell (World.block_lt_of_cell? w _ hx113_0)).trans hx113_0
           replace hx113_1:=(HB.out.cell (World.block_lt_of_cell? w _ hx113_1)).trans hx113_1
           replace p113:=eq_true p113
           replace q113:=eq_true q113
           go_wp2_with (first|((with_reducible refine aJ (N:=6) rfl ?_);(try(refine bu (by rfl) ?_;dsimp only));refine aI ?hg (N:=6) ?hd (cs:=#[.int .i64 0,.int .i64 0]) (t:=72) ?hr ?_;(case hd=>rfl);(case hg=>rfl);(case hr=>first|(go_simp;done)|(go_simp;rfl));intro gb114 hg w27 hbox hb;have BK114:=av (hbox);have GW114:=av ((by rw[hg];exact(ay (by with_reducible repeat(first|exact HB.out|apply af|apply aa|apply ae))):w.heap.size≤gb114));have GE114:=av ((by rw[hg];exact(ay (by with_reducible repeat(first|exact HB.out|apply af|apply aa|apply ae))):w.heap.size≤gb114));replace HB:=av (aA (by with_reducible repeat(first|exact HB.out|apply af|apply aa|apply ae)) hb);clear hb hbox hg;have hcz28_0:w27.cell? ⟨gb114,0,none⟩=some (.int .i64 0):=(ag BK114.out 0).trans rfl;have hcz28_1:w27.cell? ⟨gb114,1,none⟩=some (.int .i64 0):=(ag BK114.out 1).trans rfl;have hfz28_0:=ah BK114.out 0;have hfz28_1:=ah BK114.out 1))
           repeat(go_quiet (first|((with_reducible refine aJ (N:=6) rfl ?_);(try(refine bu (by rfl) ?_;dsimp only));refine aI ?hg (N:=6) ?hd (cs:=#[.int .i64 0,.int .i64 0]) (t:=72) ?hr ?_;(case hd=>rfl);(case hg=>rfl);(case hr=>first|(go_simp;done)|(go_simp;rfl));intro gb114 hg w27 hbox hb;have BK114:=av (hbox);have GW114:=av ((by rw[hg];exact(ay (by with_reducible repeat(first|exact HB.out|apply af|apply aa|apply ae))):w.heap.size≤gb114));have GE114:=av ((by rw[hg];exact(ay (by with_reducible repeat(first|exact HB.out|apply af|apply aa|apply ae))):w.heap.size≤gb114));replace HB:=av (aA (by with_reducible repeat(first|exact HB.out|apply af|apply aa|apply ae)) hb);clear hb hbox hg;have hcz28_0:w27.cell? ⟨gb114,0,none⟩=some (.int .i64 0):=(ag BK114.out 0).trans rfl;have hcz28_1:w27.cell? ⟨gb114,1,none⟩=some (.int .i64 0):=(ag BK114.out 1).trans rfl;have hfz28_0:=ah BK114.out 0;have hfz28_1:=ah BK114.out 1));try go_wp2_with (first|((with_reducible refine aJ (N:=6) rfl ?_);(try(refine bu (by rfl) ?_;dsimp only));refine aI ?hg (N:=6) ?hd (cs:=#[.int .i64 0,.int .i64 0]) (t:=72) ?hr ?_;(case hd=>rfl);(case hg=>rfl);(case hr=>first|(go_simp;done)|(go_simp;rfl));intro gb114 hg w27 hbox hb;have BK114:=av (hbox);have GW114:=av ((by rw[hg];exact(ay (by with_reducible repeat(first|exact HB.out|apply af|apply aa|apply ae))):w.heap.size≤gb114));have GE114:=av ((by rw[hg];exact(ay (by with_reducible repeat(first|exact HB.out|apply af|apply aa|apply ae))):w.heap.size≤gb114));replace HB:=av (aA (by with_reducible repeat(first|exact HB.out|apply af|apply aa|apply ae)) hb);clear hb hbox hg;have hcz28_0:w27.cell? ⟨gb114,0,none⟩=some (.int .i64 0):=(ag BK114.out 0).trans rfl;have hcz28_1:w27.cell? ⟨gb114,1,none⟩=some (.int .i64 0):=(ag BK114.out 1).trans rfl;have hfz28_0:=ah BK114.out 0;have hfz28_1:=ah BK114.out 1)))
           go_roundg k1
           case measure=>have:=HK1.out;omega
           case rel=>exact⟨(wrap64 (x9_1+1)),(by first|rfl|(simp;done)|(simp[*];done)),H',⟨by have:=HK1.out;omega⟩,⟨by with_reducible repeat(first|exact HB.out|apply af|apply aa|apply ae|refine ai ?_ GE114.out)⟩⟩
     ·rw[if_neg c5] at H
      exact absurd H (by simp)
    ·rw[if_neg c4] at H
     exact absurd H (by simp)
   ·rw[if_neg c3] at H
    have c3b0:decide (x9_1 < (l0.length:Int))=false:=decide_eq_false c3
    clear c3
    replace H:=Option.bind_eq_some_iff.mp H
    obtain⟨t117,A290,H⟩:=H
    replace H:(if t117=true then (some (decide ((l0.length:Int)≤60))) else (some false))=some r:=H
    have A29:=av A290
    clear A290
    by_cases c30:t117=true
    ·subst c30
     have H1:(some (decide ((l0.length:Int)≤60)))=some r:=by rw[if_pos rfl] at H;exact H
     clear H
     have H:=H1
     clear H1
     obtain rfl:=Option.some.inj H
     go_wp2_with (first|(go_at_call 12;(with_reducible refine(spec_l1In.calls a1 1 400 true _ A29.out).mono ?_);rintro e w' ⟨rfl,⟨nd,rfl⟩⟩;(try first|exact⟨rfl,_,World.drewN_drewN _ _ _⟩|exact⟨rfl,_,Eq.trans (World.drewN_drewN _ _ _) (congrArg (World.drewN _) (Nat.add_assoc _ _ _))⟩)))
     repeat(go_quiet (first|(go_at_call 12;(with_reducible refine(spec_l1In.calls a1 1 400 true _ A29.out).mono ?_);rintro e w' ⟨rfl,⟨nd,rfl⟩⟩;(try first|exact⟨rfl,_,World.drewN_drewN _ _ _⟩|exact⟨rfl,_,Eq.trans (World.drewN_drewN _ _ _) (congrArg (World.drewN _) (Nat.add_assoc _ _ _))⟩)));try go_wp2_with (first|(go_at_call 12;(with_reducible refine(spec_l1In.calls a1 1 400 true _ A29.out).mono ?_);rintro e w' ⟨rfl,⟨nd,rfl⟩⟩;(try first|exact⟨rfl,_,World.drewN_drewN _ _ _⟩|exact⟨rfl,_,Eq.trans (World.drewN_drewN _ _ _) (congrArg (World.drewN _) (Nat.add_assoc _ _ _))⟩))))
     go_ret
     exact⟨by first|rfl|(simp <;> rfl)|(simp[*] <;> rfl),by with_reducible repeat(first|exact HB.out|apply af|apply aa|apply ae)⟩
    ·replace c30:=Bool.eq_false_iff.mpr c30
     subst c30
     have H1:(some false)=some r:=by rw[if_neg (show ¬ (false=true) by decide)] at H;exact H
     clear H
     have H:=H1
     clear H1
     obtain rfl:=Option.some.inj H
     go_wp2_with (first|(go_at_call 12;(with_reducible refine(spec_l1In.calls a1 1 400 false _ A29.out).mono ?_);rintro e w' ⟨rfl,⟨nd,rfl⟩⟩;(try first|exact⟨rfl,_,World.drewN_drewN _ _ _⟩|exact⟨rfl,_,Eq.trans (World.drewN_drewN _ _ _) (congrArg (World.drewN _) (Nat.add_assoc _ _ _))⟩)))
     repeat(go_quiet (first|(go_at_call 12;(with_reducible refine(spec_l1In.calls a1 1 400 false _ A29.out).mono ?_);rintro e w' ⟨rfl,⟨nd,rfl⟩⟩;(try first|exact⟨rfl,_,World.drewN_drewN _ _ _⟩|exact⟨rfl,_,Eq.trans (World.drewN_drewN _ _ _) (congrArg (World.drewN _) (Nat.add_assoc _ _ _))⟩)));try go_wp2_with (first|(go_at_call 12;(with_reducible refine(spec_l1In.calls a1 1 400 false _ A29.out).mono ?_);rintro e w' ⟨rfl,⟨nd,rfl⟩⟩;(try first|exact⟨rfl,_,World.drewN_drewN _ _ _⟩|exact⟨rfl,_,Eq.trans (World.drewN_drewN _ _ _) (congrArg (World.drewN _) (Nat.add_assoc _ _ _))⟩))))
     go_ret
     exact⟨by first|rfl|(simp <;> rfl)|(simp[*] <;> rfl),by with_reducible repeat(first|exact HB.out|apply af|apply aa|apply ae)⟩
attribute [local go_sem] bG bF bQ bR bB bC bH bE
set_option linter.unusedVariables false
set_option linter.unusedSimpArgs false
theorem oJ (d:Nat) (w:World) (x0 y0:Int) (x1 y1:Int) :
  (Op.equalIn (d+2) 72 (.agg #[.int .i64 x0,.int .i64 x1]) (.agg #[.int .i64 y0,.int .i64 y1])).run Tryd.prog w = .ok (x0 == y0 && (x1 == y1)) w:=by
 refine oK Tryd.underlying72 (by kernel_rfl) ?_
 refine mV (by rfl) (by go_simp;rfl) (by go_simp;rfl) (by go_simp) ?_
 exact ni (by rfl) (by go_simp;rfl) (by go_simp;rfl) (by go_simp)
attribute [local go_sem] bG bF bQ bR bB bC bH bE
set_option linter.unusedVariables false
set_option linter.unusedSimpArgs false
attribute [local go_sem high] oJ
def spec_l5Same.l0:Nat→List (S72)→List (S72)→Int→Int→Option (Bool)
 | 0,_,_,_,_=>none
 | k+1,x0,x1,x12,x13=>if x13<x12 then (if 0≤x13 then (if x13 < (x0.length:Int) then (if x13 < (x1.length:Int) then (if (!(((aH x0 x13).f0) == ((aH x1 x13).f0)) || (!(((aH x0 x13).f1) == ((aH x1 x13).f1))))=true then (some false) else (spec_l5Same.l0 k x0 x1 x12 (wrap64 (x13+1)))) else (none)) else (none)) else (none)) else (some true)
def spec_l5Same.f (k:Nat) (l0:List (S72)) (l1:List (S72)):Option (Bool):=if (l0.length:Int) = (l1.length:Int) then (spec_l5Same.l0 k l0 l1 (l0.length:Int) 0) else (some false)
set_option maxHeartbeats 8000000 in
set_option maxRecDepth 100000 in
theorem spec_l5Same.calls (k : Nat) (A0 : Option Addr) (c0 : Nat) (l0 : List (S72)) (A1 : Option Addr) (c1 : Nat) (l1 : List (S72)) (r : Bool) (w : World) (hr0 : Kd.C k72 w A0 l0.length l0) (hc0 : l0.length ≤ c0) (hr1 : Kd.C k72 w A1 l1.length l1) (hc1 : l1.length ≤ c1) (h : spec_l5Same.f k l0 l1 = some r) :
  Calls Tryd.prog 25 #[.slice A0 l0.length c0,.slice A1 l1.length c1] w fun e w'=>e = .returned (.bool r)∧Drawn0 w w':=by
 have hu72:=Tryd.underlying72
 have HR0:=av hr0
 have HC0:=av hc0
 clear hr0 hc0
 have HR1:=av hr1
 have HC1:=av hc1
 clear hr1 hc1
 have H:(if (l0.length:Int) = (l1.length:Int) then (spec_l5Same.l0 k l0 l1 (l0.length:Int) 0) else (some false))=some r:=h
 clear h
 by_cases c3:(l0.length:Int) = (l1.length:Int)
 ·rw [if_pos c3] at H
  have c3b0:((l0.length:Int) == (l1.length:Int))=true:=beq_iff_eq.mpr c3
  have c3b1:((l0.length:Int) != (l1.length:Int))=false:=bne_eq_false_iff_eq.mpr c3
  have c3b2:(l0.length == l1.length)=true:=by first|simpa using c3|(simp at c3 ⊢;omega)
  clear c3
  have H':=av H
  clear H
  go_enter Tryd.func25,Tryd.ntmps25
  go_wp2
  repeat(go_quiet (fail);try go_wp2)
  go_loopg [13] k (fun kq v13 w'=>∃ (x13_1:Int),v13 = .int .i64 x13_1∧Aside0 (spec_l5Same.l0 kq l0 l1 (l0.length:Int) x13_1=some r)∧Aside0 (kq≤k)∧Drawn0 w w')
  case atStart=>exact⟨(0),(by first|rfl|(simp;done)|(simp[*];done)),H',⟨Nat.le_refl _⟩,by repeat(first|exact Drawn0.refl _|apply Drawn0.step)⟩
  case round =>
   clear H'
   try clear c1
   try clear c2
   try clear p2
   try clear c3
   try clear c3b0
   try clear c3b1
   try clear c3b2
   obtain⟨x13_1,rfl,HA,HK1,⟨m1,rfl⟩⟩:=hrel
   cases gk with
   | zero=>exact absurd HA.out (by simp[spec_l5Same.l0])
   | succ k1=>
    have H:=HA.out
    clear HA
    simp only[spec_l5Same.l0] at H
    by_cases c4:x13_1 < (l0.length:Int)
    ·rw [if_pos c4] at H
     have c4b0:decide (x13_1 < (l0.length:Int))=true:=decide_eq_true c4
     clear c4
     by_cases c5:0≤x13_1
     ·rw [if_pos c5] at H
      have c5b0:decide (0≤x13_1)=true:=decide_eq_true c5
      clear c5
      by_cases c6:x13_1 < (l0.length:Int)
      ·rw[if_pos c6] at H
       have c6b0:decide (x13_1 < (l0.length:Int))=true:=decide_eq_true c6
       clear c6
       by_cases c7:x13_1 < (l1.length:Int)
       ·rw[if_pos c7] at H
        have c7b0:decide (x13_1 < (l1.length:Int))=true:=decide_eq_true c7
        clear c7
        by_cases c8:(!(((aH l0 x13_1).f0) == ((aH l1 x13_1).f0)) || (!(((aH l0 x13_1).f1) == ((aH l1 x13_1).f1))))=true
        ·rw[if_pos c8] at H
         have c8b0:(!(((aH l0 x13_1).f0) == ((aH l1 x13_1).f0)) || (!(((aH l0 x13_1).f1) == ((aH l1 x13_1).f1))))=true:=c8
         clear c8
         obtain rfl:=Option.some.inj H
         have p118:0≤(x13_1:Int):=of_decide_eq_true (by assumption)
         have q118:x13_1 < (l0.length:Int):=of_decide_eq_true (by assumption)
         obtain⟨ad118,e118,hx118_0,hx118_1⟩:=bI HR0.out x13_1 p118 q118
         cases e118
         replace p118:=eq_true p118
         replace q118:=eq_true q118
         have p119:0≤(x13_1:Int):=of_decide_eq_true (by assumption)
         have q119:x13_1 < (l1.length:Int):=of_decide_eq_true (by assumption)
         obtain⟨ad119,e119,hx119_0,hx119_1⟩:=bI HR1.out x13_1 p119 q119
         cases e119
         replace p119:=eq_true p119
         replace q119:=eq_true q119
         go_wp2
         repeat(go_quiet (fail);try go_wp2)
         go_ret
         exact⟨by first|rfl|(simp;done)|(simp[*];done),by repeat(first|exact Drawn0.refl _|apply Drawn0.step)⟩
        ·rw[if_neg c8] at H
         have c8b0:(!(((aH l0 x13_1).f0) == ((aH l1 x13_1).f0)) || (!(((aH l0 x13_1).f1) == ((aH l1 x13_1).f1))))=false:=by simpa using c8
         clear c8
         have H':=av H
         clear H
         have p118:0≤(x13_1:Int):=of_decide_eq_true (by assumption)
         have q118:x13_1 < (l0.length:Int):=of_decide_eq_true (by assumption)
         obtain⟨ad118,e118,hx118_0,hx118_1⟩:=bI HR0.out x13_1 p118 q118
         cases e118
         replace p118:=eq_true p118
         replace q118:=eq_true q118
         have p119:0≤(x13_1:Int):=of_decide_eq_true (by assumption)
         have q119:x13_1 < (l1.length:Int):=of_decide_eq_true (by assumption)
         obtain⟨ad119,e119,hx119_0,hx119_1⟩:=bI HR1.out x13_1 p119 q119
         cases e119
         replace p119:=eq_true p119
         replace q119:=eq_true q119
         go_wp2
         repeat(go_quiet (fail);try go_wp2)
         go_roundg k1
         case measure=>have:=HK1.out;omega
         case rel=>exact⟨(wrap64 (x13_1+1)),(by first|rfl|(simp;done)|(simp[*];done)),H',⟨by have:=HK1.out;omega⟩,by repeat(first|exact Drawn0.refl _|apply Drawn0.step)⟩
       ·rw[if_neg c7] at H
        exact absurd H (by simp)
      ·rw[if_neg c6] at H
       exact absurd H (by simp)
     ·rw[if_neg c5] at H
      exact absurd H (by simp)
    ·rw[if_neg c4] at H
     have c4b0:decide (x13_1 < (l0.length:Int))=false:=decide_eq_false c4
     clear c4
     obtain rfl:=Option.some.inj H
     go_wp2
     repeat(go_quiet (fail);try go_wp2)
     go_ret
     exact⟨by first|rfl|(simp;done)|(simp[*];done),by repeat(first|exact Drawn0.refl _|apply Drawn0.step)⟩
 ·rw[if_neg c3] at H
  have c3b0:((l0.length:Int) == (l1.length:Int))=false:=beq_eq_false_iff_ne.mpr c3
  have c3b1:((l0.length:Int) != (l1.length:Int))=true:=bne_iff_ne.mpr c3
  have c3b2:(l0.length == l1.length)=false:=by first|simpa using c3|(simp at c3 ⊢;omega)
  obtain rfl:=Option.some.inj H
  go_enter Tryd.func25,Tryd.ntmps25
  go_wp2
  repeat(go_quiet (fail);try go_wp2)
  go_ret
  exact⟨by first|rfl|(simp;done)|(simp[*];done),by repeat(first|exact Drawn0.refl _|apply Drawn0.step)⟩
attribute [local go_sem] bG bF bQ bR bB bC bH bE
set_option linter.unusedVariables false
set_option linter.unusedSimpArgs false
def spec_GoodFree.f (k:Nat) (a0_0:Int) (l0_1:List (S72)) (l0_2:List (S72)):Option (Bool):=(spec_l5Place.f k l0_1 a0_0).bind fun t161=>(if t161=true then ((spec_l5BySize.f k l0_1).bind fun t162=>((spec_l5Same.f k t162 l0_2).bind fun t165=>(some t165))) else (some false))
def spec_GoodFree.T1:Bool×List (List Nat×List Nat):=(true,[([],[]),([0],[0]),([],[]),([2],[2]),([1,3],[1,3]),([4,4],[4]),([5],[5]),([6,5],[5,6]),([7,5,5],[5,7]),([5],[5]),([9,5],[5,9]),([8,10,8,5],[5,8,10]),([5,11],[5,11]),([12,11,0,1,2,3,4,5,6,7,8,9,10,11,12],[12])])
def spec_GoodFree.B1:List Nat:=[0,1,0,4,15,31,63,127,255,63,575,2047,4095,8191]
theorem spec_GoodFree.tab1:dR .any (opsOf Tryd.f11 1)=spec_GoodFree.T1:=by kernel_rfl
theorem spec_GoodFree.bits1:dH spec_GoodFree.T1.2 spec_GoodFree.B1=true:=by kernel_rfl
set_option maxHeartbeats 8000000 in
set_option maxRecDepth 100000 in
theorem spec_GoodFree.calls (k:Nat) (a0_0:Int) (A0_1:Option Addr) (c0_1:Nat) (l0_1:List (S72)) (A0_2:Option Addr) (c0_2:Nat) (l0_2:List (S72)) (r:Bool) (w:World) (hr0_1:Kd.C k72 w A0_1 l0_1.length l0_1) (hc0_1:l0_1.length≤c0_1) (hr0_2:Kd.C k72 w A0_2 l0_2.length l0_2) (hc0_2:l0_2.length≤c0_2) (h:spec_GoodFree.f k a0_0 l0_1 l0_2=some r) :
  Calls Tryd.prog 11 #[.agg #[.int .i64 a0_0,.slice A0_1 l0_1.length c0_1,.slice A0_2 l0_2.length c0_2]] w fun e w'=>e = .returned (.bool r)∧Below w.heap.size w w':=by
 have hu32:=Tryd.underlying32
 have HR0_1:=av hr0_1
 have HC0_1:=av hc0_1
 clear hr0_1 hc0_1
 have HR0_2:=av hr0_2
 have HC0_2:=av hc0_2
 clear hr0_2 hc0_2
 have HB:=av (Below.refl w.heap.size w)
 have H:((spec_l5Place.f k l0_1 a0_0).bind fun t161=>(if t161=true then ((spec_l5BySize.f k l0_1).bind fun t162=>((spec_l5Same.f k t162 l0_2).bind fun t165=>(some t165))) else (some false)))=some r:=h
 clear h
 replace H:=Option.bind_eq_some_iff.mp H
 obtain⟨t161,A20,H⟩:=H
 replace H:(if t161=true then ((spec_l5BySize.f k l0_1).bind fun t162=>((spec_l5Same.f k t162 l0_2).bind fun t165=>(some t165))) else (some false))=some r:=H
 have A2:=av A20
 clear A20
 by_cases c3:t161=true
 ·subst c3
  have H1:((spec_l5BySize.f k l0_1).bind fun t162=>((spec_l5Same.f k t162 l0_2).bind fun t165=>(some t165)))=some r:=by rw[if_pos rfl] at H;exact H
  clear H
  have H:=H1
  clear H1
  replace H:=Option.bind_eq_some_iff.mp H
  obtain⟨t162,A40,H⟩:=H
  replace H:((spec_l5Same.f k t162 l0_2).bind fun t165=>(some t165))=some r:=H
  have A4:=av A40
  clear A40
  replace H:=Option.bind_eq_some_iff.mp H
  obtain⟨t165,A50,H⟩:=H
  replace H:(some t165)=some r:=H
  have A5:=av A50
  clear A50
  obtain rfl:=Option.some.inj H
  go_enter Tryd.func11,Tryd.ntmps11
  try go_wp2_with (first|((with_reducible refine aJ (N:=1) rfl ?_);refine aI ?hg (N:=1) ?hd (cs:=#[.int .i64 a0_0,.slice A0_1 l0_1.length c0_1,.slice A0_2 l0_2.length c0_2]) (t:=32) ?hr ?_;(case hd=>rfl);(case hg=>rfl);(case hr=>first|(go_simp;done)|(go_simp;rfl));intro gb160 hg w6 hbox hb;have BK160:=av (hbox);have GW160:=av ((by rw[hg];exact(ay (by with_reducible repeat(first|exact HB.out|apply af|apply aa|apply ae))):w.heap.size≤gb160));have GE160:=av ((by rw[hg];exact(ay (by with_reducible repeat(first|exact HB.out|apply af|apply aa|apply ae))):w.heap.size≤gb160));replace HB:=av (aA (by with_reducible repeat(first|exact HB.out|apply af|apply aa|apply ae)) hb);clear hb hbox hg))
  have n0_:=av (au BK160.out)
  have n1_:=av (ae HB.out)
  clear BK160
  clear HB
  have BK160:=n0_
  have HB:=n1_
  clear n0_ n1_
  refine bJ (n:=14) (S:=fun w'=>w'.cell? ⟨gb160,0,none⟩=some (.int .i64 a0_0)∧w'.cell? ⟨gb160,1,none⟩=some (.slice A0_1 l0_1.length c0_1)∧w'.cell? ⟨gb160,2,none⟩=some (.slice A0_2 l0_2.length c0_2)) (ds:=[]) #[false,false,false,false,false,false,false,false,false,false,false,false,false,false] (by kernel_rfl) rfl rfl ⟨(ag BK160.out 0).trans rfl,(ag BK160.out 1).trans rfl,(ag BK160.out 2).trans rfl⟩ (fun hHeld=>?_);refine bz spec_GoodFree.tab1 spec_GoodFree.bits1 (fun HT_ HW_=>?_)
  generalize w6.drew=w7 at BK160 HB hHeld ⊢
  refine aD (i:=0) (N:=some 3) (v:=?_) (a':=?_) #[true,false,false,false,false,false,false,false,false,false,false,false,false,false] rfl rfl (aC HT_.out (by kernel_rfl)) (fun _ _ _ h=>h) (Or.inl ⟨by rfl,?_⟩) ?_ ?_
  rotate_left
  ·intro w'
   go_simp
   with_reducible rfl
  rotate_left
  ·simp only[apu_]
   rfl
  refine aD (i:=2) (N:=some 5) (v:=?_) (a':=?_) #[true,false,true,false,false,false,false,false,false,false,false,false,false,false] rfl rfl (aC HT_.out (by kernel_rfl)) (fun _ _ _ h=>h) (Or.inl ⟨by rfl,?_⟩) ?_ ?_
  rotate_left
  ·intro w'
   go_simp
   with_reducible rfl
  rotate_left
  ·simp only[apu_]
   rfl
  refine aZ (i:=1) (N:=some 4) (v:=?_) (a':=?_) #[true,true,true,false,false,false,false,false,false,false,false,false,false,false] rfl rfl (aT HT_.out HW_.out (by kernel_rfl)) (fun _ _ _ h=>h) (Or.inl ⟨by rfl,?_⟩) hHeld ?_ ?_
  rotate_left
  ·rintro w' ⟨s0,s1,s2⟩
   go_simp
   with_reducible rfl
  rotate_left
  ·simp only[apu_]
   rfl
  refine aZ (i:=3) (N:=some 6) (v:=?_) (a':=?_) #[true,true,true,true,false,false,false,false,false,false,false,false,false,false] rfl rfl (aT HT_.out HW_.out (by kernel_rfl)) (fun _ _ _ h=>h) (Or.inl ⟨by rfl,?_⟩) hHeld ?_ ?_
  rotate_left
  ·rintro w' ⟨s0,s1,s2⟩
   go_simp
   with_reducible rfl
  rotate_left
  ·simp only[apu_]
   rfl
  refine di (i:=4) (N:=some 7) #[true,true,true,true,true,false,false,false,false,false,false,false,false,false] rfl rfl (bW HT_.out (by kernel_rfl)) (by decide) (fun K hK=>?_)
  refine bU Tryd.func24 (by kernel_rfl) rfl #[.slice A0_1 l0_1.length c0_1,.int .i64 a0_0] (by rfl) rfl rfl (by(try simp only[amp_]);first|done|rfl|(simp only[ald_];rfl)) ?_
  with_reducible refine(spec_l5Place.calls k _ _ l0_1 a0_0 true _ ?side1 ?side2 A2.out).mono ?_
  (case side1=>repeat(first|exact(Kd.aQ HR0_1.out HB.out)|(with_reducible first|apply Kd.aW|apply Kd.aV|apply Kd.aY)))
  (case side2=>exact HC0_1.out)
  rintro e w8 ⟨rfl,hb⟩
  refine⟨_,rfl,?_⟩
  have n0_:=av (aG (g:=gb160) (o:=.cells #[.int .i64 a0_0,.slice A0_1 l0_1.length c0_1,.slice A0_2 l0_2.length c0_2] 32 (0,0)) (by(with_reducible repeat(first|apply aj|apply au|apply ak));exact BK160.out) hb)
  have n1_:=av (aA (by with_reducible repeat(first|exact HB.out|apply af|apply aa|apply ae|refine ai ?_ GE160.out)) hb)
  clear BK160
  clear HB
  have BK160:=n0_
  have HB:=n1_
  clear n0_ n1_
  (try clear hb)
  (try clear hb2)
  (try clear hk)
  (try clear hi)
  refine hK.out _ _ ⟨(ag BK160.out 0).trans rfl,(ag BK160.out 1).trans rfl,(ag BK160.out 2).trans rfl⟩ (fun hHeld=>?_)
  clear hK K
  refine bS (a':=?_) ?_ ?_
  rotate_left
  ·show Act.put _ (some 7) _=_
   simp only[apu_]
   rfl
  refine aD (i:=5) (N:=some 8) (v:=?_) (a':=?_) #[true,true,true,true,true,true,false,false,false,false,false,false,false,false] rfl rfl (aC HT_.out (by kernel_rfl)) (fun _ _ _ h=>h) (Or.inl ⟨by rfl,?_⟩) ?_ ?_
  rotate_left
  ·intro w'
   go_simp
   with_reducible rfl
  rotate_left
  ·simp only[apu_]
   rfl
  refine aD (i:=6) (N:=some 9) (v:=?_) (a':=?_) #[true,true,true,true,true,true,true,false,false,false,false,false,false,false] rfl rfl (aC HT_.out (by kernel_rfl)) (fun _ _ _ h=>h) (Or.inl ⟨by rfl,?_⟩) ?_ ?_
  rotate_left
  ·intro w'
   go_simp
   with_reducible rfl
  rotate_left
  ·simp only[apu_]
   rfl
  refine aD (i:=9) (N:=some 12) (v:=?_) (a':=?_) #[true,true,true,true,true,true,true,false,false,true,false,false,false,false] rfl rfl (aC HT_.out (by kernel_rfl)) (fun _ _ _ h=>h) (Or.inl ⟨by rfl,?_⟩) ?_ ?_
  rotate_left
  ·intro w'
   go_simp
   with_reducible rfl
  rotate_left
  ·simp only[apu_]
   rfl
  refine aZ (i:=7) (N:=some 10) (v:=?_) (a':=?_) #[true,true,true,true,true,true,true,true,false,true,false,false,false,false] rfl rfl (aT HT_.out HW_.out (by kernel_rfl)) (fun _ _ _ h=>h) (Or.inl ⟨by rfl,?_⟩) hHeld ?_ ?_
  rotate_left
  ·rintro w' ⟨s0,s1,s2⟩
   go_simp
   with_reducible rfl
  rotate_left
  ·simp only[apu_]
   rfl
  refine aZ (i:=10) (N:=some 13) (v:=?_) (a':=?_) #[true,true,true,true,true,true,true,true,false,true,true,false,false,false] rfl rfl (aT HT_.out HW_.out (by kernel_rfl)) (fun _ _ _ h=>h) (Or.inl ⟨by rfl,?_⟩) hHeld ?_ ?_
  rotate_left
  ·rintro w' ⟨s0,s1,s2⟩
   go_simp
   with_reducible rfl
  rotate_left
  ·simp only[apu_]
   rfl
  refine di (i:=8) (N:=some 11) #[true,true,true,true,true,true,true,true,true,true,true,false,false,false] rfl rfl (bW HT_.out (by kernel_rfl)) (by decide) (fun K hK=>?_)
  refine bU Tryd.func26 (by kernel_rfl) rfl #[.slice A0_1 l0_1.length c0_1] (by rfl) rfl rfl (by(try simp only[amp_]);first|done|rfl|(simp only[ald_];rfl)) ?_
  with_reducible refine(spec_l5BySize.calls k _ _ l0_1 t162 _ ?side1 ?side2 A4.out).mono ?_
  (case side1=>repeat(first|exact(Kd.aQ HR0_1.out HB.out)|(with_reducible first|apply Kd.aW|apply Kd.aV|apply Kd.aY)))
  (case side2=>exact HC0_1.out)
  rintro e w9 ⟨v163,rfl,ho0,hb⟩
  refine⟨_,rfl,?_⟩
  have n0_:=av (Kd.dB ho0 (ay (by with_reducible repeat(first|exact HB.out|apply af|apply aa|apply ae|refine ai ?_ GE160.out))))
  have n1_:=av (aG (g:=gb160) (o:=.cells #[.int .i64 a0_0,.slice A0_1 l0_1.length c0_1,.slice A0_2 l0_2.length c0_2] 32 (0,0)) (by(with_reducible repeat(first|apply aj|apply au|apply ak));exact BK160.out) hb)
  have n2_:=av (aA (by with_reducible repeat(first|exact HB.out|apply af|apply aa|apply ae|refine ai ?_ GE160.out)) hb)
  clear BK160
  clear HB
  have HO164:=n0_
  have BK160:=n1_
  have HB:=n2_
  clear n0_ n1_ n2_
  (try clear hb)
  (try clear hb2)
  (try clear hk)
  (try clear hi)
  (try clear ho0)
  obtain⟨Ao10,co10,eo10⟩:=Kd.cz HO164.out
  (first|subst eo10|(injection eo10 with f1_ f2_ f3_;have f4_:=f1_.symm;have f5_:=f3_.symm;clear f1_ f2_ f3_;subst f4_;subst f5_))
  refine hK.out _ _ ⟨(ag BK160.out 0).trans rfl,(ag BK160.out 1).trans rfl,(ag BK160.out 2).trans rfl⟩ (fun hHeld=>?_)
  clear hK K
  refine bS (a':=?_) ?_ ?_
  rotate_left
  ·show Act.put _ (some 11) _=_
   simp only[apu_]
   rfl
  refine di (i:=11) (N:=some 14) #[true,true,true,true,true,true,true,true,true,true,true,true,false,false] rfl rfl (bW HT_.out (by kernel_rfl)) (by decide) (fun K hK=>?_)
  refine bU Tryd.func25 (by kernel_rfl) rfl #[.slice Ao10 t162.length co10,.slice A0_2 l0_2.length c0_2] (by rfl) rfl rfl (by(try simp only[amp_]);first|done|rfl|(simp only[ald_];rfl)) ?_
  with_reducible refine(spec_l5Same.calls k _ _ t162 _ _ l0_2 t165 _ ?side1 ?side2 ?side3 ?side4 A5.out).mono ?_
  (case side1=>repeat(first|exact(Kd.R_reads' HO164.out).2.2|(with_reducible first|apply Kd.aW|apply Kd.aV|apply Kd.aY)))
  (case side2=>exact(Kd.R_reads' HO164.out).2.1)
  (case side3=>repeat(first|exact(Kd.aQ HR0_2.out HB.out)|(with_reducible first|apply Kd.aW|apply Kd.aV|apply Kd.aY)))
  (case side4=>exact HC0_2.out)
  rintro e w' ⟨rfl,⟨nd,rfl⟩⟩
  refine⟨_,rfl,?_⟩
  refine hK.out _ _ ⟨(ag BK160.out 0).trans rfl,(ag BK160.out 1).trans rfl,(ag BK160.out 2).trans rfl⟩ (fun hHeld=>?_)
  clear hK K
  refine bS (a':=?_) ?_ ?_
  rotate_left
  ·show Act.put _ (some 14) _=_
   simp only[apu_]
   rfl
  refine aD (i:=12) (N:=some 15) (v:=?_) (a':=?_) #[true,true,true,true,true,true,true,true,true,true,true,true,true,false] rfl rfl (aC HT_.out (by kernel_rfl)) (fun _ _ _ h=>h) (Or.inl ⟨by rfl,?_⟩) ?_ ?_
  rotate_left
  ·intro w'
   go_simp
   with_reducible rfl
  rotate_left
  ·simp only[apu_]
   rfl
  refine aD (i:=13) (N:=some 2) (v:=?_) (a':=?_) #[true,true,true,true,true,true,true,true,true,true,true,true,true,true] rfl rfl (aC HT_.out (by kernel_rfl)) (fun _ _ _ h=>h) (Or.inl ⟨by rfl,?_⟩) ?_ ?_
  rotate_left
  ·intro w'
   go_simp
   with_reducible rfl
  rotate_left
  ·simp only[apu_]
   rfl
  refine cu (bK HT_.out (by kernel_rfl)) ?_
  try go_wp2
  go_ret
  exact⟨by first|rfl|(simp <;> rfl)|(simp[*] <;> rfl),by with_reducible repeat(first|exact HB.out|apply af|apply aa|apply ae|refine ai ?_ GE160.out)⟩
 ·replace c3:=Bool.eq_false_iff.mpr c3
  subst c3
  have H1:(some false)=some r:=by rw[if_neg (show ¬ (false=true) by decide)] at H;exact H
  clear H
  have H:=H1
  clear H1
  obtain rfl:=Option.some.inj H
  go_enter Tryd.func11,Tryd.ntmps11
  try go_wp2_with (first|((with_reducible refine aJ (N:=1) rfl ?_);refine aI ?hg (N:=1) ?hd (cs:=#[.int .i64 a0_0,.slice A0_1 l0_1.length c0_1,.slice A0_2 l0_2.length c0_2]) (t:=32) ?hr ?_;(case hd=>rfl);(case hg=>rfl);(case hr=>first|(go_simp;done)|(go_simp;rfl));intro gb160 hg w11 hbox hb;have BK160:=av (hbox);have GW160:=av ((by rw[hg];exact(ay (by with_reducible repeat(first|exact HB.out|apply af|apply aa|apply ae))):w.heap.size≤gb160));have GE160:=av ((by rw[hg];exact(ay (by with_reducible repeat(first|exact HB.out|apply af|apply aa|apply ae))):w.heap.size≤gb160));replace HB:=av (aA (by with_reducible repeat(first|exact HB.out|apply af|apply aa|apply ae)) hb);clear hb hbox hg))
  have n0_:=av (au BK160.out)
  have n1_:=av (ae HB.out)
  clear BK160
  clear HB
  have BK160:=n0_
  have HB:=n1_
  clear n0_ n1_
  refine bJ (n:=14) (S:=fun w'=>w'.cell? ⟨gb160,0,none⟩=some (.int .i64 a0_0)∧w'.cell? ⟨gb160,1,none⟩=some (.slice A0_1 l0_1.length c0_1)∧w'.cell? ⟨gb160,2,none⟩=some (.slice A0_2 l0_2.length c0_2)) (ds:=[]) #[false,false,false,false,false,false,false,false,false,false,false,false,false,false] (by kernel_rfl) rfl rfl ⟨(ag BK160.out 0).trans rfl,(ag BK160.out 1).trans rfl,(ag BK160.out 2).trans rfl⟩ (fun hHeld=>?_);refine bz spec_GoodFree.tab1 spec_GoodFree.bits1 (fun HT_ HW_=>?_)
  generalize w11.drew=w12 at BK160 HB hHeld ⊢
  refine aD (i:=0) (N:=some 3) (v:=?_) (a':=?_) #[true,false,false,false,false,false,false,false,false,false,false,false,false,false] rfl rfl (aC HT_.out (by kernel_rfl)) (fun _ _ _ h=>h) (Or.inl ⟨by rfl,?_⟩) ?_ ?_
  rotate_left
  ·intro w'
   go_simp
   with_reducible rfl
  rotate_left
  ·simp only[apu_]
   rfl
  refine aD (i:=2) (N:=some 5) (v:=?_) (a':=?_) #[true,false,true,false,false,false,false,false,false,false,false,false,false,false] rfl rfl (aC HT_.out (by kernel_rfl)) (fun _ _ _ h=>h) (Or.inl ⟨by rfl,?_⟩) ?_ ?_
  rotate_left
  ·intro w'
   go_simp
   with_reducible rfl
  rotate_left
  ·simp only[apu_]
   rfl
  refine aZ (i:=1) (N:=some 4) (v:=?_) (a':=?_) #[true,true,true,false,false,false,false,false,false,false,false,false,false,false] rfl rfl (aT HT_.out HW_.out (by kernel_rfl)) (fun _ _ _ h=>h) (Or.inl ⟨by rfl,?_⟩) hHeld ?_ ?_
  rotate_left
  ·rintro w' ⟨s0,s1,s2⟩
   go_simp
   with_reducible rfl
  rotate_left
  ·simp only[apu_]
   rfl
  refine aZ (i:=3) (N:=some 6) (v:=?_) (a':=?_) #[true,true,true,true,false,false,false,false,false,false,false,false,false,false] rfl rfl (aT HT_.out HW_.out (by kernel_rfl)) (fun _ _ _ h=>h) (Or.inl ⟨by rfl,?_⟩) hHeld ?_ ?_
  rotate_left
  ·rintro w' ⟨s0,s1,s2⟩
   go_simp
   with_reducible rfl
  rotate_left
  ·simp only[apu_]
   rfl
  refine di (i:=4) (N:=some 7) #[true,true,true,true,true,false,false,false,false,false,false,false,false,false] rfl rfl (bW HT_.out (by kernel_rfl)) (by decide) (fun K hK=>?_)
  refine bU Tryd.func24 (by kernel_rfl) rfl #[.slice A0_1 l0_1.length c0_1,.int .i64 a0_0] (by rfl) rfl rfl (by(try simp only[amp_]);first|done|rfl|(simp only[ald_];rfl)) ?_
  with_reducible refine(spec_l5Place.calls k _ _ l0_1 a0_0 false _ ?side1 ?side2 A2.out).mono ?_
  (case side1=>repeat(first|exact(Kd.aQ HR0_1.out HB.out)|(with_reducible first|apply Kd.aW|apply Kd.aV|apply Kd.aY)))
  (case side2=>exact HC0_1.out)
  rintro e w13 ⟨rfl,hb⟩
  refine⟨_,rfl,?_⟩
  have n0_:=av (aG (g:=gb160) (o:=.cells #[.int .i64 a0_0,.slice A0_1 l0_1.length c0_1,.slice A0_2 l0_2.length c0_2] 32 (0,0)) (by(with_reducible repeat(first|apply aj|apply au|apply ak));exact BK160.out) hb)
  have n1_:=av (aA (by with_reducible repeat(first|exact HB.out|apply af|apply aa|apply ae|refine ai ?_ GE160.out)) hb)
  clear BK160
  clear HB
  have BK160:=n0_
  have HB:=n1_
  clear n0_ n1_
  (try clear hb)
  (try clear hb2)
  (try clear hk)
  (try clear hi)
  refine hK.out _ _ ⟨(ag BK160.out 0).trans rfl,(ag BK160.out 1).trans rfl,(ag BK160.out 2).trans rfl⟩ (fun hHeld=>?_)
  clear hK K
  refine bS (a':=?_) ?_ ?_
  rotate_left
  ·show Act.put _ (some 7) _=_
   simp only[apu_]
   rfl
  refine aD (i:=5) (N:=some 8) (v:=?_) (a':=?_) #[true,true,true,true,true,true,false,false,false,false,false,false,false,false] rfl rfl (aC HT_.out (by kernel_rfl)) (fun _ _ _ h=>h) (Or.inl ⟨by rfl,?_⟩) ?_ ?_
  rotate_left
  ·intro w'
   go_simp
   with_reducible rfl
  rotate_left
  ·simp only[apu_]
   rfl
  refine aD (i:=6) (N:=some 9) (v:=undef) (a':=?_) #[true,true,true,true,true,true,true,false,false,false,false,false,false,false] rfl rfl (aC HT_.out (by kernel_rfl)) (fun _ _ _ h=>h) (Or.inr ⟨by rfl,rfl⟩) ?_ ?_
  rotate_left
  ·simp only[apu_]
   rfl
  refine aD (i:=7) (N:=some 10) (v:=undef) (a':=?_) #[true,true,true,true,true,true,true,true,false,false,false,false,false,false] rfl rfl (aC HT_.out (by kernel_rfl)) (fun _ _ _ h=>h) (Or.inr ⟨by rfl,rfl⟩) ?_ ?_
  rotate_left
  ·simp only[apu_]
   rfl
  refine aD (i:=8) (N:=some 11) (v:=undef) (a':=?_) #[true,true,true,true,true,true,true,true,true,false,false,false,false,false] rfl rfl (aC HT_.out (by kernel_rfl)) (fun _ _ _ h=>h) (Or.inr ⟨by rfl,rfl⟩) ?_ ?_
  rotate_left
  ·simp only[apu_]
   rfl
  refine aD (i:=9) (N:=some 12) (v:=undef) (a':=?_) #[true,true,true,true,true,true,true,true,true,true,false,false,false,false] rfl rfl (aC HT_.out (by kernel_rfl)) (fun _ _ _ h=>h) (Or.inr ⟨by rfl,rfl⟩) ?_ ?_
  rotate_left
  ·simp only[apu_]
   rfl
  refine aD (i:=10) (N:=some 13) (v:=undef) (a':=?_) #[true,true,true,true,true,true,true,true,true,true,true,false,false,false] rfl rfl (aC HT_.out (by kernel_rfl)) (fun _ _ _ h=>h) (Or.inr ⟨by rfl,rfl⟩) ?_ ?_
  rotate_left
  ·simp only[apu_]
   rfl
  refine aD (i:=11) (N:=some 14) (v:=undef) (a':=?_) #[true,true,true,true,true,true,true,true,true,true,true,true,false,false] rfl rfl (aC HT_.out (by kernel_rfl)) (fun _ _ _ h=>h) (Or.inr ⟨by rfl,rfl⟩) ?_ ?_
  rotate_left
  ·simp only[apu_]
   rfl
  refine aD (i:=12) (N:=some 15) (v:=?_) (a':=?_) #[true,true,true,true,true,true,true,true,true,true,true,true,true,false] rfl rfl (aC HT_.out (by kernel_rfl)) (fun _ _ _ h=>h) (Or.inl ⟨by rfl,?_⟩) ?_ ?_
  rotate_left
  ·intro w'
   go_simp
   with_reducible rfl
  rotate_left
  ·simp only[apu_]
   rfl
  refine aD (i:=13) (N:=some 2) (v:=?_) (a':=?_) #[true,true,true,true,true,true,true,true,true,true,true,true,true,true] rfl rfl (aC HT_.out (by kernel_rfl)) (fun _ _ _ h=>h) (Or.inl ⟨by rfl,?_⟩) ?_ ?_
  rotate_left
  ·intro w'
   go_simp
   with_reducible rfl
  rotate_left
  ·simp only[apu_]
   rfl
  refine cu (bK HT_.out (by kernel_rfl)) ?_
  try go_wp2
  go_ret
  exact⟨by first|rfl|(simp <;> rfl)|(simp[*] <;> rfl),by with_reducible repeat(first|exact HB.out|apply af|apply aa|apply ae|refine ai ?_ GE160.out)⟩
attribute [local go_sem] bG bF bQ bR bB bC bH bE
set_option linter.unusedVariables false
set_option linter.unusedSimpArgs false
def spec_l9Goes.f (a0_0:Int) (a0_1:Int) (a0_2:Int) (a0_3:Bool) (a1_0:Int) (a1_1:Int) (a1_2:Int) (a1_3:Bool):Option (Bool):=if (wrap64 (a0_0+a0_1))=a1_0 then (if (wrap64 (a0_2+a0_1))=a1_2 then (some (a0_3 == a1_3)) else (some false)) else (some false)
set_option maxHeartbeats 8000000 in
set_option maxRecDepth 100000 in
theorem spec_l9Goes.calls (a0_0:Int) (a0_1:Int) (a0_2:Int) (a0_3:Bool) (a1_0:Int) (a1_1:Int) (a1_2:Int) (a1_3:Bool) (r:Bool) (w:World) (h:spec_l9Goes.f a0_0 a0_1 a0_2 a0_3 a1_0 a1_1 a1_2 a1_3=some r) :
  Calls Tryd.prog 28 #[.agg #[.int .i64 a0_0,.int .i64 a0_1,.int .i64 a0_2,.bool a0_3],.agg #[.int .i64 a1_0,.int .i64 a1_1,.int .i64 a1_2,.bool a1_3]] w fun e w'=>e = .returned (.bool r)∧Below w.heap.size w w':=by
 have hu51:=Tryd.underlying51
 have HB:=av (Below.refl w.heap.size w)
 have H:(if (wrap64 (a0_0+a0_1))=a1_0 then (if (wrap64 (a0_2+a0_1))=a1_2 then (some (a0_3 == a1_3)) else (some false)) else (some false))=some r:=h
 clear h
 by_cases c3:(wrap64 (a0_0+a0_1))=a1_0
 ·rw[if_pos c3] at H
  have c3b0:((wrap64 (a0_0+a0_1)) == a1_0)=true:=beq_iff_eq.mpr c3
  have c3b1:((wrap64 (a0_0+a0_1)) != a1_0)=false:=bne_eq_false_iff_eq.mpr c3
  clear c3
  by_cases c4:(wrap64 (a0_2+a0_1))=a1_2
  ·rw[if_pos c4] at H
   have c4b0:((wrap64 (a0_2+a0_1)) == a1_2)=true:=beq_iff_eq.mpr c4
   have c4b1:((wrap64 (a0_2+a0_1)) != a1_2)=false:=bne_eq_false_iff_eq.mpr c4
   clear c4
   obtain rfl:=Option.some.inj H
   go_enter Tryd.func28,Tryd.ntmps28
   go_wp2_with (first|((with_reducible refine aJ (N:=2) rfl ?_);refine aI ?hg (N:=2) ?hd (cs:=#[.int .i64 a0_0,.int .i64 a0_1,.int .i64 a0_2,.bool a0_3]) (t:=51) ?hr ?_;(case hd=>rfl);(case hg=>rfl);(case hr=>first|(go_simp;done)|(go_simp;rfl));intro gb171 hg w5 hbox hb;have BK171:=av (hbox);have GW171:=av ((by rw[hg];exact(ay (by with_reducible repeat(first|exact HB.out|apply af|apply aa|apply ae))):w.heap.size≤gb171));have GE171:=av ((by rw[hg];exact(ay (by with_reducible repeat(first|exact HB.out|apply af|apply aa|apply ae))):w.heap.size≤gb171));replace HB:=av (aA (by with_reducible repeat(first|exact HB.out|apply af|apply aa|apply ae)) hb);clear hb hbox hg)|((with_reducible refine aJ (N:=3) rfl ?_);refine aI ?hg (N:=3) ?hd (cs:=#[.int .i64 a1_0,.int .i64 a1_1,.int .i64 a1_2,.bool a1_3]) (t:=51) ?hr ?_;(case hd=>rfl);(case hg=>rfl);(case hr=>first|(go_simp;done)|(go_simp;rfl));intro gb172 hg w6 hbox hb;have BK172:=av (hbox);have GW172:=av ((by rw[hg];exact(ay (by with_reducible repeat(first|exact HB.out|apply af|apply aa|apply ae|refine ai ?_ GE171.out))):w.heap.size≤gb172));have GE172:=av ((by rw[hg];exact(ay (by with_reducible repeat(first|exact HB.out|apply af|apply aa|apply ae|refine ai ?_ GE171.out))):w.heap.size≤gb172));replace HB:=av (aA (by with_reducible repeat(first|exact HB.out|apply af|apply aa|apply ae|refine ai ?_ GE171.out)) hb);have NB171_172:=av ((by rw[hg];exact Nat.ne_of_lt (aN (g:=gb171) (o:=.cells #[.int .i64 a0_0,.int .i64 a0_1,.int .i64 a0_2,.bool a0_3] 51 (0,0)) (by(with_reducible repeat(first|apply aj|apply au|apply ak));exact BK171.out)):gb171≠gb172));have NB172_171:=av ((by rw[hg];exact Nat.ne_of_gt (aN (g:=gb171) (o:=.cells #[.int .i64 a0_0,.int .i64 a0_1,.int .i64 a0_2,.bool a0_3] 51 (0,0)) (by(with_reducible repeat(first|apply aj|apply au|apply ak));exact BK171.out)):gb172≠gb171));replace BK171:=av (aG (g:=gb171) (o:=.cells #[.int .i64 a0_0,.int .i64 a0_1,.int .i64 a0_2,.bool a0_3] 51 (0,0)) (by(with_reducible repeat(first|apply aj|apply au|apply ak));exact BK171.out) hb);clear hb hbox hg;have hnb7:=NB171_172.out;have hnc7:=NB172_171.out;have hcz8_0:w6.cell? ⟨gb171,0,none⟩=some (.int .i64 a0_0):=(ag BK171.out 0).trans rfl;have hcz8_1:w6.cell? ⟨gb171,1,none⟩=some (.int .i64 a0_1):=(ag BK171.out 1).trans rfl;have hcz8_2:w6.cell? ⟨gb171,2,none⟩=some (.int .i64 a0_2):=(ag BK171.out 2).trans rfl;have hcz8_3:w6.cell? ⟨gb171,3,none⟩=some (.bool a0_3):=(ag BK171.out 3).trans rfl;have hfz8_0:=ah BK171.out 0;have hfz8_1:=ah BK171.out 1;have hfz8_2:=ah BK171.out 2;have hfz8_3:=ah BK171.out 3;have hcz9_0:w6.cell? ⟨gb172,0,none⟩=some (.int .i64 a1_0):=(ag BK172.out 0).trans rfl;have hcz9_1:w6.cell? ⟨gb172,1,none⟩=some (.int .i64 a1_1):=(ag BK172.out 1).trans rfl;have hcz9_2:w6.cell? ⟨gb172,2,none⟩=some (.int .i64 a1_2):=(ag BK172.out 2).trans rfl;have hcz9_3:w6.cell? ⟨gb172,3,none⟩=some (.bool a1_3):=(ag BK172.out 3).trans rfl;have hfz9_0:=ah BK172.out 0;have hfz9_1:=ah BK172.out 1;have hfz9_2:=ah BK172.out 2;have hfz9_3:=ah BK172.out 3))
   go_ret
   exact⟨by first|rfl|(simp <;> rfl)|(simp[*] <;> rfl),by with_reducible repeat(first|exact HB.out|apply af|apply aa|apply ae|refine ai ?_ GE171.out|refine ai ?_ GE172.out)⟩
  ·rw[if_neg c4] at H
   have c4b0:((wrap64 (a0_2+a0_1)) == a1_2)=false:=beq_eq_false_iff_ne.mpr c4
   have c4b1:((wrap64 (a0_2+a0_1)) != a1_2)=true:=bne_iff_ne.mpr c4
   obtain rfl:=Option.some.inj H
   go_enter Tryd.func28,Tryd.ntmps28
   go_wp2_with (first|((with_reducible refine aJ (N:=2) rfl ?_);refine aI ?hg (N:=2) ?hd (cs:=#[.int .i64 a0_0,.int .i64 a0_1,.int .i64 a0_2,.bool a0_3]) (t:=51) ?hr ?_;(case hd=>rfl);(case hg=>rfl);(case hr=>first|(go_simp;done)|(go_simp;rfl));intro gb171 hg w10 hbox hb;have BK171:=av (hbox);have GW171:=av ((by rw[hg];exact(ay (by with_reducible repeat(first|exact HB.out|apply af|apply aa|apply ae))):w.heap.size≤gb171));have GE171:=av ((by rw[hg];exact(ay (by with_reducible repeat(first|exact HB.out|apply af|apply aa|apply ae))):w.heap.size≤gb171));replace HB:=av (aA (by with_reducible repeat(first|exact HB.out|apply af|apply aa|apply ae)) hb);clear hb hbox hg)|((with_reducible refine aJ (N:=3) rfl ?_);refine aI ?hg (N:=3) ?hd (cs:=#[.int .i64 a1_0,.int .i64 a1_1,.int .i64 a1_2,.bool a1_3]) (t:=51) ?hr ?_;(case hd=>rfl);(case hg=>rfl);(case hr=>first|(go_simp;done)|(go_simp;rfl));intro gb172 hg w11 hbox hb;have BK172:=av (hbox);have GW172:=av ((by rw[hg];exact(ay (by with_reducible repeat(first|exact HB.out|apply af|apply aa|apply ae|refine ai ?_ GE171.out))):w.heap.size≤gb172));have GE172:=av ((by rw[hg];exact(ay (by with_reducible repeat(first|exact HB.out|apply af|apply aa|apply ae|refine ai ?_ GE171.out))):w.heap.size≤gb172));replace HB:=av (aA (by with_reducible repeat(first|exact HB.out|apply af|apply aa|apply ae|refine ai ?_ GE171.out)) hb);have NB171_172:=av ((by rw[hg];exact Nat.ne_of_lt (aN (g:=gb171) (o:=.cells #[.int .i64 a0_0,.int .i64 a0_1,.int .i64 a0_2,.bool a0_3] 51 (0,0)) (by(with_reducible repeat(first|apply aj|apply au|apply ak));exact BK171.out)):gb171≠gb172));have NB172_171:=av ((by rw[hg];exact Nat.ne_of_gt (aN (g:=gb171) (o:=.cells #[.int .i64 a0_0,.int .i64 a0_1,.int .i64 a0_2,.bool a0_3] 51 (0,0)) (by(with_reducible repeat(first|apply aj|apply au|apply ak));exact BK171.out)):gb172≠gb171));replace BK171:=av (aG (g:=gb171) (o:=.cells #[.int .i64 a0_0,.int .i64 a0_1,.int .i64 a0_2,.bool a0_3] 51 (0,0)) (by(with_reducible repeat(first|apply aj|apply au|apply ak));exact BK171.out) hb);clear hb hbox hg;have hnb12:=NB171_172.out;have hnc12:=NB172_171.out;have hcz13_0:w11.cell? ⟨gb171,0,none⟩=some (.int .i64 a0_0):=(ag BK171.out 0).trans rfl;have hcz13_1:w11.cell? ⟨gb171,1,none⟩=some (.int .i64 a0_1):=(ag BK171.out 1).trans rfl;have hcz13_2:w11.cell? ⟨gb171,2,none⟩=some (.int .i64 a0_2):=(ag BK171.out 2).trans rfl;have hcz13_3:w11.cell? ⟨gb171,3,none⟩=some (.bool a0_3):=(ag BK171.out 3).trans rfl;have hfz13_0:=ah BK171.out 0;have hfz13_1:=ah BK171.out 1;have hfz13_2:=ah BK171.out 2;have hfz13_3:=ah BK171.out 3;have hcz14_0:w11.cell? ⟨gb172,0,none⟩=some (.int .i64 a1_0):=(ag BK172.out 0).trans rfl;have hcz14_1:w11.cell? ⟨gb172,1,none⟩=some (.int .i64 a1_1):=(ag BK172.out 1).trans rfl;have hcz14_2:w11.cell? ⟨gb172,2,none⟩=some (.int .i64 a1_2):=(ag BK172.out 2).trans rfl;have hcz14_3:w11.cell? ⟨gb172,3,none⟩=some (.bool a1_3):=(ag BK172.out 3).trans rfl;have hfz14_0:=ah BK172.out 0;have hfz14_1:=ah BK172.out 1;have hfz14_2:=ah BK172.out 2;have hfz14_3:=ah BK172.out 3))
   go_ret
   exact⟨by first|rfl|(simp <;> rfl)|(simp[*] <;> rfl),by with_reducible repeat(first|exact HB.out|apply af|apply aa|apply ae|refine ai ?_ GE171.out|refine ai ?_ GE172.out)⟩
 ·rw[if_neg c3] at H
  have c3b0:((wrap64 (a0_0+a0_1)) == a1_0)=false:=beq_eq_false_iff_ne.mpr c3
  have c3b1:((wrap64 (a0_0+a0_1)) != a1_0)=true:=bne_iff_ne.mpr c3
  obtain rfl:=Option.some.inj H
  go_enter Tryd.func28,Tryd.ntmps28
  go_wp2_with (first|((with_reducible refine aJ (N:=2) rfl ?_);refine aI ?hg (N:=2) ?hd (cs:=#[.int .i64 a0_0,.int .i64 a0_1,.int .i64 a0_2,.bool a0_3]) (t:=51) ?hr ?_;(case hd=>rfl);(case hg=>rfl);(case hr=>first|(go_simp;done)|(go_simp;rfl));intro gb171 hg w15 hbox hb;have BK171:=av (hbox);have GW171:=av ((by rw[hg];exact(ay (by with_reducible repeat(first|exact HB.out|apply af|apply aa|apply ae))):w.heap.size≤gb171));have GE171:=av ((by rw[hg];exact(ay (by with_reducible repeat(first|exact HB.out|apply af|apply aa|apply ae))):w.heap.size≤gb171));replace HB:=av (aA (by with_reducible repeat(first|exact HB.out|apply af|apply aa|apply ae)) hb);clear hb hbox hg)|((with_reducible refine aJ (N:=3) rfl ?_);refine aI ?hg (N:=3) ?hd (cs:=#[.int .i64 a1_0,.int .i64 a1_1,.int .i64 a1_2,.bool a1_3]) (t:=51) ?hr ?_;(case hd=>rfl);(case hg=>rfl);(case hr=>first|(go_simp;done)|(go_simp;rfl));intro gb172 hg w16 hbox hb;have BK172:=av (hbox);have GW172:=av ((by rw[hg];exact(ay (by with_reducible repeat(first|exact HB.out|apply af|apply aa|apply ae|refine ai ?_ GE171.out))):w.heap.size≤gb172));have GE172:=av ((by rw[hg];exact(ay (by with_reducible repeat(first|exact HB.out|apply af|apply aa|apply ae|refine ai ?_ GE171.out))):w.heap.size≤gb172));replace HB:=av (aA (by with_reducible repeat(first|exact HB.out|apply af|apply aa|apply ae|refine ai ?_ GE171.out)) hb);have NB171_172:=av ((by rw[hg];exact Nat.ne_of_lt (aN (g:=gb171) (o:=.cells #[.int .i64 a0_0,.int .i64 a0_1,.int .i64 a0_2,.bool a0_3] 51 (0,0)) (by(with_reducible repeat(first|apply aj|apply au|apply ak));exact BK171.out)):gb171≠gb172));have NB172_171:=av ((by rw[hg];exact Nat.ne_of_gt (aN (g:=gb171) (o:=.cells #[.int .i64 a0_0,.int .i64 a0_1,.int .i64 a0_2,.bool a0_3] 51 (0,0)) (by(with_reducible repeat(first|apply aj|apply au|apply ak));exact BK171.out)):gb172≠gb171));replace BK171:=av (aG (g:=gb171) (o:=.cells #[.int .i64 a0_0,.int .i64 a0_1,.int .i64 a0_2,.bool a0_3] 51 (0,0)) (by(with_reducible repeat(first|apply aj|apply au|apply ak));exact BK171.out) hb);clear hb hbox hg;have hnb17:=NB171_172.out;have hnc17:=NB172_171.out;have hcz18_0:w16.cell? ⟨gb171,0,none⟩=some (.int .i64 a0_0):=(ag BK171.out 0).trans rfl;have hcz18_1:w16.cell? ⟨gb171,1,none⟩=some (.int .i64 a0_1):=(ag BK171.out 1).trans rfl;have hcz18_2:w16.cell? ⟨gb171,2,none⟩=some (.int .i64 a0_2):=(ag BK171.out 2).trans rfl;have hcz18_3:w16.cell? ⟨gb171,3,none⟩=some (.bool a0_3):=(ag BK171.out 3).trans rfl;have hfz18_0:=ah BK171.out 0;have hfz18_1:=ah BK171.out 1;have hfz18_2:=ah BK171.out 2;have hfz18_3:=ah BK171.out 3;have hcz19_0:w16.cell? ⟨gb172,0,none⟩=some (.int .i64 a1_0):=(ag BK172.out 0).trans rfl;have hcz19_1:w16.cell? ⟨gb172,1,none⟩=some (.int .i64 a1_1):=(ag BK172.out 1).trans rfl;have hcz19_2:w16.cell? ⟨gb172,2,none⟩=some (.int .i64 a1_2):=(ag BK172.out 2).trans rfl;have hcz19_3:w16.cell? ⟨gb172,3,none⟩=some (.bool a1_3):=(ag BK172.out 3).trans rfl;have hfz19_0:=ah BK172.out 0;have hfz19_1:=ah BK172.out 1;have hfz19_2:=ah BK172.out 2;have hfz19_3:=ah BK172.out 3))
  go_ret
  exact⟨by first|rfl|(simp <;> rfl)|(simp[*] <;> rfl),by with_reducible repeat(first|exact HB.out|apply af|apply aa|apply ae|refine ai ?_ GE171.out|refine ai ?_ GE172.out)⟩
attribute [local go_sem] bG bF bQ bR bB bC bH bE
set_option linter.unusedVariables false
set_option linter.unusedSimpArgs false
def spec_l9Piece.f (a0_0:Int) (a0_1:Int) (a0_2:Int) (a0_3:Bool):Option (Bool):=(spec_l1In.f a0_0 0 200).bind fun t168=>(if t168=true then ((spec_l1In.f a0_1 1 200).bind fun t169=>(if t169=true then (if (wrap64 (a0_0+a0_1))≤200 then ((spec_l1In.f a0_2 0 (wrap64 (400 - a0_1))).bind fun t170=>(some t170)) else (some false)) else (some false))) else (some false))
set_option maxHeartbeats 8000000 in
set_option maxRecDepth 100000 in
theorem spec_l9Piece.calls (a0_0:Int) (a0_1:Int) (a0_2:Int) (a0_3:Bool) (r:Bool) (w:World) (h:spec_l9Piece.f a0_0 a0_1 a0_2 a0_3=some r) :
  Calls Tryd.prog 27 #[.agg #[.int .i64 a0_0,.int .i64 a0_1,.int .i64 a0_2,.bool a0_3]] w fun e w'=>e = .returned (.bool r)∧Below w.heap.size w w':=by
 have hu51:=Tryd.underlying51
 have HB:=av (Below.refl w.heap.size w)
 have H:((spec_l1In.f a0_0 0 200).bind fun t168=>(if t168=true then ((spec_l1In.f a0_1 1 200).bind fun t169=>(if t169=true then (if (wrap64 (a0_0+a0_1))≤200 then ((spec_l1In.f a0_2 0 (wrap64 (400 - a0_1))).bind fun t170=>(some t170)) else (some false)) else (some false))) else (some false)))=some r:=h
 clear h
 replace H:=Option.bind_eq_some_iff.mp H
 obtain⟨t168,A20,H⟩:=H
 replace H:(if t168=true then ((spec_l1In.f a0_1 1 200).bind fun t169=>(if t169=true then (if (wrap64 (a0_0+a0_1))≤200 then ((spec_l1In.f a0_2 0 (wrap64 (400 - a0_1))).bind fun t170=>(some t170)) else (some false)) else (some false))) else (some false))=some r:=H
 have A2:=av A20
 clear A20
 by_cases c3:t168=true
 ·subst c3
  have H1:((spec_l1In.f a0_1 1 200).bind fun t169=>(if t169=true then (if (wrap64 (a0_0+a0_1))≤200 then ((spec_l1In.f a0_2 0 (wrap64 (400 - a0_1))).bind fun t170=>(some t170)) else (some false)) else (some false)))=some r:=by rw[if_pos rfl] at H;exact H
  clear H
  have H:=H1
  clear H1
  replace H:=Option.bind_eq_some_iff.mp H
  obtain⟨t169,A40,H⟩:=H
  replace H:(if t169=true then (if (wrap64 (a0_0+a0_1))≤200 then ((spec_l1In.f a0_2 0 (wrap64 (400 - a0_1))).bind fun t170=>(some t170)) else (some false)) else (some false))=some r:=H
  have A4:=av A40
  clear A40
  by_cases c5:t169=true
  ·subst c5
   have H1:(if (wrap64 (a0_0+a0_1))≤200 then ((spec_l1In.f a0_2 0 (wrap64 (400 - a0_1))).bind fun t170=>(some t170)) else (some false))=some r:=by rw[if_pos rfl] at H;exact H
   clear H
   have H:=H1
   clear H1
   by_cases c6:(wrap64 (a0_0+a0_1))≤200
   ·rw[if_pos c6] at H
    have c6b0:decide ((wrap64 (a0_0+a0_1))≤200)=true:=decide_eq_true c6
    clear c6
    replace H:=Option.bind_eq_some_iff.mp H
    obtain⟨t170,A70,H⟩:=H
    replace H:(some t170)=some r:=H
    have A7:=av A70
    clear A70
    obtain rfl:=Option.some.inj H
    go_enter Tryd.func27,Tryd.ntmps27
    go_wp2_with (first|((with_reducible refine aJ (N:=1) rfl ?_);refine aI ?hg (N:=1) ?hd (cs:=#[.int .i64 a0_0,.int .i64 a0_1,.int .i64 a0_2,.bool a0_3]) (t:=51) ?hr ?_;(case hd=>rfl);(case hg=>rfl);(case hr=>first|(go_simp;done)|(go_simp;rfl));intro gb167 hg w8 hbox hb;have BK167:=av (hbox);have GW167:=av ((by rw[hg];exact(ay (by with_reducible repeat(first|exact HB.out|apply af|apply aa|apply ae))):w.heap.size≤gb167));have GE167:=av ((by rw[hg];exact(ay (by with_reducible repeat(first|exact HB.out|apply af|apply aa|apply ae))):w.heap.size≤gb167));replace HB:=av (aA (by with_reducible repeat(first|exact HB.out|apply af|apply aa|apply ae)) hb);clear hb hbox hg;have hcz9_0:w8.cell? ⟨gb167,0,none⟩=some (.int .i64 a0_0):=(ag BK167.out 0).trans rfl;have hcz9_1:w8.cell? ⟨gb167,1,none⟩=some (.int .i64 a0_1):=(ag BK167.out 1).trans rfl;have hcz9_2:w8.cell? ⟨gb167,2,none⟩=some (.int .i64 a0_2):=(ag BK167.out 2).trans rfl;have hcz9_3:w8.cell? ⟨gb167,3,none⟩=some (.bool a0_3):=(ag BK167.out 3).trans rfl;have hfz9_0:=ah BK167.out 0;have hfz9_1:=ah BK167.out 1;have hfz9_2:=ah BK167.out 2;have hfz9_3:=ah BK167.out 3)|((with_reducible refine aK (f:=12) rfl ?_);refine bn (some 5) rfl rfl Tryd.func12 (by kernel_rfl) rfl #[.int .i64 a0_0,.int .i64 0,.int .i64 200] rfl (by(try simp only[amp_]);first|done|rfl|(simp only[ald_];rfl)) ?_;(with_reducible refine(spec_l1In.calls a0_0 0 200 true _ A2.out).mono ?_);rintro e w' ⟨rfl,⟨nd,rfl⟩⟩;refine⟨_,rfl,?_⟩)|(go_at_call 12;(with_reducible refine(spec_l1In.calls a0_1 1 200 true _ A4.out).mono ?_);rintro e w' ⟨rfl,⟨nd,rfl⟩⟩)|(go_at_call 12;(with_reducible refine(spec_l1In.calls a0_2 0 (wrap64 (400 - a0_1)) t170 _ A7.out).mono ?_);rintro e w' ⟨rfl,⟨nd,rfl⟩⟩))
    go_ret
    exact⟨by first|rfl|(simp <;> rfl)|(simp[*] <;> rfl),by with_reducible repeat(first|exact HB.out|apply af|apply aa|apply ae|refine ai ?_ GE167.out)⟩
   ·rw[if_neg c6] at H
    have c6b0:decide ((wrap64 (a0_0+a0_1))≤200)=false:=decide_eq_false c6
    clear c6
    obtain rfl:=Option.some.inj H
    go_enter Tryd.func27,Tryd.ntmps27
    go_wp2_with (first|((with_reducible refine aJ (N:=1) rfl ?_);refine aI ?hg (N:=1) ?hd (cs:=#[.int .i64 a0_0,.int .i64 a0_1,.int .i64 a0_2,.bool a0_3]) (t:=51) ?hr ?_;(case hd=>rfl);(case hg=>rfl);(case hr=>first|(go_simp;done)|(go_simp;rfl));intro gb167 hg w10 hbox hb;have BK167:=av (hbox);have GW167:=av ((by rw[hg];exact(ay (by with_reducible repeat(first|exact HB.out|apply af|apply aa|apply ae))):w.heap.size≤gb167));have GE167:=av ((by rw[hg];exact(ay (by with_reducible repeat(first|exact HB.out|apply af|apply aa|apply ae))):w.heap.size≤gb167));replace HB:=av (aA (by with_reducible repeat(first|exact HB.out|apply af|apply aa|apply ae)) hb);clear hb hbox hg;have hcz11_0:w10.cell? ⟨gb167,0,none⟩=some (.int .i64 a0_0):=(ag BK167.out 0).trans rfl;have hcz11_1:w10.cell? ⟨gb167,1,none⟩=some (.int .i64 a0_1):=(ag BK167.out 1).trans rfl;have hcz11_2:w10.cell? ⟨gb167,2,none⟩=some (.int .i64 a0_2):=(ag BK167.out 2).trans rfl;have hcz11_3:w10.cell? ⟨gb167,3,none⟩=some (.bool a0_3):=(ag BK167.out 3).trans rfl;have hfz11_0:=ah BK167.out 0;have hfz11_1:=ah BK167.out 1;have hfz11_2:=ah BK167.out 2;have hfz11_3:=ah BK167.out 3)|((with_reducible refine aK (f:=12) rfl ?_);refine bn (some 5) rfl rfl Tryd.func12 (by kernel_rfl) rfl #[.int .i64 a0_0,.int .i64 0,.int .i64 200] rfl (by(try simp only[amp_]);first|done|rfl|(simp only[ald_];rfl)) ?_;(with_reducible refine(spec_l1In.calls a0_0 0 200 true _ A2.out).mono ?_);rintro e w' ⟨rfl,⟨nd,rfl⟩⟩;refine⟨_,rfl,?_⟩)|(go_at_call 12;(with_reducible refine(spec_l1In.calls a0_1 1 200 true _ A4.out).mono ?_);rintro e w' ⟨rfl,⟨nd,rfl⟩⟩))
    go_ret
    exact⟨by first|rfl|(simp <;> rfl)|(simp[*] <;> rfl),by with_reducible repeat(first|exact HB.out|apply af|apply aa|apply ae|refine ai ?_ GE167.out)⟩
  ·replace c5:=Bool.eq_false_iff.mpr c5
   subst c5
   have H1:(some false)=some r:=by rw[if_neg (show ¬ (false=true) by decide)] at H;exact H
   clear H
   have H:=H1
   clear H1
   obtain rfl:=Option.some.inj H
   go_enter Tryd.func27,Tryd.ntmps27
   go_wp2_with (first|((with_reducible refine aJ (N:=1) rfl ?_);refine aI ?hg (N:=1) ?hd (cs:=#[.int .i64 a0_0,.int .i64 a0_1,.int .i64 a0_2,.bool a0_3]) (t:=51) ?hr ?_;(case hd=>rfl);(case hg=>rfl);(case hr=>first|(go_simp;done)|(go_simp;rfl));intro gb167 hg w12 hbox hb;have BK167:=av (hbox);have GW167:=av ((by rw[hg];exact(ay (by with_reducible repeat(first|exact HB.out|apply af|apply aa|apply ae))):w.heap.size≤gb167));have GE167:=av ((by rw[hg];exact(ay (by with_reducible repeat(first|exact HB.out|apply af|apply aa|apply ae))):w.heap.size≤gb167));replace HB:=av (aA (by with_reducible repeat(first|exact HB.out|apply af|apply aa|apply ae)) hb);clear hb hbox hg;have hcz13_0:w12.cell? ⟨gb167,0,none⟩=some (.int .i64 a0_0):=(ag BK167.out 0).trans rfl;have hcz13_1:w12.cell? ⟨gb167,1,none⟩=some (.int .i64 a0_1):=(ag BK167.out 1).trans rfl;have hcz13_2:w12.cell? ⟨gb167,2,none⟩=some (.int .i64 a0_2):=(ag BK167.out 2).trans rfl;have hcz13_3:w12.cell? ⟨gb167,3,none⟩=some (.bool a0_3):=(ag BK167.out 3).trans rfl;have hfz13_0:=ah BK167.out 0;have hfz13_1:=ah BK167.out 1;have hfz13_2:=ah BK167.out 2;have hfz13_3:=ah BK167.out 3)|((with_reducible refine aK (f:=12) rfl ?_);refine bn (some 5) rfl rfl Tryd.func12 (by kernel_rfl) rfl #[.int .i64 a0_0,.int .i64 0,.int .i64 200] rfl (by(try simp only[amp_]);first|done|rfl|(simp only[ald_];rfl)) ?_;(with_reducible refine(spec_l1In.calls a0_0 0 200 true _ A2.out).mono ?_);rintro e w' ⟨rfl,⟨nd,rfl⟩⟩;refine⟨_,rfl,?_⟩)|(go_at_call 12;(with_reducible refine(spec_l1In.calls a0_1 1 200 false _ A4.out).mono ?_);rintro e w' ⟨rfl,⟨nd,rfl⟩⟩))
   go_ret
   exact⟨by first|rfl|(simp <;> rfl)|(simp[*] <;> rfl),by with_reducible repeat(first|exact HB.out|apply af|apply aa|apply ae|refine ai ?_ GE167.out)⟩
 ·replace c3:=Bool.eq_false_iff.mpr c3
  subst c3
  have H1:(some false)=some r:=by rw[if_neg (show ¬ (false=true) by decide)] at H;exact H
  clear H
  have H:=H1
  clear H1
  obtain rfl:=Option.some.inj H
  go_enter Tryd.func27,Tryd.ntmps27
  go_wp2_with (first|((with_reducible refine aJ (N:=1) rfl ?_);refine aI ?hg (N:=1) ?hd (cs:=#[.int .i64 a0_0,.int .i64 a0_1,.int .i64 a0_2,.bool a0_3]) (t:=51) ?hr ?_;(case hd=>rfl);(case hg=>rfl);(case hr=>first|(go_simp;done)|(go_simp;rfl));intro gb167 hg w14 hbox hb;have BK167:=av (hbox);have GW167:=av ((by rw[hg];exact(ay (by with_reducible repeat(first|exact HB.out|apply af|apply aa|apply ae))):w.heap.size≤gb167));have GE167:=av ((by rw[hg];exact(ay (by with_reducible repeat(first|exact HB.out|apply af|apply aa|apply ae))):w.heap.size≤gb167));replace HB:=av (aA (by with_reducible repeat(first|exact HB.out|apply af|apply aa|apply ae)) hb);clear hb hbox hg;have hcz15_0:w14.cell? ⟨gb167,0,none⟩=some (.int .i64 a0_0):=(ag BK167.out 0).trans rfl;have hcz15_1:w14.cell? ⟨gb167,1,none⟩=some (.int .i64 a0_1):=(ag BK167.out 1).trans rfl;have hcz15_2:w14.cell? ⟨gb167,2,none⟩=some (.int .i64 a0_2):=(ag BK167.out 2).trans rfl;have hcz15_3:w14.cell? ⟨gb167,3,none⟩=some (.bool a0_3):=(ag BK167.out 3).trans rfl;have hfz15_0:=ah BK167.out 0;have hfz15_1:=ah BK167.out 1;have hfz15_2:=ah BK167.out 2;have hfz15_3:=ah BK167.out 3)|((with_reducible refine aK (f:=12) rfl ?_);refine bn (some 5) rfl rfl Tryd.func12 (by kernel_rfl) rfl #[.int .i64 a0_0,.int .i64 0,.int .i64 200] rfl (by(try simp only[amp_]);first|done|rfl|(simp only[ald_];rfl)) ?_;(with_reducible refine(spec_l1In.calls a0_0 0 200 false _ A2.out).mono ?_);rintro e w' ⟨rfl,⟨nd,rfl⟩⟩;refine⟨_,rfl,?_⟩))
  go_ret
  exact⟨by first|rfl|(simp <;> rfl)|(simp[*] <;> rfl),by with_reducible repeat(first|exact HB.out|apply af|apply aa|apply ae|refine ai ?_ GE167.out)⟩
attribute [local go_sem] bG bF bQ bR bB bC bH bE
set_option linter.unusedVariables false
set_option linter.unusedSimpArgs false
mutual
def spec_GoodMap.l0:Nat→List (S51)→Int→Int→List (S51)→Option (Bool)
 | 0,_,_,_,_=>none
 | k+1,x8,x9,x10,x174000=>if x10<x9 then (if 0≤x10 then (if x10 < (x8.length:Int) then ((spec_l9Piece.f ((ax x8 x10).f0) ((ax x8 x10).f1) ((ax x8 x10).f2) ((ax x8 x10).f3)).bind fun t176=>(if t176=true then (if x10 > 0 then (if 0≤(wrap64 (x10 - 1)) then (if (wrap64 (x10 - 1)) < (x174000.length:Int) then (if (wrap64 (((ax x174000 (wrap64 (x10 - 1))).f0) + ((ax x174000 (wrap64 (x10 - 1))).f1))) > ((ax x8 x10).f0) then (spec_GoodMap.j1 k x10 x8 x9 x10 true x174000 ((ax x8 x10).f0) ((ax x8 x10).f1) ((ax x8 x10).f2) ((ax x8 x10).f3)) else ((spec_l9Goes.f ((ax x174000 (wrap64 (x10 - 1))).f0) ((ax x174000 (wrap64 (x10 - 1))).f1) ((ax x174000 (wrap64 (x10 - 1))).f2) ((ax x174000 (wrap64 (x10 - 1))).f3) ((ax x8 x10).f0) ((ax x8 x10).f1) ((ax x8 x10).f2) ((ax x8 x10).f3)).bind fun t180=>(spec_GoodMap.j1 k x10 x8 x9 x10 t180 x174000 ((ax x8 x10).f0) ((ax x8 x10).f1) ((ax x8 x10).f2) ((ax x8 x10).f3)))) else (none)) else (none)) else (spec_GoodMap.j1 k x10 x8 x9 x10 false x174000 ((ax x8 x10).f0) ((ax x8 x10).f1) ((ax x8 x10).f2) ((ax x8 x10).f3))) else (some false))) else (none)) else (none)) else (some (decide ((x174000.length:Int)≤40)))
def spec_GoodMap.j1:Nat→Int→List (S51)→Int→Int→Bool→List (S51)→Int→Int→Int→Bool→Option (Bool)
 | 0,_,_,_,_,_,_,_,_,_,_=>none
 | k+1,x3,x8,x9,x10,x49,x174000,x176000,x176001,x176002,x176003=>if x49=true then (some false) else (if 0≤x3 then (if x3≤(x174000.length:Int) then ((some (x174000.take (x3:Int).toNat:List (S51))).bind fun y181=>(spec_GoodMap.l1 k x8 x9 x10 y181 (y181.length:Int) 0 x174000 x176000 x176001 x176002 x176003)) else (none)) else (none))
def spec_GoodMap.l1:Nat→List (S51)→Int→Int→List (S51)→Int→Int→List (S51)→Int→Int→Int→Bool→Option (Bool)
 | 0,_,_,_,_,_,_,_,_,_,_,_=>none
 | k+1,x8,x9,x10,x53,x54,x55,x174000,x176000,x176001,x176002,x176003=>if x55<x54 then (if 0≤x55 then (if x55 < (x53.length:Int) then (if ((ax x53 x55).f2) < (wrap64 (x176002+x176001)) then (if x176002 < (wrap64 (((ax x53 x55).f2) + ((ax x53 x55).f1))) then (some false) else (spec_GoodMap.l1 k x8 x9 x10 x53 x54 (wrap64 (x55+1)) x174000 x176000 x176001 x176002 x176003)) else (spec_GoodMap.l1 k x8 x9 x10 x53 x54 (wrap64 (x55+1)) x174000 x176000 x176001 x176002 x176003)) else (none)) else (none)) else (spec_GoodMap.l0 k x8 x9 (wrap64 (x10+1)) x174000)
end
def spec_GoodMap.f (k:Nat) (l0_0:List (S51)):Option (Bool):=spec_GoodMap.l0 k l0_0 (l0_0.length:Int) 0 l0_0
def spec_GoodMap.T6:Bool×List (List Nat×List Nat):=(true,[([],[]),([0],[0]),([1],[1]),([2],[2]),([3,2],[2,3]),([2],[2]),([5,2],[2,5]),([4,6,2],[2,4,6]),([7,2],[2,7]),([8,2],[2,8]),([2],[2]),([10,2],[2,10]),([2],[2]),([12,2],[2,12]),([11,13,2],[2,11,13]),([14,2],[2,14]),([15,2],[2,15]),([9,16,2],[2,9,16]),([2],[2]),([18,2],[2,18]),([17,19,2],[2,17,19]),([20,2,2],[2,20]),([21],[21]),([22,21],[21,22]),([21],[21]),([24,21],[21,24]),([23,25,21],[21,23,25]),([26,21],[21,26]),([21],[21]),([27,28,21,21],[21,27,28]),([21,29,2],[2,21,29]),([2,30],[2,30])])
def spec_GoodMap.B6:List Nat:=[0,1,3,7,15,7,39,127,255,511,7,1031,7,4103,15367,31751,64519,131071,7,262151,1048575,2097151,4194303,8388607,4194303,20971519,67108863,134217727,4194303,536870911,1073741823,2147483647]
theorem spec_GoodMap.tab6:dR .any (opsOf Tryd.f14 6)=spec_GoodMap.T6:=by kernel_rfl
theorem spec_GoodMap.bits6:dH spec_GoodMap.T6.2 spec_GoodMap.B6=true:=by kernel_rfl
set_option maxHeartbeats 8000000 in
set_option maxRecDepth 100000 in
theorem spec_GoodMap.calls (k : Nat) (A0_0 : Option Addr) (c0_0 : Nat) (l0_0 : List (S51)) (r : Bool) (w : World) (hr0_0 : Kd.C k51 w A0_0 l0_0.length l0_0) (hc0_0 : l0_0.length ≤ c0_0) (h : spec_GoodMap.f k l0_0 = some r) :
  Calls Tryd.prog 14 #[.agg #[.slice A0_0 l0_0.length c0_0]] w fun e w'=>e = .returned (.bool r)∧Below w.heap.size w w':=by
 have hu45:=Tryd.underlying45
 have hu51:=Tryd.underlying51
 have HR0_0:=av hr0_0
 have HC0_0:=av hc0_0
 clear hr0_0 hc0_0
 have HB:=av (Below.refl w.heap.size w)
 have H:(spec_GoodMap.l0 k l0_0 (l0_0.length:Int) 0 l0_0)=some r:=h
 clear h
 have H':=av H
 clear H
 go_enter Tryd.func14,Tryd.ntmps14
 go_wp2_with (first|((with_reducible refine aJ (N:=1) rfl ?_);refine aI ?hg (N:=1) ?hd (cs:=#[.slice A0_0 l0_0.length c0_0]) (t:=45) ?hr ?_;(case hd=>rfl);(case hg=>rfl);(case hr=>first|(go_simp;done)|(go_simp;rfl));intro gb173 hg w2 hbox hb;have BK173:=av (hbox);have GW173:=av ((by rw[hg];exact(ay (by with_reducible repeat(first|exact HB.out|apply af|apply aa|apply ae))):w.heap.size≤gb173));have GE173:=av ((by rw[hg];exact(ay (by with_reducible repeat(first|exact HB.out|apply af|apply aa|apply ae))):w.heap.size≤gb173));replace HB:=av (aA (by with_reducible repeat(first|exact HB.out|apply af|apply aa|apply ae)) hb);clear hb hbox hg;have hcz3_0:w2.cell? ⟨gb173,0,none⟩=some (.slice A0_0 l0_0.length c0_0):=(ag BK173.out 0).trans rfl;have hfz3_0:=ah BK173.out 0))
 go_loopg [10] k (fun kq v10 w'=>∃ (x10_1:Int),v10 = .int .i64 x10_1∧Aside0 (spec_GoodMap.l0 kq l0_0 (l0_0.length:Int) x10_1 l0_0=some r)∧Aside0 (kq≤k)∧Aside0 (w'.heap[gb173]? = some (.cells #[(.slice A0_0 l0_0.length c0_0)] 45 (0,0)))∧Aside0 (Below w.heap.size w w'))
 case atStart=>exact⟨(0),(by first|rfl|(simp;done)|(simp[*];done)),H',⟨Nat.le_refl _⟩,⟨by(with_reducible repeat(first|apply aj|apply au|apply ak));exact BK173.out⟩,⟨by with_reducible repeat(first|exact HB.out|apply af|apply aa|apply ae|refine ai ?_ GE173.out)⟩⟩
 case round =>
  clear H'
  try clear c1
  try clear p2
  try clear hcz3_0
  try clear hfz3_0
  obtain⟨x10_1,rfl,HA,HK1,BK173,HB⟩:=hrel
  cases gk with
  | zero=>exact absurd HA.out (by simp[spec_GoodMap.l0])
  | succ k1 =>
   have H:=HA.out
   clear HA
   simp only[spec_GoodMap.l0] at H
   by_cases c4:x10_1 < (l0_0.length:Int)
   ·rw [if_pos c4] at H
    have c4b0:decide (x10_1 < (l0_0.length:Int))=true:=decide_eq_true c4
    clear c4
    by_cases c5:0≤x10_1
    ·rw [if_pos c5] at H
     have c5b0:decide (0≤x10_1)=true:=decide_eq_true c5
     clear c5
     by_cases c6:x10_1 < (l0_0.length:Int)
     ·rw [if_pos c6] at H
      have c6b0:decide (x10_1 < (l0_0.length:Int))=true:=decide_eq_true c6
      clear c6
      replace H:=Option.bind_eq_some_iff.mp H
      obtain⟨t176,A70,H⟩:=H
      replace H:(if t176=true then (if x10_1 > 0 then (if 0≤(wrap64 (x10_1 - 1)) then (if (wrap64 (x10_1 - 1)) < (l0_0.length:Int) then (if (wrap64 (((ax l0_0 (wrap64 (x10_1 - 1))).f0) + ((ax l0_0 (wrap64 (x10_1 - 1))).f1))) > ((ax l0_0 x10_1).f0) then (spec_GoodMap.j1 k1 x10_1 l0_0 (l0_0.length:Int) x10_1 true l0_0 ((ax l0_0 x10_1).f0) ((ax l0_0 x10_1).f1) ((ax l0_0 x10_1).f2) ((ax l0_0 x10_1).f3)) else ((spec_l9Goes.f ((ax l0_0 (wrap64 (x10_1 - 1))).f0) ((ax l0_0 (wrap64 (x10_1 - 1))).f1) ((ax l0_0 (wrap64 (x10_1 - 1))).f2) ((ax l0_0 (wrap64 (x10_1 - 1))).f3) ((ax l0_0 x10_1).f0) ((ax l0_0 x10_1).f1) ((ax l0_0 x10_1).f2) ((ax l0_0 x10_1).f3)).bind fun t180=>(spec_GoodMap.j1 k1 x10_1 l0_0 (l0_0.length:Int) x10_1 t180 l0_0 ((ax l0_0 x10_1).f0) ((ax l0_0 x10_1).f1) ((ax l0_0 x10_1).f2) ((ax l0_0 x10_1).f3)))) else (none)) else (none)) else (spec_GoodMap.j1 k1 x10_1 l0_0 (l0_0.length:Int) x10_1 false l0_0 ((ax l0_0 x10_1).f0) ((ax l0_0 x10_1).f1) ((ax l0_0 x10_1).f2) ((ax l0_0 x10_1).f3))) else (some false))=some r:=H
      have A7:=av A70
      clear A70
      by_cases c8:t176=true
      ·subst c8
       have H1:(if x10_1 > 0 then (if 0≤(wrap64 (x10_1 - 1)) then (if (wrap64 (x10_1 - 1)) < (l0_0.length:Int) then (if (wrap64 (((ax l0_0 (wrap64 (x10_1 - 1))).f0) + ((ax l0_0 (wrap64 (x10_1 - 1))).f1))) > ((ax l0_0 x10_1).f0) then (spec_GoodMap.j1 k1 x10_1 l0_0 (l0_0.length:Int) x10_1 true l0_0 ((ax l0_0 x10_1).f0) ((ax l0_0 x10_1).f1) ((ax l0_0 x10_1).f2) ((ax l0_0 x10_1).f3)) else ((spec_l9Goes.f ((ax l0_0 (wrap64 (x10_1 - 1))).f0) ((ax l0_0 (wrap64 (x10_1 - 1))).f1) ((ax l0_0 (wrap64 (x10_1 - 1))).f2) ((ax l0_0 (wrap64 (x10_1 - 1))).f3) ((ax l0_0 x10_1).f0) ((ax l0_0 x10_1).f1) ((ax l0_0 x10_1).f2) ((ax l0_0 x10_1).f3)).bind fun t180=>(spec_GoodMap.j1 k1 x10_1 l0_0 (l0_0.length:Int) x10_1 t180 l0_0 ((ax l0_0 x10_1).f0) ((ax l0_0 x10_1).f1) ((ax l0_0 x10_1).f2) ((ax l0_0 x10_1).f3)))) else (none)) else (none)) else (spec_GoodMap.j1 k1 x10_1 l0_0 (l0_0.length:Int) x10_1 false l0_0 ((ax l0_0 x10_1).f0) ((ax l0_0 x10_1).f1) ((ax l0_0 x10_1).f2) ((ax l0_0 x10_1).f3)))=some r:=by rw[if_pos rfl] at H;exact H
       clear H
       have H:=H1
       clear H1
       have HC9:=av H
       clear H
       have p174:0≤(x10_1:Int):=of_decide_eq_true (by assumption)
       have q174:x10_1 < (l0_0.length:Int):=of_decide_eq_true (by assumption)
       obtain⟨ad174,e174,hx174_0,hx174_1,hx174_2,hx174_3⟩:=cK HR0_0.out x10_1 p174 q174
       cases e174
       replace hx174_0:=(HB.out.cell (World.block_lt_of_cell? w _ hx174_0)).trans hx174_0
       replace hx174_1:=(HB.out.cell (World.block_lt_of_cell? w _ hx174_1)).trans hx174_1
       replace hx174_2:=(HB.out.cell (World.block_lt_of_cell? w _ hx174_2)).trans hx174_2
       replace hx174_3:=(HB.out.cell (World.block_lt_of_cell? w _ hx174_3)).trans hx174_3
       replace p174:=eq_true p174
       replace q174:=eq_true q174
       go_upto_region 6 with(first|((with_reducible refine aJ (N:=4) rfl ?_);refine aI ?hg (N:=4) ?hd (cs:=#[.int .i64 0,.int .i64 0,.int .i64 0,.bool false]) (t:=51) ?hr ?_;(case hd=>rfl);(case hg=>rfl);(case hr=>first|(go_simp;done)|(go_simp;rfl));intro gb175 hg w10 hbox hb;have BK175:=av (hbox);have GW175:=av ((by rw[hg];exact(ay (by with_reducible repeat(first|exact HB.out|apply af|apply aa|apply ae|refine ai ?_ GE173.out))):w.heap.size≤gb175));have GE175:=av ((by rw[hg];exact(ay (by with_reducible repeat(first|exact HB.out|apply af|apply aa|apply ae|refine ai ?_ GE173.out))):w.heap.size≤gb175));replace HB:=av (aA (by with_reducible repeat(first|exact HB.out|apply af|apply aa|apply ae|refine ai ?_ GE173.out)) hb);have NB173_175:=av ((by rw[hg];exact Nat.ne_of_lt (aN (g:=gb173) (o:=.cells #[.slice (some ad174) l0_0.length c0_0] 45 (0,0)) (by(with_reducible repeat(first|apply aj|apply au|apply ak));exact BK173.out)):gb173≠gb175));have NB175_173:=av ((by rw[hg];exact Nat.ne_of_gt (aN (g:=gb173) (o:=.cells #[.slice (some ad174) l0_0.length c0_0] 45 (0,0)) (by(with_reducible repeat(first|apply aj|apply au|apply ak));exact BK173.out)):gb175≠gb173));replace BK173:=av (aG (g:=gb173) (o:=.cells #[.slice (some ad174) l0_0.length c0_0] 45 (0,0)) (by(with_reducible repeat(first|apply aj|apply au|apply ak));exact BK173.out) hb);clear hb hbox hg;have hnb11:=NB175_173.out;have hnc11:=NB173_175.out;have hcz12_0:w10.cell? ⟨gb175,0,none⟩=some (.int .i64 0):=(ag BK175.out 0).trans rfl;have hcz12_1:w10.cell? ⟨gb175,1,none⟩=some (.int .i64 0):=(ag BK175.out 1).trans rfl;have hcz12_2:w10.cell? ⟨gb175,2,none⟩=some (.int .i64 0):=(ag BK175.out 2).trans rfl;have hcz12_3:w10.cell? ⟨gb175,3,none⟩=some (.bool false):=(ag BK175.out 3).trans rfl;have hfz12_0:=ah BK175.out 0;have hfz12_1:=ah BK175.out 1;have hfz12_2:=ah BK175.out 2;have hfz12_3:=ah BK175.out 3)|((with_reducible refine aK (f:=27) rfl ?_);refine bn (some 16) rfl rfl Tryd.func27 (by kernel_rfl) rfl #[.agg #[.int .i64 ((ax l0_0 x10_1).f0),.int .i64 ((ax l0_0 x10_1).f1),.int .i64 ((ax l0_0 x10_1).f2),.bool ((ax l0_0 x10_1).f3)]] rfl (by(try simp only[amp_]);first|done|rfl|(simp only[ald_];rfl)) ?_;(with_reducible refine(spec_l9Piece.calls ((ax l0_0 x10_1).f0) ((ax l0_0 x10_1).f1) ((ax l0_0 x10_1).f2) ((ax l0_0 x10_1).f3) true _ A7.out).mono ?_);rintro e w13 ⟨rfl,hb⟩;refine⟨_,rfl,?_⟩;replace BK173:=av (aG (g:=gb173) (o:=.cells #[.slice (some ad174) l0_0.length c0_0] 45 (0,0)) (by(with_reducible repeat(first|apply aj|apply au|apply ak));refine aU ?_ NB173_175.out _;(with_reducible repeat(first|apply aj|apply au|apply ak));refine aU ?_ NB173_175.out _;(with_reducible repeat(first|apply aj|apply au|apply ak));refine aU ?_ NB173_175.out _;(with_reducible repeat(first|apply aj|apply au|apply ak));refine aU ?_ NB173_175.out _;(with_reducible repeat(first|apply aj|apply au|apply ak));exact BK173.out) hb);replace BK175:=av (aG (g:=gb175) (o:=.cells #[.int .i64 ((ax l0_0 x10_1).f0),.int .i64 ((ax l0_0 x10_1).f1),.int .i64 ((ax l0_0 x10_1).f2),.bool ((ax l0_0 x10_1).f3)] 51 (0,0)) (by(with_reducible repeat(first|apply aj|apply au|apply ak));refine aX (cs:=#[.int .i64 ((ax l0_0 x10_1).f0),.int .i64 ((ax l0_0 x10_1).f1),.int .i64 ((ax l0_0 x10_1).f2),.bool false]) ?_ 3 _ rfl;(with_reducible repeat(first|apply aj|apply au|apply ak));refine aX (cs:=#[.int .i64 ((ax l0_0 x10_1).f0),.int .i64 ((ax l0_0 x10_1).f1),.int .i64 0,.bool false]) ?_ 2 _ rfl;(with_reducible repeat(first|apply aj|apply au|apply ak));refine aX (cs:=#[.int .i64 ((ax l0_0 x10_1).f0),.int .i64 0,.int .i64 0,.bool false]) ?_ 1 _ rfl;(with_reducible repeat(first|apply aj|apply au|apply ak));refine aX (cs:=#[.int .i64 0,.int .i64 0,.int .i64 0,.bool false]) ?_ 0 _ rfl;(with_reducible repeat(first|apply aj|apply au|apply ak));exact BK175.out) hb);replace HB:=av (aA (by with_reducible repeat(first|exact HB.out|apply af|apply aa|apply ae|refine ai ?_ GE173.out|refine ai ?_ GE175.out)) hb);(try clear hb);(try clear hb2);(try clear hk);(try clear hi)))
       (try simp only[apu_])
       go_cut [49] (fun v49 wc=>∃ (kq:Nat) (x49_8:Bool),v49 = .bool x49_8∧Aside0 (spec_GoodMap.j1 kq x10_1 l0_0 (l0_0.length:Int) x10_1 x49_8 l0_0 ((ax l0_0 x10_1).f0) ((ax l0_0 x10_1).f1) ((ax l0_0 x10_1).f2) ((ax l0_0 x10_1).f3)=some r)∧Aside0 (kq≤k1)∧Aside0 (wc.heap[gb173]? = some (.cells #[(.slice (some ad174) l0_0.length c0_0)] 45 (0,0)))∧Aside0 (wc.heap[gb175]? = some (.cells #[.int .i64 ((ax l0_0 x10_1).f0),.int .i64 ((ax l0_0 x10_1).f1),.int .i64 ((ax l0_0 x10_1).f2),.bool ((ax l0_0 x10_1).f3)] 51 (0,0)))∧Aside0 (Below w.heap.size w wc))
       case first =>
        have H:=HC9.out
        clear HC9
        by_cases c14:x10_1 > 0
        ·rw [if_pos c14] at H
         have c14b0:decide (0<x10_1)=true:=decide_eq_true c14
         clear c14
         (first|rw[c14b0]|(simp only[fo,iW];rw[c14b0])|skip)
         obtain⟨ji15,hji15⟩:∃ j_:Int,(wrap64 (x10_1 - 1))=j_:=⟨_,rfl⟩
         replace H:(if 0≤(ji15) then (if (ji15) < (l0_0.length:Int) then (if (wrap64 (((ax l0_0 (ji15)).f0) + ((ax l0_0 (ji15)).f1))) > ((ax l0_0 x10_1).f0) then (spec_GoodMap.j1 k1 x10_1 l0_0 (l0_0.length:Int) x10_1 true l0_0 ((ax l0_0 x10_1).f0) ((ax l0_0 x10_1).f1) ((ax l0_0 x10_1).f2) ((ax l0_0 x10_1).f3)) else ((spec_l9Goes.f ((ax l0_0 (ji15)).f0) ((ax l0_0 (ji15)).f1) ((ax l0_0 (ji15)).f2) ((ax l0_0 (ji15)).f3) ((ax l0_0 x10_1).f0) ((ax l0_0 x10_1).f1) ((ax l0_0 x10_1).f2) ((ax l0_0 x10_1).f3)).bind fun t180=>(spec_GoodMap.j1 k1 x10_1 l0_0 (l0_0.length:Int) x10_1 t180 l0_0 ((ax l0_0 x10_1).f0) ((ax l0_0 x10_1).f1) ((ax l0_0 x10_1).f2) ((ax l0_0 x10_1).f3)))) else (none)) else (none))=some r:=by first|(rw[hji15] at H;exact H)|(simp only[hji15] at H ⊢;exact H)
         have hji15w:(IntKind.i64.wrap (x10_1 - 1))=ji15:=(fo _).trans hji15
         by_cases c16:0≤(ji15)
         ·rw [if_pos c16] at H
          have c16b0:decide (0≤(ji15))=true:=decide_eq_true c16
          clear c16
          by_cases c17:(ji15) < (l0_0.length:Int)
          ·rw[if_pos c17] at H
           have c17b0:decide ((ji15) < (l0_0.length:Int))=true:=decide_eq_true c17
           clear c17
           by_cases c18:(wrap64 (((ax l0_0 (ji15)).f0) + ((ax l0_0 (ji15)).f1))) > ((ax l0_0 x10_1).f0)
           ·rw[if_pos c18] at H
            have c18b0:decide (((ax l0_0 x10_1).f0) < (wrap64 (((ax l0_0 (ji15)).f0) + ((ax l0_0 (ji15)).f1))))=true:=decide_eq_true c18
            clear c18
            have H':=av H
            clear H
            try go_wp2
            have n0_:=av (au BK173.out)
            have n1_:=av (au BK175.out)
            have n2_:=av (ae HB.out)
            clear BK173
            clear BK175
            clear HB
            have BK173:=n0_
            have BK175:=n1_
            have HB:=n2_
            clear n0_ n1_ n2_
            have p177:0≤((ji15):Int):=of_decide_eq_true (by assumption)
            have q177:(ji15) < (l0_0.length:Int):=of_decide_eq_true (by assumption)
            obtain⟨ad177,e177,hx177_0,hx177_1,hx177_2,hx177_3⟩:=cK HR0_0.out (ji15) p177 q177
            have hw177_3:=hx177_3
            have hw177_2:=hx177_2
            have hw177_1:=hx177_1
            have hw177_0:=hx177_0
            obtain rfl:ad174=ad177:=(by injection e177)
            replace hx177_0:=(HB.out.cell (World.block_lt_of_cell? w _ hx177_0)).trans hx177_0
            replace hx177_1:=(HB.out.cell (World.block_lt_of_cell? w _ hx177_1)).trans hx177_1
            replace hx177_2:=(HB.out.cell (World.block_lt_of_cell? w _ hx177_2)).trans hx177_2
            replace hx177_3:=(HB.out.cell (World.block_lt_of_cell? w _ hx177_3)).trans hx177_3
            replace p177:=eq_true p177
            replace q177:=eq_true q177
            have p178:0≤((ji15):Int):=of_decide_eq_true (by assumption)
            have q178:(ji15) < (l0_0.length:Int):=of_decide_eq_true (by assumption)
            obtain⟨ad178,e178,hx178_0,hx178_1,hx178_2,hx178_3⟩:=cK HR0_0.out (ji15) p178 q178
            have hw178_3:=hx178_3
            have hw178_2:=hx178_2
            have hw178_1:=hx178_1
            have hw178_0:=hx178_0
            obtain rfl:ad174=ad178:=(by injection e178)
            replace hx178_0:=(HB.out.cell (World.block_lt_of_cell? w _ hx178_0)).trans hx178_0
            replace hx178_1:=(HB.out.cell (World.block_lt_of_cell? w _ hx178_1)).trans hx178_1
            replace hx178_2:=(HB.out.cell (World.block_lt_of_cell? w _ hx178_2)).trans hx178_2
            replace hx178_3:=(HB.out.cell (World.block_lt_of_cell? w _ hx178_3)).trans hx178_3
            replace p178:=eq_true p178
            replace q178:=eq_true q178
            refine bJ (n:=32) (S:=fun w'=>w'.cell? ⟨gb173,0,none⟩=some (.slice (some ad174) l0_0.length c0_0)∧w'.cell? ⟨gb175,0,none⟩=some (.int .i64 ((ax l0_0 x10_1).f0))∧w'.cell? ⟨gb175,1,none⟩=some (.int .i64 ((ax l0_0 x10_1).f1))∧w'.cell? ⟨gb175,2,none⟩=some (.int .i64 ((ax l0_0 x10_1).f2))∧w'.cell? ⟨gb175,3,none⟩=some (.bool ((ax l0_0 x10_1).f3))∧w'.cell? (ad174.add (((ji15)).toNat*4))=some (.int .i64 ((ax l0_0 (ji15)).f0))∧w'.cell? ⟨(ad174.add (((ji15)).toNat*4)).block,(ad174.add (((ji15)).toNat*4)).off+1,none⟩=some (.int .i64 ((ax l0_0 (ji15)).f1))∧w'.cell? ⟨(ad174.add (((ji15)).toNat*4)).block,(ad174.add (((ji15)).toNat*4)).off+2,none⟩=some (.int .i64 ((ax l0_0 (ji15)).f2))∧w'.cell? ⟨(ad174.add (((ji15)).toNat*4)).block,(ad174.add (((ji15)).toNat*4)).off+3,none⟩=some (.bool ((ax l0_0 (ji15)).f3))∧w'.cell? (ad174.add (((ji15)).toNat*4))=some (.int .i64 ((ax l0_0 (ji15)).f0))∧w'.cell? ⟨(ad174.add (((ji15)).toNat*4)).block,(ad174.add (((ji15)).toNat*4)).off+1,none⟩=some (.int .i64 ((ax l0_0 (ji15)).f1))∧w'.cell? ⟨(ad174.add (((ji15)).toNat*4)).block,(ad174.add (((ji15)).toNat*4)).off+2,none⟩=some (.int .i64 ((ax l0_0 (ji15)).f2))∧w'.cell? ⟨(ad174.add (((ji15)).toNat*4)).block,(ad174.add (((ji15)).toNat*4)).off+3,none⟩=some (.bool ((ax l0_0 (ji15)).f3))) (ds:=[]) #[false,false,false,false,false,false,false,false,false,false,false,false,false,false,false,false,false,false,false,false,false,false,false,false,false,false,false,false,false,false,false,false] (by kernel_rfl) rfl rfl ⟨(ag BK173.out 0).trans rfl,(ag BK175.out 0).trans rfl,(ag BK175.out 1).trans rfl,(ag BK175.out 2).trans rfl,(ag BK175.out 3).trans rfl,((HB.out.cell (World.block_lt_of_cell? w _ hw177_0)).trans hw177_0),((HB.out.cell (World.block_lt_of_cell? w _ hw177_1)).trans hw177_1),((HB.out.cell (World.block_lt_of_cell? w _ hw177_2)).trans hw177_2),((HB.out.cell (World.block_lt_of_cell? w _ hw177_3)).trans hw177_3),((HB.out.cell (World.block_lt_of_cell? w _ hw178_0)).trans hw178_0),((HB.out.cell (World.block_lt_of_cell? w _ hw178_1)).trans hw178_1),((HB.out.cell (World.block_lt_of_cell? w _ hw178_2)).trans hw178_2),((HB.out.cell (World.block_lt_of_cell? w _ hw178_3)).trans hw178_3)⟩ (fun hHeld=>?_);refine bz spec_GoodMap.tab6 spec_GoodMap.bits6 (fun HT_ HW_=>?_)
            generalize w13.drew=w19 at BK173 BK175 HB hx177_0 hx177_1 hx177_2 hx177_3 hx178_0 hx178_1 hx178_2 hx178_3 hHeld ⊢
            refine aD (i:=0) (N:=some 18) (v:=?_) (a':=?_) #[true,false,false,false,false,false,false,false,false,false,false,false,false,false,false,false,false,false,false,false,false,false,false,false,false,false,false,false,false,false,false,false] rfl rfl (aC HT_.out (by kernel_rfl)) (fun _ _ _ h=>h) (Or.inl ⟨by rfl,?_⟩) ?_ ?_
            rotate_left
            ·intro w'
             go_simp
             with_reducible rfl
            rotate_left
            ·simp only[apu_]
             rfl
            refine aD (i:=1) (N:=some 19) (v:=?_) (a':=?_) #[true,true,false,false,false,false,false,false,false,false,false,false,false,false,false,false,false,false,false,false,false,false,false,false,false,false,false,false,false,false,false,false] rfl rfl (aC HT_.out (by kernel_rfl)) (fun _ _ _ h=>h) (Or.inl ⟨by rfl,?_⟩) ?_ ?_
            rotate_left
            ·intro w'
             go_simp
             with_reducible rfl
            rotate_left
            ·simp only[apu_]
             rfl
            refine aD (i:=2) (N:=some 20) (v:=?_) (a':=?_) #[true,true,true,false,false,false,false,false,false,false,false,false,false,false,false,false,false,false,false,false,false,false,false,false,false,false,false,false,false,false,false,false] rfl rfl (aC HT_.out (by kernel_rfl)) (fun _ _ _ h=>h) (Or.inl ⟨by rfl,?_⟩) ?_ ?_
            rotate_left
            ·intro w'
             go_simp
             with_reducible rfl
            rotate_left
            ·simp only[apu_]
             rfl
            refine aD (i:=3) (N:=some 21) (v:=?_) (a':=?_) #[true,true,true,true,false,false,false,false,false,false,false,false,false,false,false,false,false,false,false,false,false,false,false,false,false,false,false,false,false,false,false,false] rfl rfl (aC HT_.out (by kernel_rfl)) (fun _ _ _ h=>h) (Or.inl ⟨by rfl,?_⟩) ?_ ?_
            rotate_left
            ·intro w'
             go_simp
             with_reducible rfl
            rotate_left
            ·simp only[apu_]
             rfl
            refine aD (i:=5) (N:=some 23) (v:=?_) (a':=?_) #[true,true,true,true,false,true,false,false,false,false,false,false,false,false,false,false,false,false,false,false,false,false,false,false,false,false,false,false,false,false,false,false] rfl rfl (aC HT_.out (by kernel_rfl)) (fun _ _ _ h=>h) (Or.inl ⟨by rfl,?_⟩) ?_ ?_
            rotate_left
            ·intro w'
             go_simp
             with_reducible rfl
            rotate_left
            ·simp only[apu_]
             rfl
            refine aD (i:=6) (N:=some 24) (v:=?_) (a':=?_) #[true,true,true,true,false,true,true,false,false,false,false,false,false,false,false,false,false,false,false,false,false,false,false,false,false,false,false,false,false,false,false,false] rfl rfl (aC HT_.out (by kernel_rfl)) (fun _ _ _ h=>h) (Or.inl ⟨by rfl,?_⟩) ?_ ?_
            rotate_left
            ·intro w'
             go_simp
             with_reducible rfl
            rotate_left
            ·simp only[apu_]
             rfl
            refine aD (i:=10) (N:=some 28) (v:=?_) (a':=?_) #[true,true,true,true,false,true,true,false,false,false,true,false,false,false,false,false,false,false,false,false,false,false,false,false,false,false,false,false,false,false,false,false] rfl rfl (aC HT_.out (by kernel_rfl)) (fun _ _ _ h=>h) (Or.inl ⟨by rfl,?_⟩) ?_ ?_
            rotate_left
            ·intro w'
             go_simp
             with_reducible rfl
            rotate_left
            ·simp only[apu_]
             rfl
            refine aD (i:=12) (N:=some 30) (v:=?_) (a':=?_) #[true,true,true,true,false,true,true,false,false,false,true,false,true,false,false,false,false,false,false,false,false,false,false,false,false,false,false,false,false,false,false,false] rfl rfl (aC HT_.out (by kernel_rfl)) (fun _ _ _ h=>h) (Or.inl ⟨by rfl,?_⟩) ?_ ?_
            rotate_left
            ·intro w'
             go_simp
             with_reducible rfl
            rotate_left
            ·simp only[apu_]
             rfl
            refine aD (i:=13) (N:=some 31) (v:=?_) (a':=?_) #[true,true,true,true,false,true,true,false,false,false,true,false,true,true,false,false,false,false,false,false,false,false,false,false,false,false,false,false,false,false,false,false] rfl rfl (aC HT_.out (by kernel_rfl)) (fun _ _ _ h=>h) (Or.inl ⟨by rfl,?_⟩) ?_ ?_
            rotate_left
            ·intro w'
             go_simp
             with_reducible rfl
            rotate_left
            ·simp only[apu_]
             rfl
            refine aD (i:=18) (N:=some 36) (v:=?_) (a':=?_) #[true,true,true,true,false,true,true,false,false,false,true,false,true,true,false,false,false,false,true,false,false,false,false,false,false,false,false,false,false,false,false,false] rfl rfl (aC HT_.out (by kernel_rfl)) (fun _ _ _ h=>h) (Or.inl ⟨by rfl,?_⟩) ?_ ?_
            rotate_left
            ·intro w'
             go_simp
             with_reducible rfl
            rotate_left
            ·simp only[apu_]
             rfl
            refine aZ (i:=4) (N:=some 22) (v:=?_) (a':=?_) #[true,true,true,true,true,true,true,false,false,false,true,false,true,true,false,false,false,false,true,false,false,false,false,false,false,false,false,false,false,false,false,false] rfl rfl (aT HT_.out HW_.out (by kernel_rfl)) (fun _ _ _ h=>h) (Or.inl ⟨by rfl,?_⟩) hHeld ?_ ?_
            rotate_left
            ·rintro w' ⟨s0,s1,s2,s3,s4,s5,s6,s7,s8,s9,s10,s11,s12⟩
             go_simp
             with_reducible rfl
            rotate_left
            ·simp only[apu_]
             rfl
            refine aD (i:=7) (N:=some 25) (v:=?_) (a':=?_) #[true,true,true,true,true,true,true,true,false,false,true,false,true,true,false,false,false,false,true,false,false,false,false,false,false,false,false,false,false,false,false,false] rfl rfl (aC HT_.out (by kernel_rfl)) (fun _ _ _ h=>h) (Or.inl ⟨by rfl,?_⟩) ?_ ?_
            rotate_left
            ·intro w'
             go_simp
             with_reducible rfl
            rotate_left
            ·simp only[apu_]
             rfl
            refine aD (i:=8) (N:=some 26) (v:=?_) (a':=?_) #[true,true,true,true,true,true,true,true,true,false,true,false,true,true,false,false,false,false,true,false,false,false,false,false,false,false,false,false,false,false,false,false] rfl rfl (aC HT_.out (by kernel_rfl)) (fun _ _ _ h=>h) (Or.inl ⟨by rfl,?_⟩) ?_ ?_
            rotate_left
            ·intro w'
             go_simp
             with_reducible rfl
            rotate_left
            ·simp only[apu_]
             rfl
            refine aZ (i:=9) (N:=some 27) (v:=?_) (a':=?_) #[true,true,true,true,true,true,true,true,true,true,true,false,true,true,false,false,false,false,true,false,false,false,false,false,false,false,false,false,false,false,false,false] rfl rfl (aT HT_.out HW_.out (by kernel_rfl)) (fun _ _ _ h=>h) (Or.inl ⟨by rfl,?_⟩) hHeld ?_ ?_
            rotate_left
            ·rintro w' ⟨s0,s1,s2,s3,s4,s5,s6,s7,s8,s9,s10,s11,s12⟩
             go_simp
             with_reducible rfl
            rotate_left
            ·simp only[apu_]
             rfl
            refine aZ (i:=11) (N:=some 29) (v:=?_) (a':=?_) #[true,true,true,true,true,true,true,true,true,true,true,true,true,true,false,false,false,false,true,false,false,false,false,false,false,false,false,false,false,false,false,false] rfl rfl (aT HT_.out HW_.out (by kernel_rfl)) (fun _ _ _ h=>h) (Or.inl ⟨by rfl,?_⟩) hHeld ?_ ?_
            rotate_left
            ·rintro w' ⟨s0,s1,s2,s3,s4,s5,s6,s7,s8,s9,s10,s11,s12⟩
             go_simp
             with_reducible rfl
            rotate_left
            ·simp only[apu_]
             rfl
            refine aD (i:=14) (N:=some 32) (v:=?_) (a':=?_) #[true,true,true,true,true,true,true,true,true,true,true,true,true,true,true,false,false,false,true,false,false,false,false,false,false,false,false,false,false,false,false,false] rfl rfl (aC HT_.out (by kernel_rfl)) (fun _ _ _ h=>h) (Or.inl ⟨by rfl,?_⟩) ?_ ?_
            rotate_left
            ·intro w'
             go_simp
             with_reducible rfl
            rotate_left
            ·simp only[apu_]
             rfl
            refine aD (i:=15) (N:=some 33) (v:=?_) (a':=?_) #[true,true,true,true,true,true,true,true,true,true,true,true,true,true,true,true,false,false,true,false,false,false,false,false,false,false,false,false,false,false,false,false] rfl rfl (aC HT_.out (by kernel_rfl)) (fun _ _ _ h=>h) (Or.inl ⟨by rfl,?_⟩) ?_ ?_
            rotate_left
            ·intro w'
             go_simp
             with_reducible rfl
            rotate_left
            ·simp only[apu_]
             rfl
            refine aZ (i:=16) (N:=some 34) (v:=?_) (a':=?_) #[true,true,true,true,true,true,true,true,true,true,true,true,true,true,true,true,true,false,true,false,false,false,false,false,false,false,false,false,false,false,false,false] rfl rfl (aT HT_.out HW_.out (by kernel_rfl)) (fun _ _ _ h=>h) (Or.inl ⟨by rfl,?_⟩) hHeld ?_ ?_
            rotate_left
            ·rintro w' ⟨s0,s1,s2,s3,s4,s5,s6,s7,s8,s9,s10,s11,s12⟩
             go_simp
             with_reducible rfl
            rotate_left
            ·simp only[apu_]
             rfl
            refine aD (i:=17) (N:=some 35) (v:=?_) (a':=?_) #[true,true,true,true,true,true,true,true,true,true,true,true,true,true,true,true,true,true,true,false,false,false,false,false,false,false,false,false,false,false,false,false] rfl rfl (aC HT_.out (by kernel_rfl)) (fun _ _ _ h=>h) (Or.inl ⟨by rfl,?_⟩) ?_ ?_
            rotate_left
            ·intro w'
             go_simp
             with_reducible rfl
            rotate_left
            ·simp only[apu_]
             rfl
            refine aZ (i:=19) (N:=some 37) (v:=?_) (a':=?_) #[true,true,true,true,true,true,true,true,true,true,true,true,true,true,true,true,true,true,true,true,false,false,false,false,false,false,false,false,false,false,false,false] rfl rfl (aT HT_.out HW_.out (by kernel_rfl)) (fun _ _ _ h=>h) (Or.inl ⟨by rfl,?_⟩) hHeld ?_ ?_
            rotate_left
            ·rintro w' ⟨s0,s1,s2,s3,s4,s5,s6,s7,s8,s9,s10,s11,s12⟩
             go_simp
             with_reducible rfl
            rotate_left
            ·simp only[apu_]
             rfl
            refine aD (i:=20) (N:=some 38) (v:=?_) (a':=?_) #[true,true,true,true,true,true,true,true,true,true,true,true,true,true,true,true,true,true,true,true,true,false,false,false,false,false,false,false,false,false,false,false] rfl rfl (aC HT_.out (by kernel_rfl)) (fun _ _ _ h=>h) (Or.inl ⟨by rfl,?_⟩) ?_ ?_
            rotate_left
            ·intro w'
             go_simp
             with_reducible rfl
            rotate_left
            ·simp only[apu_]
             rfl
            refine aD (i:=21) (N:=some 39) (v:=?_) (a':=?_) #[true,true,true,true,true,true,true,true,true,true,true,true,true,true,true,true,true,true,true,true,true,true,false,false,false,false,false,false,false,false,false,false] rfl rfl (aC HT_.out (by kernel_rfl)) (fun _ _ _ h=>h) (Or.inl ⟨by rfl,?_⟩) ?_ ?_
            rotate_left
            ·intro w'
             go_simp
             with_reducible rfl
            rotate_left
            ·simp only[apu_]
             rfl
            refine aD (i:=22) (N:=some 40) (v:=undef) (a':=?_) #[true,true,true,true,true,true,true,true,true,true,true,true,true,true,true,true,true,true,true,true,true,true,true,false,false,false,false,false,false,false,false,false] rfl rfl (aC HT_.out (by kernel_rfl)) (fun _ _ _ h=>h) (Or.inr ⟨by rfl,rfl⟩) ?_ ?_
            rotate_left
            ·simp only[apu_]
             rfl
            refine aD (i:=23) (N:=some 41) (v:=undef) (a':=?_) #[true,true,true,true,true,true,true,true,true,true,true,true,true,true,true,true,true,true,true,true,true,true,true,true,false,false,false,false,false,false,false,false] rfl rfl (aC HT_.out (by kernel_rfl)) (fun _ _ _ h=>h) (Or.inr ⟨by rfl,rfl⟩) ?_ ?_
            rotate_left
            ·simp only[apu_]
             rfl
            refine aD (i:=24) (N:=some 42) (v:=undef) (a':=?_) #[true,true,true,true,true,true,true,true,true,true,true,true,true,true,true,true,true,true,true,true,true,true,true,true,true,false,false,false,false,false,false,false] rfl rfl (aC HT_.out (by kernel_rfl)) (fun _ _ _ h=>h) (Or.inr ⟨by rfl,rfl⟩) ?_ ?_
            rotate_left
            ·simp only[apu_]
             rfl
            refine aD (i:=25) (N:=some 43) (v:=undef) (a':=?_) #[true,true,true,true,true,true,true,true,true,true,true,true,true,true,true,true,true,true,true,true,true,true,true,true,true,true,false,false,false,false,false,false] rfl rfl (aC HT_.out (by kernel_rfl)) (fun _ _ _ h=>h) (Or.inr ⟨by rfl,rfl⟩) ?_ ?_
            rotate_left
            ·simp only[apu_]
             rfl
            refine aD (i:=26) (N:=some 44) (v:=undef) (a':=?_) #[true,true,true,true,true,true,true,true,true,true,true,true,true,true,true,true,true,true,true,true,true,true,true,true,true,true,true,false,false,false,false,false] rfl rfl (aC HT_.out (by kernel_rfl)) (fun _ _ _ h=>h) (Or.inr ⟨by rfl,rfl⟩) ?_ ?_
            rotate_left
            ·simp only[apu_]
             rfl
            refine aD (i:=27) (N:=some 45) (v:=undef) (a':=?_) #[true,true,true,true,true,true,true,true,true,true,true,true,true,true,true,true,true,true,true,true,true,true,true,true,true,true,true,true,false,false,false,false] rfl rfl (aC HT_.out (by kernel_rfl)) (fun _ _ _ h=>h) (Or.inr ⟨by rfl,rfl⟩) ?_ ?_
            rotate_left
            ·simp only[apu_]
             rfl
            refine aD (i:=28) (N:=some 46) (v:=undef) (a':=?_) #[true,true,true,true,true,true,true,true,true,true,true,true,true,true,true,true,true,true,true,true,true,true,true,true,true,true,true,true,true,false,false,false] rfl rfl (aC HT_.out (by kernel_rfl)) (fun _ _ _ h=>h) (Or.inr ⟨by rfl,rfl⟩) ?_ ?_
            rotate_left
            ·simp only[apu_]
             rfl
            refine aD (i:=29) (N:=some 47) (v:=undef) (a':=?_) #[true,true,true,true,true,true,true,true,true,true,true,true,true,true,true,true,true,true,true,true,true,true,true,true,true,true,true,true,true,true,false,false] rfl rfl (aC HT_.out (by kernel_rfl)) (fun _ _ _ h=>h) (Or.inr ⟨by rfl,rfl⟩) ?_ ?_
            rotate_left
            ·simp only[apu_]
             rfl
            refine aD (i:=30) (N:=some 48) (v:=?_) (a':=?_) #[true,true,true,true,true,true,true,true,true,true,true,true,true,true,true,true,true,true,true,true,true,true,true,true,true,true,true,true,true,true,true,false] rfl rfl (aC HT_.out (by kernel_rfl)) (fun _ _ _ h=>h) (Or.inl ⟨by rfl,?_⟩) ?_ ?_
            rotate_left
            ·intro w'
             go_simp
             with_reducible rfl
            rotate_left
            ·simp only[apu_]
             rfl
            refine aD (i:=31) (N:=some 49) (v:=?_) (a':=?_) #[true,true,true,true,true,true,true,true,true,true,true,true,true,true,true,true,true,true,true,true,true,true,true,true,true,true,true,true,true,true,true,true] rfl rfl (aC HT_.out (by kernel_rfl)) (fun _ _ _ h=>h) (Or.inl ⟨by rfl,?_⟩) ?_ ?_
            rotate_left
            ·intro w'
             go_simp
             with_reducible rfl
            rotate_left
            ·simp only[apu_]
             rfl
            refine cu (bK HT_.out (by kernel_rfl)) ?_
            try go_wp2
            go_meet
            case rel=>exact⟨_,(true),(by first|rfl|(simp;done)|(simp[*];done)),H',⟨by have:=HK1.out;first|omega|exact Nat.le_refl _⟩,⟨by(with_reducible repeat(first|apply aj|apply au|apply ak));exact BK173.out⟩,⟨by(with_reducible repeat(first|apply aj|apply au|apply ak));exact BK175.out⟩,⟨by with_reducible repeat(first|exact HB.out|apply af|apply aa|apply ae|refine ai ?_ GE173.out|refine ai ?_ GE175.out)⟩⟩
           ·rw[if_neg c18] at H
            have c18b0:decide (((ax l0_0 x10_1).f0) < (wrap64 (((ax l0_0 (ji15)).f0) + ((ax l0_0 (ji15)).f1))))=false:=decide_eq_false c18
            clear c18
            replace H:=Option.bind_eq_some_iff.mp H
            obtain⟨t180,A200,H⟩:=H
            replace H:(spec_GoodMap.j1 k1 x10_1 l0_0 (l0_0.length:Int) x10_1 t180 l0_0 ((ax l0_0 x10_1).f0) ((ax l0_0 x10_1).f1) ((ax l0_0 x10_1).f2) ((ax l0_0 x10_1).f3))=some r:=H
            have A20:=av A200
            clear A200
            have H':=av H
            clear H
            try go_wp2
            have n0_:=av (au BK173.out)
            have n1_:=av (au BK175.out)
            have n2_:=av (ae HB.out)
            clear BK173
            clear BK175
            clear HB
            have BK173:=n0_
            have BK175:=n1_
            have HB:=n2_
            clear n0_ n1_ n2_
            have p177:0≤((ji15):Int):=of_decide_eq_true (by assumption)
            have q177:(ji15) < (l0_0.length:Int):=of_decide_eq_true (by assumption)
            obtain⟨ad177,e177,hx177_0,hx177_1,hx177_2,hx177_3⟩:=cK HR0_0.out (ji15) p177 q177
            have hw177_3:=hx177_3
            have hw177_2:=hx177_2
            have hw177_1:=hx177_1
            have hw177_0:=hx177_0
            obtain rfl:ad174=ad177:=(by injection e177)
            replace hx177_0:=(HB.out.cell (World.block_lt_of_cell? w _ hx177_0)).trans hx177_0
            replace hx177_1:=(HB.out.cell (World.block_lt_of_cell? w _ hx177_1)).trans hx177_1
            replace hx177_2:=(HB.out.cell (World.block_lt_of_cell? w _ hx177_2)).trans hx177_2
            replace hx177_3:=(HB.out.cell (World.block_lt_of_cell? w _ hx177_3)).trans hx177_3
            replace p177:=eq_true p177
            replace q177:=eq_true q177
            have p178:0≤((ji15):Int):=of_decide_eq_true (by assumption)
            have q178:(ji15) < (l0_0.length:Int):=of_decide_eq_true (by assumption)
            obtain⟨ad178,e178,hx178_0,hx178_1,hx178_2,hx178_3⟩:=cK HR0_0.out (ji15) p178 q178
            have hw178_3:=hx178_3
            have hw178_2:=hx178_2
            have hw178_1:=hx178_1
            have hw178_0:=hx178_0
            obtain rfl:ad174=ad178:=(by injection e178)
            replace hx178_0:=(HB.out.cell (World.block_lt_of_cell? w _ hx178_0)).trans hx178_0
            replace hx178_1:=(HB.out.cell (World.block_lt_of_cell? w _ hx178_1)).trans hx178_1
            replace hx178_2:=(HB.out.cell (World.block_lt_of_cell? w _ hx178_2)).trans hx178_2
            replace hx178_3:=(HB.out.cell (World.block_lt_of_cell? w _ hx178_3)).trans hx178_3
            replace p178:=eq_true p178
            replace q178:=eq_true q178
            have p179:0≤((ji15):Int):=of_decide_eq_true (by assumption)
            have q179:(ji15) < (l0_0.length:Int):=of_decide_eq_true (by assumption)
            obtain⟨ad179,e179,hx179_0,hx179_1,hx179_2,hx179_3⟩:=cK HR0_0.out (ji15) p179 q179
            have hw179_3:=hx179_3
            have hw179_2:=hx179_2
            have hw179_1:=hx179_1
            have hw179_0:=hx179_0
            obtain rfl:ad174=ad179:=(by injection e179)
            replace hx179_0:=(HB.out.cell (World.block_lt_of_cell? w _ hx179_0)).trans hx179_0
            replace hx179_1:=(HB.out.cell (World.block_lt_of_cell? w _ hx179_1)).trans hx179_1
            replace hx179_2:=(HB.out.cell (World.block_lt_of_cell? w _ hx179_2)).trans hx179_2
            replace hx179_3:=(HB.out.cell (World.block_lt_of_cell? w _ hx179_3)).trans hx179_3
            replace p179:=eq_true p179
            replace q179:=eq_true q179
            refine bJ (n:=32) (S:=fun w'=>w'.cell? ⟨gb173,0,none⟩=some (.slice (some ad174) l0_0.length c0_0)∧w'.cell? ⟨gb175,0,none⟩=some (.int .i64 ((ax l0_0 x10_1).f0))∧w'.cell? ⟨gb175,1,none⟩=some (.int .i64 ((ax l0_0 x10_1).f1))∧w'.cell? ⟨gb175,2,none⟩=some (.int .i64 ((ax l0_0 x10_1).f2))∧w'.cell? ⟨gb175,3,none⟩=some (.bool ((ax l0_0 x10_1).f3))∧w'.cell? (ad174.add (((ji15)).toNat*4))=some (.int .i64 ((ax l0_0 (ji15)).f0))∧w'.cell? ⟨(ad174.add (((ji15)).toNat*4)).block,(ad174.add (((ji15)).toNat*4)).off+1,none⟩=some (.int .i64 ((ax l0_0 (ji15)).f1))∧w'.cell? ⟨(ad174.add (((ji15)).toNat*4)).block,(ad174.add (((ji15)).toNat*4)).off+2,none⟩=some (.int .i64 ((ax l0_0 (ji15)).f2))∧w'.cell? ⟨(ad174.add (((ji15)).toNat*4)).block,(ad174.add (((ji15)).toNat*4)).off+3,none⟩=some (.bool ((ax l0_0 (ji15)).f3))∧w'.cell? (ad174.add (((ji15)).toNat*4))=some (.int .i64 ((ax l0_0 (ji15)).f0))∧w'.cell? ⟨(ad174.add (((ji15)).toNat*4)).block,(ad174.add (((ji15)).toNat*4)).off+1,none⟩=some (.int .i64 ((ax l0_0 (ji15)).f1))∧w'.cell? ⟨(ad174.add (((ji15)).toNat*4)).block,(ad174.add (((ji15)).toNat*4)).off+2,none⟩=some (.int .i64 ((ax l0_0 (ji15)).f2))∧w'.cell? ⟨(ad174.add (((ji15)).toNat*4)).block,(ad174.add (((ji15)).toNat*4)).off+3,none⟩=some (.bool ((ax l0_0 (ji15)).f3))∧w'.cell? (ad174.add (((ji15)).toNat*4))=some (.int .i64 ((ax l0_0 (ji15)).f0))∧w'.cell? ⟨(ad174.add (((ji15)).toNat*4)).block,(ad174.add (((ji15)).toNat*4)).off+1,none⟩=some (.int .i64 ((ax l0_0 (ji15)).f1))∧w'.cell? ⟨(ad174.add (((ji15)).toNat*4)).block,(ad174.add (((ji15)).toNat*4)).off+2,none⟩=some (.int .i64 ((ax l0_0 (ji15)).f2))∧w'.cell? ⟨(ad174.add (((ji15)).toNat*4)).block,(ad174.add (((ji15)).toNat*4)).off+3,none⟩=some (.bool ((ax l0_0 (ji15)).f3))) (ds:=[]) #[false,false,false,false,false,false,false,false,false,false,false,false,false,false,false,false,false,false,false,false,false,false,false,false,false,false,false,false,false,false,false,false] (by kernel_rfl) rfl rfl ⟨(ag BK173.out 0).trans rfl,(ag BK175.out 0).trans rfl,(ag BK175.out 1).trans rfl,(ag BK175.out 2).trans rfl,(ag BK175.out 3).trans rfl,((HB.out.cell (World.block_lt_of_cell? w _ hw177_0)).trans hw177_0),((HB.out.cell (World.block_lt_of_cell? w _ hw177_1)).trans hw177_1),((HB.out.cell (World.block_lt_of_cell? w _ hw177_2)).trans hw177_2),((HB.out.cell (World.block_lt_of_cell? w _ hw177_3)).trans hw177_3),((HB.out.cell (World.block_lt_of_cell? w _ hw178_0)).trans hw178_0),((HB.out.cell (World.block_lt_of_cell? w _ hw178_1)).trans hw178_1),((HB.out.cell (World.block_lt_of_cell? w _ hw178_2)).trans hw178_2),((HB.out.cell (World.block_lt_of_cell? w _ hw178_3)).trans hw178_3),((HB.out.cell (World.block_lt_of_cell? w _ hw179_0)).trans hw179_0),((HB.out.cell (World.block_lt_of_cell? w _ hw179_1)).trans hw179_1),((HB.out.cell (World.block_lt_of_cell? w _ hw179_2)).trans hw179_2),((HB.out.cell (World.block_lt_of_cell? w _ hw179_3)).trans hw179_3)⟩ (fun hHeld=>?_);refine bz spec_GoodMap.tab6 spec_GoodMap.bits6 (fun HT_ HW_=>?_)
            generalize w13.drew=w21 at BK173 BK175 HB hx177_0 hx177_1 hx177_2 hx177_3 hx178_0 hx178_1 hx178_2 hx178_3 hx179_0 hx179_1 hx179_2 hx179_3 hHeld ⊢
            refine aD (i:=0) (N:=some 18) (v:=?_) (a':=?_) #[true,false,false,false,false,false,false,false,false,false,false,false,false,false,false,false,false,false,false,false,false,false,false,false,false,false,false,false,false,false,false,false] rfl rfl (aC HT_.out (by kernel_rfl)) (fun _ _ _ h=>h) (Or.inl ⟨by rfl,?_⟩) ?_ ?_
            rotate_left
            ·intro w'
             go_simp
             with_reducible rfl
            rotate_left
            ·simp only[apu_]
             rfl
            refine aD (i:=1) (N:=some 19) (v:=?_) (a':=?_) #[true,true,false,false,false,false,false,false,false,false,false,false,false,false,false,false,false,false,false,false,false,false,false,false,false,false,false,false,false,false,false,false] rfl rfl (aC HT_.out (by kernel_rfl)) (fun _ _ _ h=>h) (Or.inl ⟨by rfl,?_⟩) ?_ ?_
            rotate_left
            ·intro w'
             go_simp
             with_reducible rfl
            rotate_left
            ·simp only[apu_]
             rfl
            refine aD (i:=2) (N:=some 20) (v:=?_) (a':=?_) #[true,true,true,false,false,false,false,false,false,false,false,false,false,false,false,false,false,false,false,false,false,false,false,false,false,false,false,false,false,false,false,false] rfl rfl (aC HT_.out (by kernel_rfl)) (fun _ _ _ h=>h) (Or.inl ⟨by rfl,?_⟩) ?_ ?_
            rotate_left
            ·intro w'
             go_simp
             with_reducible rfl
            rotate_left
            ·simp only[apu_]
             rfl
            refine aD (i:=3) (N:=some 21) (v:=?_) (a':=?_) #[true,true,true,true,false,false,false,false,false,false,false,false,false,false,false,false,false,false,false,false,false,false,false,false,false,false,false,false,false,false,false,false] rfl rfl (aC HT_.out (by kernel_rfl)) (fun _ _ _ h=>h) (Or.inl ⟨by rfl,?_⟩) ?_ ?_
            rotate_left
            ·intro w'
             go_simp
             with_reducible rfl
            rotate_left
            ·simp only[apu_]
             rfl
            refine aD (i:=5) (N:=some 23) (v:=?_) (a':=?_) #[true,true,true,true,false,true,false,false,false,false,false,false,false,false,false,false,false,false,false,false,false,false,false,false,false,false,false,false,false,false,false,false] rfl rfl (aC HT_.out (by kernel_rfl)) (fun _ _ _ h=>h) (Or.inl ⟨by rfl,?_⟩) ?_ ?_
            rotate_left
            ·intro w'
             go_simp
             with_reducible rfl
            rotate_left
            ·simp only[apu_]
             rfl
            refine aD (i:=6) (N:=some 24) (v:=?_) (a':=?_) #[true,true,true,true,false,true,true,false,false,false,false,false,false,false,false,false,false,false,false,false,false,false,false,false,false,false,false,false,false,false,false,false] rfl rfl (aC HT_.out (by kernel_rfl)) (fun _ _ _ h=>h) (Or.inl ⟨by rfl,?_⟩) ?_ ?_
            rotate_left
            ·intro w'
             go_simp
             with_reducible rfl
            rotate_left
            ·simp only[apu_]
             rfl
            refine aD (i:=10) (N:=some 28) (v:=?_) (a':=?_) #[true,true,true,true,false,true,true,false,false,false,true,false,false,false,false,false,false,false,false,false,false,false,false,false,false,false,false,false,false,false,false,false] rfl rfl (aC HT_.out (by kernel_rfl)) (fun _ _ _ h=>h) (Or.inl ⟨by rfl,?_⟩) ?_ ?_
            rotate_left
            ·intro w'
             go_simp
             with_reducible rfl
            rotate_left
            ·simp only[apu_]
             rfl
            refine aD (i:=12) (N:=some 30) (v:=?_) (a':=?_) #[true,true,true,true,false,true,true,false,false,false,true,false,true,false,false,false,false,false,false,false,false,false,false,false,false,false,false,false,false,false,false,false] rfl rfl (aC HT_.out (by kernel_rfl)) (fun _ _ _ h=>h) (Or.inl ⟨by rfl,?_⟩) ?_ ?_
            rotate_left
            ·intro w'
             go_simp
             with_reducible rfl
            rotate_left
            ·simp only[apu_]
             rfl
            refine aD (i:=13) (N:=some 31) (v:=?_) (a':=?_) #[true,true,true,true,false,true,true,false,false,false,true,false,true,true,false,false,false,false,false,false,false,false,false,false,false,false,false,false,false,false,false,false] rfl rfl (aC HT_.out (by kernel_rfl)) (fun _ _ _ h=>h) (Or.inl ⟨by rfl,?_⟩) ?_ ?_
            rotate_left
            ·intro w'
             go_simp
             with_reducible rfl
            rotate_left
            ·simp only[apu_]
             rfl
            refine aD (i:=18) (N:=some 36) (v:=?_) (a':=?_) #[true,true,true,true,false,true,true,false,false,false,true,false,true,true,false,false,false,false,true,false,false,false,false,false,false,false,false,false,false,false,false,false] rfl rfl (aC HT_.out (by kernel_rfl)) (fun _ _ _ h=>h) (Or.inl ⟨by rfl,?_⟩) ?_ ?_
            rotate_left
            ·intro w'
             go_simp
             with_reducible rfl
            rotate_left
            ·simp only[apu_]
             rfl
            refine aZ (i:=4) (N:=some 22) (v:=?_) (a':=?_) #[true,true,true,true,true,true,true,false,false,false,true,false,true,true,false,false,false,false,true,false,false,false,false,false,false,false,false,false,false,false,false,false] rfl rfl (aT HT_.out HW_.out (by kernel_rfl)) (fun _ _ _ h=>h) (Or.inl ⟨by rfl,?_⟩) hHeld ?_ ?_
            rotate_left
            ·rintro w' ⟨s0,s1,s2,s3,s4,s5,s6,s7,s8,s9,s10,s11,s12,s13,s14,s15,s16⟩
             go_simp
             with_reducible rfl
            rotate_left
            ·simp only[apu_]
             rfl
            refine aD (i:=7) (N:=some 25) (v:=?_) (a':=?_) #[true,true,true,true,true,true,true,true,false,false,true,false,true,true,false,false,false,false,true,false,false,false,false,false,false,false,false,false,false,false,false,false] rfl rfl (aC HT_.out (by kernel_rfl)) (fun _ _ _ h=>h) (Or.inl ⟨by rfl,?_⟩) ?_ ?_
            rotate_left
            ·intro w'
             go_simp
             with_reducible rfl
            rotate_left
            ·simp only[apu_]
             rfl
            refine aD (i:=8) (N:=some 26) (v:=?_) (a':=?_) #[true,true,true,true,true,true,true,true,true,false,true,false,true,true,false,false,false,false,true,false,false,false,false,false,false,false,false,false,false,false,false,false] rfl rfl (aC HT_.out (by kernel_rfl)) (fun _ _ _ h=>h) (Or.inl ⟨by rfl,?_⟩) ?_ ?_
            rotate_left
            ·intro w'
             go_simp
             with_reducible rfl
            rotate_left
            ·simp only[apu_]
             rfl
            refine aZ (i:=9) (N:=some 27) (v:=?_) (a':=?_) #[true,true,true,true,true,true,true,true,true,true,true,false,true,true,false,false,false,false,true,false,false,false,false,false,false,false,false,false,false,false,false,false] rfl rfl (aT HT_.out HW_.out (by kernel_rfl)) (fun _ _ _ h=>h) (Or.inl ⟨by rfl,?_⟩) hHeld ?_ ?_
            rotate_left
            ·rintro w' ⟨s0,s1,s2,s3,s4,s5,s6,s7,s8,s9,s10,s11,s12,s13,s14,s15,s16⟩
             go_simp
             with_reducible rfl
            rotate_left
            ·simp only[apu_]
             rfl
            refine aZ (i:=11) (N:=some 29) (v:=?_) (a':=?_) #[true,true,true,true,true,true,true,true,true,true,true,true,true,true,false,false,false,false,true,false,false,false,false,false,false,false,false,false,false,false,false,false] rfl rfl (aT HT_.out HW_.out (by kernel_rfl)) (fun _ _ _ h=>h) (Or.inl ⟨by rfl,?_⟩) hHeld ?_ ?_
            rotate_left
            ·rintro w' ⟨s0,s1,s2,s3,s4,s5,s6,s7,s8,s9,s10,s11,s12,s13,s14,s15,s16⟩
             go_simp
             with_reducible rfl
            rotate_left
            ·simp only[apu_]
             rfl
            refine aD (i:=14) (N:=some 32) (v:=?_) (a':=?_) #[true,true,true,true,true,true,true,true,true,true,true,true,true,true,true,false,false,false,true,false,false,false,false,false,false,false,false,false,false,false,false,false] rfl rfl (aC HT_.out (by kernel_rfl)) (fun _ _ _ h=>h) (Or.inl ⟨by rfl,?_⟩) ?_ ?_
            rotate_left
            ·intro w'
             go_simp
             with_reducible rfl
            rotate_left
            ·simp only[apu_]
             rfl
            refine aD (i:=15) (N:=some 33) (v:=?_) (a':=?_) #[true,true,true,true,true,true,true,true,true,true,true,true,true,true,true,true,false,false,true,false,false,false,false,false,false,false,false,false,false,false,false,false] rfl rfl (aC HT_.out (by kernel_rfl)) (fun _ _ _ h=>h) (Or.inl ⟨by rfl,?_⟩) ?_ ?_
            rotate_left
            ·intro w'
             go_simp
             with_reducible rfl
            rotate_left
            ·simp only[apu_]
             rfl
            refine aZ (i:=16) (N:=some 34) (v:=?_) (a':=?_) #[true,true,true,true,true,true,true,true,true,true,true,true,true,true,true,true,true,false,true,false,false,false,false,false,false,false,false,false,false,false,false,false] rfl rfl (aT HT_.out HW_.out (by kernel_rfl)) (fun _ _ _ h=>h) (Or.inl ⟨by rfl,?_⟩) hHeld ?_ ?_
            rotate_left
            ·rintro w' ⟨s0,s1,s2,s3,s4,s5,s6,s7,s8,s9,s10,s11,s12,s13,s14,s15,s16⟩
             go_simp
             with_reducible rfl
            rotate_left
            ·simp only[apu_]
             rfl
            refine aD (i:=17) (N:=some 35) (v:=?_) (a':=?_) #[true,true,true,true,true,true,true,true,true,true,true,true,true,true,true,true,true,true,true,false,false,false,false,false,false,false,false,false,false,false,false,false] rfl rfl (aC HT_.out (by kernel_rfl)) (fun _ _ _ h=>h) (Or.inl ⟨by rfl,?_⟩) ?_ ?_
            rotate_left
            ·intro w'
             go_simp
             with_reducible rfl
            rotate_left
            ·simp only[apu_]
             rfl
            refine aZ (i:=19) (N:=some 37) (v:=?_) (a':=?_) #[true,true,true,true,true,true,true,true,true,true,true,true,true,true,true,true,true,true,true,true,false,false,false,false,false,false,false,false,false,false,false,false] rfl rfl (aT HT_.out HW_.out (by kernel_rfl)) (fun _ _ _ h=>h) (Or.inl ⟨by rfl,?_⟩) hHeld ?_ ?_
            rotate_left
            ·rintro w' ⟨s0,s1,s2,s3,s4,s5,s6,s7,s8,s9,s10,s11,s12,s13,s14,s15,s16⟩
             go_simp
             with_reducible rfl
            rotate_left
            ·simp only[apu_]
             rfl
            refine aD (i:=20) (N:=some 38) (v:=?_) (a':=?_) #[true,true,true,true,true,true,true,true,true,true,true,true,true,true,true,true,true,true,true,true,true,false,false,false,false,false,false,false,false,false,false,false] rfl rfl (aC HT_.out (by kernel_rfl)) (fun _ _ _ h=>h) (Or.inl ⟨by rfl,?_⟩) ?_ ?_
            rotate_left
            ·intro w'
             go_simp
             with_reducible rfl
            rotate_left
            ·simp only[apu_]
             rfl
            refine aD (i:=21) (N:=some 39) (v:=?_) (a':=?_) #[true,true,true,true,true,true,true,true,true,true,true,true,true,true,true,true,true,true,true,true,true,true,false,false,false,false,false,false,false,false,false,false] rfl rfl (aC HT_.out (by kernel_rfl)) (fun _ _ _ h=>h) (Or.inl ⟨by rfl,?_⟩) ?_ ?_
            rotate_left
            ·intro w'
             go_simp
             with_reducible rfl
            rotate_left
            ·simp only[apu_]
             rfl
            refine aD (i:=22) (N:=some 40) (v:=?_) (a':=?_) #[true,true,true,true,true,true,true,true,true,true,true,true,true,true,true,true,true,true,true,true,true,true,true,false,false,false,false,false,false,false,false,false] rfl rfl (aC HT_.out (by kernel_rfl)) (fun _ _ _ h=>h) (Or.inl ⟨by rfl,?_⟩) ?_ ?_
            rotate_left
            ·intro w'
             go_simp
             with_reducible rfl
            rotate_left
            ·simp only[apu_]
             rfl
            refine aD (i:=24) (N:=some 42) (v:=?_) (a':=?_) #[true,true,true,true,true,true,true,true,true,true,true,true,true,true,true,true,true,true,true,true,true,true,true,false,true,false,false,false,false,false,false,false] rfl rfl (aC HT_.out (by kernel_rfl)) (fun _ _ _ h=>h) (Or.inl ⟨by rfl,?_⟩) ?_ ?_
            rotate_left
            ·intro w'
             go_simp
             with_reducible rfl
            rotate_left
            ·simp only[apu_]
             rfl
            refine aD (i:=25) (N:=some 43) (v:=?_) (a':=?_) #[true,true,true,true,true,true,true,true,true,true,true,true,true,true,true,true,true,true,true,true,true,true,true,false,true,true,false,false,false,false,false,false] rfl rfl (aC HT_.out (by kernel_rfl)) (fun _ _ _ h=>h) (Or.inl ⟨by rfl,?_⟩) ?_ ?_
            rotate_left
            ·intro w'
             go_simp
             with_reducible rfl
            rotate_left
            ·simp only[apu_]
             rfl
            refine aZ (i:=23) (N:=some 41) (v:=?_) (a':=?_) #[true,true,true,true,true,true,true,true,true,true,true,true,true,true,true,true,true,true,true,true,true,true,true,true,true,true,false,false,false,false,false,false] rfl rfl (aT HT_.out HW_.out (by kernel_rfl)) (fun _ _ _ h=>h) (Or.inl ⟨by rfl,?_⟩) hHeld ?_ ?_
            rotate_left
            ·rintro w' ⟨s0,s1,s2,s3,s4,s5,s6,s7,s8,s9,s10,s11,s12,s13,s14,s15,s16⟩
             go_simp
             with_reducible rfl
            rotate_left
            ·simp only[apu_]
             rfl
            refine aD (i:=26) (N:=some 44) (v:=?_) (a':=?_) #[true,true,true,true,true,true,true,true,true,true,true,true,true,true,true,true,true,true,true,true,true,true,true,true,true,true,true,false,false,false,false,false] rfl rfl (aC HT_.out (by kernel_rfl)) (fun _ _ _ h=>h) (Or.inl ⟨by rfl,?_⟩) ?_ ?_
            rotate_left
            ·intro w'
             go_simp
             with_reducible rfl
            rotate_left
            ·simp only[apu_]
             rfl
            refine aZ (i:=27) (N:=some 45) (v:=?_) (a':=?_) #[true,true,true,true,true,true,true,true,true,true,true,true,true,true,true,true,true,true,true,true,true,true,true,true,true,true,true,true,false,false,false,false] rfl rfl (aT HT_.out HW_.out (by kernel_rfl)) (fun _ _ _ h=>h) (Or.inl ⟨by rfl,?_⟩) hHeld ?_ ?_
            rotate_left
            ·rintro w' ⟨s0,s1,s2,s3,s4,s5,s6,s7,s8,s9,s10,s11,s12,s13,s14,s15,s16⟩
             go_simp
             with_reducible rfl
            rotate_left
            ·simp only[apu_]
             rfl
            refine aZ (i:=28) (N:=some 46) (v:=?_) (a':=?_) #[true,true,true,true,true,true,true,true,true,true,true,true,true,true,true,true,true,true,true,true,true,true,true,true,true,true,true,true,true,false,false,false] rfl rfl (aT HT_.out HW_.out (by kernel_rfl)) (fun _ _ _ h=>h) (Or.inl ⟨by rfl,?_⟩) hHeld ?_ ?_
            rotate_left
            ·rintro w' ⟨s0,s1,s2,s3,s4,s5,s6,s7,s8,s9,s10,s11,s12,s13,s14,s15,s16⟩
             go_simp
             with_reducible rfl
            rotate_left
            ·simp only[apu_]
             rfl
            refine di (i:=29) (N:=some 47) #[true,true,true,true,true,true,true,true,true,true,true,true,true,true,true,true,true,true,true,true,true,true,true,true,true,true,true,true,true,true,false,false] rfl rfl (bW HT_.out (by kernel_rfl)) (by decide) (fun K hK=>?_)
            refine bU Tryd.func28 (by kernel_rfl) rfl #[.agg #[.int .i64 ((ax l0_0 (ji15)).f0),.int .i64 ((ax l0_0 (ji15)).f1),.int .i64 ((ax l0_0 (ji15)).f2),.bool ((ax l0_0 (ji15)).f3)],.agg #[.int .i64 ((ax l0_0 x10_1).f0),.int .i64 ((ax l0_0 x10_1).f1),.int .i64 ((ax l0_0 x10_1).f2),.bool ((ax l0_0 x10_1).f3)]] (by rfl) rfl rfl (by(try simp only[List.map_toArray,List.map_cons,List.map_nil]);first|done|(simp only[hji15];rfl)|rfl|(simp only[List.length_drop,List.length_take];rfl)) ?_
            with_reducible refine(spec_l9Goes.calls ((ax l0_0 (ji15)).f0) ((ax l0_0 (ji15)).f1) ((ax l0_0 (ji15)).f2) ((ax l0_0 (ji15)).f3) ((ax l0_0 x10_1).f0) ((ax l0_0 x10_1).f1) ((ax l0_0 x10_1).f2) ((ax l0_0 x10_1).f3) t180 _ A20.out).mono ?_
            rintro e w22 ⟨rfl,hb⟩
            refine⟨_,rfl,?_⟩
            have n0_:=av (aG (g:=gb173) (o:=.cells #[.slice (some ad174) l0_0.length c0_0] 45 (0,0)) (by(with_reducible repeat(first|apply aj|apply au|apply ak));exact BK173.out) hb)
            have n1_:=av (aG (g:=gb175) (o:=.cells #[.int .i64 ((ax l0_0 x10_1).f0),.int .i64 ((ax l0_0 x10_1).f1),.int .i64 ((ax l0_0 x10_1).f2),.bool ((ax l0_0 x10_1).f3)] 51 (0,0)) (by(with_reducible repeat(first|apply aj|apply au|apply ak));exact BK175.out) hb)
            have n2_:=av (aA (by with_reducible repeat(first|exact HB.out|apply af|apply aa|apply ae|refine ai ?_ GE173.out|refine ai ?_ GE175.out)) hb)
            clear BK173
            clear BK175
            clear HB
            have BK173:=n0_
            have BK175:=n1_
            have HB:=n2_
            clear n0_ n1_ n2_
            (try clear hb)
            (try clear hb2)
            (try clear hk)
            (try clear hi)
            refine hK.out _ _ ⟨(ag BK173.out 0).trans rfl,(ag BK175.out 0).trans rfl,(ag BK175.out 1).trans rfl,(ag BK175.out 2).trans rfl,(ag BK175.out 3).trans rfl,((HB.out.cell (World.block_lt_of_cell? w _ hw177_0)).trans hw177_0),((HB.out.cell (World.block_lt_of_cell? w _ hw177_1)).trans hw177_1),((HB.out.cell (World.block_lt_of_cell? w _ hw177_2)).trans hw177_2),((HB.out.cell (World.block_lt_of_cell? w _ hw177_3)).trans hw177_3),((HB.out.cell (World.block_lt_of_cell? w _ hw178_0)).trans hw178_0),((HB.out.cell (World.block_lt_of_cell? w _ hw178_1)).trans hw178_1),((HB.out.cell (World.block_lt_of_cell? w _ hw178_2)).trans hw178_2),((HB.out.cell (World.block_lt_of_cell? w _ hw178_3)).trans hw178_3),((HB.out.cell (World.block_lt_of_cell? w _ hw179_0)).trans hw179_0),((HB.out.cell (World.block_lt_of_cell? w _ hw179_1)).trans hw179_1),((HB.out.cell (World.block_lt_of_cell? w _ hw179_2)).trans hw179_2),((HB.out.cell (World.block_lt_of_cell? w _ hw179_3)).trans hw179_3)⟩ (fun hHeld=>?_)
            clear hK K
            refine bS (a':=?_) ?_ ?_
            rotate_left
            ·show Act.put _ (some 47) _=_
             simp only[apu_]
             rfl
            refine aD (i:=30) (N:=some 48) (v:=?_) (a':=?_) #[true,true,true,true,true,true,true,true,true,true,true,true,true,true,true,true,true,true,true,true,true,true,true,true,true,true,true,true,true,true,true,false] rfl rfl (aC HT_.out (by kernel_rfl)) (fun _ _ _ h=>h) (Or.inl ⟨by rfl,?_⟩) ?_ ?_
            rotate_left
            ·intro w'
             go_simp
             with_reducible rfl
            rotate_left
            ·simp only[apu_]
             rfl
            refine aD (i:=31) (N:=some 49) (v:=?_) (a':=?_) #[true,true,true,true,true,true,true,true,true,true,true,true,true,true,true,true,true,true,true,true,true,true,true,true,true,true,true,true,true,true,true,true] rfl rfl (aC HT_.out (by kernel_rfl)) (fun _ _ _ h=>h) (Or.inl ⟨by rfl,?_⟩) ?_ ?_
            rotate_left
            ·intro w'
             go_simp
             with_reducible rfl
            rotate_left
            ·simp only[apu_]
             rfl
            refine cu (bK HT_.out (by kernel_rfl)) ?_
            try go_wp2
            go_meet
            case rel=>exact⟨_,(t180),(by first|rfl|(simp;done)|(simp[*];done)),H',⟨by have:=HK1.out;first|omega|exact Nat.le_refl _⟩,⟨by(with_reducible repeat(first|apply aj|apply au|apply ak));exact BK173.out⟩,⟨by(with_reducible repeat(first|apply aj|apply au|apply ak));exact BK175.out⟩,⟨by with_reducible repeat(first|exact HB.out|apply af|apply aa|apply ae|refine ai ?_ GE173.out|refine ai ?_ GE175.out)⟩⟩
          ·rw[if_neg c17] at H
           exact absurd H (by simp)
         ·rw[if_neg c16] at H
          exact absurd H (by simp)
        ·rw[if_neg c14] at H
         have c14b0:decide (0<x10_1)=false:=decide_eq_false c14
         clear c14
         (first|rw[c14b0]|(simp only[fo,iW];rw[c14b0])|skip)
         have H':=av H
         clear H
         try go_wp2
         have n0_:=av (au BK173.out)
         have n1_:=av (au BK175.out)
         have n2_:=av (ae HB.out)
         clear BK173
         clear BK175
         clear HB
         have BK173:=n0_
         have BK175:=n1_
         have HB:=n2_
         clear n0_ n1_ n2_
         refine bJ (n:=32) (S:=fun w'=>True) (ds:=[]) #[false,false,false,false,false,false,false,false,false,false,false,false,false,false,false,false,false,false,false,false,false,false,false,false,false,false,false,false,false,false,false,false] (by kernel_rfl) rfl rfl trivial (fun hHeld=>?_);refine bz spec_GoodMap.tab6 spec_GoodMap.bits6 (fun HT_ HW_=>?_)
         generalize w13.drew=w23 at BK173 BK175 HB hHeld ⊢
         refine aD (i:=0) (N:=some 18) (v:=?_) (a':=?_) #[true,false,false,false,false,false,false,false,false,false,false,false,false,false,false,false,false,false,false,false,false,false,false,false,false,false,false,false,false,false,false,false] rfl rfl (aC HT_.out (by kernel_rfl)) (fun _ _ _ h=>h) (Or.inl ⟨by rfl,?_⟩) ?_ ?_
         rotate_left
         ·intro w'
          go_simp
          with_reducible rfl
         rotate_left
         ·simp only[apu_]
          rfl
         refine aD (i:=1) (N:=some 19) (v:=?_) (a':=?_) #[true,true,false,false,false,false,false,false,false,false,false,false,false,false,false,false,false,false,false,false,false,false,false,false,false,false,false,false,false,false,false,false] rfl rfl (aC HT_.out (by kernel_rfl)) (fun _ _ _ h=>h) (Or.inl ⟨by rfl,?_⟩) ?_ ?_
         rotate_left
         ·intro w'
          go_simp
          with_reducible rfl
         rotate_left
         ·simp only[apu_]
          rfl
         refine aD (i:=2) (N:=some 20) (v:=?_) (a':=?_) #[true,true,true,false,false,false,false,false,false,false,false,false,false,false,false,false,false,false,false,false,false,false,false,false,false,false,false,false,false,false,false,false] rfl rfl (aC HT_.out (by kernel_rfl)) (fun _ _ _ h=>h) (Or.inl ⟨by rfl,?_⟩) ?_ ?_
         rotate_left
         ·intro w'
          go_simp
          with_reducible rfl
         rotate_left
         ·simp only[apu_]
          rfl
         refine aD (i:=3) (N:=some 21) (v:=undef) (a':=?_) #[true,true,true,true,false,false,false,false,false,false,false,false,false,false,false,false,false,false,false,false,false,false,false,false,false,false,false,false,false,false,false,false] rfl rfl (aC HT_.out (by kernel_rfl)) (fun _ _ _ h=>h) (Or.inr ⟨by rfl,rfl⟩) ?_ ?_
         rotate_left
         ·simp only[apu_]
          rfl
         refine aD (i:=4) (N:=some 22) (v:=undef) (a':=?_) #[true,true,true,true,true,false,false,false,false,false,false,false,false,false,false,false,false,false,false,false,false,false,false,false,false,false,false,false,false,false,false,false] rfl rfl (aC HT_.out (by kernel_rfl)) (fun _ _ _ h=>h) (Or.inr ⟨by rfl,rfl⟩) ?_ ?_
         rotate_left
         ·simp only[apu_]
          rfl
         refine aD (i:=5) (N:=some 23) (v:=undef) (a':=?_) #[true,true,true,true,true,true,false,false,false,false,false,false,false,false,false,false,false,false,false,false,false,false,false,false,false,false,false,false,false,false,false,false] rfl rfl (aC HT_.out (by kernel_rfl)) (fun _ _ _ h=>h) (Or.inr ⟨by rfl,rfl⟩) ?_ ?_
         rotate_left
         ·simp only[apu_]
          rfl
         refine aD (i:=6) (N:=some 24) (v:=undef) (a':=?_) #[true,true,true,true,true,true,true,false,false,false,false,false,false,false,false,false,false,false,false,false,false,false,false,false,false,false,false,false,false,false,false,false] rfl rfl (aC HT_.out (by kernel_rfl)) (fun _ _ _ h=>h) (Or.inr ⟨by rfl,rfl⟩) ?_ ?_
         rotate_left
         ·simp only[apu_]
          rfl
         refine aD (i:=7) (N:=some 25) (v:=undef) (a':=?_) #[true,true,true,true,true,true,true,true,false,false,false,false,false,false,false,false,false,false,false,false,false,false,false,false,false,false,false,false,false,false,false,false] rfl rfl (aC HT_.out (by kernel_rfl)) (fun _ _ _ h=>h) (Or.inr ⟨by rfl,rfl⟩) ?_ ?_
         rotate_left
         ·simp only[apu_]
          rfl
         refine aD (i:=8) (N:=some 26) (v:=undef) (a':=?_) #[true,true,true,true,true,true,true,true,true,false,false,false,false,false,false,false,false,false,false,false,false,false,false,false,false,false,false,false,false,false,false,false] rfl rfl (aC HT_.out (by kernel_rfl)) (fun _ _ _ h=>h) (Or.inr ⟨by rfl,rfl⟩) ?_ ?_
         rotate_left
         ·simp only[apu_]
          rfl
         refine aD (i:=9) (N:=some 27) (v:=undef) (a':=?_) #[true,true,true,true,true,true,true,true,true,true,false,false,false,false,false,false,false,false,false,false,false,false,false,false,false,false,false,false,false,false,false,false] rfl rfl (aC HT_.out (by kernel_rfl)) (fun _ _ _ h=>h) (Or.inr ⟨by rfl,rfl⟩) ?_ ?_
         rotate_left
         ·simp only[apu_]
          rfl
         refine aD (i:=10) (N:=some 28) (v:=undef) (a':=?_) #[true,true,true,true,true,true,true,true,true,true,true,false,false,false,false,false,false,false,false,false,false,false,false,false,false,false,false,false,false,false,false,false] rfl rfl (aC HT_.out (by kernel_rfl)) (fun _ _ _ h=>h) (Or.inr ⟨by rfl,rfl⟩) ?_ ?_
         rotate_left
         ·simp only[apu_]
          rfl
         refine aD (i:=11) (N:=some 29) (v:=undef) (a':=?_) #[true,true,true,true,true,true,true,true,true,true,true,true,false,false,false,false,false,false,false,false,false,false,false,false,false,false,false,false,false,false,false,false] rfl rfl (aC HT_.out (by kernel_rfl)) (fun _ _ _ h=>h) (Or.inr ⟨by rfl,rfl⟩) ?_ ?_
         rotate_left
         ·simp only[apu_]
          rfl
         refine aD (i:=12) (N:=some 30) (v:=undef) (a':=?_) #[true,true,true,true,true,true,true,true,true,true,true,true,true,false,false,false,false,false,false,false,false,false,false,false,false,false,false,false,false,false,false,false] rfl rfl (aC HT_.out (by kernel_rfl)) (fun _ _ _ h=>h) (Or.inr ⟨by rfl,rfl⟩) ?_ ?_
         rotate_left
         ·simp only[apu_]
          rfl
         refine aD (i:=13) (N:=some 31) (v:=undef) (a':=?_) #[true,true,true,true,true,true,true,true,true,true,true,true,true,true,false,false,false,false,false,false,false,false,false,false,false,false,false,false,false,false,false,false] rfl rfl (aC HT_.out (by kernel_rfl)) (fun _ _ _ h=>h) (Or.inr ⟨by rfl,rfl⟩) ?_ ?_
         rotate_left
         ·simp only[apu_]
          rfl
         refine aD (i:=14) (N:=some 32) (v:=undef) (a':=?_) #[true,true,true,true,true,true,true,true,true,true,true,true,true,true,true,false,false,false,false,false,false,false,false,false,false,false,false,false,false,false,false,false] rfl rfl (aC HT_.out (by kernel_rfl)) (fun _ _ _ h=>h) (Or.inr ⟨by rfl,rfl⟩) ?_ ?_
         rotate_left
         ·simp only[apu_]
          rfl
         refine aD (i:=15) (N:=some 33) (v:=undef) (a':=?_) #[true,true,true,true,true,true,true,true,true,true,true,true,true,true,true,true,false,false,false,false,false,false,false,false,false,false,false,false,false,false,false,false] rfl rfl (aC HT_.out (by kernel_rfl)) (fun _ _ _ h=>h) (Or.inr ⟨by rfl,rfl⟩) ?_ ?_
         rotate_left
         ·simp only[apu_]
          rfl
         refine aD (i:=16) (N:=some 34) (v:=undef) (a':=?_) #[true,true,true,true,true,true,true,true,true,true,true,true,true,true,true,true,true,false,false,false,false,false,false,false,false,false,false,false,false,false,false,false] rfl rfl (aC HT_.out (by kernel_rfl)) (fun _ _ _ h=>h) (Or.inr ⟨by rfl,rfl⟩) ?_ ?_
         rotate_left
         ·simp only[apu_]
          rfl
         refine aD (i:=17) (N:=some 35) (v:=undef) (a':=?_) #[true,true,true,true,true,true,true,true,true,true,true,true,true,true,true,true,true,true,false,false,false,false,false,false,false,false,false,false,false,false,false,false] rfl rfl (aC HT_.out (by kernel_rfl)) (fun _ _ _ h=>h) (Or.inr ⟨by rfl,rfl⟩) ?_ ?_
         rotate_left
         ·simp only[apu_]
          rfl
         refine aD (i:=18) (N:=some 36) (v:=undef) (a':=?_) #[true,true,true,true,true,true,true,true,true,true,true,true,true,true,true,true,true,true,true,false,false,false,false,false,false,false,false,false,false,false,false,false] rfl rfl (aC HT_.out (by kernel_rfl)) (fun _ _ _ h=>h) (Or.inr ⟨by rfl,rfl⟩) ?_ ?_
         rotate_left
         ·simp only[apu_]
          rfl
         refine aD (i:=19) (N:=some 37) (v:=undef) (a':=?_) #[true,true,true,true,true,true,true,true,true,true,true,true,true,true,true,true,true,true,true,true,false,false,false,false,false,false,false,false,false,false,false,false] rfl rfl (aC HT_.out (by kernel_rfl)) (fun _ _ _ h=>h) (Or.inr ⟨by rfl,rfl⟩) ?_ ?_
         rotate_left
         ·simp only[apu_]
          rfl
         refine aD (i:=20) (N:=some 38) (v:=undef) (a':=?_) #[true,true,true,true,true,true,true,true,true,true,true,true,true,true,true,true,true,true,true,true,true,false,false,false,false,false,false,false,false,false,false,false] rfl rfl (aC HT_.out (by kernel_rfl)) (fun _ _ _ h=>h) (Or.inr ⟨by rfl,rfl⟩) ?_ ?_
         rotate_left
         ·simp only[apu_]
          rfl
         refine aD (i:=21) (N:=some 39) (v:=undef) (a':=?_) #[true,true,true,true,true,true,true,true,true,true,true,true,true,true,true,true,true,true,true,true,true,true,false,false,false,false,false,false,false,false,false,false] rfl rfl (aC HT_.out (by kernel_rfl)) (fun _ _ _ h=>h) (Or.inr ⟨by rfl,rfl⟩) ?_ ?_
         rotate_left
         ·simp only[apu_]
          rfl
         refine aD (i:=22) (N:=some 40) (v:=undef) (a':=?_) #[true,true,true,true,true,true,true,true,true,true,true,true,true,true,true,true,true,true,true,true,true,true,true,false,false,false,false,false,false,false,false,false] rfl rfl (aC HT_.out (by kernel_rfl)) (fun _ _ _ h=>h) (Or.inr ⟨by rfl,rfl⟩) ?_ ?_
         rotate_left
         ·simp only[apu_]
          rfl
         refine aD (i:=23) (N:=some 41) (v:=undef) (a':=?_) #[true,true,true,true,true,true,true,true,true,true,true,true,true,true,true,true,true,true,true,true,true,true,true,true,false,false,false,false,false,false,false,false] rfl rfl (aC HT_.out (by kernel_rfl)) (fun _ _ _ h=>h) (Or.inr ⟨by rfl,rfl⟩) ?_ ?_
         rotate_left
         ·simp only[apu_]
          rfl
         refine aD (i:=24) (N:=some 42) (v:=undef) (a':=?_) #[true,true,true,true,true,true,true,true,true,true,true,true,true,true,true,true,true,true,true,true,true,true,true,true,true,false,false,false,false,false,false,false] rfl rfl (aC HT_.out (by kernel_rfl)) (fun _ _ _ h=>h) (Or.inr ⟨by rfl,rfl⟩) ?_ ?_
         rotate_left
         ·simp only[apu_]
          rfl
         refine aD (i:=25) (N:=some 43) (v:=undef) (a':=?_) #[true,true,true,true,true,true,true,true,true,true,true,true,true,true,true,true,true,true,true,true,true,true,true,true,true,true,false,false,false,false,false,false] rfl rfl (aC HT_.out (by kernel_rfl)) (fun _ _ _ h=>h) (Or.inr ⟨by rfl,rfl⟩) ?_ ?_
         rotate_left
         ·simp only[apu_]
          rfl
         refine aD (i:=26) (N:=some 44) (v:=undef) (a':=?_) #[true,true,true,true,true,true,true,true,true,true,true,true,true,true,true,true,true,true,true,true,true,true,true,true,true,true,true,false,false,false,false,false] rfl rfl (aC HT_.out (by kernel_rfl)) (fun _ _ _ h=>h) (Or.inr ⟨by rfl,rfl⟩) ?_ ?_
         rotate_left
         ·simp only[apu_]
          rfl
         refine aD (i:=27) (N:=some 45) (v:=undef) (a':=?_) #[true,true,true,true,true,true,true,true,true,true,true,true,true,true,true,true,true,true,true,true,true,true,true,true,true,true,true,true,false,false,false,false] rfl rfl (aC HT_.out (by kernel_rfl)) (fun _ _ _ h=>h) (Or.inr ⟨by rfl,rfl⟩) ?_ ?_
         rotate_left
         ·simp only[apu_]
          rfl
         refine aD (i:=28) (N:=some 46) (v:=undef) (a':=?_) #[true,true,true,true,true,true,true,true,true,true,true,true,true,true,true,true,true,true,true,true,true,true,true,true,true,true,true,true,true,false,false,false] rfl rfl (aC HT_.out (by kernel_rfl)) (fun _ _ _ h=>h) (Or.inr ⟨by rfl,rfl⟩) ?_ ?_
         rotate_left
         ·simp only[apu_]
          rfl
         refine aD (i:=29) (N:=some 47) (v:=undef) (a':=?_) #[true,true,true,true,true,true,true,true,true,true,true,true,true,true,true,true,true,true,true,true,true,true,true,true,true,true,true,true,true,true,false,false] rfl rfl (aC HT_.out (by kernel_rfl)) (fun _ _ _ h=>h) (Or.inr ⟨by rfl,rfl⟩) ?_ ?_
         rotate_left
         ·simp only[apu_]
          rfl
         refine aD (i:=30) (N:=some 48) (v:=undef) (a':=?_) #[true,true,true,true,true,true,true,true,true,true,true,true,true,true,true,true,true,true,true,true,true,true,true,true,true,true,true,true,true,true,true,false] rfl rfl (aC HT_.out (by kernel_rfl)) (fun _ _ _ h=>h) (Or.inr ⟨by rfl,rfl⟩) ?_ ?_
         rotate_left
         ·simp only[apu_]
          rfl
         refine aD (i:=31) (N:=some 49) (v:=?_) (a':=?_) #[true,true,true,true,true,true,true,true,true,true,true,true,true,true,true,true,true,true,true,true,true,true,true,true,true,true,true,true,true,true,true,true] rfl rfl (aC HT_.out (by kernel_rfl)) (fun _ _ _ h=>h) (Or.inl ⟨by rfl,?_⟩) ?_ ?_
         rotate_left
         ·intro w'
          go_simp
          with_reducible rfl
         rotate_left
         ·simp only[apu_]
          rfl
         refine cu (bK HT_.out (by kernel_rfl)) ?_
         try go_wp2
         go_meet
         case rel=>exact⟨_,(false),(by first|rfl|(simp;done)|(simp[*];done)),H',⟨by have:=HK1.out;first|omega|exact Nat.le_refl _⟩,⟨by(with_reducible repeat(first|apply aj|apply au|apply ak));exact BK173.out⟩,⟨by(with_reducible repeat(first|apply aj|apply au|apply ak));exact BK175.out⟩,⟨by with_reducible repeat(first|exact HB.out|apply af|apply aa|apply ae|refine ai ?_ GE173.out|refine ai ?_ GE175.out)⟩⟩
       case rest =>
        clear HC9
        try clear c1
        try clear p1
        try clear q1
        try clear hx1
        try clear c2
        try clear p2
        try clear p6
        try clear c14
        try clear c14b0
        try clear c16
        try clear c17
        try clear p17
        try clear q17
        try clear hx17
        try clear c18
        try clear c18b0
        try clear hx177_0
        try clear hx177_1
        try clear hx177_2
        try clear hx177_3
        try clear hx178_0
        try clear hx178_1
        try clear hx178_2
        try clear hx178_3
        try clear hx179_0
        try clear hx179_1
        try clear hx179_2
        try clear hx179_3
        try clear p177
        try clear p178
        try clear p179
        try clear q177
        try clear q178
        try clear q179
        obtain⟨kq,x49_8,rfl,HA,HJ8,BK173,BK175,HB⟩:=hcut
        cases kq with
        | zero=>exact absurd HA.out (by simp[spec_GoodMap.j1])
        | succ kj8 =>
         have H:=HA.out
         clear HA
         simp only[spec_GoodMap.j1] at H
         by_cases c24:x49_8=true
         ·subst c24
          have H1:(some false)=some r:=by rw[if_pos rfl] at H;exact H
          clear H
          have H:=H1
          clear H1
          obtain rfl:=Option.some.inj H
          go_wp2
          go_ret
          exact⟨by first|rfl|(simp <;> rfl)|(simp[*] <;> rfl),by with_reducible repeat(first|exact HB.out|apply af|apply aa|apply ae|refine ai ?_ GE173.out|refine ai ?_ GE175.out)⟩
         ·replace c24 := Bool.eq_false_iff.mpr c24
          subst c24
          have H1:(if 0≤x10_1 then (if x10_1≤(l0_0.length:Int) then ((some (l0_0.take (x10_1:Int).toNat:List (S51))).bind fun y181=>(spec_GoodMap.l1 kj8 l0_0 (l0_0.length:Int) x10_1 y181 (y181.length:Int) 0 l0_0 ((ax l0_0 x10_1).f0) ((ax l0_0 x10_1).f1) ((ax l0_0 x10_1).f2) ((ax l0_0 x10_1).f3))) else (none)) else (none))=some r:=by rw[if_neg (show ¬ (false=true) by decide)] at H;exact H
          clear H
          have H:=H1
          clear H1
          by_cases c25:0≤x10_1
          ·rw [if_pos c25] at H
           have c25b0:=eq_true c25
           have c25b1:decide (0≤x10_1)=true:=decide_eq_true c25
           clear c25
           by_cases c26:x10_1≤(l0_0.length:Int)
           ·rw [if_pos c26] at H
            have c26b0:=eq_true c26
            have c26b1:decide (x10_1≤(l0_0.length:Int))=true:=decide_eq_true c26
            clear c26
            obtain⟨y181,hy181⟩:∃ y_:List (S51),y_ = (l0_0.take (x10_1:Int).toNat):=⟨_,rfl⟩
            replace H:(spec_GoodMap.l1 kj8 l0_0 (l0_0.length:Int) x10_1 y181 (y181.length:Int) 0 l0_0 ((ax l0_0 x10_1).f0) ((ax l0_0 x10_1).f1) ((ax l0_0 x10_1).f2) ((ax l0_0 x10_1).f3))=some r:=by first|(rw[hy181];with_reducible exact H)|(have H2_:=(Option.bind_some _ _).symm.trans H;rw[hy181];with_reducible exact H2_)|(have H2_:=(Option.bind_some _ _).symm.trans H;with_reducible exact H2_)|with_reducible exact H|(rw[hy181];exact H)|exact H
            have Ny181:=av hy181
            clear hy181
            have H':=av H
            clear H
            have hnb27:=NB173_175.out
            have hnc27:=NB175_173.out
            have hcz28_0:wc.cell? ⟨gb173,0,none⟩=some (.slice (some ad174) l0_0.length c0_0):=(ag BK173.out 0).trans rfl
            have hfz28_0:=ah BK173.out 0
            have q29:(x10_1:Int)≤((l0_0.length:Int):Int):=of_decide_eq_true (by assumption)
            obtain⟨i029,hi029,_,hsz29,_⟩:=info_parts nC
            have hroom29:l0_0.length≤c0_0:=HC0_0.out
            have hC29:Kd.C k51 _ (some ad174) l0_0.length l0_0:=HR0_0.out
            have hcut29:=kI (P:=Tryd.prog) 43 51 .i64 Tryd.underlying43 hi029 (some ad174) l0_0.length c0_0 x10_1 (of_decide_eq_true (by assumption)) q29 hroom29
            have hr29:=Kd.eU (m:=(x10_1:Int).toNat) hC29 (by omega)
            have hy29:y181.length = (x10_1:Int).toNat:=(by rw[Ny181.out,List.length_take];omega)
            rw[← Ny181.out] at hr29
            rw[← hy29] at hcut29
            have HR184:=av hr29
            have HC184:=av (show y181.length≤c0_0 from by omega)
            clear hr29 hC29 hroom29 hi029 hsz29
            have KY29:=av hy29
            clear hy29
            replace q29:=eq_true q29
            go_wp2
            go_loopg [55] kj8 (fun kq v55 w'=>∃ (x55_3:Int),v55 = .int .i64 x55_3∧Aside0 (spec_GoodMap.l1 kq l0_0 (l0_0.length:Int) x10_1 y181 (y181.length:Int) x55_3 l0_0 ((ax l0_0 x10_1).f0) ((ax l0_0 x10_1).f1) ((ax l0_0 x10_1).f2) ((ax l0_0 x10_1).f3)=some r)∧Aside0 (kq≤kj8)∧Aside0 (w'.heap[gb173]? = some (.cells #[(.slice (some ad174) l0_0.length c0_0)] 45 (0,0)))∧Aside0 (w'.heap[gb175]? = some (.cells #[.int .i64 ((ax l0_0 x10_1).f0),.int .i64 ((ax l0_0 x10_1).f1),.int .i64 ((ax l0_0 x10_1).f2),.bool ((ax l0_0 x10_1).f3)] 51 (0,0)))∧Aside0 (Below w.heap.size w w'))
            case atStart=>exact⟨(0),(by first|rfl|(simp;done)|(simp[*];done)),H',⟨Nat.le_refl _⟩,⟨by(with_reducible repeat(first|apply aj|apply au|apply ak));exact BK173.out⟩,⟨by(with_reducible repeat(first|apply aj|apply au|apply ak));exact BK175.out⟩,⟨by with_reducible repeat(first|exact HB.out|apply af|apply aa|apply ae|refine ai ?_ GE173.out|refine ai ?_ GE175.out)⟩⟩
            case round =>
             clear H'
             try clear c1
             try clear p1
             try clear q1
             try clear hx1
             try clear c2
             try clear p2
             try clear q2
             try clear p6
             try clear c14
             try clear c14b0
             try clear c16
             try clear c17
             try clear p17
             try clear q17
             try clear hx17
             try clear c18
             try clear c18b0
             try clear c24
             try clear c25
             try clear c25b0
             try clear c25b1
             try clear c26
             try clear c26b0
             try clear c26b1
             try clear c27
             try clear c28
             try clear q29
             try clear hcz28_0
             try clear hfz28_0
             try clear hx177_0
             try clear hx177_1
             try clear hx177_2
             try clear hx177_3
             try clear hx178_0
             try clear hx178_1
             try clear hx178_2
             try clear hx178_3
             try clear hx179_0
             try clear hx179_1
             try clear hx179_2
             try clear hx179_3
             try clear p1
             try clear p17
             try clear p177
             try clear p178
             try clear p179
             try clear p2
             try clear p6
             try clear q1
             try clear q17
             try clear q177
             try clear q178
             try clear q179
             try clear q29
             obtain⟨x55_3,rfl,HA,HK3,BK173,BK175,HB⟩:=hrel
             cases gk with
             | zero=>exact absurd HA.out (by simp[spec_GoodMap.l1])
             | succ k3=>
              have H:=HA.out
              clear HA
              simp only[spec_GoodMap.l1] at H
              by_cases c30:x55_3 < (y181.length:Int)
              ·rw [if_pos c30] at H
               have c30b0:decide (x55_3 < (y181.length:Int))=true:=decide_eq_true c30
               clear c30
               by_cases c31:0≤x55_3
               ·rw [if_pos c31] at H
                have c31b0:decide (0≤x55_3)=true:=decide_eq_true c31
                clear c31
                by_cases c32:x55_3 < (y181.length:Int)
                ·rw[if_pos c32] at H
                 have c32b0:decide (x55_3 < (y181.length:Int))=true:=decide_eq_true c32
                 clear c32
                 by_cases c33:((ax y181 x55_3).f2) < (wrap64 (((ax l0_0 x10_1).f2) + ((ax l0_0 x10_1).f1)))
                 ·rw[if_pos c33] at H
                  have c33b0:decide (((ax y181 x55_3).f2) < (wrap64 (((ax l0_0 x10_1).f2) + ((ax l0_0 x10_1).f1))))=true:=decide_eq_true c33
                  clear c33
                  by_cases c34:((ax l0_0 x10_1).f2) < (wrap64 (((ax y181 x55_3).f2) + ((ax y181 x55_3).f1)))
                  ·rw[if_pos c34] at H
                   have c34b0:decide (((ax l0_0 x10_1).f2) < (wrap64 (((ax y181 x55_3).f2) + ((ax y181 x55_3).f1))))=true:=decide_eq_true c34
                   clear c34
                   obtain rfl:=Option.some.inj H
                   have p185:0≤(x55_3:Int):=of_decide_eq_true (by assumption)
                   have q185:x55_3 < (y181.length:Int):=of_decide_eq_true (by assumption)
                   obtain⟨ad185,e185,hx185_0,hx185_1,hx185_2,hx185_3⟩:=cK HR184.out x55_3 p185 q185
                   obtain rfl:ad174=ad185:=(by injection e185)
                   replace hx185_0:=(HB.out.cell (World.block_lt_of_cell? w _ hx185_0)).trans hx185_0
                   replace hx185_1:=(HB.out.cell (World.block_lt_of_cell? w _ hx185_1)).trans hx185_1
                   replace hx185_2:=(HB.out.cell (World.block_lt_of_cell? w _ hx185_2)).trans hx185_2
                   replace hx185_3:=(HB.out.cell (World.block_lt_of_cell? w _ hx185_3)).trans hx185_3
                   replace p185:=eq_true p185
                   replace q185:=eq_true q185
                   go_wp2_with (first|((with_reducible refine aJ (N:=6) rfl ?_);refine aI ?hg (N:=6) ?hd (cs:=#[.int .i64 0,.int .i64 0,.int .i64 0,.bool false]) (t:=51) ?hr ?_;(case hd=>rfl);(case hg=>rfl);(case hr=>first|(go_simp;done)|(go_simp;rfl));intro gb186 hg w35 hbox hb;have BK186:=av (hbox);have GW186:=av ((by rw[hg];exact(ay (by with_reducible repeat(first|exact HB.out|apply af|apply aa|apply ae|refine ai ?_ GE173.out|refine ai ?_ GE175.out))):w.heap.size≤gb186));have GE186:=av ((by rw[hg];exact(ay (by with_reducible repeat(first|exact HB.out|apply af|apply aa|apply ae|refine ai ?_ GE173.out|refine ai ?_ GE175.out))):w.heap.size≤gb186));replace HB:=av (aA (by with_reducible repeat(first|exact HB.out|apply af|apply aa|apply ae|refine ai ?_ GE173.out|refine ai ?_ GE175.out)) hb);have NB173_186:=av ((by rw[hg];exact Nat.ne_of_lt (aN (g:=gb173) (o:=.cells #[.slice (some ad174) l0_0.length c0_0] 45 (0,0)) (by(with_reducible repeat(first|apply aj|apply au|apply ak));exact BK173.out)):gb173≠gb186));have NB186_173:=av ((by rw[hg];exact Nat.ne_of_gt (aN (g:=gb173) (o:=.cells #[.slice (some ad174) l0_0.length c0_0] 45 (0,0)) (by(with_reducible repeat(first|apply aj|apply au|apply ak));exact BK173.out)):gb186≠gb173));replace BK173:=av (aG (g:=gb173) (o:=.cells #[.slice (some ad174) l0_0.length c0_0] 45 (0,0)) (by(with_reducible repeat(first|apply aj|apply au|apply ak));exact BK173.out) hb);have NB175_186:=av ((by rw[hg];exact Nat.ne_of_lt (aN (g:=gb175) (o:=.cells #[.int .i64 ((ax l0_0 x10_1).f0),.int .i64 ((ax l0_0 x10_1).f1),.int .i64 ((ax l0_0 x10_1).f2),.bool ((ax l0_0 x10_1).f3)] 51 (0,0)) (by(with_reducible repeat(first|apply aj|apply au|apply ak));exact BK175.out)):gb175≠gb186));have NB186_175:=av ((by rw[hg];exact Nat.ne_of_gt (aN (g:=gb175) (o:=.cells #[.int .i64 ((ax l0_0 x10_1).f0),.int .i64 ((ax l0_0 x10_1).f1),.int .i64 ((ax l0_0 x10_1).f2),.bool ((ax l0_0 x10_1).f3)] 51 (0,0)) (by(with_reducible repeat(first|apply aj|apply au|apply ak));exact BK175.out)):gb186≠gb175));replace BK175:=av (aG (g:=gb175) (o:=.cells #[.int .i64 ((ax l0_0 x10_1).f0),.int .i64 ((ax l0_0 x10_1).f1),.int .i64 ((ax l0_0 x10_1).f2),.bool ((ax l0_0 x10_1).f3)] 51 (0,0)) (by(with_reducible repeat(first|apply aj|apply au|apply ak));exact BK175.out) hb);clear hb hbox hg;have hnb36:=NB186_173.out;have hnc36:=NB173_186.out;have hnb37:=NB186_175.out;have hnc37:=NB175_186.out;have hcz38_0:w35.cell? ⟨gb186,0,none⟩=some (.int .i64 0):=(ag BK186.out 0).trans rfl;have hcz38_1:w35.cell? ⟨gb186,1,none⟩=some (.int .i64 0):=(ag BK186.out 1).trans rfl;have hcz38_2:w35.cell? ⟨gb186,2,none⟩=some (.int .i64 0):=(ag BK186.out 2).trans rfl;have hcz38_3:w35.cell? ⟨gb186,3,none⟩=some (.bool false):=(ag BK186.out 3).trans rfl;have hfz38_0:=ah BK186.out 0;have hfz38_1:=ah BK186.out 1;have hfz38_2:=ah BK186.out 2;have hfz38_3:=ah BK186.out 3;have hnb39:=NB175_173.out;have hnc39:=NB173_175.out;have hcz40_0:w35.cell? ⟨gb175,0,none⟩=some (.int .i64 ((ax l0_0 x10_1).f0)):=(ag BK175.out 0).trans rfl;have hcz40_1:w35.cell? ⟨gb175,1,none⟩=some (.int .i64 ((ax l0_0 x10_1).f1)):=(ag BK175.out 1).trans rfl;have hcz40_2:w35.cell? ⟨gb175,2,none⟩=some (.int .i64 ((ax l0_0 x10_1).f2)):=(ag BK175.out 2).trans rfl;have hcz40_3:w35.cell? ⟨gb175,3,none⟩=some (.bool ((ax l0_0 x10_1).f3)):=(ag BK175.out 3).trans rfl;have hfz40_0:=ah BK175.out 0;have hfz40_1:=ah BK175.out 1;have hfz40_2:=ah BK175.out 2;have hfz40_3:=ah BK175.out 3))
                   go_ret
                   exact⟨by first|rfl|(simp <;> rfl)|(simp[*] <;> rfl),by with_reducible repeat(first|exact HB.out|apply af|apply aa|apply ae|refine ai ?_ GE173.out|refine ai ?_ GE175.out|refine ai ?_ GE186.out)⟩
                  ·rw[if_neg c34] at H
                   have c34b0:decide (((ax l0_0 x10_1).f2) < (wrap64 (((ax y181 x55_3).f2) + ((ax y181 x55_3).f1))))=false:=decide_eq_false c34
                   clear c34
                   have H':=av H
                   clear H
                   have p185:0≤(x55_3:Int):=of_decide_eq_true (by assumption)
                   have q185:x55_3 < (y181.length:Int):=of_decide_eq_true (by assumption)
                   obtain⟨ad185,e185,hx185_0,hx185_1,hx185_2,hx185_3⟩:=cK HR184.out x55_3 p185 q185
                   obtain rfl:ad174=ad185:=(by injection e185)
                   replace hx185_0:=(HB.out.cell (World.block_lt_of_cell? w _ hx185_0)).trans hx185_0
                   replace hx185_1:=(HB.out.cell (World.block_lt_of_cell? w _ hx185_1)).trans hx185_1
                   replace hx185_2:=(HB.out.cell (World.block_lt_of_cell? w _ hx185_2)).trans hx185_2
                   replace hx185_3:=(HB.out.cell (World.block_lt_of_cell? w _ hx185_3)).trans hx185_3
                   replace p185:=eq_true p185
                   replace q185:=eq_true q185
                   go_wp2_with (first|((with_reducible refine aJ (N:=6) rfl ?_);refine aI ?hg (N:=6) ?hd (cs:=#[.int .i64 0,.int .i64 0,.int .i64 0,.bool false]) (t:=51) ?hr ?_;(case hd=>rfl);(case hg=>rfl);(case hr=>first|(go_simp;done)|(go_simp;rfl));intro gb186 hg w41 hbox hb;have BK186:=av (hbox);have GW186:=av ((by rw[hg];exact(ay (by with_reducible repeat(first|exact HB.out|apply af|apply aa|apply ae|refine ai ?_ GE173.out|refine ai ?_ GE175.out))):w.heap.size≤gb186));have GE186:=av ((by rw[hg];exact(ay (by with_reducible repeat(first|exact HB.out|apply af|apply aa|apply ae|refine ai ?_ GE173.out|refine ai ?_ GE175.out))):w.heap.size≤gb186));replace HB:=av (aA (by with_reducible repeat(first|exact HB.out|apply af|apply aa|apply ae|refine ai ?_ GE173.out|refine ai ?_ GE175.out)) hb);have NB173_186:=av ((by rw[hg];exact Nat.ne_of_lt (aN (g:=gb173) (o:=.cells #[.slice (some ad174) l0_0.length c0_0] 45 (0,0)) (by(with_reducible repeat(first|apply aj|apply au|apply ak));exact BK173.out)):gb173≠gb186));have NB186_173:=av ((by rw[hg];exact Nat.ne_of_gt (aN (g:=gb173) (o:=.cells #[.slice (some ad174) l0_0.length c0_0] 45 (0,0)) (by(with_reducible repeat(first|apply aj|apply au|apply ak));exact BK173.out)):gb186≠gb173));replace BK173:=av (aG (g:=gb173) (o:=.cells #[.slice (some ad174) l0_0.length c0_0] 45 (0,0)) (by(with_reducible repeat(first|apply aj|apply au|apply ak));exact BK173.out) hb);have NB175_186:=av ((by rw[hg];exact Nat.ne_of_lt (aN (g:=gb175) (o:=.cells #[.int .i64 ((ax l0_0 x10_1).f0),.int .i64 ((ax l0_0 x10_1).f1),.int .i64 ((ax l0_0 x10_1).f2),.bool ((ax l0_0 x10_1).f3)] 51 (0,0)) (by(with_reducible repeat(first|apply aj|apply au|apply ak));exact BK175.out)):gb175≠gb186));have NB186_175:=av ((by rw[hg];exact Nat.ne_of_gt (aN (g:=gb175) (o:=.cells #[.int .i64 ((ax l0_0 x10_1).f0),.int .i64 ((ax l0_0 x10_1).f1),.int .i64 ((ax l0_0 x10_1).f2),.bool ((ax l0_0 x10_1).f3)] 51 (0,0)) (by(with_reducible repeat(first|apply aj|apply au|apply ak));exact BK175.out)):gb186≠gb175));replace BK175:=av (aG (g:=gb175) (o:=.cells #[.int .i64 ((ax l0_0 x10_1).f0),.int .i64 ((ax l0_0 x10_1).f1),.int .i64 ((ax l0_0 x10_1).f2),.bool ((ax l0_0 x10_1).f3)] 51 (0,0)) (by(with_reducible repeat(first|apply aj|apply au|apply ak));exact BK175.out) hb);clear hb hbox hg;have hnb42:=NB186_173.out;have hnc42:=NB173_186.out;have hnb43:=NB186_175.out;have hnc43:=NB175_186.out;have hcz44_0:w41.cell? ⟨gb186,0,none⟩=some (.int .i64 0):=(ag BK186.out 0).trans rfl;have hcz44_1:w41.cell? ⟨gb186,1,none⟩=some (.int .i64 0):=(ag BK186.out 1).trans rfl;have hcz44_2:w41.cell? ⟨gb186,2,none⟩=some (.int .i64 0):=(ag BK186.out 2).trans rfl;have hcz44_3:w41.cell? ⟨gb186,3,none⟩=some (.bool false):=(ag BK186.out 3).trans rfl;have hfz44_0:=ah BK186.out 0;have hfz44_1:=ah BK186.out 1;have hfz44_2:=ah BK186.out 2;have hfz44_3:=ah BK186.out 3;have hnb45:=NB175_173.out;have hnc45:=NB173_175.out;have hcz46_0:w41.cell? ⟨gb175,0,none⟩=some (.int .i64 ((ax l0_0 x10_1).f0)):=(ag BK175.out 0).trans rfl;have hcz46_1:w41.cell? ⟨gb175,1,none⟩=some (.int .i64 ((ax l0_0 x10_1).f1)):=(ag BK175.out 1).trans rfl;have hcz46_2:w41.cell? ⟨gb175,2,none⟩=some (.int .i64 ((ax l0_0 x10_1).f2)):=(ag BK175.out 2).trans rfl;have hcz46_3:w41.cell? ⟨gb175,3,none⟩=some (.bool ((ax l0_0 x10_1).f3)):=(ag BK175.out 3).trans rfl;have hfz46_0:=ah BK175.out 0;have hfz46_1:=ah BK175.out 1;have hfz46_2:=ah BK175.out 2;have hfz46_3:=ah BK175.out 3))
                   go_roundg k3
                   case measure=>have:=HK1.out;have:=HJ8.out;have:=HK3.out;omega
                   case rel=>exact⟨(wrap64 (x55_3+1)),(by first|rfl|(simp;done)|(simp[*];done)),H',⟨by have:=HK1.out;have:=HJ8.out;have:=HK3.out;omega⟩,⟨by(with_reducible repeat(first|apply aj|apply au|apply ak));refine aU ?_ NB173_186.out _;(with_reducible repeat(first|apply aj|apply au|apply ak));refine aU ?_ NB173_186.out _;(with_reducible repeat(first|apply aj|apply au|apply ak));refine aU ?_ NB173_186.out _;(with_reducible repeat(first|apply aj|apply au|apply ak));refine aU ?_ NB173_186.out _;(with_reducible repeat(first|apply aj|apply au|apply ak));exact BK173.out⟩,⟨by(with_reducible repeat(first|apply aj|apply au|apply ak));refine aU ?_ NB175_186.out _;(with_reducible repeat(first|apply aj|apply au|apply ak));refine aU ?_ NB175_186.out _;(with_reducible repeat(first|apply aj|apply au|apply ak));refine aU ?_ NB175_186.out _;(with_reducible repeat(first|apply aj|apply au|apply ak));refine aU ?_ NB175_186.out _;(with_reducible repeat(first|apply aj|apply au|apply ak));exact BK175.out⟩,⟨by with_reducible repeat(first|exact HB.out|apply af|apply aa|apply ae|refine ai ?_ GE173.out|refine ai ?_ GE175.out|refine ai ?_ GE186.out)⟩⟩
                 ·rw[if_neg c33] at H
                  have c33b0:decide (((ax y181 x55_3).f2) < (wrap64 (((ax l0_0 x10_1).f2) + ((ax l0_0 x10_1).f1))))=false:=decide_eq_false c33
                  clear c33
                  have H':=av H
                  clear H
                  have p185:0≤(x55_3:Int):=of_decide_eq_true (by assumption)
                  have q185:x55_3 < (y181.length:Int):=of_decide_eq_true (by assumption)
                  obtain⟨ad185,e185,hx185_0,hx185_1,hx185_2,hx185_3⟩:=cK HR184.out x55_3 p185 q185
                  obtain rfl:ad174=ad185:=(by injection e185)
                  replace hx185_0:=(HB.out.cell (World.block_lt_of_cell? w _ hx185_0)).trans hx185_0
                  replace hx185_1:=(HB.out.cell (World.block_lt_of_cell? w _ hx185_1)).trans hx185_1
                  replace hx185_2:=(HB.out.cell (World.block_lt_of_cell? w _ hx185_2)).trans hx185_2
                  replace hx185_3:=(HB.out.cell (World.block_lt_of_cell? w _ hx185_3)).trans hx185_3
                  replace p185:=eq_true p185
                  replace q185:=eq_true q185
                  go_wp2_with (first|((with_reducible refine aJ (N:=6) rfl ?_);refine aI ?hg (N:=6) ?hd (cs:=#[.int .i64 0,.int .i64 0,.int .i64 0,.bool false]) (t:=51) ?hr ?_;(case hd=>rfl);(case hg=>rfl);(case hr=>first|(go_simp;done)|(go_simp;rfl));intro gb186 hg w47 hbox hb;have BK186:=av (hbox);have GW186:=av ((by rw[hg];exact(ay (by with_reducible repeat(first|exact HB.out|apply af|apply aa|apply ae|refine ai ?_ GE173.out|refine ai ?_ GE175.out))):w.heap.size≤gb186));have GE186:=av ((by rw[hg];exact(ay (by with_reducible repeat(first|exact HB.out|apply af|apply aa|apply ae|refine ai ?_ GE173.out|refine ai ?_ GE175.out))):w.heap.size≤gb186));replace HB:=av (aA (by with_reducible repeat(first|exact HB.out|apply af|apply aa|apply ae|refine ai ?_ GE173.out|refine ai ?_ GE175.out)) hb);have NB173_186:=av ((by rw[hg];exact Nat.ne_of_lt (aN (g:=gb173) (o:=.cells #[.slice (some ad174) l0_0.length c0_0] 45 (0,0)) (by(with_reducible repeat(first|apply aj|apply au|apply ak));exact BK173.out)):gb173≠gb186));have NB186_173:=av ((by rw[hg];exact Nat.ne_of_gt (aN (g:=gb173) (o:=.cells #[.slice (some ad174) l0_0.length c0_0] 45 (0,0)) (by(with_reducible repeat(first|apply aj|apply au|apply ak));exact BK173.out)):gb186≠gb173));replace BK173:=av (aG (g:=gb173) (o:=.cells #[.slice (some ad174) l0_0.length c0_0] 45 (0,0)) (by(with_reducible repeat(first|apply aj|apply au|apply ak));exact BK173.out) hb);have NB175_186:=av ((by rw[hg];exact Nat.ne_of_lt (aN (g:=gb175) (o:=.cells #[.int .i64 ((ax l0_0 x10_1).f0),.int .i64 ((ax l0_0 x10_1).f1),.int .i64 ((ax l0_0 x10_1).f2),.bool ((ax l0_0 x10_1).f3)] 51 (0,0)) (by(with_reducible repeat(first|apply aj|apply au|apply ak));exact BK175.out)):gb175≠gb186));have NB186_175:=av ((by rw[hg];exact Nat.ne_of_gt (aN (g:=gb175) (o:=.cells #[.int .i64 ((ax l0_0 x10_1).f0),.int .i64 ((ax l0_0 x10_1).f1),.int .i64 ((ax l0_0 x10_1).f2),.bool ((ax l0_0 x10_1).f3)] 51 (0,0)) (by(with_reducible repeat(first|apply aj|apply au|apply ak));exact BK175.out)):gb186≠gb175));replace BK175:=av (aG (g:=gb175) (o:=.cells #[.int .i64 ((ax l0_0 x10_1).f0),.int .i64 ((ax l0_0 x10_1).f1),.int .i64 ((ax l0_0 x10_1).f2),.bool ((ax l0_0 x10_1).f3)] 51 (0,0)) (by(with_reducible repeat(first|apply aj|apply au|apply ak));exact BK175.out) hb);clear hb hbox hg;have hnb48:=NB186_173.out;have hnc48:=NB173_186.out;have hnb49:=NB186_175.out;have hnc49:=NB175_186.out;have hcz50_0:w47.cell? ⟨gb186,0,none⟩=some (.int .i64 0):=(ag BK186.out 0).trans rfl;have hcz50_1:w47.cell? ⟨gb186,1,none⟩=some (.int .i64 0):=(ag BK186.out 1).trans rfl;have hcz50_2:w47.cell? ⟨gb186,2,none⟩=some (.int .i64 0):=(ag BK186.out 2).trans rfl;have hcz50_3:w47.cell? ⟨gb186,3,none⟩=some (.bool false):=(ag BK186.out 3).trans rfl;have hfz50_0:=ah BK186.out 0;have hfz50_1:=ah BK186.out 1;have hfz50_2:=ah BK186.out 2;have hfz50_3:=ah BK186.out 3;have hnb51:=NB175_173.out;have hnc51:=NB173_175.out;have hcz52_0:w47.cell? ⟨gb175,0,none⟩=some (.int .i64 ((ax l0_0 x10_1).f0)):=(ag BK175.out 0).trans rfl;have hcz52_1:w47.cell? ⟨gb175,1,none⟩=some (.int .i64 ((ax l0_0 x10_1).f1)):=(ag BK175.out 1).trans rfl;have hcz52_2:w47.cell? ⟨gb175,2,none⟩=some (.int .i64 ((ax l0_0 x10_1).f2)):=(ag BK175.out 2).trans rfl;have hcz52_3:w47.cell? ⟨gb175,3,none⟩=some (.bool ((ax l0_0 x10_1).f3)):=(ag BK175.out 3).trans rfl;have hfz52_0:=ah BK175.out 0;have hfz52_1:=ah BK175.out 1;have hfz52_2:=ah BK175.out 2;have hfz52_3:=ah BK175.out 3))
                  go_roundg k3
                  case measure=>have:=HK1.out;have:=HJ8.out;have:=HK3.out;omega
                  case rel=>exact⟨(wrap64 (x55_3+1)),(by first|rfl|(simp;done)|(simp[*];done)),H',⟨by have:=HK1.out;have:=HJ8.out;have:=HK3.out;omega⟩,⟨by(with_reducible repeat(first|apply aj|apply au|apply ak));refine aU ?_ NB173_186.out _;(with_reducible repeat(first|apply aj|apply au|apply ak));refine aU ?_ NB173_186.out _;(with_reducible repeat(first|apply aj|apply au|apply ak));refine aU ?_ NB173_186.out _;(with_reducible repeat(first|apply aj|apply au|apply ak));refine aU ?_ NB173_186.out _;(with_reducible repeat(first|apply aj|apply au|apply ak));exact BK173.out⟩,⟨by(with_reducible repeat(first|apply aj|apply au|apply ak));refine aU ?_ NB175_186.out _;(with_reducible repeat(first|apply aj|apply au|apply ak));refine aU ?_ NB175_186.out _;(with_reducible repeat(first|apply aj|apply au|apply ak));refine aU ?_ NB175_186.out _;(with_reducible repeat(first|apply aj|apply au|apply ak));refine aU ?_ NB175_186.out _;(with_reducible repeat(first|apply aj|apply au|apply ak));exact BK175.out⟩,⟨by with_reducible repeat(first|exact HB.out|apply af|apply aa|apply ae|refine ai ?_ GE173.out|refine ai ?_ GE175.out|refine ai ?_ GE186.out)⟩⟩
                ·rw[if_neg c32] at H
                 exact absurd H (by simp)
               ·rw[if_neg c31] at H
                exact absurd H (by simp)
              ·rw[if_neg c30] at H
               have c30b0:decide (x55_3 < (y181.length:Int))=false:=decide_eq_false c30
               clear c30
               have H':=av H
               clear H
               go_wp2
               go_roundg k3
               case measure=>have:=HK1.out;have:=HJ8.out;have:=HK3.out;omega
               case rel=>exact⟨(wrap64 (x10_1+1)),(by first|rfl|(simp;done)|(simp[*];done)),H',⟨by have:=HK1.out;have:=HJ8.out;have:=HK3.out;omega⟩,⟨by(with_reducible repeat(first|apply aj|apply au|apply ak));exact BK173.out⟩,⟨by with_reducible repeat(first|exact HB.out|apply af|apply aa|apply ae|refine ai ?_ GE173.out|refine ai ?_ GE175.out)⟩⟩
           ·rw[if_neg c26] at H
            exact absurd H (by simp)
          ·rw[if_neg c25] at H
           exact absurd H (by simp)
      ·replace c8:=Bool.eq_false_iff.mpr c8
       subst c8
       have H1:(some false)=some r:=by rw[if_neg (show ¬ (false=true) by decide)] at H;exact H
       clear H
       have H:=H1
       clear H1
       obtain rfl:=Option.some.inj H
       have p174:0≤(x10_1:Int):=of_decide_eq_true (by assumption)
       have q174:x10_1 < (l0_0.length:Int):=of_decide_eq_true (by assumption)
       obtain⟨ad174,e174,hx174_0,hx174_1,hx174_2,hx174_3⟩:=cK HR0_0.out x10_1 p174 q174
       cases e174
       replace hx174_0:=(HB.out.cell (World.block_lt_of_cell? w _ hx174_0)).trans hx174_0
       replace hx174_1:=(HB.out.cell (World.block_lt_of_cell? w _ hx174_1)).trans hx174_1
       replace hx174_2:=(HB.out.cell (World.block_lt_of_cell? w _ hx174_2)).trans hx174_2
       replace hx174_3:=(HB.out.cell (World.block_lt_of_cell? w _ hx174_3)).trans hx174_3
       replace p174:=eq_true p174
       replace q174:=eq_true q174
       go_wp2_with (first|((with_reducible refine aJ (N:=4) rfl ?_);refine aI ?hg (N:=4) ?hd (cs:=#[.int .i64 0,.int .i64 0,.int .i64 0,.bool false]) (t:=51) ?hr ?_;(case hd=>rfl);(case hg=>rfl);(case hr=>first|(go_simp;done)|(go_simp;rfl));intro gb175 hg w53 hbox hb;have BK175:=av (hbox);have GW175:=av ((by rw[hg];exact(ay (by with_reducible repeat(first|exact HB.out|apply af|apply aa|apply ae|refine ai ?_ GE173.out))):w.heap.size≤gb175));have GE175:=av ((by rw[hg];exact(ay (by with_reducible repeat(first|exact HB.out|apply af|apply aa|apply ae|refine ai ?_ GE173.out))):w.heap.size≤gb175));replace HB:=av (aA (by with_reducible repeat(first|exact HB.out|apply af|apply aa|apply ae|refine ai ?_ GE173.out)) hb);have NB173_175:=av ((by rw[hg];exact Nat.ne_of_lt (aN (g:=gb173) (o:=.cells #[.slice (some ad174) l0_0.length c0_0] 45 (0,0)) (by(with_reducible repeat(first|apply aj|apply au|apply ak));exact BK173.out)):gb173≠gb175));have NB175_173:=av ((by rw[hg];exact Nat.ne_of_gt (aN (g:=gb173) (o:=.cells #[.slice (some ad174) l0_0.length c0_0] 45 (0,0)) (by(with_reducible repeat(first|apply aj|apply au|apply ak));exact BK173.out)):gb175≠gb173));replace BK173:=av (aG (g:=gb173) (o:=.cells #[.slice (some ad174) l0_0.length c0_0] 45 (0,0)) (by(with_reducible repeat(first|apply aj|apply au|apply ak));exact BK173.out) hb);clear hb hbox hg;have hnb54:=NB175_173.out;have hnc54:=NB173_175.out;have hcz55_0:w53.cell? ⟨gb175,0,none⟩=some (.int .i64 0):=(ag BK175.out 0).trans rfl;have hcz55_1:w53.cell? ⟨gb175,1,none⟩=some (.int .i64 0):=(ag BK175.out 1).trans rfl;have hcz55_2:w53.cell? ⟨gb175,2,none⟩=some (.int .i64 0):=(ag BK175.out 2).trans rfl;have hcz55_3:w53.cell? ⟨gb175,3,none⟩=some (.bool false):=(ag BK175.out 3).trans rfl;have hfz55_0:=ah BK175.out 0;have hfz55_1:=ah BK175.out 1;have hfz55_2:=ah BK175.out 2;have hfz55_3:=ah BK175.out 3)|((with_reducible refine aK (f:=27) rfl ?_);refine bn (some 16) rfl rfl Tryd.func27 (by kernel_rfl) rfl #[.agg #[.int .i64 ((ax l0_0 x10_1).f0),.int .i64 ((ax l0_0 x10_1).f1),.int .i64 ((ax l0_0 x10_1).f2),.bool ((ax l0_0 x10_1).f3)]] rfl (by(try simp only[amp_]);first|done|rfl|(simp only[ald_];rfl)) ?_;(with_reducible refine(spec_l9Piece.calls ((ax l0_0 x10_1).f0) ((ax l0_0 x10_1).f1) ((ax l0_0 x10_1).f2) ((ax l0_0 x10_1).f3) false _ A7.out).mono ?_);rintro e w56 ⟨rfl,hb⟩;refine⟨_,rfl,?_⟩;replace BK173:=av (aG (g:=gb173) (o:=.cells #[.slice (some ad174) l0_0.length c0_0] 45 (0,0)) (by(with_reducible repeat(first|apply aj|apply au|apply ak));refine aU ?_ NB173_175.out _;(with_reducible repeat(first|apply aj|apply au|apply ak));refine aU ?_ NB173_175.out _;(with_reducible repeat(first|apply aj|apply au|apply ak));refine aU ?_ NB173_175.out _;(with_reducible repeat(first|apply aj|apply au|apply ak));refine aU ?_ NB173_175.out _;(with_reducible repeat(first|apply aj|apply au|apply ak));exact BK173.out) hb);replace BK175:=av (aG (g:=gb175) (o:=.cells #[.int .i64 ((ax l0_0 x10_1).f0),.int .i64 ((ax l0_0 x10_1).f1),.int .i64 ((ax l0_0 x10_1).f2),.bool ((ax l0_0 x10_1).f3)] 51 (0,0)) (by(with_reducible repeat(first|apply aj|apply au|apply ak));refine aX (cs:=#[.int .i64 ((ax l0_0 x10_1).f0),.int .i64 ((ax l0_0 x10_1).f1),.int .i64 ((ax l0_0 x10_1).f2),.bool false]) ?_ 3 _ rfl;(with_reducible repeat(first|apply aj|apply au|apply ak));refine aX (cs:=#[.int .i64 ((ax l0_0 x10_1).f0),.int .i64 ((ax l0_0 x10_1).f1),.int .i64 0,.bool false]) ?_ 2 _ rfl;(with_reducible repeat(first|apply aj|apply au|apply ak));refine aX (cs:=#[.int .i64 ((ax l0_0 x10_1).f0),.int .i64 0,.int .i64 0,.bool false]) ?_ 1 _ rfl;(with_reducible repeat(first|apply aj|apply au|apply ak));refine aX (cs:=#[.int .i64 0,.int .i64 0,.int .i64 0,.bool false]) ?_ 0 _ rfl;(with_reducible repeat(first|apply aj|apply au|apply ak));exact BK175.out) hb);replace HB:=av (aA (by with_reducible repeat(first|exact HB.out|apply af|apply aa|apply ae|refine ai ?_ GE173.out|refine ai ?_ GE175.out)) hb);(try clear hb);(try clear hb2);(try clear hk);(try clear hi)))
       go_ret
       exact⟨by first|rfl|(simp <;> rfl)|(simp[*] <;> rfl),by with_reducible repeat(first|exact HB.out|apply af|apply aa|apply ae|refine ai ?_ GE173.out|refine ai ?_ GE175.out)⟩
     ·rw[if_neg c6] at H
      exact absurd H (by simp)
    ·rw[if_neg c5] at H
     exact absurd H (by simp)
   ·rw[if_neg c4] at H
    have c4b0:decide (x10_1 < (l0_0.length:Int))=false:=decide_eq_false c4
    clear c4
    obtain rfl:=Option.some.inj H
    have hcz57_0:wr.cell? ⟨gb173,0,none⟩=some (.slice A0_0 l0_0.length c0_0):=(ag BK173.out 0).trans rfl
    have hfz57_0:=ah BK173.out 0
    go_wp2
    go_ret
    exact⟨by first|rfl|(simp <;> rfl)|(simp[*] <;> rfl),by with_reducible repeat(first|exact HB.out|apply af|apply aa|apply ae|refine ai ?_ GE173.out)⟩
end Go.Proofs.YtdghdjachbbdmaaDoor.PFre
