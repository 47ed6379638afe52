import Derived.Test.YtdghdjachbbdmaaDoorSGoo5
import Derived.Lib.SliceRun
import Derived.Shelf.SlSortCmp.WholeK
import Derived.Test.YtdghdjachbbdmaaDoorProg
namespace Go.Proofs.YtdghdjachbbdmaaDoor.PFre
open Go.RowKit Go.Proofs.YtdghdjachbbdmaaDoorW.PrintWords Go.Proofs.YtdghdjachbbdmaaDoorW.PrintLast Go.Proofs.YtdghdjachbbdmaaDoorW.PrintMore
attribute [local go_sem] bG bF bQ bR bB bC bH bE
set_option linter.unusedVariables false
set_option linter.unusedSimpArgs false
def spec_l8Name.l0:Nat→ByteArray→Int→Option (Bool)
 | 0,_,_=>none
 | k+1,x0,x3=>if x3 < (x0.size:Int) then (if 0≤x3 then (if (bt x0 x3)≥97 then (if (bt x0 x3)≤122 then (spec_l8Name.l0 k x0 (wrap64 (x3+1))) else (if (bt x0 x3)≥48 then (if (bt x0 x3)≤57 then (spec_l8Name.l0 k x0 (wrap64 (x3+1))) else (if (bt x0 x3)=46 then (spec_l8Name.l0 k x0 (wrap64 (x3+1))) else (if ((bt x0 x3)=45) then (spec_l8Name.l0 k x0 (wrap64 (x3+1))) else (some false)))) else (if (bt x0 x3)=46 then (spec_l8Name.l0 k x0 (wrap64 (x3+1))) else (if ((bt x0 x3)=45) then (spec_l8Name.l0 k x0 (wrap64 (x3+1))) else (some false))))) else (if (bt x0 x3)≥48 then (if (bt x0 x3)≤57 then (spec_l8Name.l0 k x0 (wrap64 (x3+1))) else (if (bt x0 x3)=46 then (spec_l8Name.l0 k x0 (wrap64 (x3+1))) else (if ((bt x0 x3)=45) then (spec_l8Name.l0 k x0 (wrap64 (x3+1))) else (some false)))) else (if (bt x0 x3)=46 then (spec_l8Name.l0 k x0 (wrap64 (x3+1))) else (if ((bt x0 x3)=45) then (spec_l8Name.l0 k x0 (wrap64 (x3+1))) else (some false))))) else (none)) else ((spec_l1In.f (x0.size:Int) 1 12).bind fun t166=>(some t166))
def spec_l8Name.f (k:Nat) (a0:ByteArray):Option (Bool):=spec_l8Name.l0 k a0 0
set_option maxHeartbeats 8000000 in
set_option maxRecDepth 100000 in
theorem spec_l8Name.calls (k : Nat) (a0 : ByteArray) (r : Bool) (w : World) (h : spec_l8Name.f k a0 = some r) :
  Calls Tryd.prog 13 #[.string a0] w fun e w'=>e = .returned (.bool r)∧Drawn0 w w':=by
 have H:(spec_l8Name.l0 k a0 0)=some r:=h
 clear h
 have H':=av H
 clear H
 go_enter Tryd.func13,Tryd.ntmps13
 go_wp2
 go_loopg [3] k (fun kq v3 w'=>∃ (x3_1:Int),v3 = .int .i64 x3_1∧Aside0 (spec_l8Name.l0 kq a0 x3_1=some r)∧Aside0 (kq≤k)∧Drawn0 w w')
 case atStart=>exact⟨(0),(by first|rfl|(simp;done)|(simp[*];done)),H',⟨Nat.le_refl _⟩,by repeat(first|exact Drawn0.refl _|apply Drawn0.step)⟩
 case round =>
  clear H'
  try clear c1
  obtain⟨x3_1,rfl,HA,HK1,⟨m1,rfl⟩⟩:=hrel
  cases gk with
  | zero=>exact absurd HA.out (by simp[spec_l8Name.l0])
  | succ k1 =>
   have H:=HA.out
   clear HA
   simp only[spec_l8Name.l0] at H
   by_cases c2:x3_1 < (a0.size:Int)
   ·rw [if_pos c2] at H
    have c2b0:decide (x3_1 < (a0.size:Int))=true:=decide_eq_true c2
    clear c2
    by_cases c3:0≤x3_1
    ·rw [if_pos c3] at H
     have c3b0:decide (0≤x3_1)=true:=decide_eq_true c3
     clear c3
     by_cases c5:(bt a0 x3_1)≥97
     ·rw [if_pos c5] at H
      have c5b0:decide (97≤(bt a0 x3_1))=true:=decide_eq_true c5
      clear c5
      by_cases c6:(bt a0 x3_1)≤122
      ·rw[if_pos c6] at H
       have c6b0:decide ((bt a0 x3_1)≤122)=true:=decide_eq_true c6
       clear c6
       have H':=av H
       clear H
       have p4:0≤(x3_1:Int):=of_decide_eq_true (by assumption)
       have q4:x3_1 < (a0.size:Int):=of_decide_eq_true (by assumption)
       have hx4:=eu a0 x3_1
       replace p4:=eq_true p4
       replace q4:=eq_true q4
       go_wp2
       go_roundg k1
       case measure=>have:=HK1.out;omega
       case rel=>exact⟨(wrap64 (x3_1+1)),(by first|rfl|(simp;done)|(simp[*];done)),H',⟨by have:=HK1.out;omega⟩,by repeat(first|exact Drawn0.refl _|apply Drawn0.step)⟩
      ·rw [if_neg c6] at H
       have c6b0:decide ((bt a0 x3_1)≤122)=false:=decide_eq_false c6
       clear c6
       by_cases c7:(bt a0 x3_1)≥48
       ·rw [if_pos c7] at H
        have c7b0:decide (48≤(bt a0 x3_1))=true:=decide_eq_true c7
        clear c7
        by_cases c8:(bt a0 x3_1)≤57
        ·rw[if_pos c8] at H
         have c8b0:decide ((bt a0 x3_1)≤57)=true:=decide_eq_true c8
         clear c8
         have H':=av H
         clear H
         have p4:0≤(x3_1:Int):=of_decide_eq_true (by assumption)
         have q4:x3_1 < (a0.size:Int):=of_decide_eq_true (by assumption)
         have hx4:=eu a0 x3_1
         replace p4:=eq_true p4
         replace q4:=eq_true q4
         go_wp2
         go_roundg k1
         case measure=>have:=HK1.out;omega
         case rel=>exact⟨(wrap64 (x3_1+1)),(by first|rfl|(simp;done)|(simp[*];done)),H',⟨by have:=HK1.out;omega⟩,by repeat(first|exact Drawn0.refl _|apply Drawn0.step)⟩
        ·rw[if_neg c8] at H
         have c8b0:decide ((bt a0 x3_1)≤57)=false:=decide_eq_false c8
         clear c8
         by_cases c9:(bt a0 x3_1)=46
         ·rw[if_pos c9] at H
          have c9b0:((bt a0 x3_1) == 46)=true:=beq_iff_eq.mpr c9
          have c9b1:((bt a0 x3_1) != 46)=false:=bne_eq_false_iff_eq.mpr c9
          clear c9
          have H':=av H
          clear H
          have p4:0≤(x3_1:Int):=of_decide_eq_true (by assumption)
          have q4:x3_1 < (a0.size:Int):=of_decide_eq_true (by assumption)
          have hx4:=eu a0 x3_1
          replace p4:=eq_true p4
          replace q4:=eq_true q4
          go_wp2
          go_roundg k1
          case measure=>have:=HK1.out;omega
          case rel=>exact⟨(wrap64 (x3_1+1)),(by first|rfl|(simp;done)|(simp[*];done)),H',⟨by have:=HK1.out;omega⟩,by repeat(first|exact Drawn0.refl _|apply Drawn0.step)⟩
         ·rw[if_neg c9] at H
          have c9b0:((bt a0 x3_1) == 46)=false:=beq_eq_false_iff_ne.mpr c9
          have c9b1:((bt a0 x3_1) != 46)=true:=bne_iff_ne.mpr c9
          by_cases c10:((bt a0 x3_1)=45)
          ·rw[if_pos c10] at H
           have c10b0:((bt a0 x3_1) == 45)=true:=beq_iff_eq.mpr c10
           have c10b1:((bt a0 x3_1) != 45)=false:=bne_eq_false_iff_eq.mpr c10
           clear c10
           have H':=av H
           clear H
           have p4:0≤(x3_1:Int):=of_decide_eq_true (by assumption)
           have q4:x3_1 < (a0.size:Int):=of_decide_eq_true (by assumption)
           have hx4:=eu a0 x3_1
           replace p4:=eq_true p4
           replace q4:=eq_true q4
           go_wp2
           go_roundg k1
           case measure=>have:=HK1.out;omega
           case rel=>exact⟨(wrap64 (x3_1+1)),(by first|rfl|(simp;done)|(simp[*];done)),H',⟨by have:=HK1.out;omega⟩,by repeat(first|exact Drawn0.refl _|apply Drawn0.step)⟩
          ·rw[if_neg c10] at H
           have c10b0:((bt a0 x3_1) == 45)=false:=beq_eq_false_iff_ne.mpr c10
           have c10b1:((bt a0 x3_1) != 45)=true:=bne_iff_ne.mpr c10
           obtain rfl:=Option.some.inj H
           have p4:0≤(x3_1:Int):=of_decide_eq_true (by assumption)
           have q4:x3_1 < (a0.size:Int):=of_decide_eq_true (by assumption)
           have hx4:=eu a0 x3_1
           replace p4:=eq_true p4
           replace q4:=eq_true q4
           go_wp2
           go_ret
           exact⟨by first|rfl|(simp;done)|(simp[*];done),by repeat(first|exact Drawn0.refl _|apply Drawn0.step)⟩
       ·rw[if_neg c7] at H
        have c7b0:decide (48≤(bt a0 x3_1))=false:=decide_eq_false c7
        clear c7
        by_cases c11:(bt a0 x3_1)=46
        ·rw[if_pos c11] at H
         have c11b0:((bt a0 x3_1) == 46)=true:=beq_iff_eq.mpr c11
         have c11b1:((bt a0 x3_1) != 46)=false:=bne_eq_false_iff_eq.mpr c11
         clear c11
         have H':=av H
         clear H
         have p4:0≤(x3_1:Int):=of_decide_eq_true (by assumption)
         have q4:x3_1 < (a0.size:Int):=of_decide_eq_true (by assumption)
         have hx4:=eu a0 x3_1
         replace p4:=eq_true p4
         replace q4:=eq_true q4
         go_wp2
         go_roundg k1
         case measure=>have:=HK1.out;omega
         case rel=>exact⟨(wrap64 (x3_1+1)),(by first|rfl|(simp;done)|(simp[*];done)),H',⟨by have:=HK1.out;omega⟩,by repeat(first|exact Drawn0.refl _|apply Drawn0.step)⟩
        ·rw[if_neg c11] at H
         have c11b0:((bt a0 x3_1) == 46)=false:=beq_eq_false_iff_ne.mpr c11
         have c11b1:((bt a0 x3_1) != 46)=true:=bne_iff_ne.mpr c11
         by_cases c12:((bt a0 x3_1)=45)
         ·rw[if_pos c12] at H
          have c12b0:((bt a0 x3_1) == 45)=true:=beq_iff_eq.mpr c12
          have c12b1:((bt a0 x3_1) != 45)=false:=bne_eq_false_iff_eq.mpr c12
          clear c12
          have H':=av H
          clear H
          have p4:0≤(x3_1:Int):=of_decide_eq_true (by assumption)
          have q4:x3_1 < (a0.size:Int):=of_decide_eq_true (by assumption)
          have hx4:=eu a0 x3_1
          replace p4:=eq_true p4
          replace q4:=eq_true q4
          go_wp2
          go_roundg k1
          case measure=>have:=HK1.out;omega
          case rel=>exact⟨(wrap64 (x3_1+1)),(by first|rfl|(simp;done)|(simp[*];done)),H',⟨by have:=HK1.out;omega⟩,by repeat(first|exact Drawn0.refl _|apply Drawn0.step)⟩
         ·rw[if_neg c12] at H
          have c12b0:((bt a0 x3_1) == 45)=false:=beq_eq_false_iff_ne.mpr c12
          have c12b1:((bt a0 x3_1) != 45)=true:=bne_iff_ne.mpr c12
          obtain rfl:=Option.some.inj H
          have p4:0≤(x3_1:Int):=of_decide_eq_true (by assumption)
          have q4:x3_1 < (a0.size:Int):=of_decide_eq_true (by assumption)
          have hx4:=eu a0 x3_1
          replace p4:=eq_true p4
          replace q4:=eq_true q4
          go_wp2
          go_ret
          exact⟨by first|rfl|(simp;done)|(simp[*];done),by repeat(first|exact Drawn0.refl _|apply Drawn0.step)⟩
     ·rw [if_neg c5] at H
      have c5b0:decide (97≤(bt a0 x3_1))=false:=decide_eq_false c5
      clear c5
      by_cases c13:(bt a0 x3_1)≥48
      ·rw [if_pos c13] at H
       have c13b0:decide (48≤(bt a0 x3_1))=true:=decide_eq_true c13
       clear c13
       by_cases c14:(bt a0 x3_1)≤57
       ·rw[if_pos c14] at H
        have c14b0:decide ((bt a0 x3_1)≤57)=true:=decide_eq_true c14
        clear c14
        have H':=av H
        clear H
        have p4:0≤(x3_1:Int):=of_decide_eq_true (by assumption)
        have q4:x3_1 < (a0.size:Int):=of_decide_eq_true (by assumption)
        have hx4:=eu a0 x3_1
        replace p4:=eq_true p4
        replace q4:=eq_true q4
        go_wp2
        go_roundg k1
        case measure=>have:=HK1.out;omega
        case rel=>exact⟨(wrap64 (x3_1+1)),(by first|rfl|(simp;done)|(simp[*];done)),H',⟨by have:=HK1.out;omega⟩,by repeat(first|exact Drawn0.refl _|apply Drawn0.step)⟩
       ·rw[if_neg c14] at H
        have c14b0:decide ((bt a0 x3_1)≤57)=false:=decide_eq_false c14
        clear c14
        by_cases c15:(bt a0 x3_1)=46
        ·rw[if_pos c15] at H
         have c15b0:((bt a0 x3_1) == 46)=true:=beq_iff_eq.mpr c15
         have c15b1:((bt a0 x3_1) != 46)=false:=bne_eq_false_iff_eq.mpr c15
         clear c15
         have H':=av H
         clear H
         have p4:0≤(x3_1:Int):=of_decide_eq_true (by assumption)
         have q4:x3_1 < (a0.size:Int):=of_decide_eq_true (by assumption)
         have hx4:=eu a0 x3_1
         replace p4:=eq_true p4
         replace q4:=eq_true q4
         go_wp2
         go_roundg k1
         case measure=>have:=HK1.out;omega
         case rel=>exact⟨(wrap64 (x3_1+1)),(by first|rfl|(simp;done)|(simp[*];done)),H',⟨by have:=HK1.out;omega⟩,by repeat(first|exact Drawn0.refl _|apply Drawn0.step)⟩
        ·rw[if_neg c15] at H
         have c15b0:((bt a0 x3_1) == 46)=false:=beq_eq_false_iff_ne.mpr c15
         have c15b1:((bt a0 x3_1) != 46)=true:=bne_iff_ne.mpr c15
         by_cases c16:((bt a0 x3_1)=45)
         ·rw[if_pos c16] at H
          have c16b0:((bt a0 x3_1) == 45)=true:=beq_iff_eq.mpr c16
          have c16b1:((bt a0 x3_1) != 45)=false:=bne_eq_false_iff_eq.mpr c16
          clear c16
          have H':=av H
          clear H
          have p4:0≤(x3_1:Int):=of_decide_eq_true (by assumption)
          have q4:x3_1 < (a0.size:Int):=of_decide_eq_true (by assumption)
          have hx4:=eu a0 x3_1
          replace p4:=eq_true p4
          replace q4:=eq_true q4
          go_wp2
          go_roundg k1
          case measure=>have:=HK1.out;omega
          case rel=>exact⟨(wrap64 (x3_1+1)),(by first|rfl|(simp;done)|(simp[*];done)),H',⟨by have:=HK1.out;omega⟩,by repeat(first|exact Drawn0.refl _|apply Drawn0.step)⟩
         ·rw[if_neg c16] at H
          have c16b0:((bt a0 x3_1) == 45)=false:=beq_eq_false_iff_ne.mpr c16
          have c16b1:((bt a0 x3_1) != 45)=true:=bne_iff_ne.mpr c16
          obtain rfl:=Option.some.inj H
          have p4:0≤(x3_1:Int):=of_decide_eq_true (by assumption)
          have q4:x3_1 < (a0.size:Int):=of_decide_eq_true (by assumption)
          have hx4:=eu a0 x3_1
          replace p4:=eq_true p4
          replace q4:=eq_true q4
          go_wp2
          go_ret
          exact⟨by first|rfl|(simp;done)|(simp[*];done),by repeat(first|exact Drawn0.refl _|apply Drawn0.step)⟩
      ·rw[if_neg c13] at H
       have c13b0:decide (48≤(bt a0 x3_1))=false:=decide_eq_false c13
       clear c13
       by_cases c17:(bt a0 x3_1)=46
       ·rw[if_pos c17] at H
        have c17b0:((bt a0 x3_1) == 46)=true:=beq_iff_eq.mpr c17
        have c17b1:((bt a0 x3_1) != 46)=false:=bne_eq_false_iff_eq.mpr c17
        clear c17
        have H':=av H
        clear H
        have p4:0≤(x3_1:Int):=of_decide_eq_true (by assumption)
        have q4:x3_1 < (a0.size:Int):=of_decide_eq_true (by assumption)
        have hx4:=eu a0 x3_1
        replace p4:=eq_true p4
        replace q4:=eq_true q4
        go_wp2
        go_roundg k1
        case measure=>have:=HK1.out;omega
        case rel=>exact⟨(wrap64 (x3_1+1)),(by first|rfl|(simp;done)|(simp[*];done)),H',⟨by have:=HK1.out;omega⟩,by repeat(first|exact Drawn0.refl _|apply Drawn0.step)⟩
       ·rw[if_neg c17] at H
        have c17b0:((bt a0 x3_1) == 46)=false:=beq_eq_false_iff_ne.mpr c17
        have c17b1:((bt a0 x3_1) != 46)=true:=bne_iff_ne.mpr c17
        by_cases c18:((bt a0 x3_1)=45)
        ·rw[if_pos c18] at H
         have c18b0:((bt a0 x3_1) == 45)=true:=beq_iff_eq.mpr c18
         have c18b1:((bt a0 x3_1) != 45)=false:=bne_eq_false_iff_eq.mpr c18
         clear c18
         have H':=av H
         clear H
         have p4:0≤(x3_1:Int):=of_decide_eq_true (by assumption)
         have q4:x3_1 < (a0.size:Int):=of_decide_eq_true (by assumption)
         have hx4:=eu a0 x3_1
         replace p4:=eq_true p4
         replace q4:=eq_true q4
         go_wp2
         go_roundg k1
         case measure=>have:=HK1.out;omega
         case rel=>exact⟨(wrap64 (x3_1+1)),(by first|rfl|(simp;done)|(simp[*];done)),H',⟨by have:=HK1.out;omega⟩,by repeat(first|exact Drawn0.refl _|apply Drawn0.step)⟩
        ·rw[if_neg c18] at H
         have c18b0:((bt a0 x3_1) == 45)=false:=beq_eq_false_iff_ne.mpr c18
         have c18b1:((bt a0 x3_1) != 45)=true:=bne_iff_ne.mpr c18
         obtain rfl:=Option.some.inj H
         have p4:0≤(x3_1:Int):=of_decide_eq_true (by assumption)
         have q4:x3_1 < (a0.size:Int):=of_decide_eq_true (by assumption)
         have hx4:=eu a0 x3_1
         replace p4:=eq_true p4
         replace q4:=eq_true q4
         go_wp2
         go_ret
         exact⟨by first|rfl|(simp;done)|(simp[*];done),by repeat(first|exact Drawn0.refl _|apply Drawn0.step)⟩
    ·rw[if_neg c3] at H
     exact absurd H (by simp)
   ·rw[if_neg c2] at H
    have c2b0:decide (x3_1 < (a0.size:Int))=false:=decide_eq_false c2
    clear c2
    replace H:=Option.bind_eq_some_iff.mp H
    obtain⟨t166,A190,H⟩:=H
    replace H:(some t166)=some r:=H
    have A19:=av A190
    clear A190
    obtain rfl:=Option.some.inj H
    go_wp2_with (first|((with_reducible refine aK (f:=12) rfl ?_);refine bn (some 39) rfl rfl Tryd.func12 (by kernel_rfl) rfl #[.int .i64 (a0.size:Int),.int .i64 1,.int .i64 12] rfl (by(try simp only[amp_]);first|done|rfl|(simp only[ald_];rfl)) ?_;(with_reducible refine(spec_l1In.calls (a0.size:Int) 1 12 t166 _ A19.out).mono ?_);rintro e w' ⟨rfl,⟨nd,rfl⟩⟩;refine⟨_,rfl,?_⟩))
    go_ret
    exact⟨by first|rfl|(simp;done)|(simp[*];done),by repeat(first|exact Drawn0.refl _|apply Drawn0.step)⟩
attribute [local go_sem] bG bF bQ bR bB bC bH bE
set_option linter.unusedVariables false
set_option linter.unusedSimpArgs false
attribute [local go_sem high] E.lv E.lh E.lL
mutual
def spec_GoodSystem.j0:Nat→Bool→Int→Int→List (S72)→List (S72)→List (S47)→Option (Bool)
 | 0,_,_,_,_,_,_=>none
 | k+1,x25,x188000,x188001,x188002,x188003,x188004=>if x25=true then (some false) else (spec_GoodSystem.l0 k x188004 (x188004.length:Int) 0 x188000 x188001 x188002 x188003 x188004)
def spec_GoodSystem.l0:Nat→List (S47)→Int→Int→Int→Int→List (S72)→List (S72)→List (S47)→Option (Bool)
 | 0,_,_,_,_,_,_,_,_=>none
 | k+1,x27,x28,x29,x188000,x188001,x188002,x188003,x188004=>if x29<x28 then (if 0≤x29 then (if x29 < (x27.length:Int) then ((spec_l8Name.f k ((az x27 x29).f0)).bind fun t192=>(if t192=true then (if x29 > 0 then (if 0≤(wrap64 (x29 - 1)) then (if (wrap64 (x29 - 1)) < (x188004.length:Int) then (if ((Op.bytesLess (((az x188004 (wrap64 (x29 - 1))).f0).toList) (((az x27 x29).f0).toList))=true) then ((spec_l1In.f ((az x27 x29).f1) 0 200).bind fun t194=>(if t194=true then ((spec_GoodMap.f k ((az x27 x29).f2.f0)).bind fun t195=>(spec_GoodSystem.j2 k x27 x28 x29 (!t195) x188000 x188001 x188002 x188003 x188004 ((az x27 x29).f0) ((az x27 x29).f1) ((az x27 x29).f2.f0))) else (spec_GoodSystem.j2 k x27 x28 x29 true x188000 x188001 x188002 x188003 x188004 ((az x27 x29).f0) ((az x27 x29).f1) ((az x27 x29).f2.f0)))) else (spec_GoodSystem.j2 k x27 x28 x29 true x188000 x188001 x188002 x188003 x188004 ((az x27 x29).f0) ((az x27 x29).f1) ((az x27 x29).f2.f0))) else (none)) else (none)) else ((spec_l1In.f ((az x27 x29).f1) 0 200).bind fun t196=>(if t196=true then ((spec_GoodMap.f k ((az x27 x29).f2.f0)).bind fun t197=>(spec_GoodSystem.j2 k x27 x28 x29 (!t197) x188000 x188001 x188002 x188003 x188004 ((az x27 x29).f0) ((az x27 x29).f1) ((az x27 x29).f2.f0))) else (spec_GoodSystem.j2 k x27 x28 x29 true x188000 x188001 x188002 x188003 x188004 ((az x27 x29).f0) ((az x27 x29).f1) ((az x27 x29).f2.f0))))) else (spec_GoodSystem.j2 k x27 x28 x29 true x188000 x188001 x188002 x188003 x188004 ((az x27 x29).f0) ((az x27 x29).f1) ((az x27 x29).f2.f0)))) else (none)) else (none)) else (some true)
def spec_GoodSystem.j2:Nat→List (S47)→Int→Int→Bool→Int→Int→List (S72)→List (S72)→List (S47)→ByteArray→Int→List (S51)→Option (Bool)
 | 0,_,_,_,_,_,_,_,_,_,_,_,_=>none
 | k+1,x27,x28,x29,x65,x188000,x188001,x188002,x188003,x188004,x192000,x192001,x192002=>if x65=true then (some false) else (spec_GoodSystem.l1 k x27 x28 x29 x192002 (x192002.length:Int) 0 x188000 x188001 x188002 x188003 x188004 x192000 x192001 x192002)
def spec_GoodSystem.l1:Nat→List (S47)→Int→Int→List (S51)→Int→Int→Int→Int→List (S72)→List (S72)→List (S47)→ByteArray→Int→List (S51)→Option (Bool)
 | 0,_,_,_,_,_,_,_,_,_,_,_,_,_,_=>none
 | k+1,x27,x28,x29,x68,x69,x70,x188000,x188001,x188002,x188003,x188004,x192000,x192001,x192002=>if x70<x69 then (if 0≤x70 then (if x70 < (x68.length:Int) then (if (wrap64 (((ax x68 x70).f0) + ((ax x68 x70).f1))) > x192001 then (some false) else (if (wrap64 (((ax x68 x70).f2) + ((ax x68 x70).f1))) > x188001 then (some false) else (spec_GoodSystem.l1 k x27 x28 x29 x68 x69 (wrap64 (x70+1)) x188000 x188001 x188002 x188003 x188004 x192000 x192001 x192002))) else (none)) else (none)) else (spec_GoodSystem.l0 k x27 x28 (wrap64 (x29+1)) x188000 x188001 x188002 x188003 x188004)
end
def spec_GoodSystem.f (k:Nat) (a0_0:Int) (a0_1:Int) (l0_2:List (S72)) (l0_3:List (S72)) (l0_4:List (S47)):Option (Bool):=(spec_GoodFree.f k a0_1 l0_2 l0_3).bind fun t188=>(if t188=true then ((spec_l1In.f a0_0 0 a0_1).bind fun t189=>(if t189=true then (spec_GoodSystem.j0 k (decide ((l0_4.length:Int) > 12)) a0_0 a0_1 l0_2 l0_3 l0_4) else (spec_GoodSystem.j0 k true a0_0 a0_1 l0_2 l0_3 l0_4))) else (spec_GoodSystem.j0 k true a0_0 a0_1 l0_2 l0_3 l0_4))
def spec_GoodSystem.T6:Bool×List (List Nat×List Nat):=(true,[([],[]),([0],[0]),([1],[1]),([2],[2]),([3,2],[3]),([4],[4]),([5,4],[4,5]),([6,4,4],[4,6]),([7],[7]),([8,7],[7,8]),([7],[7]),([10,7],[7,10]),([9,11,7],[7,9,11]),([12,7],[7,12]),([13,7],[7,13]),([7],[7]),([15,7],[7,15]),([14,16,7],[7,14,16]),([7,17,4],[4,7,17]),([4,18],[4,18]),([19,7],[19]),([20],[20]),([21,20],[20,21]),([22,20,20],[20,22]),([23,20],[20,23]),([20,24],[20,24]),([25,23],[25]),([26],[26]),([27,26],[26,27]),([28,26,26],[26,28]),([29,26],[26,29]),([26,30],[26,30])])
def spec_GoodSystem.B6:List Nat:=[0,1,3,7,15,31,63,127,255,511,255,1279,4095,8191,16383,255,33023,131071,262143,524287,1048575,2097151,4194303,8388607,16777215,33554431,67108863,134217727,268435455,536870911,1073741823,2147483647]
theorem spec_GoodSystem.tab6:dR .any (opsOf Tryd.f5 6)=spec_GoodSystem.T6:=by kernel_rfl
theorem spec_GoodSystem.bits6:dH spec_GoodSystem.T6.2 spec_GoodSystem.B6=true:=by kernel_rfl
set_option maxHeartbeats 8000000 in
set_option maxRecDepth 100000 in
theorem spec_GoodSystem.calls (k : Nat) (a0_0 : Int) (a0_1 : Int) (A0_2 : Option Addr) (c0_2 : Nat) (l0_2 : List (S72)) (A0_3 : Option Addr) (c0_3 : Nat) (l0_3 : List (S72)) (A0_4 : Option Addr) (c0_4 : Nat) (l0_4 : List (S47)) (r : Bool) (w : World) (hr0_2 : Kd.C k72 w A0_2 l0_2.length l0_2) (hc0_2 : l0_2.length ≤ c0_2) (hr0_3 : Kd.C k72 w A0_3 l0_3.length l0_3) (hc0_3 : l0_3.length ≤ c0_3) (hr0_4 : Kd.C k47 w A0_4 l0_4.length l0_4) (hc0_4 : l0_4.length ≤ c0_4) (h : spec_GoodSystem.f k a0_0 a0_1 l0_2 l0_3 l0_4 = some r) :
  Calls Tryd.prog 5 #[.agg #[.int .i64 a0_0,.int .i64 a0_1,.slice A0_2 l0_2.length c0_2,.slice A0_3 l0_3.length c0_3,.slice A0_4 l0_4.length c0_4]] w fun e w'=>e = .returned (.bool r)∧Below w.heap.size w w':=by
 have hu35:=Tryd.underlying35
 have hu32:=Tryd.underlying32
 have hu47:=Tryd.underlying47
 have hu45:=Tryd.underlying45
 have hu51:=Tryd.underlying51
 have HR0_2:=av hr0_2
 have HC0_2:=av hc0_2
 clear hr0_2 hc0_2
 have HR0_3:=av hr0_3
 have HC0_3:=av hc0_3
 clear hr0_3 hc0_3
 have HR0_4:=av hr0_4
 have HC0_4:=av hc0_4
 clear hr0_4 hc0_4
 have HB:=av (Below.refl w.heap.size w)
 have H:((spec_GoodFree.f k a0_1 l0_2 l0_3).bind fun t188=>(if t188=true then ((spec_l1In.f a0_0 0 a0_1).bind fun t189=>(if t189=true then (spec_GoodSystem.j0 k (decide ((l0_4.length:Int) > 12)) a0_0 a0_1 l0_2 l0_3 l0_4) else (spec_GoodSystem.j0 k true a0_0 a0_1 l0_2 l0_3 l0_4))) else (spec_GoodSystem.j0 k true a0_0 a0_1 l0_2 l0_3 l0_4)))=some r:=h
 clear h
 have HC2:=av H
 clear H
 go_enter Tryd.func5,Tryd.ntmps5
 go_upto_region 1 with(first|((with_reducible refine aJ (N:=1) rfl ?_);(try(refine bu (by rfl) ?_;dsimp only));refine aI ?hg (N:=1) ?hd (cs:=#[.int .i64 a0_0,.int .i64 a0_1,.slice A0_2 l0_2.length c0_2,.slice A0_3 l0_3.length c0_3,.slice A0_4 l0_4.length c0_4]) (t:=35) ?hr ?_;(case hd=>rfl);(case hg=>rfl);(case hr=>first|(go_simp;done)|(go_simp;rfl));intro gb187 hg w3 hbox hb;have BK187:=av (hbox);have GW187:=av ((by rw[hg];exact(ay (by with_reducible repeat(first|exact HB.out|apply af|apply aa|apply ae))):w.heap.size≤gb187));have GE187:=av ((by rw[hg];exact(ay (by with_reducible repeat(first|exact HB.out|apply af|apply aa|apply ae))):w.heap.size≤gb187));replace HB:=av (aA (by with_reducible repeat(first|exact HB.out|apply af|apply aa|apply ae)) hb);clear hb hbox hg))
 (try simp only[apu_])
 go_cut [25] (fun v25 wc=>∃ (kq:Nat) (x25_1:Bool),v25 = .bool x25_1∧Aside0 (spec_GoodSystem.j0 kq x25_1 a0_0 a0_1 l0_2 l0_3 l0_4=some r)∧Aside0 (kq≤k)∧Aside0 (wc.heap[gb187]? = some (.cells #[.int .i64 a0_0,.int .i64 a0_1,(.slice A0_2 l0_2.length c0_2),(.slice A0_3 l0_3.length c0_3),(.slice A0_4 l0_4.length c0_4)] 35 (0,0)))∧Aside0 (Below w.heap.size w wc))
 case first=>
  have H:=HC2.out
  clear HC2
  replace H:=Option.bind_eq_some_iff.mp H
  obtain⟨t188,A40,H⟩:=H
  replace H:(if t188=true then ((spec_l1In.f a0_0 0 a0_1).bind fun t189=>(if t189=true then (spec_GoodSystem.j0 k (decide ((l0_4.length:Int) > 12)) a0_0 a0_1 l0_2 l0_3 l0_4) else (spec_GoodSystem.j0 k true a0_0 a0_1 l0_2 l0_3 l0_4))) else (spec_GoodSystem.j0 k true a0_0 a0_1 l0_2 l0_3 l0_4))=some r:=H
  have A4:=av A40
  clear A40
  by_cases c5:t188=true
  ·subst c5
   have H1:((spec_l1In.f a0_0 0 a0_1).bind fun t189=>(if t189=true then (spec_GoodSystem.j0 k (decide ((l0_4.length:Int) > 12)) a0_0 a0_1 l0_2 l0_3 l0_4) else (spec_GoodSystem.j0 k true a0_0 a0_1 l0_2 l0_3 l0_4)))=some r:=by rw[if_pos rfl] at H;exact H
   clear H
   have H:=H1
   clear H1
   replace H:=Option.bind_eq_some_iff.mp H
   obtain⟨t189,A60,H⟩:=H
   replace H:(if t189=true then (spec_GoodSystem.j0 k (decide ((l0_4.length:Int) > 12)) a0_0 a0_1 l0_2 l0_3 l0_4) else (spec_GoodSystem.j0 k true a0_0 a0_1 l0_2 l0_3 l0_4))=some r:=H
   have A6:=av A60
   clear A60
   by_cases c7:t189=true
   ·subst c7
    have H1:(spec_GoodSystem.j0 k (decide ((l0_4.length:Int) > 12)) a0_0 a0_1 l0_2 l0_3 l0_4)=some r:=by rw[if_pos rfl] at H;exact H
    clear H
    have H:=H1
    clear H1
    have H':=av H
    clear H
    have hcz8_0:w3.cell? ⟨gb187,0,none⟩=some (.int .i64 a0_0):=(ag BK187.out 0).trans rfl
    have hcz8_1:w3.cell? ⟨gb187,1,none⟩=some (.int .i64 a0_1):=(ag BK187.out 1).trans rfl
    have hcz8_2:w3.cell? ⟨gb187,2,none⟩=some (.slice A0_2 l0_2.length c0_2):=(ag BK187.out 2).trans rfl
    have hcz8_3:w3.cell? ⟨gb187,3,none⟩=some (.slice A0_3 l0_3.length c0_3):=(ag BK187.out 3).trans rfl
    have hcz8_4:w3.cell? ⟨gb187,4,none⟩=some (.slice A0_4 l0_4.length c0_4):=(ag BK187.out 4).trans rfl
    have hfz8_0:=ah BK187.out 0
    have hfz8_1:=ah BK187.out 1
    have hfz8_2:=ah BK187.out 2
    have hfz8_3:=ah BK187.out 3
    have hfz8_4:=ah BK187.out 4
    go_wp2_with (first|((with_reducible refine aK (f:=11) rfl ?_);refine bn (some 9) rfl rfl Tryd.func11 (by kernel_rfl) rfl #[.agg #[.int .i64 a0_1,.slice A0_2 l0_2.length c0_2,.slice A0_3 l0_3.length c0_3]] rfl (by(try simp only[amp_]);first|done|rfl|(simp only[ald_];rfl)) ?_;(with_reducible refine(spec_GoodFree.calls k a0_1 _ _ l0_2 _ _ l0_3 true _ ?side1 ?side2 ?side3 ?side4 A4.out).mono ?_);(case side1=>repeat(first|exact(Kd.aQ HR0_2.out HB.out)|(with_reducible first|apply Kd.aW|apply Kd.aV|apply Kd.aY)));(case side2=>exact HC0_2.out);(case side3=>repeat(first|exact(Kd.aQ HR0_3.out HB.out)|(with_reducible first|apply Kd.aW|apply Kd.aV|apply Kd.aY)));(case side4=>exact HC0_3.out);rintro e w9 ⟨rfl,hb⟩;refine⟨_,rfl,?_⟩;replace BK187:=av (aG (g:=gb187) (o:=.cells #[.int .i64 a0_0,.int .i64 a0_1,.slice A0_2 l0_2.length c0_2,.slice A0_3 l0_3.length c0_3,.slice A0_4 l0_4.length c0_4] 35 (0,0)) (by(with_reducible repeat(first|apply aj|apply au|apply ak));exact BK187.out) hb);replace HB:=av (aA (by with_reducible repeat(first|exact HB.out|apply af|apply aa|apply ae|refine ai ?_ GE187.out)) hb);(try clear hb);(try clear hb2);(try clear hk);(try clear hi);have hcz10_0:w9.cell? ⟨gb187,0,none⟩=some (.int .i64 a0_0):=(ag BK187.out 0).trans rfl;have hcz10_1:w9.cell? ⟨gb187,1,none⟩=some (.int .i64 a0_1):=(ag BK187.out 1).trans rfl;have hcz10_2:w9.cell? ⟨gb187,2,none⟩=some (.slice A0_2 l0_2.length c0_2):=(ag BK187.out 2).trans rfl;have hcz10_3:w9.cell? ⟨gb187,3,none⟩=some (.slice A0_3 l0_3.length c0_3):=(ag BK187.out 3).trans rfl;have hcz10_4:w9.cell? ⟨gb187,4,none⟩=some (.slice A0_4 l0_4.length c0_4):=(ag BK187.out 4).trans rfl;have hfz10_0:=ah BK187.out 0;have hfz10_1:=ah BK187.out 1;have hfz10_2:=ah BK187.out 2;have hfz10_3:=ah BK187.out 3;have hfz10_4:=ah BK187.out 4)|(go_at_call 12;(with_reducible refine(spec_l1In.calls a0_0 0 a0_1 true _ A6.out).mono ?_);rintro e w' ⟨rfl,⟨nd,rfl⟩⟩))
    go_meet
    case rel=>exact⟨_,(decide ((l0_4.length:Int) > 12)),(by first|rfl|(simp;done)|(simp[*];done)),H',⟨by first|omega|exact Nat.le_refl _⟩,⟨by(with_reducible repeat(first|apply aj|apply au|apply ak));exact BK187.out⟩,⟨by with_reducible repeat(first|exact HB.out|apply af|apply aa|apply ae|refine ai ?_ GE187.out)⟩⟩
   ·replace c7:=Bool.eq_false_iff.mpr c7
    subst c7
    have H1:(spec_GoodSystem.j0 k true a0_0 a0_1 l0_2 l0_3 l0_4)=some r:=by rw[if_neg (show ¬ (false=true) by decide)] at H;exact H
    clear H
    have H:=H1
    clear H1
    have H':=av H
    clear H
    have hcz11_0:w3.cell? ⟨gb187,0,none⟩=some (.int .i64 a0_0):=(ag BK187.out 0).trans rfl
    have hcz11_1:w3.cell? ⟨gb187,1,none⟩=some (.int .i64 a0_1):=(ag BK187.out 1).trans rfl
    have hcz11_2:w3.cell? ⟨gb187,2,none⟩=some (.slice A0_2 l0_2.length c0_2):=(ag BK187.out 2).trans rfl
    have hcz11_3:w3.cell? ⟨gb187,3,none⟩=some (.slice A0_3 l0_3.length c0_3):=(ag BK187.out 3).trans rfl
    have hcz11_4:w3.cell? ⟨gb187,4,none⟩=some (.slice A0_4 l0_4.length c0_4):=(ag BK187.out 4).trans rfl
    have hfz11_0:=ah BK187.out 0
    have hfz11_1:=ah BK187.out 1
    have hfz11_2:=ah BK187.out 2
    have hfz11_3:=ah BK187.out 3
    have hfz11_4:=ah BK187.out 4
    go_wp2_with (first|((with_reducible refine aK (f:=11) rfl ?_);refine bn (some 9) rfl rfl Tryd.func11 (by kernel_rfl) rfl #[.agg #[.int .i64 a0_1,.slice A0_2 l0_2.length c0_2,.slice A0_3 l0_3.length c0_3]] rfl (by(try simp only[amp_]);first|done|rfl|(simp only[ald_];rfl)) ?_;(with_reducible refine(spec_GoodFree.calls k a0_1 _ _ l0_2 _ _ l0_3 true _ ?side1 ?side2 ?side3 ?side4 A4.out).mono ?_);(case side1=>repeat(first|exact(Kd.aQ HR0_2.out HB.out)|(with_reducible first|apply Kd.aW|apply Kd.aV|apply Kd.aY)));(case side2=>exact HC0_2.out);(case side3=>repeat(first|exact(Kd.aQ HR0_3.out HB.out)|(with_reducible first|apply Kd.aW|apply Kd.aV|apply Kd.aY)));(case side4=>exact HC0_3.out);rintro e w12 ⟨rfl,hb⟩;refine⟨_,rfl,?_⟩;replace BK187:=av (aG (g:=gb187) (o:=.cells #[.int .i64 a0_0,.int .i64 a0_1,.slice A0_2 l0_2.length c0_2,.slice A0_3 l0_3.length c0_3,.slice A0_4 l0_4.length c0_4] 35 (0,0)) (by(with_reducible repeat(first|apply aj|apply au|apply ak));exact BK187.out) hb);replace HB:=av (aA (by with_reducible repeat(first|exact HB.out|apply af|apply aa|apply ae|refine ai ?_ GE187.out)) hb);(try clear hb);(try clear hb2);(try clear hk);(try clear hi);have hcz13_0:w12.cell? ⟨gb187,0,none⟩=some (.int .i64 a0_0):=(ag BK187.out 0).trans rfl;have hcz13_1:w12.cell? ⟨gb187,1,none⟩=some (.int .i64 a0_1):=(ag BK187.out 1).trans rfl;have hcz13_2:w12.cell? ⟨gb187,2,none⟩=some (.slice A0_2 l0_2.length c0_2):=(ag BK187.out 2).trans rfl;have hcz13_3:w12.cell? ⟨gb187,3,none⟩=some (.slice A0_3 l0_3.length c0_3):=(ag BK187.out 3).trans rfl;have hcz13_4:w12.cell? ⟨gb187,4,none⟩=some (.slice A0_4 l0_4.length c0_4):=(ag BK187.out 4).trans rfl;have hfz13_0:=ah BK187.out 0;have hfz13_1:=ah BK187.out 1;have hfz13_2:=ah BK187.out 2;have hfz13_3:=ah BK187.out 3;have hfz13_4:=ah BK187.out 4)|(go_at_call 12;(with_reducible refine(spec_l1In.calls a0_0 0 a0_1 false _ A6.out).mono ?_);rintro e w' ⟨rfl,⟨nd,rfl⟩⟩))
    go_meet
    case rel=>exact⟨_,(true),(by first|rfl|(simp;done)|(simp[*];done)),H',⟨by first|omega|exact Nat.le_refl _⟩,⟨by(with_reducible repeat(first|apply aj|apply au|apply ak));exact BK187.out⟩,⟨by with_reducible repeat(first|exact HB.out|apply af|apply aa|apply ae|refine ai ?_ GE187.out)⟩⟩
  ·replace c5:=Bool.eq_false_iff.mpr c5
   subst c5
   have H1:(spec_GoodSystem.j0 k true a0_0 a0_1 l0_2 l0_3 l0_4)=some r:=by rw[if_neg (show ¬ (false=true) by decide)] at H;exact H
   clear H
   have H:=H1
   clear H1
   have H':=av H
   clear H
   have hcz14_0:w3.cell? ⟨gb187,0,none⟩=some (.int .i64 a0_0):=(ag BK187.out 0).trans rfl
   have hcz14_1:w3.cell? ⟨gb187,1,none⟩=some (.int .i64 a0_1):=(ag BK187.out 1).trans rfl
   have hcz14_2:w3.cell? ⟨gb187,2,none⟩=some (.slice A0_2 l0_2.length c0_2):=(ag BK187.out 2).trans rfl
   have hcz14_3:w3.cell? ⟨gb187,3,none⟩=some (.slice A0_3 l0_3.length c0_3):=(ag BK187.out 3).trans rfl
   have hcz14_4:w3.cell? ⟨gb187,4,none⟩=some (.slice A0_4 l0_4.length c0_4):=(ag BK187.out 4).trans rfl
   have hfz14_0:=ah BK187.out 0
   have hfz14_1:=ah BK187.out 1
   have hfz14_2:=ah BK187.out 2
   have hfz14_3:=ah BK187.out 3
   have hfz14_4:=ah BK187.out 4
   go_wp2_with (first|((with_reducible refine aK (f:=11) rfl ?_);refine bn (some 9) rfl rfl Tryd.func11 (by kernel_rfl) rfl #[.agg #[.int .i64 a0_1,.slice A0_2 l0_2.length c0_2,.slice A0_3 l0_3.length c0_3]] rfl (by(try simp only[amp_]);first|done|rfl|(simp only[ald_];rfl)) ?_;(with_reducible refine(spec_GoodFree.calls k a0_1 _ _ l0_2 _ _ l0_3 false _ ?side1 ?side2 ?side3 ?side4 A4.out).mono ?_);(case side1=>repeat(first|exact(Kd.aQ HR0_2.out HB.out)|(with_reducible first|apply Kd.aW|apply Kd.aV|apply Kd.aY)));(case side2=>exact HC0_2.out);(case side3=>repeat(first|exact(Kd.aQ HR0_3.out HB.out)|(with_reducible first|apply Kd.aW|apply Kd.aV|apply Kd.aY)));(case side4=>exact HC0_3.out);rintro e w15 ⟨rfl,hb⟩;refine⟨_,rfl,?_⟩;replace BK187:=av (aG (g:=gb187) (o:=.cells #[.int .i64 a0_0,.int .i64 a0_1,.slice A0_2 l0_2.length c0_2,.slice A0_3 l0_3.length c0_3,.slice A0_4 l0_4.length c0_4] 35 (0,0)) (by(with_reducible repeat(first|apply aj|apply au|apply ak));exact BK187.out) hb);replace HB:=av (aA (by with_reducible repeat(first|exact HB.out|apply af|apply aa|apply ae|refine ai ?_ GE187.out)) hb);(try clear hb);(try clear hb2);(try clear hk);(try clear hi)))
   go_meet
   case rel=>exact⟨_,(true),(by first|rfl|(simp;done)|(simp[*];done)),H',⟨by first|omega|exact Nat.le_refl _⟩,⟨by(with_reducible repeat(first|apply aj|apply au|apply ak));exact BK187.out⟩,⟨by with_reducible repeat(first|exact HB.out|apply af|apply aa|apply ae|refine ai ?_ GE187.out)⟩⟩
 case rest =>
  clear HC2
  try clear c1
  try clear p2
  try clear c5
  try clear c7
  try clear c11
  try clear hcz10_0
  try clear hcz10_1
  try clear hcz10_2
  try clear hcz10_3
  try clear hcz10_4
  try clear hcz11_0
  try clear hcz11_1
  try clear hcz11_2
  try clear hcz11_3
  try clear hcz11_4
  try clear hcz13_0
  try clear hcz13_1
  try clear hcz13_2
  try clear hcz13_3
  try clear hcz13_4
  try clear hcz14_0
  try clear hcz14_1
  try clear hcz14_2
  try clear hcz14_3
  try clear hcz14_4
  try clear hcz8_0
  try clear hcz8_1
  try clear hcz8_2
  try clear hcz8_3
  try clear hcz8_4
  try clear hfz10_0
  try clear hfz10_1
  try clear hfz10_2
  try clear hfz10_3
  try clear hfz10_4
  try clear hfz11_0
  try clear hfz11_1
  try clear hfz11_2
  try clear hfz11_3
  try clear hfz11_4
  try clear hfz13_0
  try clear hfz13_1
  try clear hfz13_2
  try clear hfz13_3
  try clear hfz13_4
  try clear hfz14_0
  try clear hfz14_1
  try clear hfz14_2
  try clear hfz14_3
  try clear hfz14_4
  try clear hfz8_0
  try clear hfz8_1
  try clear hfz8_2
  try clear hfz8_3
  try clear hfz8_4
  obtain⟨kq,x25_1,rfl,HA,HJ1,BK187,HB⟩:=hcut
  cases kq with
  | zero=>exact absurd HA.out (by simp[spec_GoodSystem.j0])
  | succ kj1 =>
   have H:=HA.out
   clear HA
   simp only[spec_GoodSystem.j0] at H
   by_cases c16:x25_1=true
   ·subst c16
    have H1:(some false)=some r:=by rw[if_pos rfl] at H;exact H
    clear H
    have H:=H1
    clear H1
    obtain rfl:=Option.some.inj H
    go_wp2
    go_ret
    exact⟨by first|rfl|(simp <;> rfl)|(simp[*] <;> rfl),by with_reducible repeat(first|exact HB.out|apply af|apply aa|apply ae|refine ai ?_ GE187.out)⟩
   ·replace c16 := Bool.eq_false_iff.mpr c16
    subst c16
    have H1:(spec_GoodSystem.l0 kj1 l0_4 (l0_4.length:Int) 0 a0_0 a0_1 l0_2 l0_3 l0_4)=some r:=by rw[if_neg (show ¬ (false=true) by decide)] at H;exact H
    clear H
    have H:=H1
    clear H1
    have H':=av H
    clear H
    have hcz17_0:wc.cell? ⟨gb187,0,none⟩=some (.int .i64 a0_0):=(ag BK187.out 0).trans rfl
    have hcz17_1:wc.cell? ⟨gb187,1,none⟩=some (.int .i64 a0_1):=(ag BK187.out 1).trans rfl
    have hcz17_2:wc.cell? ⟨gb187,2,none⟩=some (.slice A0_2 l0_2.length c0_2):=(ag BK187.out 2).trans rfl
    have hcz17_3:wc.cell? ⟨gb187,3,none⟩=some (.slice A0_3 l0_3.length c0_3):=(ag BK187.out 3).trans rfl
    have hcz17_4:wc.cell? ⟨gb187,4,none⟩=some (.slice A0_4 l0_4.length c0_4):=(ag BK187.out 4).trans rfl
    have hfz17_0:=ah BK187.out 0
    have hfz17_1:=ah BK187.out 1
    have hfz17_2:=ah BK187.out 2
    have hfz17_3:=ah BK187.out 3
    have hfz17_4:=ah BK187.out 4
    go_wp2
    go_loopg [29] kj1 (fun kq v29 w'=>∃ (x29_2:Int),v29 = .int .i64 x29_2∧Aside0 (spec_GoodSystem.l0 kq l0_4 (l0_4.length:Int) x29_2 a0_0 a0_1 l0_2 l0_3 l0_4=some r)∧Aside0 (kq≤kj1)∧Aside0 (w'.heap[gb187]? = some (.cells #[.int .i64 a0_0,.int .i64 a0_1,(.slice A0_2 l0_2.length c0_2),(.slice A0_3 l0_3.length c0_3),(.slice A0_4 l0_4.length c0_4)] 35 (0,0)))∧Aside0 (Below w.heap.size w w'))
    case atStart=>exact⟨(0),(by first|rfl|(simp;done)|(simp[*];done)),H',⟨Nat.le_refl _⟩,⟨by(with_reducible repeat(first|apply aj|apply au|apply ak));exact BK187.out⟩,⟨by with_reducible repeat(first|exact HB.out|apply af|apply aa|apply ae|refine ai ?_ GE187.out)⟩⟩
    case round =>
     clear H'
     try clear c1
     try clear p2
     try clear c5
     try clear c7
     try clear c11
     try clear c16
     try clear hcz10_0
     try clear hcz10_1
     try clear hcz10_2
     try clear hcz10_3
     try clear hcz10_4
     try clear hcz11_0
     try clear hcz11_1
     try clear hcz11_2
     try clear hcz11_3
     try clear hcz11_4
     try clear hcz13_0
     try clear hcz13_1
     try clear hcz13_2
     try clear hcz13_3
     try clear hcz13_4
     try clear hcz14_0
     try clear hcz14_1
     try clear hcz14_2
     try clear hcz14_3
     try clear hcz14_4
     try clear hcz17_0
     try clear hcz17_1
     try clear hcz17_2
     try clear hcz17_3
     try clear hcz17_4
     try clear hcz8_0
     try clear hcz8_1
     try clear hcz8_2
     try clear hcz8_3
     try clear hcz8_4
     try clear hfz10_0
     try clear hfz10_1
     try clear hfz10_2
     try clear hfz10_3
     try clear hfz10_4
     try clear hfz11_0
     try clear hfz11_1
     try clear hfz11_2
     try clear hfz11_3
     try clear hfz11_4
     try clear hfz13_0
     try clear hfz13_1
     try clear hfz13_2
     try clear hfz13_3
     try clear hfz13_4
     try clear hfz14_0
     try clear hfz14_1
     try clear hfz14_2
     try clear hfz14_3
     try clear hfz14_4
     try clear hfz17_0
     try clear hfz17_1
     try clear hfz17_2
     try clear hfz17_3
     try clear hfz17_4
     try clear hfz8_0
     try clear hfz8_1
     try clear hfz8_2
     try clear hfz8_3
     try clear hfz8_4
     try clear p2
     obtain⟨x29_2,rfl,HA,HK2,BK187,HB⟩:=hrel
     cases gk with
     | zero=>exact absurd HA.out (by simp[spec_GoodSystem.l0])
     | succ k2 =>
      have H:=HA.out
      clear HA
      simp only[spec_GoodSystem.l0] at H
      by_cases c18:x29_2 < (l0_4.length:Int)
      ·rw [if_pos c18] at H
       have c18b0:decide (x29_2 < (l0_4.length:Int))=true:=decide_eq_true c18
       clear c18
       by_cases c19:0≤x29_2
       ·rw [if_pos c19] at H
        have c19b0:decide (0≤x29_2)=true:=decide_eq_true c19
        clear c19
        by_cases c20:x29_2 < (l0_4.length:Int)
        ·rw [if_pos c20] at H
         have c20b0:decide (x29_2 < (l0_4.length:Int))=true:=decide_eq_true c20
         clear c20
         have HC21:=av H
         clear H
         have p190:0≤(x29_2:Int):=of_decide_eq_true (by assumption)
         have q190:x29_2 < (l0_4.length:Int):=of_decide_eq_true (by assumption)
         obtain⟨ad190,A190_2,c190_2,e190,hx190_0,hx190_1,hx190_2,hl190_2,hi190_2⟩:=dQ HR0_4.out x29_2 p190 q190
         cases e190
         replace hx190_0:=(HB.out.cell (World.block_lt_of_cell? w _ hx190_0)).trans hx190_0
         replace hx190_1:=(HB.out.cell (World.block_lt_of_cell? w _ hx190_1)).trans hx190_1
         replace hx190_2:=(HB.out.cell (World.block_lt_of_cell? w _ hx190_2)).trans hx190_2
         have HR190_2:=av hi190_2
         have HC190_2:=av hl190_2
         clear hi190_2 hl190_2
         replace p190:=eq_true p190
         replace q190:=eq_true q190
         go_upto_region 6 with(first|((with_reducible refine aJ (N:=4) rfl ?_);(try(refine bu (by rfl) ?_;dsimp only));refine aI ?hg (N:=4) ?hd (cs:=#[.string (⟨#[]⟩:ByteArray),.int .i64 0,.slice none 0 0]) (t:=47) ?hr ?_;(case hd=>rfl);(case hg=>rfl);(case hr=>first|(go_simp;done)|(go_simp;rfl));intro gb191 hg w22 hbox hb;have BK191:=av (hbox);have GW191:=av ((by rw[hg];exact(ay (by with_reducible repeat(first|exact HB.out|apply af|apply aa|apply ae|refine ai ?_ GE187.out))):w.heap.size≤gb191));have GE191:=av ((by rw[hg];exact(ay (by with_reducible repeat(first|exact HB.out|apply af|apply aa|apply ae|refine ai ?_ GE187.out))):w.heap.size≤gb191));replace HB:=av (aA (by with_reducible repeat(first|exact HB.out|apply af|apply aa|apply ae|refine ai ?_ GE187.out)) hb);have NB187_191:=av ((by rw[hg];exact Nat.ne_of_lt (aN (g:=gb187) (o:=.cells #[.int .i64 a0_0,.int .i64 a0_1,.slice A0_2 l0_2.length c0_2,.slice A0_3 l0_3.length c0_3,.slice (some ad190) l0_4.length c0_4] 35 (0,0)) (by(with_reducible repeat(first|apply aj|apply au|apply ak));exact BK187.out)):gb187≠gb191));have NB191_187:=av ((by rw[hg];exact Nat.ne_of_gt (aN (g:=gb187) (o:=.cells #[.int .i64 a0_0,.int .i64 a0_1,.slice A0_2 l0_2.length c0_2,.slice A0_3 l0_3.length c0_3,.slice (some ad190) l0_4.length c0_4] 35 (0,0)) (by(with_reducible repeat(first|apply aj|apply au|apply ak));exact BK187.out)):gb191≠gb187));replace BK187:=av (aG (g:=gb187) (o:=.cells #[.int .i64 a0_0,.int .i64 a0_1,.slice A0_2 l0_2.length c0_2,.slice A0_3 l0_3.length c0_3,.slice (some ad190) l0_4.length c0_4] 35 (0,0)) (by(with_reducible repeat(first|apply aj|apply au|apply ak));exact BK187.out) hb);clear hb hbox hg;have hnb23:=NB191_187.out;have hnc23:=NB187_191.out;have hcz24_0:w22.cell? ⟨gb191,0,none⟩=some (.string (⟨#[]⟩:ByteArray)):=(ag BK191.out 0).trans rfl;have hcz24_1:w22.cell? ⟨gb191,1,none⟩=some (.int .i64 0):=(ag BK191.out 1).trans rfl;have hcz24_2:w22.cell? ⟨gb191,2,none⟩=some (.slice none 0 0):=(ag BK191.out 2).trans rfl;have hfz24_0:=ah BK191.out 0;have hfz24_1:=ah BK191.out 1;have hfz24_2:=ah BK191.out 2))
         (try simp only[apu_])
         go_cut [65] (fun v65 wc=>∃ (kq:Nat) (x65_20:Bool),v65 = .bool x65_20∧Aside0 (spec_GoodSystem.j2 kq l0_4 (l0_4.length:Int) x29_2 x65_20 a0_0 a0_1 l0_2 l0_3 l0_4 ((az l0_4 x29_2).f0) ((az l0_4 x29_2).f1) ((az l0_4 x29_2).f2.f0)=some r)∧Aside0 (kq≤k2)∧Aside0 (wc.heap[gb187]? = some (.cells #[.int .i64 a0_0,.int .i64 a0_1,(.slice A0_2 l0_2.length c0_2),(.slice A0_3 l0_3.length c0_3),(.slice (some ad190) l0_4.length c0_4)] 35 (0,0)))∧Aside0 (wc.heap[gb191]? = some (.cells #[.string ((az l0_4 x29_2).f0),.int .i64 ((az l0_4 x29_2).f1),(.slice A190_2 ((az l0_4 x29_2).f2.f0).length c190_2)] 47 (0,0)))∧Aside0 (Below w.heap.size w wc))
         case first =>
          have H:=HC21.out
          clear HC21
          replace H:=Option.bind_eq_some_iff.mp H
          obtain⟨t192,A250,H⟩:=H
          replace H:(if t192=true then (if x29_2 > 0 then (if 0≤(wrap64 (x29_2 - 1)) then (if (wrap64 (x29_2 - 1)) < (l0_4.length:Int) then (if ((Op.bytesLess (((az l0_4 (wrap64 (x29_2 - 1))).f0).toList) (((az l0_4 x29_2).f0).toList))=true) then ((spec_l1In.f ((az l0_4 x29_2).f1) 0 200).bind fun t194=>(if t194=true then ((spec_GoodMap.f k2 ((az l0_4 x29_2).f2.f0)).bind fun t195=>(spec_GoodSystem.j2 k2 l0_4 (l0_4.length:Int) x29_2 (!t195) a0_0 a0_1 l0_2 l0_3 l0_4 ((az l0_4 x29_2).f0) ((az l0_4 x29_2).f1) ((az l0_4 x29_2).f2.f0))) else (spec_GoodSystem.j2 k2 l0_4 (l0_4.length:Int) x29_2 true a0_0 a0_1 l0_2 l0_3 l0_4 ((az l0_4 x29_2).f0) ((az l0_4 x29_2).f1) ((az l0_4 x29_2).f2.f0)))) else (spec_GoodSystem.j2 k2 l0_4 (l0_4.length:Int) x29_2 true a0_0 a0_1 l0_2 l0_3 l0_4 ((az l0_4 x29_2).f0) ((az l0_4 x29_2).f1) ((az l0_4 x29_2).f2.f0))) else (none)) else (none)) else ((spec_l1In.f ((az l0_4 x29_2).f1) 0 200).bind fun t196=>(if t196=true then ((spec_GoodMap.f k2 ((az l0_4 x29_2).f2.f0)).bind fun t197=>(spec_GoodSystem.j2 k2 l0_4 (l0_4.length:Int) x29_2 (!t197) a0_0 a0_1 l0_2 l0_3 l0_4 ((az l0_4 x29_2).f0) ((az l0_4 x29_2).f1) ((az l0_4 x29_2).f2.f0))) else (spec_GoodSystem.j2 k2 l0_4 (l0_4.length:Int) x29_2 true a0_0 a0_1 l0_2 l0_3 l0_4 ((az l0_4 x29_2).f0) ((az l0_4 x29_2).f1) ((az l0_4 x29_2).f2.f0))))) else (spec_GoodSystem.j2 k2 l0_4 (l0_4.length:Int) x29_2 true a0_0 a0_1 l0_2 l0_3 l0_4 ((az l0_4 x29_2).f0) ((az l0_4 x29_2).f1) ((az l0_4 x29_2).f2.f0)))=some r:=H
          have A25:=av A250
          clear A250
          by_cases c26:t192=true
          ·subst c26
           have H1:(if x29_2 > 0 then (if 0≤(wrap64 (x29_2 - 1)) then (if (wrap64 (x29_2 - 1)) < (l0_4.length:Int) then (if ((Op.bytesLess (((az l0_4 (wrap64 (x29_2 - 1))).f0).toList) (((az l0_4 x29_2).f0).toList))=true) then ((spec_l1In.f ((az l0_4 x29_2).f1) 0 200).bind fun t194=>(if t194=true then ((spec_GoodMap.f k2 ((az l0_4 x29_2).f2.f0)).bind fun t195=>(spec_GoodSystem.j2 k2 l0_4 (l0_4.length:Int) x29_2 (!t195) a0_0 a0_1 l0_2 l0_3 l0_4 ((az l0_4 x29_2).f0) ((az l0_4 x29_2).f1) ((az l0_4 x29_2).f2.f0))) else (spec_GoodSystem.j2 k2 l0_4 (l0_4.length:Int) x29_2 true a0_0 a0_1 l0_2 l0_3 l0_4 ((az l0_4 x29_2).f0) ((az l0_4 x29_2).f1) ((az l0_4 x29_2).f2.f0)))) else (spec_GoodSystem.j2 k2 l0_4 (l0_4.length:Int) x29_2 true a0_0 a0_1 l0_2 l0_3 l0_4 ((az l0_4 x29_2).f0) ((az l0_4 x29_2).f1) ((az l0_4 x29_2).f2.f0))) else (none)) else (none)) else ((spec_l1In.f ((az l0_4 x29_2).f1) 0 200).bind fun t196=>(if t196=true then ((spec_GoodMap.f k2 ((az l0_4 x29_2).f2.f0)).bind fun t197=>(spec_GoodSystem.j2 k2 l0_4 (l0_4.length:Int) x29_2 (!t197) a0_0 a0_1 l0_2 l0_3 l0_4 ((az l0_4 x29_2).f0) ((az l0_4 x29_2).f1) ((az l0_4 x29_2).f2.f0))) else (spec_GoodSystem.j2 k2 l0_4 (l0_4.length:Int) x29_2 true a0_0 a0_1 l0_2 l0_3 l0_4 ((az l0_4 x29_2).f0) ((az l0_4 x29_2).f1) ((az l0_4 x29_2).f2.f0)))))=some r:=by rw[if_pos rfl] at H;exact H
           clear H
           have H:=H1
           clear H1
           by_cases c27:x29_2 > 0
           ·rw [if_pos c27] at H
            have c27b0:decide (0<x29_2)=true:=decide_eq_true c27
            clear c27
            (first|rw[c27b0]|(simp only[fo,iW];rw[c27b0])|skip)
            obtain⟨ji28,hji28⟩:∃ j_:Int,(wrap64 (x29_2 - 1))=j_:=⟨_,rfl⟩
            replace H:(if 0≤(ji28) then (if (ji28) < (l0_4.length:Int) then (if ((Op.bytesLess (((az l0_4 (ji28)).f0).toList) (((az l0_4 x29_2).f0).toList))=true) then ((spec_l1In.f ((az l0_4 x29_2).f1) 0 200).bind fun t194=>(if t194=true then ((spec_GoodMap.f k2 ((az l0_4 x29_2).f2.f0)).bind fun t195=>(spec_GoodSystem.j2 k2 l0_4 (l0_4.length:Int) x29_2 (!t195) a0_0 a0_1 l0_2 l0_3 l0_4 ((az l0_4 x29_2).f0) ((az l0_4 x29_2).f1) ((az l0_4 x29_2).f2.f0))) else (spec_GoodSystem.j2 k2 l0_4 (l0_4.length:Int) x29_2 true a0_0 a0_1 l0_2 l0_3 l0_4 ((az l0_4 x29_2).f0) ((az l0_4 x29_2).f1) ((az l0_4 x29_2).f2.f0)))) else (spec_GoodSystem.j2 k2 l0_4 (l0_4.length:Int) x29_2 true a0_0 a0_1 l0_2 l0_3 l0_4 ((az l0_4 x29_2).f0) ((az l0_4 x29_2).f1) ((az l0_4 x29_2).f2.f0))) else (none)) else (none))=some r:=by first|(rw[hji28] at H;exact H)|(simp only[hji28] at H ⊢;exact H)
            (try rw[hji28] at A25)
            have hji28w:(IntKind.i64.wrap (x29_2 - 1))=ji28:=(fo _).trans hji28
            by_cases c29:0≤(ji28)
            ·rw [if_pos c29] at H
             have c29b0:decide (0≤(ji28))=true:=decide_eq_true c29
             clear c29
             by_cases c30:(ji28) < (l0_4.length:Int)
             ·rw [if_pos c30] at H
              have c30b0:decide ((ji28) < (l0_4.length:Int))=true:=decide_eq_true c30
              clear c30
              by_cases c31:((Op.bytesLess (((az l0_4 (ji28)).f0).toList) (((az l0_4 x29_2).f0).toList))=true)
              ·rw[if_pos c31] at H
               have c31b0:(Op.bytesLess (((az l0_4 (ji28)).f0).toList) (((az l0_4 x29_2).f0).toList))=true:=c31
               clear c31
               replace H:=Option.bind_eq_some_iff.mp H
               obtain⟨t194,A320,H⟩:=H
               replace H:(if t194=true then ((spec_GoodMap.f k2 ((az l0_4 x29_2).f2.f0)).bind fun t195=>(spec_GoodSystem.j2 k2 l0_4 (l0_4.length:Int) x29_2 (!t195) a0_0 a0_1 l0_2 l0_3 l0_4 ((az l0_4 x29_2).f0) ((az l0_4 x29_2).f1) ((az l0_4 x29_2).f2.f0))) else (spec_GoodSystem.j2 k2 l0_4 (l0_4.length:Int) x29_2 true a0_0 a0_1 l0_2 l0_3 l0_4 ((az l0_4 x29_2).f0) ((az l0_4 x29_2).f1) ((az l0_4 x29_2).f2.f0)))=some r:=H
               have A32:=av A320
               clear A320
               by_cases c33:t194=true
               ·subst c33
                have H1:((spec_GoodMap.f k2 ((az l0_4 x29_2).f2.f0)).bind fun t195=>(spec_GoodSystem.j2 k2 l0_4 (l0_4.length:Int) x29_2 (!t195) a0_0 a0_1 l0_2 l0_3 l0_4 ((az l0_4 x29_2).f0) ((az l0_4 x29_2).f1) ((az l0_4 x29_2).f2.f0)))=some r:=by rw[if_pos rfl] at H;exact H
                clear H
                have H:=H1
                clear H1
                replace H:=Option.bind_eq_some_iff.mp H
                obtain⟨t195,A340,H⟩:=H
                replace H:(spec_GoodSystem.j2 k2 l0_4 (l0_4.length:Int) x29_2 (!t195) a0_0 a0_1 l0_2 l0_3 l0_4 ((az l0_4 x29_2).f0) ((az l0_4 x29_2).f1) ((az l0_4 x29_2).f2.f0))=some r:=H
                have A34:=av A340
                clear A340
                have H':=av H
                clear H
                try go_wp2
                have n0_:Aside0 ((((w22.setCell ⟨gb191,0,none⟩ (.string ((az l0_4 x29_2).f0))).setCell ⟨gb191,1,none⟩ (.int .i64 ((az l0_4 x29_2).f1))).setCell ⟨gb191,2,none⟩ (.slice A190_2 ((az l0_4 x29_2).f2.f0).length c190_2)).heap[gb187]? = some (.cells #[.int .i64 a0_0,.int .i64 a0_1,.slice A0_2 l0_2.length c0_2,.slice A0_3 l0_3.length c0_3,.slice (some ad190) l0_4.length c0_4] 35 (0,0))):=⟨by(with_reducible repeat(first|apply aj|apply au|apply ak));refine aU ?_ NB187_191.out _;(with_reducible repeat(first|apply aj|apply au|apply ak));refine aU ?_ NB187_191.out _;(with_reducible repeat(first|apply aj|apply au|apply ak));refine aU ?_ NB187_191.out _;(with_reducible repeat(first|apply aj|apply au|apply ak));exact BK187.out⟩
                have n1_:Aside0 ((((w22.setCell ⟨gb191,0,none⟩ (.string ((az l0_4 x29_2).f0))).setCell ⟨gb191,1,none⟩ (.int .i64 ((az l0_4 x29_2).f1))).setCell ⟨gb191,2,none⟩ (.slice A190_2 ((az l0_4 x29_2).f2.f0).length c190_2)).heap[gb191]? = some (.cells #[.string ((az l0_4 x29_2).f0),.int .i64 ((az l0_4 x29_2).f1),.slice A190_2 ((az l0_4 x29_2).f2.f0).length c190_2] 47 (0,0))):=⟨by(with_reducible repeat(first|apply aj|apply au|apply ak));refine aX (cs:=#[.string ((az l0_4 x29_2).f0),.int .i64 ((az l0_4 x29_2).f1),.slice none 0 0]) ?_ 2 _ rfl;(with_reducible repeat(first|apply aj|apply au|apply ak));refine aX (cs:=#[.string ((az l0_4 x29_2).f0),.int .i64 0,.slice none 0 0]) ?_ 1 _ rfl;(with_reducible repeat(first|apply aj|apply au|apply ak));refine aX (cs:=#[.string (⟨#[]⟩:ByteArray),.int .i64 0,.slice none 0 0]) ?_ 0 _ rfl;(with_reducible repeat(first|apply aj|apply au|apply ak));exact BK191.out⟩
                have n2_:Aside0 (Below w.heap.size w (((w22.setCell ⟨gb191,0,none⟩ (.string ((az l0_4 x29_2).f0))).setCell ⟨gb191,1,none⟩ (.int .i64 ((az l0_4 x29_2).f1))).setCell ⟨gb191,2,none⟩ (.slice A190_2 ((az l0_4 x29_2).f2.f0).length c190_2))):=⟨by with_reducible repeat(first|exact HB.out|apply af|apply aa|apply ae|refine ai ?_ GE187.out|refine ai ?_ GE191.out)⟩
                (try clear BK187)
                (try clear BK191)
                (try clear HB)
                generalize (((w22.setCell ⟨gb191,0,none⟩ (.string ((az l0_4 x29_2).f0))).setCell ⟨gb191,1,none⟩ (.int .i64 ((az l0_4 x29_2).f1))).setCell ⟨gb191,2,none⟩ (.slice A190_2 ((az l0_4 x29_2).f2.f0).length c190_2))=w35 at n0_ n1_ n2_ ⊢
                have BK187:=n0_
                have BK191:=n1_
                have HB:=n2_
                clear n0_ n1_ n2_
                have n0_:=av (au BK187.out)
                have n1_:=av (au BK191.out)
                have n2_:=av (ae HB.out)
                clear BK187
                clear BK191
                clear HB
                have BK187:=n0_
                have BK191:=n1_
                have HB:=n2_
                clear n0_ n1_ n2_
                have p193:0≤((ji28):Int):=of_decide_eq_true (by assumption)
                have q193:(ji28) < (l0_4.length:Int):=of_decide_eq_true (by assumption)
                obtain⟨ad193,A193_2,c193_2,e193,hx193_0,hx193_1,hx193_2,hl193_2,hi193_2⟩:=dQ HR0_4.out (ji28) p193 q193
                have hw193_2:=hx193_2
                have hw193_1:=hx193_1
                have hw193_0:=hx193_0
                obtain rfl:ad190=ad193:=(by injection e193)
                replace hx193_0:=(HB.out.cell (World.block_lt_of_cell? w _ hx193_0)).trans hx193_0
                replace hx193_1:=(HB.out.cell (World.block_lt_of_cell? w _ hx193_1)).trans hx193_1
                replace hx193_2:=(HB.out.cell (World.block_lt_of_cell? w _ hx193_2)).trans hx193_2
                have HR193_2:=av hi193_2
                have HC193_2:=av hl193_2
                clear hi193_2 hl193_2
                replace p193:=eq_true p193
                replace q193:=eq_true q193
                refine bJ (n:=32) (S:=fun w'=>w'.cell? ⟨gb191,0,none⟩=some (.string ((az l0_4 x29_2).f0))∧w'.cell? ⟨gb191,1,none⟩=some (.int .i64 ((az l0_4 x29_2).f1))∧w'.cell? ⟨gb191,2,none⟩=some (.slice A190_2 ((az l0_4 x29_2).f2.f0).length c190_2)∧w'.cell? ⟨gb187,0,none⟩=some (.int .i64 a0_0)∧w'.cell? ⟨gb187,1,none⟩=some (.int .i64 a0_1)∧w'.cell? ⟨gb187,2,none⟩=some (.slice A0_2 l0_2.length c0_2)∧w'.cell? ⟨gb187,3,none⟩=some (.slice A0_3 l0_3.length c0_3)∧w'.cell? ⟨gb187,4,none⟩=some (.slice (some ad190) l0_4.length c0_4)∧w'.cell? (ad190.add (((ji28)).toNat*3))=some (.string ((az l0_4 (ji28)).f0))∧w'.cell? ⟨(ad190.add (((ji28)).toNat*3)).block,(ad190.add (((ji28)).toNat*3)).off+1,none⟩=some (.int .i64 ((az l0_4 (ji28)).f1))∧w'.cell? ⟨(ad190.add (((ji28)).toNat*3)).block,(ad190.add (((ji28)).toNat*3)).off+2,none⟩=some (.slice A193_2 ((az l0_4 (ji28)).f2.f0).length c193_2)) (ds:=[]) #[false,false,false,false,false,false,false,false,false,false,false,false,false,false,false,false,false,false,false,false,false,false,false,false,false,false,false,false,false,false,false,false] (by kernel_rfl) rfl rfl ⟨(ag BK191.out 0).trans rfl,(ag BK191.out 1).trans rfl,(ag BK191.out 2).trans rfl,(ag BK187.out 0).trans rfl,(ag BK187.out 1).trans rfl,(ag BK187.out 2).trans rfl,(ag BK187.out 3).trans rfl,(ag BK187.out 4).trans rfl,((HB.out.cell (World.block_lt_of_cell? w _ hw193_0)).trans hw193_0),((HB.out.cell (World.block_lt_of_cell? w _ hw193_1)).trans hw193_1),((HB.out.cell (World.block_lt_of_cell? w _ hw193_2)).trans hw193_2)⟩ (fun hHeld=>?_);refine bz spec_GoodSystem.tab6 spec_GoodSystem.bits6 (fun HT_ HW_=>?_)
                generalize w35.drew=w36 at BK187 BK191 HB HR193_2 hx193_0 hx193_1 hx193_2 hHeld ⊢
                refine aD (i:=0) (N:=some 34) (v:=?_) (a':=?_) #[true,false,false,false,false,false,false,false,false,false,false,false,false,false,false,false,false,false,false,false,false,false,false,false,false,false,false,false,false,false,false,false] rfl rfl (aC HT_.out (by kernel_rfl)) (fun _ _ _ h=>h) (Or.inl ⟨by rfl,?_⟩) ?_ ?_
                rotate_left
                ·intro w'
                 go_simp
                 with_reducible rfl
                rotate_left
                ·simp only[apu_]
                 rfl
                refine aZ (i:=1) (N:=some 35) (v:=?_) (a':=?_) #[true,true,false,false,false,false,false,false,false,false,false,false,false,false,false,false,false,false,false,false,false,false,false,false,false,false,false,false,false,false,false,false] rfl rfl (aT HT_.out HW_.out (by kernel_rfl)) (fun _ _ _ h=>h) (Or.inl ⟨by rfl,?_⟩) hHeld ?_ ?_
                rotate_left
                ·rintro w' ⟨s0,s1,s2,s3,s4,s5,s6,s7,s8,s9,s10⟩
                 go_simp
                 with_reducible rfl
                rotate_left
                ·simp only[apu_]
                 rfl
                refine di (i:=2) (N:=some 36) #[true,true,true,false,false,false,false,false,false,false,false,false,false,false,false,false,false,false,false,false,false,false,false,false,false,false,false,false,false,false,false,false] rfl rfl (bW HT_.out (by kernel_rfl)) (by decide) (fun K hK=>?_)
                refine bU Tryd.func13 (by kernel_rfl) rfl #[.string ((az l0_4 x29_2).f0)] (by rfl) rfl rfl (by(try simp only[amp_]);first|done|rfl|(simp only[ald_];rfl)) ?_
                with_reducible refine(spec_l8Name.calls k2 ((az l0_4 x29_2).f0) true _ A25.out).mono ?_
                rintro e w' ⟨rfl,⟨nd,rfl⟩⟩
                refine⟨_,rfl,?_⟩
                refine hK.out _ _ ⟨(ag BK191.out 0).trans rfl,(ag BK191.out 1).trans rfl,(ag BK191.out 2).trans rfl,(ag BK187.out 0).trans rfl,(ag BK187.out 1).trans rfl,(ag BK187.out 2).trans rfl,(ag BK187.out 3).trans rfl,(ag BK187.out 4).trans rfl,((HB.out.cell (World.block_lt_of_cell? w _ hw193_0)).trans hw193_0),((HB.out.cell (World.block_lt_of_cell? w _ hw193_1)).trans hw193_1),((HB.out.cell (World.block_lt_of_cell? w _ hw193_2)).trans hw193_2)⟩ (fun hHeld=>?_)
                clear hK K
                refine bS (a':=?_) ?_ ?_
                rotate_left
                ·show Act.put _ (some 36) _=_
                 simp only[apu_]
                 rfl
                refine aD (i:=3) (N:=some 37) (v:=?_) (a':=?_) #[true,true,true,true,false,false,false,false,false,false,false,false,false,false,false,false,false,false,false,false,false,false,false,false,false,false,false,false,false,false,false,false] rfl rfl (aC HT_.out (by kernel_rfl)) (fun _ _ _ h=>h) (Or.inl ⟨by rfl,?_⟩) ?_ ?_
                rotate_left
                ·intro w'
                 go_simp
                 with_reducible rfl
                rotate_left
                ·simp only[apu_]
                 rfl
                refine aD (i:=4) (N:=some 38) (v:=?_) (a':=?_) #[true,true,true,true,true,false,false,false,false,false,false,false,false,false,false,false,false,false,false,false,false,false,false,false,false,false,false,false,false,false,false,false] rfl rfl (aC HT_.out (by kernel_rfl)) (fun _ _ _ h=>h) (Or.inl ⟨by rfl,?_⟩) ?_ ?_
                rotate_left
                ·intro w'
                 go_simp
                 with_reducible rfl
                rotate_left
                ·simp only[apu_]
                 rfl
                refine aD (i:=5) (N:=some 39) (v:=?_) (a':=?_) #[true,true,true,true,true,true,false,false,false,false,false,false,false,false,false,false,false,false,false,false,false,false,false,false,false,false,false,false,false,false,false,false] rfl rfl (aC HT_.out (by kernel_rfl)) (fun _ _ _ h=>h) (Or.inl ⟨by rfl,?_⟩) ?_ ?_
                rotate_left
                ·intro w'
                 go_simp
                 with_reducible rfl
                rotate_left
                ·simp only[apu_]
                 rfl
                refine aD (i:=6) (N:=some 40) (v:=?_) (a':=?_) #[true,true,true,true,true,true,true,false,false,false,false,false,false,false,false,false,false,false,false,false,false,false,false,false,false,false,false,false,false,false,false,false] rfl rfl (aC HT_.out (by kernel_rfl)) (fun _ _ _ h=>h) (Or.inl ⟨by rfl,?_⟩) ?_ ?_
                rotate_left
                ·intro w'
                 go_simp
                 with_reducible rfl
                rotate_left
                ·simp only[apu_]
                 rfl
                refine aD (i:=7) (N:=some 41) (v:=?_) (a':=?_) #[true,true,true,true,true,true,true,true,false,false,false,false,false,false,false,false,false,false,false,false,false,false,false,false,false,false,false,false,false,false,false,false] rfl rfl (aC HT_.out (by kernel_rfl)) (fun _ _ _ h=>h) (Or.inl ⟨by rfl,?_⟩) ?_ ?_
                rotate_left
                ·intro w'
                 go_simp
                 with_reducible rfl
                rotate_left
                ·simp only[apu_]
                 rfl
                refine aD (i:=8) (N:=some 42) (v:=?_) (a':=?_) #[true,true,true,true,true,true,true,true,true,false,false,false,false,false,false,false,false,false,false,false,false,false,false,false,false,false,false,false,false,false,false,false] rfl rfl (aC HT_.out (by kernel_rfl)) (fun _ _ _ h=>h) (Or.inl ⟨by rfl,?_⟩) ?_ ?_
                rotate_left
                ·intro w'
                 go_simp
                 with_reducible rfl
                rotate_left
                ·simp only[apu_]
                 rfl
                refine aD (i:=10) (N:=some 44) (v:=?_) (a':=?_) #[true,true,true,true,true,true,true,true,true,false,true,false,false,false,false,false,false,false,false,false,false,false,false,false,false,false,false,false,false,false,false,false] rfl rfl (aC HT_.out (by kernel_rfl)) (fun _ _ _ h=>h) (Or.inl ⟨by rfl,?_⟩) ?_ ?_
                rotate_left
                ·intro w'
                 go_simp
                 with_reducible rfl
                rotate_left
                ·simp only[apu_]
                 rfl
                refine aD (i:=11) (N:=some 45) (v:=?_) (a':=?_) #[true,true,true,true,true,true,true,true,true,false,true,true,false,false,false,false,false,false,false,false,false,false,false,false,false,false,false,false,false,false,false,false] rfl rfl (aC HT_.out (by kernel_rfl)) (fun _ _ _ h=>h) (Or.inl ⟨by rfl,?_⟩) ?_ ?_
                rotate_left
                ·intro w'
                 go_simp
                 with_reducible rfl
                rotate_left
                ·simp only[apu_]
                 rfl
                refine aD (i:=15) (N:=some 49) (v:=?_) (a':=?_) #[true,true,true,true,true,true,true,true,true,false,true,true,false,false,false,true,false,false,false,false,false,false,false,false,false,false,false,false,false,false,false,false] rfl rfl (aC HT_.out (by kernel_rfl)) (fun _ _ _ h=>h) (Or.inl ⟨by rfl,?_⟩) ?_ ?_
                rotate_left
                ·intro w'
                 go_simp
                 with_reducible rfl
                rotate_left
                ·simp only[apu_]
                 rfl
                refine aZ (i:=9) (N:=some 43) (v:=?_) (a':=?_) #[true,true,true,true,true,true,true,true,true,true,true,true,false,false,false,true,false,false,false,false,false,false,false,false,false,false,false,false,false,false,false,false] rfl rfl (aT HT_.out HW_.out (by kernel_rfl)) (fun _ _ _ h=>h) (Or.inl ⟨by rfl,?_⟩) hHeld ?_ ?_
                rotate_left
                ·rintro w' ⟨s0,s1,s2,s3,s4,s5,s6,s7,s8,s9,s10⟩
                 go_simp
                 with_reducible rfl
                rotate_left
                ·simp only[apu_]
                 rfl
                refine aD (i:=12) (N:=some 46) (v:=?_) (a':=?_) #[true,true,true,true,true,true,true,true,true,true,true,true,true,false,false,true,false,false,false,false,false,false,false,false,false,false,false,false,false,false,false,false] rfl rfl (aC HT_.out (by kernel_rfl)) (fun _ _ _ h=>h) (Or.inl ⟨by rfl,?_⟩) ?_ ?_
                rotate_left
                ·intro w'
                 go_simp
                 with_reducible rfl
                rotate_left
                ·simp only[apu_]
                 rfl
                refine aD (i:=13) (N:=some 47) (v:=?_) (a':=?_) #[true,true,true,true,true,true,true,true,true,true,true,true,true,true,false,true,false,false,false,false,false,false,false,false,false,false,false,false,false,false,false,false] rfl rfl (aC HT_.out (by kernel_rfl)) (fun _ _ _ h=>h) (Or.inl ⟨by rfl,?_⟩) ?_ ?_
                rotate_left
                ·intro w'
                 go_simp
                 with_reducible rfl
                rotate_left
                ·simp only[apu_]
                 rfl
                refine aZ (i:=14) (N:=some 48) (v:=?_) (a':=?_) #[true,true,true,true,true,true,true,true,true,true,true,true,true,true,true,true,false,false,false,false,false,false,false,false,false,false,false,false,false,false,false,false] rfl rfl (aT HT_.out HW_.out (by kernel_rfl)) (fun _ _ _ h=>h) (Or.inl ⟨by rfl,?_⟩) hHeld ?_ ?_
                rotate_left
                ·rintro w' ⟨s0,s1,s2,s3,s4,s5,s6,s7,s8,s9,s10⟩
                 go_simp
                 with_reducible rfl
                rotate_left
                ·simp only[apu_]
                 rfl
                refine aZ (i:=16) (N:=some 50) (v:=?_) (a':=?_) #[true,true,true,true,true,true,true,true,true,true,true,true,true,true,true,true,true,false,false,false,false,false,false,false,false,false,false,false,false,false,false,false] rfl rfl (aT HT_.out HW_.out (by kernel_rfl)) (fun _ _ _ h=>h) (Or.inl ⟨by rfl,?_⟩) hHeld ?_ ?_
                rotate_left
                ·rintro w' ⟨s0,s1,s2,s3,s4,s5,s6,s7,s8,s9,s10⟩
                 go_simp
                 with_reducible rfl
                rotate_left
                ·simp only[apu_]
                 rfl
                refine aD (i:=17) (N:=some 51) (v:=?_) (a':=?_) #[true,true,true,true,true,true,true,true,true,true,true,true,true,true,true,true,true,true,false,false,false,false,false,false,false,false,false,false,false,false,false,false] rfl rfl (aC HT_.out (by kernel_rfl)) (fun _ _ _ h=>h) (Or.inl ⟨by rfl,?_⟩) ?_ ?_
                rotate_left
                ·intro w'
                 go_simp
                 with_reducible rfl
                rotate_left
                ·simp only[apu_]
                 rfl
                refine aD (i:=18) (N:=some 52) (v:=?_) (a':=?_) #[true,true,true,true,true,true,true,true,true,true,true,true,true,true,true,true,true,true,true,false,false,false,false,false,false,false,false,false,false,false,false,false] rfl rfl (aC HT_.out (by kernel_rfl)) (fun _ _ _ h=>h) (Or.inl ⟨by rfl,?_⟩) ?_ ?_
                rotate_left
                ·intro w'
                 go_simp
                 with_reducible rfl
                rotate_left
                ·simp only[apu_]
                 rfl
                refine aD (i:=19) (N:=some 53) (v:=?_) (a':=?_) #[true,true,true,true,true,true,true,true,true,true,true,true,true,true,true,true,true,true,true,true,false,false,false,false,false,false,false,false,false,false,false,false] rfl rfl (aC HT_.out (by kernel_rfl)) (fun _ _ _ h=>h) (Or.inl ⟨by rfl,?_⟩) ?_ ?_
                rotate_left
                ·intro w'
                 go_simp
                 with_reducible rfl
                rotate_left
                ·simp only[apu_]
                 rfl
                refine aD (i:=20) (N:=some 54) (v:=?_) (a':=?_) #[true,true,true,true,true,true,true,true,true,true,true,true,true,true,true,true,true,true,true,true,true,false,false,false,false,false,false,false,false,false,false,false] rfl rfl (aC HT_.out (by kernel_rfl)) (fun _ _ _ h=>h) (Or.inl ⟨by rfl,?_⟩) ?_ ?_
                rotate_left
                ·intro w'
                 go_simp
                 with_reducible rfl
                rotate_left
                ·simp only[apu_]
                 rfl
                refine aD (i:=21) (N:=some 55) (v:=?_) (a':=?_) #[true,true,true,true,true,true,true,true,true,true,true,true,true,true,true,true,true,true,true,true,true,true,false,false,false,false,false,false,false,false,false,false] rfl rfl (aC HT_.out (by kernel_rfl)) (fun _ _ _ h=>h) (Or.inl ⟨by rfl,?_⟩) ?_ ?_
                rotate_left
                ·intro w'
                 go_simp
                 with_reducible rfl
                rotate_left
                ·simp only[apu_]
                 rfl
                refine aZ (i:=22) (N:=some 56) (v:=?_) (a':=?_) #[true,true,true,true,true,true,true,true,true,true,true,true,true,true,true,true,true,true,true,true,true,true,true,false,false,false,false,false,false,false,false,false] rfl rfl (aT HT_.out HW_.out (by kernel_rfl)) (fun _ _ _ h=>h) (Or.inl ⟨by rfl,?_⟩) hHeld ?_ ?_
                rotate_left
                ·rintro w' ⟨s0,s1,s2,s3,s4,s5,s6,s7,s8,s9,s10⟩
                 go_simp
                 with_reducible rfl
                rotate_left
                ·simp only[apu_]
                 rfl
                refine di (i:=23) (N:=some 57) #[true,true,true,true,true,true,true,true,true,true,true,true,true,true,true,true,true,true,true,true,true,true,true,true,false,false,false,false,false,false,false,false] rfl rfl (bW HT_.out (by kernel_rfl)) (by decide) (fun K hK=>?_)
                refine bU Tryd.func12 (by kernel_rfl) rfl #[.int .i64 ((az l0_4 x29_2).f1),.int .i64 0,.int .i64 200] (by rfl) rfl rfl (by(try simp only[amp_]);first|done|rfl|(simp only[ald_];rfl)) ?_
                with_reducible refine(spec_l1In.calls ((az l0_4 x29_2).f1) 0 200 true _ A32.out).mono ?_
                rintro e w' ⟨rfl,⟨nd,rfl⟩⟩
                refine⟨_,rfl,?_⟩
                refine hK.out _ _ ⟨(ag BK191.out 0).trans rfl,(ag BK191.out 1).trans rfl,(ag BK191.out 2).trans rfl,(ag BK187.out 0).trans rfl,(ag BK187.out 1).trans rfl,(ag BK187.out 2).trans rfl,(ag BK187.out 3).trans rfl,(ag BK187.out 4).trans rfl,((HB.out.cell (World.block_lt_of_cell? w _ hw193_0)).trans hw193_0),((HB.out.cell (World.block_lt_of_cell? w _ hw193_1)).trans hw193_1),((HB.out.cell (World.block_lt_of_cell? w _ hw193_2)).trans hw193_2)⟩ (fun hHeld=>?_)
                clear hK K
                refine bS (a':=?_) ?_ ?_
                rotate_left
                ·show Act.put _ (some 57) _=_
                 simp only[apu_]
                 rfl
                refine aD (i:=24) (N:=some 58) (v:=?_) (a':=?_) #[true,true,true,true,true,true,true,true,true,true,true,true,true,true,true,true,true,true,true,true,true,true,true,true,true,false,false,false,false,false,false,false] rfl rfl (aC HT_.out (by kernel_rfl)) (fun _ _ _ h=>h) (Or.inl ⟨by rfl,?_⟩) ?_ ?_
                rotate_left
                ·intro w'
                 go_simp
                 with_reducible rfl
                rotate_left
                ·simp only[apu_]
                 rfl
                refine aD (i:=25) (N:=some 59) (v:=?_) (a':=?_) #[true,true,true,true,true,true,true,true,true,true,true,true,true,true,true,true,true,true,true,true,true,true,true,true,true,true,false,false,false,false,false,false] rfl rfl (aC HT_.out (by kernel_rfl)) (fun _ _ _ h=>h) (Or.inl ⟨by rfl,?_⟩) ?_ ?_
                rotate_left
                ·intro w'
                 go_simp
                 with_reducible rfl
                rotate_left
                ·simp only[apu_]
                 rfl
                refine aD (i:=26) (N:=some 60) (v:=?_) (a':=?_) #[true,true,true,true,true,true,true,true,true,true,true,true,true,true,true,true,true,true,true,true,true,true,true,true,true,true,true,false,false,false,false,false] rfl rfl (aC HT_.out (by kernel_rfl)) (fun _ _ _ h=>h) (Or.inl ⟨by rfl,?_⟩) ?_ ?_
                rotate_left
                ·intro w'
                 go_simp
                 with_reducible rfl
                rotate_left
                ·simp only[apu_]
                 rfl
                refine aD (i:=27) (N:=some 61) (v:=?_) (a':=?_) #[true,true,true,true,true,true,true,true,true,true,true,true,true,true,true,true,true,true,true,true,true,true,true,true,true,true,true,true,false,false,false,false] rfl rfl (aC HT_.out (by kernel_rfl)) (fun _ _ _ h=>h) (Or.inl ⟨by rfl,?_⟩) ?_ ?_
                rotate_left
                ·intro w'
                 go_simp
                 with_reducible rfl
                rotate_left
                ·simp only[apu_]
                 rfl
                refine aZ (i:=28) (N:=some 62) (v:=?_) (a':=?_) #[true,true,true,true,true,true,true,true,true,true,true,true,true,true,true,true,true,true,true,true,true,true,true,true,true,true,true,true,true,false,false,false] rfl rfl (aT HT_.out HW_.out (by kernel_rfl)) (fun _ _ _ h=>h) (Or.inl ⟨by rfl,?_⟩) hHeld ?_ ?_
                rotate_left
                ·rintro w' ⟨s0,s1,s2,s3,s4,s5,s6,s7,s8,s9,s10⟩
                 go_simp
                 with_reducible rfl
                rotate_left
                ·simp only[apu_]
                 rfl
                refine di (i:=29) (N:=some 63) #[true,true,true,true,true,true,true,true,true,true,true,true,true,true,true,true,true,true,true,true,true,true,true,true,true,true,true,true,true,true,false,false] rfl rfl (bW HT_.out (by kernel_rfl)) (by decide) (fun K hK=>?_)
                refine bU Tryd.func14 (by kernel_rfl) rfl #[.agg #[.slice A190_2 ((az l0_4 x29_2).f2.f0).length c190_2]] (by rfl) rfl rfl (by(try simp only[amp_]);first|done|rfl|(simp only[ald_];rfl)) ?_
                with_reducible refine(spec_GoodMap.calls k2 _ _ ((az l0_4 x29_2).f2.f0) t195 _ ?side1 ?side2 A34.out).mono ?_
                (case side1=>repeat(first|exact(Kd.aQ HR190_2.out (by with_reducible repeat(first|exact HB.out|apply af|apply aa|apply ae|refine ai ?_ GE187.out|refine ai ?_ GE191.out)))|(with_reducible first|apply Kd.aW|apply Kd.aV|apply Kd.aY)))
                (case side2=>exact HC190_2.out)
                rintro e w37 ⟨rfl,hb⟩
                refine⟨_,rfl,?_⟩
                have n0_:=av (aG (g:=gb187) (o:=.cells #[.int .i64 a0_0,.int .i64 a0_1,.slice A0_2 l0_2.length c0_2,.slice A0_3 l0_3.length c0_3,.slice (some ad190) l0_4.length c0_4] 35 (0,0)) (by(with_reducible repeat(first|apply aj|apply au|apply ak));exact BK187.out) hb)
                have n1_:=av (aG (g:=gb191) (o:=.cells #[.string ((az l0_4 x29_2).f0),.int .i64 ((az l0_4 x29_2).f1),.slice A190_2 ((az l0_4 x29_2).f2.f0).length c190_2] 47 (0,0)) (by(with_reducible repeat(first|apply aj|apply au|apply ak));exact BK191.out) hb)
                have n2_:=av (aA (by with_reducible repeat(first|exact HB.out|apply af|apply aa|apply ae|refine ai ?_ GE187.out|refine ai ?_ GE191.out)) hb)
                clear BK187
                clear BK191
                clear HB
                have BK187:=n0_
                have BK191:=n1_
                have HB:=n2_
                clear n0_ n1_ n2_
                (try clear hb)
                (try clear hb2)
                (try clear hk)
                (try clear hi)
                refine hK.out _ _ ⟨(ag BK191.out 0).trans rfl,(ag BK191.out 1).trans rfl,(ag BK191.out 2).trans rfl,(ag BK187.out 0).trans rfl,(ag BK187.out 1).trans rfl,(ag BK187.out 2).trans rfl,(ag BK187.out 3).trans rfl,(ag BK187.out 4).trans rfl,((HB.out.cell (World.block_lt_of_cell? w _ hw193_0)).trans hw193_0),((HB.out.cell (World.block_lt_of_cell? w _ hw193_1)).trans hw193_1),((HB.out.cell (World.block_lt_of_cell? w _ hw193_2)).trans hw193_2)⟩ (fun hHeld=>?_)
                clear hK K
                refine bS (a':=?_) ?_ ?_
                rotate_left
                ·show Act.put _ (some 63) _=_
                 simp only[apu_]
                 rfl
                refine aD (i:=30) (N:=some 64) (v:=?_) (a':=?_) #[true,true,true,true,true,true,true,true,true,true,true,true,true,true,true,true,true,true,true,true,true,true,true,true,true,true,true,true,true,true,true,false] rfl rfl (aC HT_.out (by kernel_rfl)) (fun _ _ _ h=>h) (Or.inl ⟨by rfl,?_⟩) ?_ ?_
                rotate_left
                ·intro w'
                 go_simp
                 with_reducible rfl
                rotate_left
                ·simp only[apu_]
                 rfl
                refine aD (i:=31) (N:=some 65) (v:=?_) (a':=?_) #[true,true,true,true,true,true,true,true,true,true,true,true,true,true,true,true,true,true,true,true,true,true,true,true,true,true,true,true,true,true,true,true] rfl rfl (aC HT_.out (by kernel_rfl)) (fun _ _ _ h=>h) (Or.inl ⟨by rfl,?_⟩) ?_ ?_
                rotate_left
                ·intro w'
                 go_simp
                 with_reducible rfl
                rotate_left
                ·simp only[apu_]
                 rfl
                refine cu (bK HT_.out (by kernel_rfl)) ?_
                try go_wp2
                go_meet
                case rel=>exact⟨_,(!t195),(by first|rfl|(simp;done)|(simp[*];done)),H',⟨by have:=HJ1.out;have:=HK2.out;first|omega|exact Nat.le_refl _⟩,⟨by(with_reducible repeat(first|apply aj|apply au|apply ak));exact BK187.out⟩,⟨by(with_reducible repeat(first|apply aj|apply au|apply ak));exact BK191.out⟩,⟨by with_reducible repeat(first|exact HB.out|apply af|apply aa|apply ae|refine ai ?_ GE187.out|refine ai ?_ GE191.out)⟩⟩
               ·replace c33:=Bool.eq_false_iff.mpr c33
                subst c33
                have H1:(spec_GoodSystem.j2 k2 l0_4 (l0_4.length:Int) x29_2 true a0_0 a0_1 l0_2 l0_3 l0_4 ((az l0_4 x29_2).f0) ((az l0_4 x29_2).f1) ((az l0_4 x29_2).f2.f0))=some r:=by rw[if_neg (show ¬ (false=true) by decide)] at H;exact H
                clear H
                have H:=H1
                clear H1
                have H':=av H
                clear H
                try go_wp2
                have n0_:Aside0 ((((w22.setCell ⟨gb191,0,none⟩ (.string ((az l0_4 x29_2).f0))).setCell ⟨gb191,1,none⟩ (.int .i64 ((az l0_4 x29_2).f1))).setCell ⟨gb191,2,none⟩ (.slice A190_2 ((az l0_4 x29_2).f2.f0).length c190_2)).heap[gb187]? = some (.cells #[.int .i64 a0_0,.int .i64 a0_1,.slice A0_2 l0_2.length c0_2,.slice A0_3 l0_3.length c0_3,.slice (some ad190) l0_4.length c0_4] 35 (0,0))):=⟨by(with_reducible repeat(first|apply aj|apply au|apply ak));refine aU ?_ NB187_191.out _;(with_reducible repeat(first|apply aj|apply au|apply ak));refine aU ?_ NB187_191.out _;(with_reducible repeat(first|apply aj|apply au|apply ak));refine aU ?_ NB187_191.out _;(with_reducible repeat(first|apply aj|apply au|apply ak));exact BK187.out⟩
                have n1_:Aside0 ((((w22.setCell ⟨gb191,0,none⟩ (.string ((az l0_4 x29_2).f0))).setCell ⟨gb191,1,none⟩ (.int .i64 ((az l0_4 x29_2).f1))).setCell ⟨gb191,2,none⟩ (.slice A190_2 ((az l0_4 x29_2).f2.f0).length c190_2)).heap[gb191]? = some (.cells #[.string ((az l0_4 x29_2).f0),.int .i64 ((az l0_4 x29_2).f1),.slice A190_2 ((az l0_4 x29_2).f2.f0).length c190_2] 47 (0,0))):=⟨by(with_reducible repeat(first|apply aj|apply au|apply ak));refine aX (cs:=#[.string ((az l0_4 x29_2).f0),.int .i64 ((az l0_4 x29_2).f1),.slice none 0 0]) ?_ 2 _ rfl;(with_reducible repeat(first|apply aj|apply au|apply ak));refine aX (cs:=#[.string ((az l0_4 x29_2).f0),.int .i64 0,.slice none 0 0]) ?_ 1 _ rfl;(with_reducible repeat(first|apply aj|apply au|apply ak));refine aX (cs:=#[.string (⟨#[]⟩:ByteArray),.int .i64 0,.slice none 0 0]) ?_ 0 _ rfl;(with_reducible repeat(first|apply aj|apply au|apply ak));exact BK191.out⟩
                have n2_:Aside0 (Below w.heap.size w (((w22.setCell ⟨gb191,0,none⟩ (.string ((az l0_4 x29_2).f0))).setCell ⟨gb191,1,none⟩ (.int .i64 ((az l0_4 x29_2).f1))).setCell ⟨gb191,2,none⟩ (.slice A190_2 ((az l0_4 x29_2).f2.f0).length c190_2))):=⟨by with_reducible repeat(first|exact HB.out|apply af|apply aa|apply ae|refine ai ?_ GE187.out|refine ai ?_ GE191.out)⟩
                (try clear BK187)
                (try clear BK191)
                (try clear HB)
                generalize (((w22.setCell ⟨gb191,0,none⟩ (.string ((az l0_4 x29_2).f0))).setCell ⟨gb191,1,none⟩ (.int .i64 ((az l0_4 x29_2).f1))).setCell ⟨gb191,2,none⟩ (.slice A190_2 ((az l0_4 x29_2).f2.f0).length c190_2))=w38 at n0_ n1_ n2_ ⊢
                have BK187:=n0_
                have BK191:=n1_
                have HB:=n2_
                clear n0_ n1_ n2_
                have n0_:=av (au BK187.out)
                have n1_:=av (au BK191.out)
                have n2_:=av (ae HB.out)
                clear BK187
                clear BK191
                clear HB
                have BK187:=n0_
                have BK191:=n1_
                have HB:=n2_
                clear n0_ n1_ n2_
                have p193:0≤((ji28):Int):=of_decide_eq_true (by assumption)
                have q193:(ji28) < (l0_4.length:Int):=of_decide_eq_true (by assumption)
                obtain⟨ad193,A193_2,c193_2,e193,hx193_0,hx193_1,hx193_2,hl193_2,hi193_2⟩:=dQ HR0_4.out (ji28) p193 q193
                have hw193_2:=hx193_2
                have hw193_1:=hx193_1
                have hw193_0:=hx193_0
                obtain rfl:ad190=ad193:=(by injection e193)
                replace hx193_0:=(HB.out.cell (World.block_lt_of_cell? w _ hx193_0)).trans hx193_0
                replace hx193_1:=(HB.out.cell (World.block_lt_of_cell? w _ hx193_1)).trans hx193_1
                replace hx193_2:=(HB.out.cell (World.block_lt_of_cell? w _ hx193_2)).trans hx193_2
                have HR193_2:=av hi193_2
                have HC193_2:=av hl193_2
                clear hi193_2 hl193_2
                replace p193:=eq_true p193
                replace q193:=eq_true q193
                refine bJ (n:=32) (S:=fun w'=>w'.cell? ⟨gb191,0,none⟩=some (.string ((az l0_4 x29_2).f0))∧w'.cell? ⟨gb191,1,none⟩=some (.int .i64 ((az l0_4 x29_2).f1))∧w'.cell? ⟨gb191,2,none⟩=some (.slice A190_2 ((az l0_4 x29_2).f2.f0).length c190_2)∧w'.cell? ⟨gb187,0,none⟩=some (.int .i64 a0_0)∧w'.cell? ⟨gb187,1,none⟩=some (.int .i64 a0_1)∧w'.cell? ⟨gb187,2,none⟩=some (.slice A0_2 l0_2.length c0_2)∧w'.cell? ⟨gb187,3,none⟩=some (.slice A0_3 l0_3.length c0_3)∧w'.cell? ⟨gb187,4,none⟩=some (.slice (some ad190) l0_4.length c0_4)∧w'.cell? (ad190.add (((ji28)).toNat*3))=some (.string ((az l0_4 (ji28)).f0))∧w'.cell? ⟨(ad190.add (((ji28)).toNat*3)).block,(ad190.add (((ji28)).toNat*3)).off+1,none⟩=some (.int .i64 ((az l0_4 (ji28)).f1))∧w'.cell? ⟨(ad190.add (((ji28)).toNat*3)).block,(ad190.add (((ji28)).toNat*3)).off+2,none⟩=some (.slice A193_2 ((az l0_4 (ji28)).f2.f0).length c193_2)) (ds:=[]) #[false,false,false,false,false,false,false,false,false,false,false,false,false,false,false,false,false,false,false,false,false,false,false,false,false,false,false,false,false,false,false,false] (by kernel_rfl) rfl rfl ⟨(ag BK191.out 0).trans rfl,(ag BK191.out 1).trans rfl,(ag BK191.out 2).trans rfl,(ag BK187.out 0).trans rfl,(ag BK187.out 1).trans rfl,(ag BK187.out 2).trans rfl,(ag BK187.out 3).trans rfl,(ag BK187.out 4).trans rfl,((HB.out.cell (World.block_lt_of_cell? w _ hw193_0)).trans hw193_0),((HB.out.cell (World.block_lt_of_cell? w _ hw193_1)).trans hw193_1),((HB.out.cell (World.block_lt_of_cell? w _ hw193_2)).trans hw193_2)⟩ (fun hHeld=>?_);refine bz spec_GoodSystem.tab6 spec_GoodSystem.bits6 (fun HT_ HW_=>?_)
                generalize w38.drew=w39 at BK187 BK191 HB HR193_2 hx193_0 hx193_1 hx193_2 hHeld ⊢
                refine aD (i:=0) (N:=some 34) (v:=?_) (a':=?_) #[true,false,false,false,false,false,false,false,false,false,false,false,false,false,false,false,false,false,false,false,false,false,false,false,false,false,false,false,false,false,false,false] rfl rfl (aC HT_.out (by kernel_rfl)) (fun _ _ _ h=>h) (Or.inl ⟨by rfl,?_⟩) ?_ ?_
                rotate_left
                ·intro w'
                 go_simp
                 with_reducible rfl
                rotate_left
                ·simp only[apu_]
                 rfl
                refine aZ (i:=1) (N:=some 35) (v:=?_) (a':=?_) #[true,true,false,false,false,false,false,false,false,false,false,false,false,false,false,false,false,false,false,false,false,false,false,false,false,false,false,false,false,false,false,false] rfl rfl (aT HT_.out HW_.out (by kernel_rfl)) (fun _ _ _ h=>h) (Or.inl ⟨by rfl,?_⟩) hHeld ?_ ?_
                rotate_left
                ·rintro w' ⟨s0,s1,s2,s3,s4,s5,s6,s7,s8,s9,s10⟩
                 go_simp
                 with_reducible rfl
                rotate_left
                ·simp only[apu_]
                 rfl
                refine di (i:=2) (N:=some 36) #[true,true,true,false,false,false,false,false,false,false,false,false,false,false,false,false,false,false,false,false,false,false,false,false,false,false,false,false,false,false,false,false] rfl rfl (bW HT_.out (by kernel_rfl)) (by decide) (fun K hK=>?_)
                refine bU Tryd.func13 (by kernel_rfl) rfl #[.string ((az l0_4 x29_2).f0)] (by rfl) rfl rfl (by(try simp only[amp_]);first|done|rfl|(simp only[ald_];rfl)) ?_
                with_reducible refine(spec_l8Name.calls k2 ((az l0_4 x29_2).f0) true _ A25.out).mono ?_
                rintro e w' ⟨rfl,⟨nd,rfl⟩⟩
                refine⟨_,rfl,?_⟩
                refine hK.out _ _ ⟨(ag BK191.out 0).trans rfl,(ag BK191.out 1).trans rfl,(ag BK191.out 2).trans rfl,(ag BK187.out 0).trans rfl,(ag BK187.out 1).trans rfl,(ag BK187.out 2).trans rfl,(ag BK187.out 3).trans rfl,(ag BK187.out 4).trans rfl,((HB.out.cell (World.block_lt_of_cell? w _ hw193_0)).trans hw193_0),((HB.out.cell (World.block_lt_of_cell? w _ hw193_1)).trans hw193_1),((HB.out.cell (World.block_lt_of_cell? w _ hw193_2)).trans hw193_2)⟩ (fun hHeld=>?_)
                clear hK K
                refine bS (a':=?_) ?_ ?_
                rotate_left
                ·show Act.put _ (some 36) _=_
                 simp only[apu_]
                 rfl
                refine aD (i:=3) (N:=some 37) (v:=?_) (a':=?_) #[true,true,true,true,false,false,false,false,false,false,false,false,false,false,false,false,false,false,false,false,false,false,false,false,false,false,false,false,false,false,false,false] rfl rfl (aC HT_.out (by kernel_rfl)) (fun _ _ _ h=>h) (Or.inl ⟨by rfl,?_⟩) ?_ ?_
                rotate_left
                ·intro w'
                 go_simp
                 with_reducible rfl
                rotate_left
                ·simp only[apu_]
                 rfl
                refine aD (i:=4) (N:=some 38) (v:=?_) (a':=?_) #[true,true,true,true,true,false,false,false,false,false,false,false,false,false,false,false,false,false,false,false,false,false,false,false,false,false,false,false,false,false,false,false] rfl rfl (aC HT_.out (by kernel_rfl)) (fun _ _ _ h=>h) (Or.inl ⟨by rfl,?_⟩) ?_ ?_
                rotate_left
                ·intro w'
                 go_simp
                 with_reducible rfl
                rotate_left
                ·simp only[apu_]
                 rfl
                refine aD (i:=5) (N:=some 39) (v:=?_) (a':=?_) #[true,true,true,true,true,true,false,false,false,false,false,false,false,false,false,false,false,false,false,false,false,false,false,false,false,false,false,false,false,false,false,false] rfl rfl (aC HT_.out (by kernel_rfl)) (fun _ _ _ h=>h) (Or.inl ⟨by rfl,?_⟩) ?_ ?_
                rotate_left
                ·intro w'
                 go_simp
                 with_reducible rfl
                rotate_left
                ·simp only[apu_]
                 rfl
                refine aD (i:=6) (N:=some 40) (v:=?_) (a':=?_) #[true,true,true,true,true,true,true,false,false,false,false,false,false,false,false,false,false,false,false,false,false,false,false,false,false,false,false,false,false,false,false,false] rfl rfl (aC HT_.out (by kernel_rfl)) (fun _ _ _ h=>h) (Or.inl ⟨by rfl,?_⟩) ?_ ?_
                rotate_left
                ·intro w'
                 go_simp
                 with_reducible rfl
                rotate_left
                ·simp only[apu_]
                 rfl
                refine aD (i:=7) (N:=some 41) (v:=?_) (a':=?_) #[true,true,true,true,true,true,true,true,false,false,false,false,false,false,false,false,false,false,false,false,false,false,false,false,false,false,false,false,false,false,false,false] rfl rfl (aC HT_.out (by kernel_rfl)) (fun _ _ _ h=>h) (Or.inl ⟨by rfl,?_⟩) ?_ ?_
                rotate_left
                ·intro w'
                 go_simp
                 with_reducible rfl
                rotate_left
                ·simp only[apu_]
                 rfl
                refine aD (i:=8) (N:=some 42) (v:=?_) (a':=?_) #[true,true,true,true,true,true,true,true,true,false,false,false,false,false,false,false,false,false,false,false,false,false,false,false,false,false,false,false,false,false,false,false] rfl rfl (aC HT_.out (by kernel_rfl)) (fun _ _ _ h=>h) (Or.inl ⟨by rfl,?_⟩) ?_ ?_
                rotate_left
                ·intro w'
                 go_simp
                 with_reducible rfl
                rotate_left
                ·simp only[apu_]
                 rfl
                refine aD (i:=10) (N:=some 44) (v:=?_) (a':=?_) #[true,true,true,true,true,true,true,true,true,false,true,false,false,false,false,false,false,false,false,false,false,false,false,false,false,false,false,false,false,false,false,false] rfl rfl (aC HT_.out (by kernel_rfl)) (fun _ _ _ h=>h) (Or.inl ⟨by rfl,?_⟩) ?_ ?_
                rotate_left
                ·intro w'
                 go_simp
                 with_reducible rfl
                rotate_left
                ·simp only[apu_]
                 rfl
                refine aD (i:=11) (N:=some 45) (v:=?_) (a':=?_) #[true,true,true,true,true,true,true,true,true,false,true,true,false,false,false,false,false,false,false,false,false,false,false,false,false,false,false,false,false,false,false,false] rfl rfl (aC HT_.out (by kernel_rfl)) (fun _ _ _ h=>h) (Or.inl ⟨by rfl,?_⟩) ?_ ?_
                rotate_left
                ·intro w'
                 go_simp
                 with_reducible rfl
                rotate_left
                ·simp only[apu_]
                 rfl
                refine aD (i:=15) (N:=some 49) (v:=?_) (a':=?_) #[true,true,true,true,true,true,true,true,true,false,true,true,false,false,false,true,false,false,false,false,false,false,false,false,false,false,false,false,false,false,false,false] rfl rfl (aC HT_.out (by kernel_rfl)) (fun _ _ _ h=>h) (Or.inl ⟨by rfl,?_⟩) ?_ ?_
                rotate_left
                ·intro w'
                 go_simp
                 with_reducible rfl
                rotate_left
                ·simp only[apu_]
                 rfl
                refine aZ (i:=9) (N:=some 43) (v:=?_) (a':=?_) #[true,true,true,true,true,true,true,true,true,true,true,true,false,false,false,true,false,false,false,false,false,false,false,false,false,false,false,false,false,false,false,false] rfl rfl (aT HT_.out HW_.out (by kernel_rfl)) (fun _ _ _ h=>h) (Or.inl ⟨by rfl,?_⟩) hHeld ?_ ?_
                rotate_left
                ·rintro w' ⟨s0,s1,s2,s3,s4,s5,s6,s7,s8,s9,s10⟩
                 go_simp
                 with_reducible rfl
                rotate_left
                ·simp only[apu_]
                 rfl
                refine aD (i:=12) (N:=some 46) (v:=?_) (a':=?_) #[true,true,true,true,true,true,true,true,true,true,true,true,true,false,false,true,false,false,false,false,false,false,false,false,false,false,false,false,false,false,false,false] rfl rfl (aC HT_.out (by kernel_rfl)) (fun _ _ _ h=>h) (Or.inl ⟨by rfl,?_⟩) ?_ ?_
                rotate_left
                ·intro w'
                 go_simp
                 with_reducible rfl
                rotate_left
                ·simp only[apu_]
                 rfl
                refine aD (i:=13) (N:=some 47) (v:=?_) (a':=?_) #[true,true,true,true,true,true,true,true,true,true,true,true,true,true,false,true,false,false,false,false,false,false,false,false,false,false,false,false,false,false,false,false] rfl rfl (aC HT_.out (by kernel_rfl)) (fun _ _ _ h=>h) (Or.inl ⟨by rfl,?_⟩) ?_ ?_
                rotate_left
                ·intro w'
                 go_simp
                 with_reducible rfl
                rotate_left
                ·simp only[apu_]
                 rfl
                refine aZ (i:=14) (N:=some 48) (v:=?_) (a':=?_) #[true,true,true,true,true,true,true,true,true,true,true,true,true,true,true,true,false,false,false,false,false,false,false,false,false,false,false,false,false,false,false,false] rfl rfl (aT HT_.out HW_.out (by kernel_rfl)) (fun _ _ _ h=>h) (Or.inl ⟨by rfl,?_⟩) hHeld ?_ ?_
                rotate_left
                ·rintro w' ⟨s0,s1,s2,s3,s4,s5,s6,s7,s8,s9,s10⟩
                 go_simp
                 with_reducible rfl
                rotate_left
                ·simp only[apu_]
                 rfl
                refine aZ (i:=16) (N:=some 50) (v:=?_) (a':=?_) #[true,true,true,true,true,true,true,true,true,true,true,true,true,true,true,true,true,false,false,false,false,false,false,false,false,false,false,false,false,false,false,false] rfl rfl (aT HT_.out HW_.out (by kernel_rfl)) (fun _ _ _ h=>h) (Or.inl ⟨by rfl,?_⟩) hHeld ?_ ?_
                rotate_left
                ·rintro w' ⟨s0,s1,s2,s3,s4,s5,s6,s7,s8,s9,s10⟩
                 go_simp
                 with_reducible rfl
                rotate_left
                ·simp only[apu_]
                 rfl
                refine aD (i:=17) (N:=some 51) (v:=?_) (a':=?_) #[true,true,true,true,true,true,true,true,true,true,true,true,true,true,true,true,true,true,false,false,false,false,false,false,false,false,false,false,false,false,false,false] rfl rfl (aC HT_.out (by kernel_rfl)) (fun _ _ _ h=>h) (Or.inl ⟨by rfl,?_⟩) ?_ ?_
                rotate_left
                ·intro w'
                 go_simp
                 with_reducible rfl
                rotate_left
                ·simp only[apu_]
                 rfl
                refine aD (i:=18) (N:=some 52) (v:=?_) (a':=?_) #[true,true,true,true,true,true,true,true,true,true,true,true,true,true,true,true,true,true,true,false,false,false,false,false,false,false,false,false,false,false,false,false] rfl rfl (aC HT_.out (by kernel_rfl)) (fun _ _ _ h=>h) (Or.inl ⟨by rfl,?_⟩) ?_ ?_
                rotate_left
                ·intro w'
                 go_simp
                 with_reducible rfl
                rotate_left
                ·simp only[apu_]
                 rfl
                refine aD (i:=19) (N:=some 53) (v:=?_) (a':=?_) #[true,true,true,true,true,true,true,true,true,true,true,true,true,true,true,true,true,true,true,true,false,false,false,false,false,false,false,false,false,false,false,false] rfl rfl (aC HT_.out (by kernel_rfl)) (fun _ _ _ h=>h) (Or.inl ⟨by rfl,?_⟩) ?_ ?_
                rotate_left
                ·intro w'
                 go_simp
                 with_reducible rfl
                rotate_left
                ·simp only[apu_]
                 rfl
                refine aD (i:=20) (N:=some 54) (v:=?_) (a':=?_) #[true,true,true,true,true,true,true,true,true,true,true,true,true,true,true,true,true,true,true,true,true,false,false,false,false,false,false,false,false,false,false,false] rfl rfl (aC HT_.out (by kernel_rfl)) (fun _ _ _ h=>h) (Or.inl ⟨by rfl,?_⟩) ?_ ?_
                rotate_left
                ·intro w'
                 go_simp
                 with_reducible rfl
                rotate_left
                ·simp only[apu_]
                 rfl
                refine aD (i:=21) (N:=some 55) (v:=?_) (a':=?_) #[true,true,true,true,true,true,true,true,true,true,true,true,true,true,true,true,true,true,true,true,true,true,false,false,false,false,false,false,false,false,false,false] rfl rfl (aC HT_.out (by kernel_rfl)) (fun _ _ _ h=>h) (Or.inl ⟨by rfl,?_⟩) ?_ ?_
                rotate_left
                ·intro w'
                 go_simp
                 with_reducible rfl
                rotate_left
                ·simp only[apu_]
                 rfl
                refine aZ (i:=22) (N:=some 56) (v:=?_) (a':=?_) #[true,true,true,true,true,true,true,true,true,true,true,true,true,true,true,true,true,true,true,true,true,true,true,false,false,false,false,false,false,false,false,false] rfl rfl (aT HT_.out HW_.out (by kernel_rfl)) (fun _ _ _ h=>h) (Or.inl ⟨by rfl,?_⟩) hHeld ?_ ?_
                rotate_left
                ·rintro w' ⟨s0,s1,s2,s3,s4,s5,s6,s7,s8,s9,s10⟩
                 go_simp
                 with_reducible rfl
                rotate_left
                ·simp only[apu_]
                 rfl
                refine di (i:=23) (N:=some 57) #[true,true,true,true,true,true,true,true,true,true,true,true,true,true,true,true,true,true,true,true,true,true,true,true,false,false,false,false,false,false,false,false] rfl rfl (bW HT_.out (by kernel_rfl)) (by decide) (fun K hK=>?_)
                refine bU Tryd.func12 (by kernel_rfl) rfl #[.int .i64 ((az l0_4 x29_2).f1),.int .i64 0,.int .i64 200] (by rfl) rfl rfl (by(try simp only[amp_]);first|done|rfl|(simp only[ald_];rfl)) ?_
                with_reducible refine(spec_l1In.calls ((az l0_4 x29_2).f1) 0 200 false _ A32.out).mono ?_
                rintro e w' ⟨rfl,⟨nd,rfl⟩⟩
                refine⟨_,rfl,?_⟩
                refine hK.out _ _ ⟨(ag BK191.out 0).trans rfl,(ag BK191.out 1).trans rfl,(ag BK191.out 2).trans rfl,(ag BK187.out 0).trans rfl,(ag BK187.out 1).trans rfl,(ag BK187.out 2).trans rfl,(ag BK187.out 3).trans rfl,(ag BK187.out 4).trans rfl,((HB.out.cell (World.block_lt_of_cell? w _ hw193_0)).trans hw193_0),((HB.out.cell (World.block_lt_of_cell? w _ hw193_1)).trans hw193_1),((HB.out.cell (World.block_lt_of_cell? w _ hw193_2)).trans hw193_2)⟩ (fun hHeld=>?_)
                clear hK K
                refine bS (a':=?_) ?_ ?_
                rotate_left
                ·show Act.put _ (some 57) _=_
                 simp only[apu_]
                 rfl
                refine aD (i:=24) (N:=some 58) (v:=?_) (a':=?_) #[true,true,true,true,true,true,true,true,true,true,true,true,true,true,true,true,true,true,true,true,true,true,true,true,true,false,false,false,false,false,false,false] rfl rfl (aC HT_.out (by kernel_rfl)) (fun _ _ _ h=>h) (Or.inl ⟨by rfl,?_⟩) ?_ ?_
                rotate_left
                ·intro w'
                 go_simp
                 with_reducible rfl
                rotate_left
                ·simp only[apu_]
                 rfl
                refine aD (i:=25) (N:=some 59) (v:=?_) (a':=?_) #[true,true,true,true,true,true,true,true,true,true,true,true,true,true,true,true,true,true,true,true,true,true,true,true,true,true,false,false,false,false,false,false] rfl rfl (aC HT_.out (by kernel_rfl)) (fun _ _ _ h=>h) (Or.inl ⟨by rfl,?_⟩) ?_ ?_
                rotate_left
                ·intro w'
                 go_simp
                 with_reducible rfl
                rotate_left
                ·simp only[apu_]
                 rfl
                refine aD (i:=26) (N:=some 60) (v:=?_) (a':=?_) #[true,true,true,true,true,true,true,true,true,true,true,true,true,true,true,true,true,true,true,true,true,true,true,true,true,true,true,false,false,false,false,false] rfl rfl (aC HT_.out (by kernel_rfl)) (fun _ _ _ h=>h) (Or.inl ⟨by rfl,?_⟩) ?_ ?_
                rotate_left
                ·intro w'
                 go_simp
                 with_reducible rfl
                rotate_left
                ·simp only[apu_]
                 rfl
                refine aD (i:=27) (N:=some 61) (v:=undef) (a':=?_) #[true,true,true,true,true,true,true,true,true,true,true,true,true,true,true,true,true,true,true,true,true,true,true,true,true,true,true,true,false,false,false,false] rfl rfl (aC HT_.out (by kernel_rfl)) (fun _ _ _ h=>h) (Or.inr ⟨by rfl,rfl⟩) ?_ ?_
                rotate_left
                ·simp only[apu_]
                 rfl
                refine aD (i:=28) (N:=some 62) (v:=undef) (a':=?_) #[true,true,true,true,true,true,true,true,true,true,true,true,true,true,true,true,true,true,true,true,true,true,true,true,true,true,true,true,true,false,false,false] rfl rfl (aC HT_.out (by kernel_rfl)) (fun _ _ _ h=>h) (Or.inr ⟨by rfl,rfl⟩) ?_ ?_
                rotate_left
                ·simp only[apu_]
                 rfl
                refine aD (i:=29) (N:=some 63) (v:=undef) (a':=?_) #[true,true,true,true,true,true,true,true,true,true,true,true,true,true,true,true,true,true,true,true,true,true,true,true,true,true,true,true,true,true,false,false] rfl rfl (aC HT_.out (by kernel_rfl)) (fun _ _ _ h=>h) (Or.inr ⟨by rfl,rfl⟩) ?_ ?_
                rotate_left
                ·simp only[apu_]
                 rfl
                refine aD (i:=30) (N:=some 64) (v:=undef) (a':=?_) #[true,true,true,true,true,true,true,true,true,true,true,true,true,true,true,true,true,true,true,true,true,true,true,true,true,true,true,true,true,true,true,false] rfl rfl (aC HT_.out (by kernel_rfl)) (fun _ _ _ h=>h) (Or.inr ⟨by rfl,rfl⟩) ?_ ?_
                rotate_left
                ·simp only[apu_]
                 rfl
                refine aD (i:=31) (N:=some 65) (v:=?_) (a':=?_) #[true,true,true,true,true,true,true,true,true,true,true,true,true,true,true,true,true,true,true,true,true,true,true,true,true,true,true,true,true,true,true,true] rfl rfl (aC HT_.out (by kernel_rfl)) (fun _ _ _ h=>h) (Or.inl ⟨by rfl,?_⟩) ?_ ?_
                rotate_left
                ·intro w'
                 go_simp
                 with_reducible rfl
                rotate_left
                ·simp only[apu_]
                 rfl
                refine cu (bK HT_.out (by kernel_rfl)) ?_
                try go_wp2
                go_meet
                case rel=>exact⟨_,(true),(by first|rfl|(simp;done)|(simp[*];done)),H',⟨by have:=HJ1.out;have:=HK2.out;first|omega|exact Nat.le_refl _⟩,⟨by(with_reducible repeat(first|apply aj|apply au|apply ak));exact BK187.out⟩,⟨by(with_reducible repeat(first|apply aj|apply au|apply ak));exact BK191.out⟩,⟨by with_reducible repeat(first|exact HB.out|apply af|apply aa|apply ae|refine ai ?_ GE187.out|refine ai ?_ GE191.out)⟩⟩
              ·rw[if_neg c31] at H
               have c31b0:(Op.bytesLess (((az l0_4 (ji28)).f0).toList) (((az l0_4 x29_2).f0).toList))=false:=by simpa using c31
               clear c31
               have H':=av H
               clear H
               try go_wp2
               have n0_:Aside0 ((((w22.setCell ⟨gb191,0,none⟩ (.string ((az l0_4 x29_2).f0))).setCell ⟨gb191,1,none⟩ (.int .i64 ((az l0_4 x29_2).f1))).setCell ⟨gb191,2,none⟩ (.slice A190_2 ((az l0_4 x29_2).f2.f0).length c190_2)).heap[gb187]? = some (.cells #[.int .i64 a0_0,.int .i64 a0_1,.slice A0_2 l0_2.length c0_2,.slice A0_3 l0_3.length c0_3,.slice (some ad190) l0_4.length c0_4] 35 (0,0))):=⟨by(with_reducible repeat(first|apply aj|apply au|apply ak));refine aU ?_ NB187_191.out _;(with_reducible repeat(first|apply aj|apply au|apply ak));refine aU ?_ NB187_191.out _;(with_reducible repeat(first|apply aj|apply au|apply ak));refine aU ?_ NB187_191.out _;(with_reducible repeat(first|apply aj|apply au|apply ak));exact BK187.out⟩
               have n1_:Aside0 ((((w22.setCell ⟨gb191,0,none⟩ (.string ((az l0_4 x29_2).f0))).setCell ⟨gb191,1,none⟩ (.int .i64 ((az l0_4 x29_2).f1))).setCell ⟨gb191,2,none⟩ (.slice A190_2 ((az l0_4 x29_2).f2.f0).length c190_2)).heap[gb191]? = some (.cells #[.string ((az l0_4 x29_2).f0),.int .i64 ((az l0_4 x29_2).f1),.slice A190_2 ((az l0_4 x29_2).f2.f0).length c190_2] 47 (0,0))):=⟨by(with_reducible repeat(first|apply aj|apply au|apply ak));refine aX (cs:=#[.string ((az l0_4 x29_2).f0),.int .i64 ((az l0_4 x29_2).f1),.slice none 0 0]) ?_ 2 _ rfl;(with_reducible repeat(first|apply aj|apply au|apply ak));refine aX (cs:=#[.string ((az l0_4 x29_2).f0),.int .i64 0,.slice none 0 0]) ?_ 1 _ rfl;(with_reducible repeat(first|apply aj|apply au|apply ak));refine aX (cs:=#[.string (⟨#[]⟩:ByteArray),.int .i64 0,.slice none 0 0]) ?_ 0 _ rfl;(with_reducible repeat(first|apply aj|apply au|apply ak));exact BK191.out⟩
               have n2_:Aside0 (Below w.heap.size w (((w22.setCell ⟨gb191,0,none⟩ (.string ((az l0_4 x29_2).f0))).setCell ⟨gb191,1,none⟩ (.int .i64 ((az l0_4 x29_2).f1))).setCell ⟨gb191,2,none⟩ (.slice A190_2 ((az l0_4 x29_2).f2.f0).length c190_2))):=⟨by with_reducible repeat(first|exact HB.out|apply af|apply aa|apply ae|refine ai ?_ GE187.out|refine ai ?_ GE191.out)⟩
               (try clear BK187)
               (try clear BK191)
               (try clear HB)
               generalize (((w22.setCell ⟨gb191,0,none⟩ (.string ((az l0_4 x29_2).f0))).setCell ⟨gb191,1,none⟩ (.int .i64 ((az l0_4 x29_2).f1))).setCell ⟨gb191,2,none⟩ (.slice A190_2 ((az l0_4 x29_2).f2.f0).length c190_2))=w40 at n0_ n1_ n2_ ⊢
               have BK187:=n0_
               have BK191:=n1_
               have HB:=n2_
               clear n0_ n1_ n2_
               have n0_:=av (au BK187.out)
               have n1_:=av (au BK191.out)
               have n2_:=av (ae HB.out)
               clear BK187
               clear BK191
               clear HB
               have BK187:=n0_
               have BK191:=n1_
               have HB:=n2_
               clear n0_ n1_ n2_
               have p193:0≤((ji28):Int):=of_decide_eq_true (by assumption)
               have q193:(ji28) < (l0_4.length:Int):=of_decide_eq_true (by assumption)
               obtain⟨ad193,A193_2,c193_2,e193,hx193_0,hx193_1,hx193_2,hl193_2,hi193_2⟩:=dQ HR0_4.out (ji28) p193 q193
               have hw193_2:=hx193_2
               have hw193_1:=hx193_1
               have hw193_0:=hx193_0
               obtain rfl:ad190=ad193:=(by injection e193)
               replace hx193_0:=(HB.out.cell (World.block_lt_of_cell? w _ hx193_0)).trans hx193_0
               replace hx193_1:=(HB.out.cell (World.block_lt_of_cell? w _ hx193_1)).trans hx193_1
               replace hx193_2:=(HB.out.cell (World.block_lt_of_cell? w _ hx193_2)).trans hx193_2
               have HR193_2:=av hi193_2
               have HC193_2:=av hl193_2
               clear hi193_2 hl193_2
               replace p193:=eq_true p193
               replace q193:=eq_true q193
               refine bJ (n:=32) (S:=fun w'=>w'.cell? ⟨gb191,0,none⟩=some (.string ((az l0_4 x29_2).f0))∧w'.cell? ⟨gb191,1,none⟩=some (.int .i64 ((az l0_4 x29_2).f1))∧w'.cell? ⟨gb191,2,none⟩=some (.slice A190_2 ((az l0_4 x29_2).f2.f0).length c190_2)∧w'.cell? ⟨gb187,0,none⟩=some (.int .i64 a0_0)∧w'.cell? ⟨gb187,1,none⟩=some (.int .i64 a0_1)∧w'.cell? ⟨gb187,2,none⟩=some (.slice A0_2 l0_2.length c0_2)∧w'.cell? ⟨gb187,3,none⟩=some (.slice A0_3 l0_3.length c0_3)∧w'.cell? ⟨gb187,4,none⟩=some (.slice (some ad190) l0_4.length c0_4)∧w'.cell? (ad190.add (((ji28)).toNat*3))=some (.string ((az l0_4 (ji28)).f0))∧w'.cell? ⟨(ad190.add (((ji28)).toNat*3)).block,(ad190.add (((ji28)).toNat*3)).off+1,none⟩=some (.int .i64 ((az l0_4 (ji28)).f1))∧w'.cell? ⟨(ad190.add (((ji28)).toNat*3)).block,(ad190.add (((ji28)).toNat*3)).off+2,none⟩=some (.slice A193_2 ((az l0_4 (ji28)).f2.f0).length c193_2)) (ds:=[]) #[false,false,false,false,false,false,false,false,false,false,false,false,false,false,false,false,false,false,false,false,false,false,false,false,false,false,false,false,false,false,false,false] (by kernel_rfl) rfl rfl ⟨(ag BK191.out 0).trans rfl,(ag BK191.out 1).trans rfl,(ag BK191.out 2).trans rfl,(ag BK187.out 0).trans rfl,(ag BK187.out 1).trans rfl,(ag BK187.out 2).trans rfl,(ag BK187.out 3).trans rfl,(ag BK187.out 4).trans rfl,((HB.out.cell (World.block_lt_of_cell? w _ hw193_0)).trans hw193_0),((HB.out.cell (World.block_lt_of_cell? w _ hw193_1)).trans hw193_1),((HB.out.cell (World.block_lt_of_cell? w _ hw193_2)).trans hw193_2)⟩ (fun hHeld=>?_);refine bz spec_GoodSystem.tab6 spec_GoodSystem.bits6 (fun HT_ HW_=>?_)
               generalize w40.drew=w41 at BK187 BK191 HB HR193_2 hx193_0 hx193_1 hx193_2 hHeld ⊢
               refine aD (i:=0) (N:=some 34) (v:=?_) (a':=?_) #[true,false,false,false,false,false,false,false,false,false,false,false,false,false,false,false,false,false,false,false,false,false,false,false,false,false,false,false,false,false,false,false] rfl rfl (aC HT_.out (by kernel_rfl)) (fun _ _ _ h=>h) (Or.inl ⟨by rfl,?_⟩) ?_ ?_
               rotate_left
               ·intro w'
                go_simp
                with_reducible rfl
               rotate_left
               ·simp only[apu_]
                rfl
               refine aZ (i:=1) (N:=some 35) (v:=?_) (a':=?_) #[true,true,false,false,false,false,false,false,false,false,false,false,false,false,false,false,false,false,false,false,false,false,false,false,false,false,false,false,false,false,false,false] rfl rfl (aT HT_.out HW_.out (by kernel_rfl)) (fun _ _ _ h=>h) (Or.inl ⟨by rfl,?_⟩) hHeld ?_ ?_
               rotate_left
               ·rintro w' ⟨s0,s1,s2,s3,s4,s5,s6,s7,s8,s9,s10⟩
                go_simp
                with_reducible rfl
               rotate_left
               ·simp only[apu_]
                rfl
               refine di (i:=2) (N:=some 36) #[true,true,true,false,false,false,false,false,false,false,false,false,false,false,false,false,false,false,false,false,false,false,false,false,false,false,false,false,false,false,false,false] rfl rfl (bW HT_.out (by kernel_rfl)) (by decide) (fun K hK=>?_)
               refine bU Tryd.func13 (by kernel_rfl) rfl #[.string ((az l0_4 x29_2).f0)] (by rfl) rfl rfl (by(try simp only[amp_]);first|done|rfl|(simp only[ald_];rfl)) ?_
               with_reducible refine(spec_l8Name.calls k2 ((az l0_4 x29_2).f0) true _ A25.out).mono ?_
               rintro e w' ⟨rfl,⟨nd,rfl⟩⟩
               refine⟨_,rfl,?_⟩
               refine hK.out _ _ ⟨(ag BK191.out 0).trans rfl,(ag BK191.out 1).trans rfl,(ag BK191.out 2).trans rfl,(ag BK187.out 0).trans rfl,(ag BK187.out 1).trans rfl,(ag BK187.out 2).trans rfl,(ag BK187.out 3).trans rfl,(ag BK187.out 4).trans rfl,((HB.out.cell (World.block_lt_of_cell? w _ hw193_0)).trans hw193_0),((HB.out.cell (World.block_lt_of_cell? w _ hw193_1)).trans hw193_1),((HB.out.cell (World.block_lt_of_cell? w _ hw193_2)).trans hw193_2)⟩ (fun hHeld=>?_)
               clear hK K
               refine bS (a':=?_) ?_ ?_
               rotate_left
               ·show Act.put _ (some 36) _=_
                simp only[apu_]
                rfl
               refine aD (i:=3) (N:=some 37) (v:=?_) (a':=?_) #[true,true,true,true,false,false,false,false,false,false,false,false,false,false,false,false,false,false,false,false,false,false,false,false,false,false,false,false,false,false,false,false] rfl rfl (aC HT_.out (by kernel_rfl)) (fun _ _ _ h=>h) (Or.inl ⟨by rfl,?_⟩) ?_ ?_
               rotate_left
               ·intro w'
                go_simp
                with_reducible rfl
               rotate_left
               ·simp only[apu_]
                rfl
               refine aD (i:=4) (N:=some 38) (v:=?_) (a':=?_) #[true,true,true,true,true,false,false,false,false,false,false,false,false,false,false,false,false,false,false,false,false,false,false,false,false,false,false,false,false,false,false,false] rfl rfl (aC HT_.out (by kernel_rfl)) (fun _ _ _ h=>h) (Or.inl ⟨by rfl,?_⟩) ?_ ?_
               rotate_left
               ·intro w'
                go_simp
                with_reducible rfl
               rotate_left
               ·simp only[apu_]
                rfl
               refine aD (i:=5) (N:=some 39) (v:=?_) (a':=?_) #[true,true,true,true,true,true,false,false,false,false,false,false,false,false,false,false,false,false,false,false,false,false,false,false,false,false,false,false,false,false,false,false] rfl rfl (aC HT_.out (by kernel_rfl)) (fun _ _ _ h=>h) (Or.inl ⟨by rfl,?_⟩) ?_ ?_
               rotate_left
               ·intro w'
                go_simp
                with_reducible rfl
               rotate_left
               ·simp only[apu_]
                rfl
               refine aD (i:=6) (N:=some 40) (v:=?_) (a':=?_) #[true,true,true,true,true,true,true,false,false,false,false,false,false,false,false,false,false,false,false,false,false,false,false,false,false,false,false,false,false,false,false,false] rfl rfl (aC HT_.out (by kernel_rfl)) (fun _ _ _ h=>h) (Or.inl ⟨by rfl,?_⟩) ?_ ?_
               rotate_left
               ·intro w'
                go_simp
                with_reducible rfl
               rotate_left
               ·simp only[apu_]
                rfl
               refine aD (i:=7) (N:=some 41) (v:=?_) (a':=?_) #[true,true,true,true,true,true,true,true,false,false,false,false,false,false,false,false,false,false,false,false,false,false,false,false,false,false,false,false,false,false,false,false] rfl rfl (aC HT_.out (by kernel_rfl)) (fun _ _ _ h=>h) (Or.inl ⟨by rfl,?_⟩) ?_ ?_
               rotate_left
               ·intro w'
                go_simp
                with_reducible rfl
               rotate_left
               ·simp only[apu_]
                rfl
               refine aD (i:=8) (N:=some 42) (v:=?_) (a':=?_) #[true,true,true,true,true,true,true,true,true,false,false,false,false,false,false,false,false,false,false,false,false,false,false,false,false,false,false,false,false,false,false,false] rfl rfl (aC HT_.out (by kernel_rfl)) (fun _ _ _ h=>h) (Or.inl ⟨by rfl,?_⟩) ?_ ?_
               rotate_left
               ·intro w'
                go_simp
                with_reducible rfl
               rotate_left
               ·simp only[apu_]
                rfl
               refine aD (i:=10) (N:=some 44) (v:=?_) (a':=?_) #[true,true,true,true,true,true,true,true,true,false,true,false,false,false,false,false,false,false,false,false,false,false,false,false,false,false,false,false,false,false,false,false] rfl rfl (aC HT_.out (by kernel_rfl)) (fun _ _ _ h=>h) (Or.inl ⟨by rfl,?_⟩) ?_ ?_
               rotate_left
               ·intro w'
                go_simp
                with_reducible rfl
               rotate_left
               ·simp only[apu_]
                rfl
               refine aD (i:=11) (N:=some 45) (v:=?_) (a':=?_) #[true,true,true,true,true,true,true,true,true,false,true,true,false,false,false,false,false,false,false,false,false,false,false,false,false,false,false,false,false,false,false,false] rfl rfl (aC HT_.out (by kernel_rfl)) (fun _ _ _ h=>h) (Or.inl ⟨by rfl,?_⟩) ?_ ?_
               rotate_left
               ·intro w'
                go_simp
                with_reducible rfl
               rotate_left
               ·simp only[apu_]
                rfl
               refine aD (i:=15) (N:=some 49) (v:=?_) (a':=?_) #[true,true,true,true,true,true,true,true,true,false,true,true,false,false,false,true,false,false,false,false,false,false,false,false,false,false,false,false,false,false,false,false] rfl rfl (aC HT_.out (by kernel_rfl)) (fun _ _ _ h=>h) (Or.inl ⟨by rfl,?_⟩) ?_ ?_
               rotate_left
               ·intro w'
                go_simp
                with_reducible rfl
               rotate_left
               ·simp only[apu_]
                rfl
               refine aZ (i:=9) (N:=some 43) (v:=?_) (a':=?_) #[true,true,true,true,true,true,true,true,true,true,true,true,false,false,false,true,false,false,false,false,false,false,false,false,false,false,false,false,false,false,false,false] rfl rfl (aT HT_.out HW_.out (by kernel_rfl)) (fun _ _ _ h=>h) (Or.inl ⟨by rfl,?_⟩) hHeld ?_ ?_
               rotate_left
               ·rintro w' ⟨s0,s1,s2,s3,s4,s5,s6,s7,s8,s9,s10⟩
                go_simp
                with_reducible rfl
               rotate_left
               ·simp only[apu_]
                rfl
               refine aD (i:=12) (N:=some 46) (v:=?_) (a':=?_) #[true,true,true,true,true,true,true,true,true,true,true,true,true,false,false,true,false,false,false,false,false,false,false,false,false,false,false,false,false,false,false,false] rfl rfl (aC HT_.out (by kernel_rfl)) (fun _ _ _ h=>h) (Or.inl ⟨by rfl,?_⟩) ?_ ?_
               rotate_left
               ·intro w'
                go_simp
                with_reducible rfl
               rotate_left
               ·simp only[apu_]
                rfl
               refine aD (i:=13) (N:=some 47) (v:=?_) (a':=?_) #[true,true,true,true,true,true,true,true,true,true,true,true,true,true,false,true,false,false,false,false,false,false,false,false,false,false,false,false,false,false,false,false] rfl rfl (aC HT_.out (by kernel_rfl)) (fun _ _ _ h=>h) (Or.inl ⟨by rfl,?_⟩) ?_ ?_
               rotate_left
               ·intro w'
                go_simp
                with_reducible rfl
               rotate_left
               ·simp only[apu_]
                rfl
               refine aZ (i:=14) (N:=some 48) (v:=?_) (a':=?_) #[true,true,true,true,true,true,true,true,true,true,true,true,true,true,true,true,false,false,false,false,false,false,false,false,false,false,false,false,false,false,false,false] rfl rfl (aT HT_.out HW_.out (by kernel_rfl)) (fun _ _ _ h=>h) (Or.inl ⟨by rfl,?_⟩) hHeld ?_ ?_
               rotate_left
               ·rintro w' ⟨s0,s1,s2,s3,s4,s5,s6,s7,s8,s9,s10⟩
                go_simp
                with_reducible rfl
               rotate_left
               ·simp only[apu_]
                rfl
               refine aZ (i:=16) (N:=some 50) (v:=?_) (a':=?_) #[true,true,true,true,true,true,true,true,true,true,true,true,true,true,true,true,true,false,false,false,false,false,false,false,false,false,false,false,false,false,false,false] rfl rfl (aT HT_.out HW_.out (by kernel_rfl)) (fun _ _ _ h=>h) (Or.inl ⟨by rfl,?_⟩) hHeld ?_ ?_
               rotate_left
               ·rintro w' ⟨s0,s1,s2,s3,s4,s5,s6,s7,s8,s9,s10⟩
                go_simp
                with_reducible rfl
               rotate_left
               ·simp only[apu_]
                rfl
               refine aD (i:=17) (N:=some 51) (v:=?_) (a':=?_) #[true,true,true,true,true,true,true,true,true,true,true,true,true,true,true,true,true,true,false,false,false,false,false,false,false,false,false,false,false,false,false,false] rfl rfl (aC HT_.out (by kernel_rfl)) (fun _ _ _ h=>h) (Or.inl ⟨by rfl,?_⟩) ?_ ?_
               rotate_left
               ·intro w'
                go_simp
                with_reducible rfl
               rotate_left
               ·simp only[apu_]
                rfl
               refine aD (i:=18) (N:=some 52) (v:=?_) (a':=?_) #[true,true,true,true,true,true,true,true,true,true,true,true,true,true,true,true,true,true,true,false,false,false,false,false,false,false,false,false,false,false,false,false] rfl rfl (aC HT_.out (by kernel_rfl)) (fun _ _ _ h=>h) (Or.inl ⟨by rfl,?_⟩) ?_ ?_
               rotate_left
               ·intro w'
                go_simp
                with_reducible rfl
               rotate_left
               ·simp only[apu_]
                rfl
               refine aD (i:=19) (N:=some 53) (v:=?_) (a':=?_) #[true,true,true,true,true,true,true,true,true,true,true,true,true,true,true,true,true,true,true,true,false,false,false,false,false,false,false,false,false,false,false,false] rfl rfl (aC HT_.out (by kernel_rfl)) (fun _ _ _ h=>h) (Or.inl ⟨by rfl,?_⟩) ?_ ?_
               rotate_left
               ·intro w'
                go_simp
                with_reducible rfl
               rotate_left
               ·simp only[apu_]
                rfl
               refine aD (i:=20) (N:=some 54) (v:=?_) (a':=?_) #[true,true,true,true,true,true,true,true,true,true,true,true,true,true,true,true,true,true,true,true,true,false,false,false,false,false,false,false,false,false,false,false] rfl rfl (aC HT_.out (by kernel_rfl)) (fun _ _ _ h=>h) (Or.inl ⟨by rfl,?_⟩) ?_ ?_
               rotate_left
               ·intro w'
                go_simp
                with_reducible rfl
               rotate_left
               ·simp only[apu_]
                rfl
               refine aD (i:=21) (N:=some 55) (v:=undef) (a':=?_) #[true,true,true,true,true,true,true,true,true,true,true,true,true,true,true,true,true,true,true,true,true,true,false,false,false,false,false,false,false,false,false,false] rfl rfl (aC HT_.out (by kernel_rfl)) (fun _ _ _ h=>h) (Or.inr ⟨by rfl,rfl⟩) ?_ ?_
               rotate_left
               ·simp only[apu_]
                rfl
               refine aD (i:=22) (N:=some 56) (v:=undef) (a':=?_) #[true,true,true,true,true,true,true,true,true,true,true,true,true,true,true,true,true,true,true,true,true,true,true,false,false,false,false,false,false,false,false,false] rfl rfl (aC HT_.out (by kernel_rfl)) (fun _ _ _ h=>h) (Or.inr ⟨by rfl,rfl⟩) ?_ ?_
               rotate_left
               ·simp only[apu_]
                rfl
               refine aD (i:=23) (N:=some 57) (v:=undef) (a':=?_) #[true,true,true,true,true,true,true,true,true,true,true,true,true,true,true,true,true,true,true,true,true,true,true,true,false,false,false,false,false,false,false,false] rfl rfl (aC HT_.out (by kernel_rfl)) (fun _ _ _ h=>h) (Or.inr ⟨by rfl,rfl⟩) ?_ ?_
               rotate_left
               ·simp only[apu_]
                rfl
               refine aD (i:=24) (N:=some 58) (v:=undef) (a':=?_) #[true,true,true,true,true,true,true,true,true,true,true,true,true,true,true,true,true,true,true,true,true,true,true,true,true,false,false,false,false,false,false,false] rfl rfl (aC HT_.out (by kernel_rfl)) (fun _ _ _ h=>h) (Or.inr ⟨by rfl,rfl⟩) ?_ ?_
               rotate_left
               ·simp only[apu_]
                rfl
               refine aD (i:=25) (N:=some 59) (v:=?_) (a':=?_) #[true,true,true,true,true,true,true,true,true,true,true,true,true,true,true,true,true,true,true,true,true,true,true,true,true,true,false,false,false,false,false,false] rfl rfl (aC HT_.out (by kernel_rfl)) (fun _ _ _ h=>h) (Or.inl ⟨by rfl,?_⟩) ?_ ?_
               rotate_left
               ·intro w'
                go_simp
                with_reducible rfl
               rotate_left
               ·simp only[apu_]
                rfl
               refine aD (i:=26) (N:=some 60) (v:=?_) (a':=?_) #[true,true,true,true,true,true,true,true,true,true,true,true,true,true,true,true,true,true,true,true,true,true,true,true,true,true,true,false,false,false,false,false] rfl rfl (aC HT_.out (by kernel_rfl)) (fun _ _ _ h=>h) (Or.inl ⟨by rfl,?_⟩) ?_ ?_
               rotate_left
               ·intro w'
                go_simp
                with_reducible rfl
               rotate_left
               ·simp only[apu_]
                rfl
               refine aD (i:=27) (N:=some 61) (v:=undef) (a':=?_) #[true,true,true,true,true,true,true,true,true,true,true,true,true,true,true,true,true,true,true,true,true,true,true,true,true,true,true,true,false,false,false,false] rfl rfl (aC HT_.out (by kernel_rfl)) (fun _ _ _ h=>h) (Or.inr ⟨by rfl,rfl⟩) ?_ ?_
               rotate_left
               ·simp only[apu_]
                rfl
               refine aD (i:=28) (N:=some 62) (v:=undef) (a':=?_) #[true,true,true,true,true,true,true,true,true,true,true,true,true,true,true,true,true,true,true,true,true,true,true,true,true,true,true,true,true,false,false,false] rfl rfl (aC HT_.out (by kernel_rfl)) (fun _ _ _ h=>h) (Or.inr ⟨by rfl,rfl⟩) ?_ ?_
               rotate_left
               ·simp only[apu_]
                rfl
               refine aD (i:=29) (N:=some 63) (v:=undef) (a':=?_) #[true,true,true,true,true,true,true,true,true,true,true,true,true,true,true,true,true,true,true,true,true,true,true,true,true,true,true,true,true,true,false,false] rfl rfl (aC HT_.out (by kernel_rfl)) (fun _ _ _ h=>h) (Or.inr ⟨by rfl,rfl⟩) ?_ ?_
               rotate_left
               ·simp only[apu_]
                rfl
               refine aD (i:=30) (N:=some 64) (v:=undef) (a':=?_) #[true,true,true,true,true,true,true,true,true,true,true,true,true,true,true,true,true,true,true,true,true,true,true,true,true,true,true,true,true,true,true,false] rfl rfl (aC HT_.out (by kernel_rfl)) (fun _ _ _ h=>h) (Or.inr ⟨by rfl,rfl⟩) ?_ ?_
               rotate_left
               ·simp only[apu_]
                rfl
               refine aD (i:=31) (N:=some 65) (v:=?_) (a':=?_) #[true,true,true,true,true,true,true,true,true,true,true,true,true,true,true,true,true,true,true,true,true,true,true,true,true,true,true,true,true,true,true,true] rfl rfl (aC HT_.out (by kernel_rfl)) (fun _ _ _ h=>h) (Or.inl ⟨by rfl,?_⟩) ?_ ?_
               rotate_left
               ·intro w'
                go_simp
                with_reducible rfl
               rotate_left
               ·simp only[apu_]
                rfl
               refine cu (bK HT_.out (by kernel_rfl)) ?_
               try go_wp2
               go_meet
               case rel=>exact⟨_,(true),(by first|rfl|(simp;done)|(simp[*];done)),H',⟨by have:=HJ1.out;have:=HK2.out;first|omega|exact Nat.le_refl _⟩,⟨by(with_reducible repeat(first|apply aj|apply au|apply ak));exact BK187.out⟩,⟨by(with_reducible repeat(first|apply aj|apply au|apply ak));exact BK191.out⟩,⟨by with_reducible repeat(first|exact HB.out|apply af|apply aa|apply ae|refine ai ?_ GE187.out|refine ai ?_ GE191.out)⟩⟩
             ·rw[if_neg c30] at H
              exact absurd H (by simp)
            ·rw[if_neg c29] at H
             exact absurd H (by simp)
           ·rw[if_neg c27] at H
            have c27b0:decide (0<x29_2)=false:=decide_eq_false c27
            clear c27
            (first|rw[c27b0]|(simp only[fo,iW];rw[c27b0])|skip)
            replace H:=Option.bind_eq_some_iff.mp H
            obtain⟨t196,A420,H⟩:=H
            replace H:(if t196=true then ((spec_GoodMap.f k2 ((az l0_4 x29_2).f2.f0)).bind fun t197=>(spec_GoodSystem.j2 k2 l0_4 (l0_4.length:Int) x29_2 (!t197) a0_0 a0_1 l0_2 l0_3 l0_4 ((az l0_4 x29_2).f0) ((az l0_4 x29_2).f1) ((az l0_4 x29_2).f2.f0))) else (spec_GoodSystem.j2 k2 l0_4 (l0_4.length:Int) x29_2 true a0_0 a0_1 l0_2 l0_3 l0_4 ((az l0_4 x29_2).f0) ((az l0_4 x29_2).f1) ((az l0_4 x29_2).f2.f0)))=some r:=H
            have A42:=av A420
            clear A420
            by_cases c43:t196=true
            ·subst c43
             have H1:((spec_GoodMap.f k2 ((az l0_4 x29_2).f2.f0)).bind fun t197=>(spec_GoodSystem.j2 k2 l0_4 (l0_4.length:Int) x29_2 (!t197) a0_0 a0_1 l0_2 l0_3 l0_4 ((az l0_4 x29_2).f0) ((az l0_4 x29_2).f1) ((az l0_4 x29_2).f2.f0)))=some r:=by rw[if_pos rfl] at H;exact H
             clear H
             have H:=H1
             clear H1
             replace H:=Option.bind_eq_some_iff.mp H
             obtain⟨t197,A440,H⟩:=H
             replace H:(spec_GoodSystem.j2 k2 l0_4 (l0_4.length:Int) x29_2 (!t197) a0_0 a0_1 l0_2 l0_3 l0_4 ((az l0_4 x29_2).f0) ((az l0_4 x29_2).f1) ((az l0_4 x29_2).f2.f0))=some r:=H
             have A44:=av A440
             clear A440
             have H':=av H
             clear H
             try go_wp2
             have n0_:Aside0 ((((w22.setCell ⟨gb191,0,none⟩ (.string ((az l0_4 x29_2).f0))).setCell ⟨gb191,1,none⟩ (.int .i64 ((az l0_4 x29_2).f1))).setCell ⟨gb191,2,none⟩ (.slice A190_2 ((az l0_4 x29_2).f2.f0).length c190_2)).heap[gb187]? = some (.cells #[.int .i64 a0_0,.int .i64 a0_1,.slice A0_2 l0_2.length c0_2,.slice A0_3 l0_3.length c0_3,.slice (some ad190) l0_4.length c0_4] 35 (0,0))):=⟨by(with_reducible repeat(first|apply aj|apply au|apply ak));refine aU ?_ NB187_191.out _;(with_reducible repeat(first|apply aj|apply au|apply ak));refine aU ?_ NB187_191.out _;(with_reducible repeat(first|apply aj|apply au|apply ak));refine aU ?_ NB187_191.out _;(with_reducible repeat(first|apply aj|apply au|apply ak));exact BK187.out⟩
             have n1_:Aside0 ((((w22.setCell ⟨gb191,0,none⟩ (.string ((az l0_4 x29_2).f0))).setCell ⟨gb191,1,none⟩ (.int .i64 ((az l0_4 x29_2).f1))).setCell ⟨gb191,2,none⟩ (.slice A190_2 ((az l0_4 x29_2).f2.f0).length c190_2)).heap[gb191]? = some (.cells #[.string ((az l0_4 x29_2).f0),.int .i64 ((az l0_4 x29_2).f1),.slice A190_2 ((az l0_4 x29_2).f2.f0).length c190_2] 47 (0,0))):=⟨by(with_reducible repeat(first|apply aj|apply au|apply ak));refine aX (cs:=#[.string ((az l0_4 x29_2).f0),.int .i64 ((az l0_4 x29_2).f1),.slice none 0 0]) ?_ 2 _ rfl;(with_reducible repeat(first|apply aj|apply au|apply ak));refine aX (cs:=#[.string ((az l0_4 x29_2).f0),.int .i64 0,.slice none 0 0]) ?_ 1 _ rfl;(with_reducible repeat(first|apply aj|apply au|apply ak));refine aX (cs:=#[.string (⟨#[]⟩:ByteArray),.int .i64 0,.slice none 0 0]) ?_ 0 _ rfl;(with_reducible repeat(first|apply aj|apply au|apply ak));exact BK191.out⟩
             have n2_:Aside0 (Below w.heap.size w (((w22.setCell ⟨gb191,0,none⟩ (.string ((az l0_4 x29_2).f0))).setCell ⟨gb191,1,none⟩ (.int .i64 ((az l0_4 x29_2).f1))).setCell ⟨gb191,2,none⟩ (.slice A190_2 ((az l0_4 x29_2).f2.f0).length c190_2))):=⟨by with_reducible repeat(first|exact HB.out|apply af|apply aa|apply ae|refine ai ?_ GE187.out|refine ai ?_ GE191.out)⟩
             (try clear BK187)
             (try clear BK191)
             (try clear HB)
             generalize (((w22.setCell ⟨gb191,0,none⟩ (.string ((az l0_4 x29_2).f0))).setCell ⟨gb191,1,none⟩ (.int .i64 ((az l0_4 x29_2).f1))).setCell ⟨gb191,2,none⟩ (.slice A190_2 ((az l0_4 x29_2).f2.f0).length c190_2))=w45 at n0_ n1_ n2_ ⊢
             have BK187:=n0_
             have BK191:=n1_
             have HB:=n2_
             clear n0_ n1_ n2_
             have n0_:=av (au BK187.out)
             have n1_:=av (au BK191.out)
             have n2_:=av (ae HB.out)
             clear BK187
             clear BK191
             clear HB
             have BK187:=n0_
             have BK191:=n1_
             have HB:=n2_
             clear n0_ n1_ n2_
             refine bJ (n:=32) (S:=fun w'=>w'.cell? ⟨gb191,0,none⟩=some (.string ((az l0_4 x29_2).f0))∧w'.cell? ⟨gb191,1,none⟩=some (.int .i64 ((az l0_4 x29_2).f1))∧w'.cell? ⟨gb191,2,none⟩=some (.slice A190_2 ((az l0_4 x29_2).f2.f0).length c190_2)) (ds:=[]) #[false,false,false,false,false,false,false,false,false,false,false,false,false,false,false,false,false,false,false,false,false,false,false,false,false,false,false,false,false,false,false,false] (by kernel_rfl) rfl rfl ⟨(ag BK191.out 0).trans rfl,(ag BK191.out 1).trans rfl,(ag BK191.out 2).trans rfl⟩ (fun hHeld=>?_);refine bz spec_GoodSystem.tab6 spec_GoodSystem.bits6 (fun HT_ HW_=>?_)
             generalize w45.drew=w46 at BK187 BK191 HB hHeld ⊢
             refine aD (i:=0) (N:=some 34) (v:=?_) (a':=?_) #[true,false,false,false,false,false,false,false,false,false,false,false,false,false,false,false,false,false,false,false,false,false,false,false,false,false,false,false,false,false,false,false] rfl rfl (aC HT_.out (by kernel_rfl)) (fun _ _ _ h=>h) (Or.inl ⟨by rfl,?_⟩) ?_ ?_
             rotate_left
             ·intro w'
              go_simp
              with_reducible rfl
             rotate_left
             ·simp only[apu_]
              rfl
             refine aZ (i:=1) (N:=some 35) (v:=?_) (a':=?_) #[true,true,false,false,false,false,false,false,false,false,false,false,false,false,false,false,false,false,false,false,false,false,false,false,false,false,false,false,false,false,false,false] rfl rfl (aT HT_.out HW_.out (by kernel_rfl)) (fun _ _ _ h=>h) (Or.inl ⟨by rfl,?_⟩) hHeld ?_ ?_
             rotate_left
             ·rintro w' ⟨s0,s1,s2⟩
              go_simp
              with_reducible rfl
             rotate_left
             ·simp only[apu_]
              rfl
             refine di (i:=2) (N:=some 36) #[true,true,true,false,false,false,false,false,false,false,false,false,false,false,false,false,false,false,false,false,false,false,false,false,false,false,false,false,false,false,false,false] rfl rfl (bW HT_.out (by kernel_rfl)) (by decide) (fun K hK=>?_)
             refine bU Tryd.func13 (by kernel_rfl) rfl #[.string ((az l0_4 x29_2).f0)] (by rfl) rfl rfl (by(try simp only[amp_]);first|done|rfl|(simp only[ald_];rfl)) ?_
             with_reducible refine(spec_l8Name.calls k2 ((az l0_4 x29_2).f0) true _ A25.out).mono ?_
             rintro e w' ⟨rfl,⟨nd,rfl⟩⟩
             refine⟨_,rfl,?_⟩
             refine hK.out _ _ ⟨(ag BK191.out 0).trans rfl,(ag BK191.out 1).trans rfl,(ag BK191.out 2).trans rfl⟩ (fun hHeld=>?_)
             clear hK K
             refine bS (a':=?_) ?_ ?_
             rotate_left
             ·show Act.put _ (some 36) _=_
              simp only[apu_]
              rfl
             refine aD (i:=3) (N:=some 37) (v:=?_) (a':=?_) #[true,true,true,true,false,false,false,false,false,false,false,false,false,false,false,false,false,false,false,false,false,false,false,false,false,false,false,false,false,false,false,false] rfl rfl (aC HT_.out (by kernel_rfl)) (fun _ _ _ h=>h) (Or.inl ⟨by rfl,?_⟩) ?_ ?_
             rotate_left
             ·intro w'
              go_simp
              with_reducible rfl
             rotate_left
             ·simp only[apu_]
              rfl
             refine aD (i:=4) (N:=some 38) (v:=?_) (a':=?_) #[true,true,true,true,true,false,false,false,false,false,false,false,false,false,false,false,false,false,false,false,false,false,false,false,false,false,false,false,false,false,false,false] rfl rfl (aC HT_.out (by kernel_rfl)) (fun _ _ _ h=>h) (Or.inl ⟨by rfl,?_⟩) ?_ ?_
             rotate_left
             ·intro w'
              go_simp
              with_reducible rfl
             rotate_left
             ·simp only[apu_]
              rfl
             refine aD (i:=5) (N:=some 39) (v:=?_) (a':=?_) #[true,true,true,true,true,true,false,false,false,false,false,false,false,false,false,false,false,false,false,false,false,false,false,false,false,false,false,false,false,false,false,false] rfl rfl (aC HT_.out (by kernel_rfl)) (fun _ _ _ h=>h) (Or.inl ⟨by rfl,?_⟩) ?_ ?_
             rotate_left
             ·intro w'
              go_simp
              with_reducible rfl
             rotate_left
             ·simp only[apu_]
              rfl
             refine aD (i:=6) (N:=some 40) (v:=?_) (a':=?_) #[true,true,true,true,true,true,true,false,false,false,false,false,false,false,false,false,false,false,false,false,false,false,false,false,false,false,false,false,false,false,false,false] rfl rfl (aC HT_.out (by kernel_rfl)) (fun _ _ _ h=>h) (Or.inl ⟨by rfl,?_⟩) ?_ ?_
             rotate_left
             ·intro w'
              go_simp
              with_reducible rfl
             rotate_left
             ·simp only[apu_]
              rfl
             refine aD (i:=7) (N:=some 41) (v:=?_) (a':=?_) #[true,true,true,true,true,true,true,true,false,false,false,false,false,false,false,false,false,false,false,false,false,false,false,false,false,false,false,false,false,false,false,false] rfl rfl (aC HT_.out (by kernel_rfl)) (fun _ _ _ h=>h) (Or.inl ⟨by rfl,?_⟩) ?_ ?_
             rotate_left
             ·intro w'
              go_simp
              with_reducible rfl
             rotate_left
             ·simp only[apu_]
              rfl
             refine aD (i:=8) (N:=some 42) (v:=undef) (a':=?_) #[true,true,true,true,true,true,true,true,true,false,false,false,false,false,false,false,false,false,false,false,false,false,false,false,false,false,false,false,false,false,false,false] rfl rfl (aC HT_.out (by kernel_rfl)) (fun _ _ _ h=>h) (Or.inr ⟨by rfl,rfl⟩) ?_ ?_
             rotate_left
             ·simp only[apu_]
              rfl
             refine aD (i:=9) (N:=some 43) (v:=undef) (a':=?_) #[true,true,true,true,true,true,true,true,true,true,false,false,false,false,false,false,false,false,false,false,false,false,false,false,false,false,false,false,false,false,false,false] rfl rfl (aC HT_.out (by kernel_rfl)) (fun _ _ _ h=>h) (Or.inr ⟨by rfl,rfl⟩) ?_ ?_
             rotate_left
             ·simp only[apu_]
              rfl
             refine aD (i:=10) (N:=some 44) (v:=undef) (a':=?_) #[true,true,true,true,true,true,true,true,true,true,true,false,false,false,false,false,false,false,false,false,false,false,false,false,false,false,false,false,false,false,false,false] rfl rfl (aC HT_.out (by kernel_rfl)) (fun _ _ _ h=>h) (Or.inr ⟨by rfl,rfl⟩) ?_ ?_
             rotate_left
             ·simp only[apu_]
              rfl
             refine aD (i:=11) (N:=some 45) (v:=undef) (a':=?_) #[true,true,true,true,true,true,true,true,true,true,true,true,false,false,false,false,false,false,false,false,false,false,false,false,false,false,false,false,false,false,false,false] rfl rfl (aC HT_.out (by kernel_rfl)) (fun _ _ _ h=>h) (Or.inr ⟨by rfl,rfl⟩) ?_ ?_
             rotate_left
             ·simp only[apu_]
              rfl
             refine aD (i:=12) (N:=some 46) (v:=undef) (a':=?_) #[true,true,true,true,true,true,true,true,true,true,true,true,true,false,false,false,false,false,false,false,false,false,false,false,false,false,false,false,false,false,false,false] rfl rfl (aC HT_.out (by kernel_rfl)) (fun _ _ _ h=>h) (Or.inr ⟨by rfl,rfl⟩) ?_ ?_
             rotate_left
             ·simp only[apu_]
              rfl
             refine aD (i:=13) (N:=some 47) (v:=undef) (a':=?_) #[true,true,true,true,true,true,true,true,true,true,true,true,true,true,false,false,false,false,false,false,false,false,false,false,false,false,false,false,false,false,false,false] rfl rfl (aC HT_.out (by kernel_rfl)) (fun _ _ _ h=>h) (Or.inr ⟨by rfl,rfl⟩) ?_ ?_
             rotate_left
             ·simp only[apu_]
              rfl
             refine aD (i:=14) (N:=some 48) (v:=undef) (a':=?_) #[true,true,true,true,true,true,true,true,true,true,true,true,true,true,true,false,false,false,false,false,false,false,false,false,false,false,false,false,false,false,false,false] rfl rfl (aC HT_.out (by kernel_rfl)) (fun _ _ _ h=>h) (Or.inr ⟨by rfl,rfl⟩) ?_ ?_
             rotate_left
             ·simp only[apu_]
              rfl
             refine aD (i:=15) (N:=some 49) (v:=undef) (a':=?_) #[true,true,true,true,true,true,true,true,true,true,true,true,true,true,true,true,false,false,false,false,false,false,false,false,false,false,false,false,false,false,false,false] rfl rfl (aC HT_.out (by kernel_rfl)) (fun _ _ _ h=>h) (Or.inr ⟨by rfl,rfl⟩) ?_ ?_
             rotate_left
             ·simp only[apu_]
              rfl
             refine aD (i:=16) (N:=some 50) (v:=undef) (a':=?_) #[true,true,true,true,true,true,true,true,true,true,true,true,true,true,true,true,true,false,false,false,false,false,false,false,false,false,false,false,false,false,false,false] rfl rfl (aC HT_.out (by kernel_rfl)) (fun _ _ _ h=>h) (Or.inr ⟨by rfl,rfl⟩) ?_ ?_
             rotate_left
             ·simp only[apu_]
              rfl
             refine aD (i:=17) (N:=some 51) (v:=undef) (a':=?_) #[true,true,true,true,true,true,true,true,true,true,true,true,true,true,true,true,true,true,false,false,false,false,false,false,false,false,false,false,false,false,false,false] rfl rfl (aC HT_.out (by kernel_rfl)) (fun _ _ _ h=>h) (Or.inr ⟨by rfl,rfl⟩) ?_ ?_
             rotate_left
             ·simp only[apu_]
              rfl
             refine aD (i:=18) (N:=some 52) (v:=?_) (a':=?_) #[true,true,true,true,true,true,true,true,true,true,true,true,true,true,true,true,true,true,true,false,false,false,false,false,false,false,false,false,false,false,false,false] rfl rfl (aC HT_.out (by kernel_rfl)) (fun _ _ _ h=>h) (Or.inl ⟨by rfl,?_⟩) ?_ ?_
             rotate_left
             ·intro w'
              go_simp
              with_reducible rfl
             rotate_left
             ·simp only[apu_]
              rfl
             refine aD (i:=19) (N:=some 53) (v:=?_) (a':=?_) #[true,true,true,true,true,true,true,true,true,true,true,true,true,true,true,true,true,true,true,true,false,false,false,false,false,false,false,false,false,false,false,false] rfl rfl (aC HT_.out (by kernel_rfl)) (fun _ _ _ h=>h) (Or.inl ⟨by rfl,?_⟩) ?_ ?_
             rotate_left
             ·intro w'
              go_simp
              with_reducible rfl
             rotate_left
             ·simp only[apu_]
              rfl
             refine aD (i:=20) (N:=some 54) (v:=?_) (a':=?_) #[true,true,true,true,true,true,true,true,true,true,true,true,true,true,true,true,true,true,true,true,true,false,false,false,false,false,false,false,false,false,false,false] rfl rfl (aC HT_.out (by kernel_rfl)) (fun _ _ _ h=>h) (Or.inl ⟨by rfl,?_⟩) ?_ ?_
             rotate_left
             ·intro w'
              go_simp
              with_reducible rfl
             rotate_left
             ·simp only[apu_]
              rfl
             refine aD (i:=21) (N:=some 55) (v:=?_) (a':=?_) #[true,true,true,true,true,true,true,true,true,true,true,true,true,true,true,true,true,true,true,true,true,true,false,false,false,false,false,false,false,false,false,false] rfl rfl (aC HT_.out (by kernel_rfl)) (fun _ _ _ h=>h) (Or.inl ⟨by rfl,?_⟩) ?_ ?_
             rotate_left
             ·intro w'
              go_simp
              with_reducible rfl
             rotate_left
             ·simp only[apu_]
              rfl
             refine aZ (i:=22) (N:=some 56) (v:=?_) (a':=?_) #[true,true,true,true,true,true,true,true,true,true,true,true,true,true,true,true,true,true,true,true,true,true,true,false,false,false,false,false,false,false,false,false] rfl rfl (aT HT_.out HW_.out (by kernel_rfl)) (fun _ _ _ h=>h) (Or.inl ⟨by rfl,?_⟩) hHeld ?_ ?_
             rotate_left
             ·rintro w' ⟨s0,s1,s2⟩
              go_simp
              with_reducible rfl
             rotate_left
             ·simp only[apu_]
              rfl
             refine di (i:=23) (N:=some 57) #[true,true,true,true,true,true,true,true,true,true,true,true,true,true,true,true,true,true,true,true,true,true,true,true,false,false,false,false,false,false,false,false] rfl rfl (bW HT_.out (by kernel_rfl)) (by decide) (fun K hK=>?_)
             refine bU Tryd.func12 (by kernel_rfl) rfl #[.int .i64 ((az l0_4 x29_2).f1),.int .i64 0,.int .i64 200] (by rfl) rfl rfl (by(try simp only[amp_]);first|done|rfl|(simp only[ald_];rfl)) ?_
             with_reducible refine(spec_l1In.calls ((az l0_4 x29_2).f1) 0 200 true _ A42.out).mono ?_
             rintro e w' ⟨rfl,⟨nd,rfl⟩⟩
             refine⟨_,rfl,?_⟩
             refine hK.out _ _ ⟨(ag BK191.out 0).trans rfl,(ag BK191.out 1).trans rfl,(ag BK191.out 2).trans rfl⟩ (fun hHeld=>?_)
             clear hK K
             refine bS (a':=?_) ?_ ?_
             rotate_left
             ·show Act.put _ (some 57) _=_
              simp only[apu_]
              rfl
             refine aD (i:=24) (N:=some 58) (v:=?_) (a':=?_) #[true,true,true,true,true,true,true,true,true,true,true,true,true,true,true,true,true,true,true,true,true,true,true,true,true,false,false,false,false,false,false,false] rfl rfl (aC HT_.out (by kernel_rfl)) (fun _ _ _ h=>h) (Or.inl ⟨by rfl,?_⟩) ?_ ?_
             rotate_left
             ·intro w'
              go_simp
              with_reducible rfl
             rotate_left
             ·simp only[apu_]
              rfl
             refine aD (i:=25) (N:=some 59) (v:=?_) (a':=?_) #[true,true,true,true,true,true,true,true,true,true,true,true,true,true,true,true,true,true,true,true,true,true,true,true,true,true,false,false,false,false,false,false] rfl rfl (aC HT_.out (by kernel_rfl)) (fun _ _ _ h=>h) (Or.inl ⟨by rfl,?_⟩) ?_ ?_
             rotate_left
             ·intro w'
              go_simp
              with_reducible rfl
             rotate_left
             ·simp only[apu_]
              rfl
             refine aD (i:=26) (N:=some 60) (v:=?_) (a':=?_) #[true,true,true,true,true,true,true,true,true,true,true,true,true,true,true,true,true,true,true,true,true,true,true,true,true,true,true,false,false,false,false,false] rfl rfl (aC HT_.out (by kernel_rfl)) (fun _ _ _ h=>h) (Or.inl ⟨by rfl,?_⟩) ?_ ?_
             rotate_left
             ·intro w'
              go_simp
              with_reducible rfl
             rotate_left
             ·simp only[apu_]
              rfl
             refine aD (i:=27) (N:=some 61) (v:=?_) (a':=?_) #[true,true,true,true,true,true,true,true,true,true,true,true,true,true,true,true,true,true,true,true,true,true,true,true,true,true,true,true,false,false,false,false] rfl rfl (aC HT_.out (by kernel_rfl)) (fun _ _ _ h=>h) (Or.inl ⟨by rfl,?_⟩) ?_ ?_
             rotate_left
             ·intro w'
              go_simp
              with_reducible rfl
             rotate_left
             ·simp only[apu_]
              rfl
             refine aZ (i:=28) (N:=some 62) (v:=?_) (a':=?_) #[true,true,true,true,true,true,true,true,true,true,true,true,true,true,true,true,true,true,true,true,true,true,true,true,true,true,true,true,true,false,false,false] rfl rfl (aT HT_.out HW_.out (by kernel_rfl)) (fun _ _ _ h=>h) (Or.inl ⟨by rfl,?_⟩) hHeld ?_ ?_
             rotate_left
             ·rintro w' ⟨s0,s1,s2⟩
              go_simp
              with_reducible rfl
             rotate_left
             ·simp only[apu_]
              rfl
             refine di (i:=29) (N:=some 63) #[true,true,true,true,true,true,true,true,true,true,true,true,true,true,true,true,true,true,true,true,true,true,true,true,true,true,true,true,true,true,false,false] rfl rfl (bW HT_.out (by kernel_rfl)) (by decide) (fun K hK=>?_)
             refine bU Tryd.func14 (by kernel_rfl) rfl #[.agg #[.slice A190_2 ((az l0_4 x29_2).f2.f0).length c190_2]] (by rfl) rfl rfl (by(try simp only[amp_]);first|done|rfl|(simp only[ald_];rfl)) ?_
             with_reducible refine(spec_GoodMap.calls k2 _ _ ((az l0_4 x29_2).f2.f0) t197 _ ?side1 ?side2 A44.out).mono ?_
             (case side1=>repeat(first|exact(Kd.aQ HR190_2.out (by with_reducible repeat(first|exact HB.out|apply af|apply aa|apply ae|refine ai ?_ GE187.out|refine ai ?_ GE191.out)))|(with_reducible first|apply Kd.aW|apply Kd.aV|apply Kd.aY)))
             (case side2=>exact HC190_2.out)
             rintro e w47 ⟨rfl,hb⟩
             refine⟨_,rfl,?_⟩
             have n0_:=av (aG (g:=gb187) (o:=.cells #[.int .i64 a0_0,.int .i64 a0_1,.slice A0_2 l0_2.length c0_2,.slice A0_3 l0_3.length c0_3,.slice (some ad190) l0_4.length c0_4] 35 (0,0)) (by(with_reducible repeat(first|apply aj|apply au|apply ak));exact BK187.out) hb)
             have n1_:=av (aG (g:=gb191) (o:=.cells #[.string ((az l0_4 x29_2).f0),.int .i64 ((az l0_4 x29_2).f1),.slice A190_2 ((az l0_4 x29_2).f2.f0).length c190_2] 47 (0,0)) (by(with_reducible repeat(first|apply aj|apply au|apply ak));exact BK191.out) hb)
             have n2_:=av (aA (by with_reducible repeat(first|exact HB.out|apply af|apply aa|apply ae|refine ai ?_ GE187.out|refine ai ?_ GE191.out)) hb)
             clear BK187
             clear BK191
             clear HB
             have BK187:=n0_
             have BK191:=n1_
             have HB:=n2_
             clear n0_ n1_ n2_
             (try clear hb)
             (try clear hb2)
             (try clear hk)
             (try clear hi)
             refine hK.out _ _ ⟨(ag BK191.out 0).trans rfl,(ag BK191.out 1).trans rfl,(ag BK191.out 2).trans rfl⟩ (fun hHeld=>?_)
             clear hK K
             refine bS (a':=?_) ?_ ?_
             rotate_left
             ·show Act.put _ (some 63) _=_
              simp only[apu_]
              rfl
             refine aD (i:=30) (N:=some 64) (v:=?_) (a':=?_) #[true,true,true,true,true,true,true,true,true,true,true,true,true,true,true,true,true,true,true,true,true,true,true,true,true,true,true,true,true,true,true,false] rfl rfl (aC HT_.out (by kernel_rfl)) (fun _ _ _ h=>h) (Or.inl ⟨by rfl,?_⟩) ?_ ?_
             rotate_left
             ·intro w'
              go_simp
              with_reducible rfl
             rotate_left
             ·simp only[apu_]
              rfl
             refine aD (i:=31) (N:=some 65) (v:=?_) (a':=?_) #[true,true,true,true,true,true,true,true,true,true,true,true,true,true,true,true,true,true,true,true,true,true,true,true,true,true,true,true,true,true,true,true] rfl rfl (aC HT_.out (by kernel_rfl)) (fun _ _ _ h=>h) (Or.inl ⟨by rfl,?_⟩) ?_ ?_
             rotate_left
             ·intro w'
              go_simp
              with_reducible rfl
             rotate_left
             ·simp only[apu_]
              rfl
             refine cu (bK HT_.out (by kernel_rfl)) ?_
             try go_wp2
             go_meet
             case rel=>exact⟨_,(!t197),(by first|rfl|(simp;done)|(simp[*];done)),H',⟨by have:=HJ1.out;have:=HK2.out;first|omega|exact Nat.le_refl _⟩,⟨by(with_reducible repeat(first|apply aj|apply au|apply ak));exact BK187.out⟩,⟨by(with_reducible repeat(first|apply aj|apply au|apply ak));exact BK191.out⟩,⟨by with_reducible repeat(first|exact HB.out|apply af|apply aa|apply ae|refine ai ?_ GE187.out|refine ai ?_ GE191.out)⟩⟩
            ·replace c43:=Bool.eq_false_iff.mpr c43
             subst c43
             have H1:(spec_GoodSystem.j2 k2 l0_4 (l0_4.length:Int) x29_2 true a0_0 a0_1 l0_2 l0_3 l0_4 ((az l0_4 x29_2).f0) ((az l0_4 x29_2).f1) ((az l0_4 x29_2).f2.f0))=some r:=by rw[if_neg (show ¬ (false=true) by decide)] at H;exact H
             clear H
             have H:=H1
             clear H1
             have H':=av H
             clear H
             try go_wp2
             have n0_:Aside0 ((((w22.setCell ⟨gb191,0,none⟩ (.string ((az l0_4 x29_2).f0))).setCell ⟨gb191,1,none⟩ (.int .i64 ((az l0_4 x29_2).f1))).setCell ⟨gb191,2,none⟩ (.slice A190_2 ((az l0_4 x29_2).f2.f0).length c190_2)).heap[gb187]? = some (.cells #[.int .i64 a0_0,.int .i64 a0_1,.slice A0_2 l0_2.length c0_2,.slice A0_3 l0_3.length c0_3,.slice (some ad190) l0_4.length c0_4] 35 (0,0))):=⟨by(with_reducible repeat(first|apply aj|apply au|apply ak));refine aU ?_ NB187_191.out _;(with_reducible repeat(first|apply aj|apply au|apply ak));refine aU ?_ NB187_191.out _;(with_reducible repeat(first|apply aj|apply au|apply ak));refine aU ?_ NB187_191.out _;(with_reducible repeat(first|apply aj|apply au|apply ak));exact BK187.out⟩
             have n1_:Aside0 ((((w22.setCell ⟨gb191,0,none⟩ (.string ((az l0_4 x29_2).f0))).setCell ⟨gb191,1,none⟩ (.int .i64 ((az l0_4 x29_2).f1))).setCell ⟨gb191,2,none⟩ (.slice A190_2 ((az l0_4 x29_2).f2.f0).length c190_2)).heap[gb191]? = some (.cells #[.string ((az l0_4 x29_2).f0),.int .i64 ((az l0_4 x29_2).f1),.slice A190_2 ((az l0_4 x29_2).f2.f0).length c190_2] 47 (0,0))):=⟨by(with_reducible repeat(first|apply aj|apply au|apply ak));refine aX (cs:=#[.string ((az l0_4 x29_2).f0),.int .i64 ((az l0_4 x29_2).f1),.slice none 0 0]) ?_ 2 _ rfl;(with_reducible repeat(first|apply aj|apply au|apply ak));refine aX (cs:=#[.string ((az l0_4 x29_2).f0),.int .i64 0,.slice none 0 0]) ?_ 1 _ rfl;(with_reducible repeat(first|apply aj|apply au|apply ak));refine aX (cs:=#[.string (⟨#[]⟩:ByteArray),.int .i64 0,.slice none 0 0]) ?_ 0 _ rfl;(with_reducible repeat(first|apply aj|apply au|apply ak));exact BK191.out⟩
             have n2_:Aside0 (Below w.heap.size w (((w22.setCell ⟨gb191,0,none⟩ (.string ((az l0_4 x29_2).f0))).setCell ⟨gb191,1,none⟩ (.int .i64 ((az l0_4 x29_2).f1))).setCell ⟨gb191,2,none⟩ (.slice A190_2 ((az l0_4 x29_2).f2.f0).length c190_2))):=⟨by with_reducible repeat(first|exact HB.out|apply af|apply aa|apply ae|refine ai ?_ GE187.out|refine ai ?_ GE191.out)⟩
             (try clear BK187)
             (try clear BK191)
             (try clear HB)
             generalize (((w22.setCell ⟨gb191,0,none⟩ (.string ((az l0_4 x29_2).f0))).setCell ⟨gb191,1,none⟩ (.int .i64 ((az l0_4 x29_2).f1))).setCell ⟨gb191,2,none⟩ (.slice A190_2 ((az l0_4 x29_2).f2.f0).length c190_2))=w48 at n0_ n1_ n2_ ⊢
             have BK187:=n0_
             have BK191:=n1_
             have HB:=n2_
             clear n0_ n1_ n2_
             have n0_:=av (au BK187.out)
             have n1_:=av (au BK191.out)
             have n2_:=av (ae HB.out)
             clear BK187
             clear BK191
             clear HB
             have BK187:=n0_
             have BK191:=n1_
             have HB:=n2_
             clear n0_ n1_ n2_
             refine bJ (n:=32) (S:=fun w'=>w'.cell? ⟨gb191,0,none⟩=some (.string ((az l0_4 x29_2).f0))∧w'.cell? ⟨gb191,1,none⟩=some (.int .i64 ((az l0_4 x29_2).f1))∧w'.cell? ⟨gb191,2,none⟩=some (.slice A190_2 ((az l0_4 x29_2).f2.f0).length c190_2)) (ds:=[]) #[false,false,false,false,false,false,false,false,false,false,false,false,false,false,false,false,false,false,false,false,false,false,false,false,false,false,false,false,false,false,false,false] (by kernel_rfl) rfl rfl ⟨(ag BK191.out 0).trans rfl,(ag BK191.out 1).trans rfl,(ag BK191.out 2).trans rfl⟩ (fun hHeld=>?_);refine bz spec_GoodSystem.tab6 spec_GoodSystem.bits6 (fun HT_ HW_=>?_)
             generalize w48.drew=w49 at BK187 BK191 HB hHeld ⊢
             refine aD (i:=0) (N:=some 34) (v:=?_) (a':=?_) #[true,false,false,false,false,false,false,false,false,false,false,false,false,false,false,false,false,false,false,false,false,false,false,false,false,false,false,false,false,false,false,false] rfl rfl (aC HT_.out (by kernel_rfl)) (fun _ _ _ h=>h) (Or.inl ⟨by rfl,?_⟩) ?_ ?_
             rotate_left
             ·intro w'
              go_simp
              with_reducible rfl
             rotate_left
             ·simp only[apu_]
              rfl
             refine aZ (i:=1) (N:=some 35) (v:=?_) (a':=?_) #[true,true,false,false,false,false,false,false,false,false,false,false,false,false,false,false,false,false,false,false,false,false,false,false,false,false,false,false,false,false,false,false] rfl rfl (aT HT_.out HW_.out (by kernel_rfl)) (fun _ _ _ h=>h) (Or.inl ⟨by rfl,?_⟩) hHeld ?_ ?_
             rotate_left
             ·rintro w' ⟨s0,s1,s2⟩
              go_simp
              with_reducible rfl
             rotate_left
             ·simp only[apu_]
              rfl
             refine di (i:=2) (N:=some 36) #[true,true,true,false,false,false,false,false,false,false,false,false,false,false,false,false,false,false,false,false,false,false,false,false,false,false,false,false,false,false,false,false] rfl rfl (bW HT_.out (by kernel_rfl)) (by decide) (fun K hK=>?_)
             refine bU Tryd.func13 (by kernel_rfl) rfl #[.string ((az l0_4 x29_2).f0)] (by rfl) rfl rfl (by(try simp only[amp_]);first|done|rfl|(simp only[ald_];rfl)) ?_
             with_reducible refine(spec_l8Name.calls k2 ((az l0_4 x29_2).f0) true _ A25.out).mono ?_
             rintro e w' ⟨rfl,⟨nd,rfl⟩⟩
             refine⟨_,rfl,?_⟩
             refine hK.out _ _ ⟨(ag BK191.out 0).trans rfl,(ag BK191.out 1).trans rfl,(ag BK191.out 2).trans rfl⟩ (fun hHeld=>?_)
             clear hK K
             refine bS (a':=?_) ?_ ?_
             rotate_left
             ·show Act.put _ (some 36) _=_
              simp only[apu_]
              rfl
             refine aD (i:=3) (N:=some 37) (v:=?_) (a':=?_) #[true,true,true,true,false,false,false,false,false,false,false,false,false,false,false,false,false,false,false,false,false,false,false,false,false,false,false,false,false,false,false,false] rfl rfl (aC HT_.out (by kernel_rfl)) (fun _ _ _ h=>h) (Or.inl ⟨by rfl,?_⟩) ?_ ?_
             rotate_left
             ·intro w'
              go_simp
              with_reducible rfl
             rotate_left
             ·simp only[apu_]
              rfl
             refine aD (i:=4) (N:=some 38) (v:=?_) (a':=?_) #[true,true,true,true,true,false,false,false,false,false,false,false,false,false,false,false,false,false,false,false,false,false,false,false,false,false,false,false,false,false,false,false] rfl rfl (aC HT_.out (by kernel_rfl)) (fun _ _ _ h=>h) (Or.inl ⟨by rfl,?_⟩) ?_ ?_
             rotate_left
             ·intro w'
              go_simp
              with_reducible rfl
             rotate_left
             ·simp only[apu_]
              rfl
             refine aD (i:=5) (N:=some 39) (v:=?_) (a':=?_) #[true,true,true,true,true,true,false,false,false,false,false,false,false,false,false,false,false,false,false,false,false,false,false,false,false,false,false,false,false,false,false,false] rfl rfl (aC HT_.out (by kernel_rfl)) (fun _ _ _ h=>h) (Or.inl ⟨by rfl,?_⟩) ?_ ?_
             rotate_left
             ·intro w'
              go_simp
              with_reducible rfl
             rotate_left
             ·simp only[apu_]
              rfl
             refine aD (i:=6) (N:=some 40) (v:=?_) (a':=?_) #[true,true,true,true,true,true,true,false,false,false,false,false,false,false,false,false,false,false,false,false,false,false,false,false,false,false,false,false,false,false,false,false] rfl rfl (aC HT_.out (by kernel_rfl)) (fun _ _ _ h=>h) (Or.inl ⟨by rfl,?_⟩) ?_ ?_
             rotate_left
             ·intro w'
              go_simp
              with_reducible rfl
             rotate_left
             ·simp only[apu_]
              rfl
             refine aD (i:=7) (N:=some 41) (v:=?_) (a':=?_) #[true,true,true,true,true,true,true,true,false,false,false,false,false,false,false,false,false,false,false,false,false,false,false,false,false,false,false,false,false,false,false,false] rfl rfl (aC HT_.out (by kernel_rfl)) (fun _ _ _ h=>h) (Or.inl ⟨by rfl,?_⟩) ?_ ?_
             rotate_left
             ·intro w'
              go_simp
              with_reducible rfl
             rotate_left
             ·simp only[apu_]
              rfl
             refine aD (i:=8) (N:=some 42) (v:=undef) (a':=?_) #[true,true,true,true,true,true,true,true,true,false,false,false,false,false,false,false,false,false,false,false,false,false,false,false,false,false,false,false,false,false,false,false] rfl rfl (aC HT_.out (by kernel_rfl)) (fun _ _ _ h=>h) (Or.inr ⟨by rfl,rfl⟩) ?_ ?_
             rotate_left
             ·simp only[apu_]
              rfl
             refine aD (i:=9) (N:=some 43) (v:=undef) (a':=?_) #[true,true,true,true,true,true,true,true,true,true,false,false,false,false,false,false,false,false,false,false,false,false,false,false,false,false,false,false,false,false,false,false] rfl rfl (aC HT_.out (by kernel_rfl)) (fun _ _ _ h=>h) (Or.inr ⟨by rfl,rfl⟩) ?_ ?_
             rotate_left
             ·simp only[apu_]
              rfl
             refine aD (i:=10) (N:=some 44) (v:=undef) (a':=?_) #[true,true,true,true,true,true,true,true,true,true,true,false,false,false,false,false,false,false,false,false,false,false,false,false,false,false,false,false,false,false,false,false] rfl rfl (aC HT_.out (by kernel_rfl)) (fun _ _ _ h=>h) (Or.inr ⟨by rfl,rfl⟩) ?_ ?_
             rotate_left
             ·simp only[apu_]
              rfl
             refine aD (i:=11) (N:=some 45) (v:=undef) (a':=?_) #[true,true,true,true,true,true,true,true,true,true,true,true,false,false,false,false,false,false,false,false,false,false,false,false,false,false,false,false,false,false,false,false] rfl rfl (aC HT_.out (by kernel_rfl)) (fun _ _ _ h=>h) (Or.inr ⟨by rfl,rfl⟩) ?_ ?_
             rotate_left
             ·simp only[apu_]
              rfl
             refine aD (i:=12) (N:=some 46) (v:=undef) (a':=?_) #[true,true,true,true,true,true,true,true,true,true,true,true,true,false,false,false,false,false,false,false,false,false,false,false,false,false,false,false,false,false,false,false] rfl rfl (aC HT_.out (by kernel_rfl)) (fun _ _ _ h=>h) (Or.inr ⟨by rfl,rfl⟩) ?_ ?_
             rotate_left
             ·simp only[apu_]
              rfl
             refine aD (i:=13) (N:=some 47) (v:=undef) (a':=?_) #[true,true,true,true,true,true,true,true,true,true,true,true,true,true,false,false,false,false,false,false,false,false,false,false,false,false,false,false,false,false,false,false] rfl rfl (aC HT_.out (by kernel_rfl)) (fun _ _ _ h=>h) (Or.inr ⟨by rfl,rfl⟩) ?_ ?_
             rotate_left
             ·simp only[apu_]
              rfl
             refine aD (i:=14) (N:=some 48) (v:=undef) (a':=?_) #[true,true,true,true,true,true,true,true,true,true,true,true,true,true,true,false,false,false,false,false,false,false,false,false,false,false,false,false,false,false,false,false] rfl rfl (aC HT_.out (by kernel_rfl)) (fun _ _ _ h=>h) (Or.inr ⟨by rfl,rfl⟩) ?_ ?_
             rotate_left
             ·simp only[apu_]
              rfl
             refine aD (i:=15) (N:=some 49) (v:=undef) (a':=?_) #[true,true,true,true,true,true,true,true,true,true,true,true,true,true,true,true,false,false,false,false,false,false,false,false,false,false,false,false,false,false,false,false] rfl rfl (aC HT_.out (by kernel_rfl)) (fun _ _ _ h=>h) (Or.inr ⟨by rfl,rfl⟩) ?_ ?_
             rotate_left
             ·simp only[apu_]
              rfl
             refine aD (i:=16) (N:=some 50) (v:=undef) (a':=?_) #[true,true,true,true,true,true,true,true,true,true,true,true,true,true,true,true,true,false,false,false,false,false,false,false,false,false,false,false,false,false,false,false] rfl rfl (aC HT_.out (by kernel_rfl)) (fun _ _ _ h=>h) (Or.inr ⟨by rfl,rfl⟩) ?_ ?_
             rotate_left
             ·simp only[apu_]
              rfl
             refine aD (i:=17) (N:=some 51) (v:=undef) (a':=?_) #[true,true,true,true,true,true,true,true,true,true,true,true,true,true,true,true,true,true,false,false,false,false,false,false,false,false,false,false,false,false,false,false] rfl rfl (aC HT_.out (by kernel_rfl)) (fun _ _ _ h=>h) (Or.inr ⟨by rfl,rfl⟩) ?_ ?_
             rotate_left
             ·simp only[apu_]
              rfl
             refine aD (i:=18) (N:=some 52) (v:=?_) (a':=?_) #[true,true,true,true,true,true,true,true,true,true,true,true,true,true,true,true,true,true,true,false,false,false,false,false,false,false,false,false,false,false,false,false] rfl rfl (aC HT_.out (by kernel_rfl)) (fun _ _ _ h=>h) (Or.inl ⟨by rfl,?_⟩) ?_ ?_
             rotate_left
             ·intro w'
              go_simp
              with_reducible rfl
             rotate_left
             ·simp only[apu_]
              rfl
             refine aD (i:=19) (N:=some 53) (v:=?_) (a':=?_) #[true,true,true,true,true,true,true,true,true,true,true,true,true,true,true,true,true,true,true,true,false,false,false,false,false,false,false,false,false,false,false,false] rfl rfl (aC HT_.out (by kernel_rfl)) (fun _ _ _ h=>h) (Or.inl ⟨by rfl,?_⟩) ?_ ?_
             rotate_left
             ·intro w'
              go_simp
              with_reducible rfl
             rotate_left
             ·simp only[apu_]
              rfl
             refine aD (i:=20) (N:=some 54) (v:=?_) (a':=?_) #[true,true,true,true,true,true,true,true,true,true,true,true,true,true,true,true,true,true,true,true,true,false,false,false,false,false,false,false,false,false,false,false] rfl rfl (aC HT_.out (by kernel_rfl)) (fun _ _ _ h=>h) (Or.inl ⟨by rfl,?_⟩) ?_ ?_
             rotate_left
             ·intro w'
              go_simp
              with_reducible rfl
             rotate_left
             ·simp only[apu_]
              rfl
             refine aD (i:=21) (N:=some 55) (v:=?_) (a':=?_) #[true,true,true,true,true,true,true,true,true,true,true,true,true,true,true,true,true,true,true,true,true,true,false,false,false,false,false,false,false,false,false,false] rfl rfl (aC HT_.out (by kernel_rfl)) (fun _ _ _ h=>h) (Or.inl ⟨by rfl,?_⟩) ?_ ?_
             rotate_left
             ·intro w'
              go_simp
              with_reducible rfl
             rotate_left
             ·simp only[apu_]
              rfl
             refine aZ (i:=22) (N:=some 56) (v:=?_) (a':=?_) #[true,true,true,true,true,true,true,true,true,true,true,true,true,true,true,true,true,true,true,true,true,true,true,false,false,false,false,false,false,false,false,false] rfl rfl (aT HT_.out HW_.out (by kernel_rfl)) (fun _ _ _ h=>h) (Or.inl ⟨by rfl,?_⟩) hHeld ?_ ?_
             rotate_left
             ·rintro w' ⟨s0,s1,s2⟩
              go_simp
              with_reducible rfl
             rotate_left
             ·simp only[apu_]
              rfl
             refine di (i:=23) (N:=some 57) #[true,true,true,true,true,true,true,true,true,true,true,true,true,true,true,true,true,true,true,true,true,true,true,true,false,false,false,false,false,false,false,false] rfl rfl (bW HT_.out (by kernel_rfl)) (by decide) (fun K hK=>?_)
             refine bU Tryd.func12 (by kernel_rfl) rfl #[.int .i64 ((az l0_4 x29_2).f1),.int .i64 0,.int .i64 200] (by rfl) rfl rfl (by(try simp only[amp_]);first|done|rfl|(simp only[ald_];rfl)) ?_
             with_reducible refine(spec_l1In.calls ((az l0_4 x29_2).f1) 0 200 false _ A42.out).mono ?_
             rintro e w' ⟨rfl,⟨nd,rfl⟩⟩
             refine⟨_,rfl,?_⟩
             refine hK.out _ _ ⟨(ag BK191.out 0).trans rfl,(ag BK191.out 1).trans rfl,(ag BK191.out 2).trans rfl⟩ (fun hHeld=>?_)
             clear hK K
             refine bS (a':=?_) ?_ ?_
             rotate_left
             ·show Act.put _ (some 57) _=_
              simp only[apu_]
              rfl
             refine aD (i:=24) (N:=some 58) (v:=?_) (a':=?_) #[true,true,true,true,true,true,true,true,true,true,true,true,true,true,true,true,true,true,true,true,true,true,true,true,true,false,false,false,false,false,false,false] rfl rfl (aC HT_.out (by kernel_rfl)) (fun _ _ _ h=>h) (Or.inl ⟨by rfl,?_⟩) ?_ ?_
             rotate_left
             ·intro w'
              go_simp
              with_reducible rfl
             rotate_left
             ·simp only[apu_]
              rfl
             refine aD (i:=25) (N:=some 59) (v:=?_) (a':=?_) #[true,true,true,true,true,true,true,true,true,true,true,true,true,true,true,true,true,true,true,true,true,true,true,true,true,true,false,false,false,false,false,false] rfl rfl (aC HT_.out (by kernel_rfl)) (fun _ _ _ h=>h) (Or.inl ⟨by rfl,?_⟩) ?_ ?_
             rotate_left
             ·intro w'
              go_simp
              with_reducible rfl
             rotate_left
             ·simp only[apu_]
              rfl
             refine aD (i:=26) (N:=some 60) (v:=?_) (a':=?_) #[true,true,true,true,true,true,true,true,true,true,true,true,true,true,true,true,true,true,true,true,true,true,true,true,true,true,true,false,false,false,false,false] rfl rfl (aC HT_.out (by kernel_rfl)) (fun _ _ _ h=>h) (Or.inl ⟨by rfl,?_⟩) ?_ ?_
             rotate_left
             ·intro w'
              go_simp
              with_reducible rfl
             rotate_left
             ·simp only[apu_]
              rfl
             refine aD (i:=27) (N:=some 61) (v:=undef) (a':=?_) #[true,true,true,true,true,true,true,true,true,true,true,true,true,true,true,true,true,true,true,true,true,true,true,true,true,true,true,true,false,false,false,false] rfl rfl (aC HT_.out (by kernel_rfl)) (fun _ _ _ h=>h) (Or.inr ⟨by rfl,rfl⟩) ?_ ?_
             rotate_left
             ·simp only[apu_]
              rfl
             refine aD (i:=28) (N:=some 62) (v:=undef) (a':=?_) #[true,true,true,true,true,true,true,true,true,true,true,true,true,true,true,true,true,true,true,true,true,true,true,true,true,true,true,true,true,false,false,false] rfl rfl (aC HT_.out (by kernel_rfl)) (fun _ _ _ h=>h) (Or.inr ⟨by rfl,rfl⟩) ?_ ?_
             rotate_left
             ·simp only[apu_]
              rfl
             refine aD (i:=29) (N:=some 63) (v:=undef) (a':=?_) #[true,true,true,true,true,true,true,true,true,true,true,true,true,true,true,true,true,true,true,true,true,true,true,true,true,true,true,true,true,true,false,false] rfl rfl (aC HT_.out (by kernel_rfl)) (fun _ _ _ h=>h) (Or.inr ⟨by rfl,rfl⟩) ?_ ?_
             rotate_left
             ·simp only[apu_]
              rfl
             refine aD (i:=30) (N:=some 64) (v:=undef) (a':=?_) #[true,true,true,true,true,true,true,true,true,true,true,true,true,true,true,true,true,true,true,true,true,true,true,true,true,true,true,true,true,true,true,false] rfl rfl (aC HT_.out (by kernel_rfl)) (fun _ _ _ h=>h) (Or.inr ⟨by rfl,rfl⟩) ?_ ?_
             rotate_left
             ·simp only[apu_]
              rfl
             refine aD (i:=31) (N:=some 65) (v:=?_) (a':=?_) #[true,true,true,true,true,true,true,true,true,true,true,true,true,true,true,true,true,true,true,true,true,true,true,true,true,true,true,true,true,true,true,true] rfl rfl (aC HT_.out (by kernel_rfl)) (fun _ _ _ h=>h) (Or.inl ⟨by rfl,?_⟩) ?_ ?_
             rotate_left
             ·intro w'
              go_simp
              with_reducible rfl
             rotate_left
             ·simp only[apu_]
              rfl
             refine cu (bK HT_.out (by kernel_rfl)) ?_
             try go_wp2
             go_meet
             case rel=>exact⟨_,(true),(by first|rfl|(simp;done)|(simp[*];done)),H',⟨by have:=HJ1.out;have:=HK2.out;first|omega|exact Nat.le_refl _⟩,⟨by(with_reducible repeat(first|apply aj|apply au|apply ak));exact BK187.out⟩,⟨by(with_reducible repeat(first|apply aj|apply au|apply ak));exact BK191.out⟩,⟨by with_reducible repeat(first|exact HB.out|apply af|apply aa|apply ae|refine ai ?_ GE187.out|refine ai ?_ GE191.out)⟩⟩
          ·replace c26:=Bool.eq_false_iff.mpr c26
           subst c26
           have H1:(spec_GoodSystem.j2 k2 l0_4 (l0_4.length:Int) x29_2 true a0_0 a0_1 l0_2 l0_3 l0_4 ((az l0_4 x29_2).f0) ((az l0_4 x29_2).f1) ((az l0_4 x29_2).f2.f0))=some r:=by rw[if_neg (show ¬ (false=true) by decide)] at H;exact H
           clear H
           have H:=H1
           clear H1
           have H':=av H
           clear H
           try go_wp2
           have n0_:Aside0 ((((w22.setCell ⟨gb191,0,none⟩ (.string ((az l0_4 x29_2).f0))).setCell ⟨gb191,1,none⟩ (.int .i64 ((az l0_4 x29_2).f1))).setCell ⟨gb191,2,none⟩ (.slice A190_2 ((az l0_4 x29_2).f2.f0).length c190_2)).heap[gb187]? = some (.cells #[.int .i64 a0_0,.int .i64 a0_1,.slice A0_2 l0_2.length c0_2,.slice A0_3 l0_3.length c0_3,.slice (some ad190) l0_4.length c0_4] 35 (0,0))):=⟨by(with_reducible repeat(first|apply aj|apply au|apply ak));refine aU ?_ NB187_191.out _;(with_reducible repeat(first|apply aj|apply au|apply ak));refine aU ?_ NB187_191.out _;(with_reducible repeat(first|apply aj|apply au|apply ak));refine aU ?_ NB187_191.out _;(with_reducible repeat(first|apply aj|apply au|apply ak));exact BK187.out⟩
           have n1_:Aside0 ((((w22.setCell ⟨gb191,0,none⟩ (.string ((az l0_4 x29_2).f0))).setCell ⟨gb191,1,none⟩ (.int .i64 ((az l0_4 x29_2).f1))).setCell ⟨gb191,2,none⟩ (.slice A190_2 ((az l0_4 x29_2).f2.f0).length c190_2)).heap[gb191]? = some (.cells #[.string ((az l0_4 x29_2).f0),.int .i64 ((az l0_4 x29_2).f1),.slice A190_2 ((az l0_4 x29_2).f2.f0).length c190_2] 47 (0,0))):=⟨by(with_reducible repeat(first|apply aj|apply au|apply ak));refine aX (cs:=#[.string ((az l0_4 x29_2).f0),.int .i64 ((az l0_4 x29_2).f1),.slice none 0 0]) ?_ 2 _ rfl;(with_reducible repeat(first|apply aj|apply au|apply ak));refine aX (cs:=#[.string ((az l0_4 x29_2).f0),.int .i64 0,.slice none 0 0]) ?_ 1 _ rfl;(with_reducible repeat(first|apply aj|apply au|apply ak));refine aX (cs:=#[.string (⟨#[]⟩:ByteArray),.int .i64 0,.slice none 0 0]) ?_ 0 _ rfl;(with_reducible repeat(first|apply aj|apply au|apply ak));exact BK191.out⟩
           have n2_:Aside0 (Below w.heap.size w (((w22.setCell ⟨gb191,0,none⟩ (.string ((az l0_4 x29_2).f0))).setCell ⟨gb191,1,none⟩ (.int .i64 ((az l0_4 x29_2).f1))).setCell ⟨gb191,2,none⟩ (.slice A190_2 ((az l0_4 x29_2).f2.f0).length c190_2))):=⟨by with_reducible repeat(first|exact HB.out|apply af|apply aa|apply ae|refine ai ?_ GE187.out|refine ai ?_ GE191.out)⟩
           (try clear BK187)
           (try clear BK191)
           (try clear HB)
           generalize (((w22.setCell ⟨gb191,0,none⟩ (.string ((az l0_4 x29_2).f0))).setCell ⟨gb191,1,none⟩ (.int .i64 ((az l0_4 x29_2).f1))).setCell ⟨gb191,2,none⟩ (.slice A190_2 ((az l0_4 x29_2).f2.f0).length c190_2))=w50 at n0_ n1_ n2_ ⊢
           have BK187:=n0_
           have BK191:=n1_
           have HB:=n2_
           clear n0_ n1_ n2_
           have n0_:=av (au BK187.out)
           have n1_:=av (au BK191.out)
           have n2_:=av (ae HB.out)
           clear BK187
           clear BK191
           clear HB
           have BK187:=n0_
           have BK191:=n1_
           have HB:=n2_
           clear n0_ n1_ n2_
           refine bJ (n:=32) (S:=fun w'=>w'.cell? ⟨gb191,0,none⟩=some (.string ((az l0_4 x29_2).f0))∧w'.cell? ⟨gb191,1,none⟩=some (.int .i64 ((az l0_4 x29_2).f1))∧w'.cell? ⟨gb191,2,none⟩=some (.slice A190_2 ((az l0_4 x29_2).f2.f0).length c190_2)) (ds:=[]) #[false,false,false,false,false,false,false,false,false,false,false,false,false,false,false,false,false,false,false,false,false,false,false,false,false,false,false,false,false,false,false,false] (by kernel_rfl) rfl rfl ⟨(ag BK191.out 0).trans rfl,(ag BK191.out 1).trans rfl,(ag BK191.out 2).trans rfl⟩ (fun hHeld=>?_);refine bz spec_GoodSystem.tab6 spec_GoodSystem.bits6 (fun HT_ HW_=>?_)
           generalize w50.drew=w51 at BK187 BK191 HB hHeld ⊢
           refine aD (i:=0) (N:=some 34) (v:=?_) (a':=?_) #[true,false,false,false,false,false,false,false,false,false,false,false,false,false,false,false,false,false,false,false,false,false,false,false,false,false,false,false,false,false,false,false] rfl rfl (aC HT_.out (by kernel_rfl)) (fun _ _ _ h=>h) (Or.inl ⟨by rfl,?_⟩) ?_ ?_
           rotate_left
           ·intro w'
            go_simp
            with_reducible rfl
           rotate_left
           ·simp only[apu_]
            rfl
           refine aZ (i:=1) (N:=some 35) (v:=?_) (a':=?_) #[true,true,false,false,false,false,false,false,false,false,false,false,false,false,false,false,false,false,false,false,false,false,false,false,false,false,false,false,false,false,false,false] rfl rfl (aT HT_.out HW_.out (by kernel_rfl)) (fun _ _ _ h=>h) (Or.inl ⟨by rfl,?_⟩) hHeld ?_ ?_
           rotate_left
           ·rintro w' ⟨s0,s1,s2⟩
            go_simp
            with_reducible rfl
           rotate_left
           ·simp only[apu_]
            rfl
           refine di (i:=2) (N:=some 36) #[true,true,true,false,false,false,false,false,false,false,false,false,false,false,false,false,false,false,false,false,false,false,false,false,false,false,false,false,false,false,false,false] rfl rfl (bW HT_.out (by kernel_rfl)) (by decide) (fun K hK=>?_)
           refine bU Tryd.func13 (by kernel_rfl) rfl #[.string ((az l0_4 x29_2).f0)] (by rfl) rfl rfl (by(try simp only[amp_]);first|done|rfl|(simp only[ald_];rfl)) ?_
           with_reducible refine(spec_l8Name.calls k2 ((az l0_4 x29_2).f0) false _ A25.out).mono ?_
           rintro e w' ⟨rfl,⟨nd,rfl⟩⟩
           refine⟨_,rfl,?_⟩
           refine hK.out _ _ ⟨(ag BK191.out 0).trans rfl,(ag BK191.out 1).trans rfl,(ag BK191.out 2).trans rfl⟩ (fun hHeld=>?_)
           clear hK K
           refine bS (a':=?_) ?_ ?_
           rotate_left
           ·show Act.put _ (some 36) _=_
            simp only[apu_]
            rfl
           refine aD (i:=3) (N:=some 37) (v:=?_) (a':=?_) #[true,true,true,true,false,false,false,false,false,false,false,false,false,false,false,false,false,false,false,false,false,false,false,false,false,false,false,false,false,false,false,false] rfl rfl (aC HT_.out (by kernel_rfl)) (fun _ _ _ h=>h) (Or.inl ⟨by rfl,?_⟩) ?_ ?_
           rotate_left
           ·intro w'
            go_simp
            with_reducible rfl
           rotate_left
           ·simp only[apu_]
            rfl
           refine aD (i:=4) (N:=some 38) (v:=?_) (a':=?_) #[true,true,true,true,true,false,false,false,false,false,false,false,false,false,false,false,false,false,false,false,false,false,false,false,false,false,false,false,false,false,false,false] rfl rfl (aC HT_.out (by kernel_rfl)) (fun _ _ _ h=>h) (Or.inl ⟨by rfl,?_⟩) ?_ ?_
           rotate_left
           ·intro w'
            go_simp
            with_reducible rfl
           rotate_left
           ·simp only[apu_]
            rfl
           refine aD (i:=5) (N:=some 39) (v:=undef) (a':=?_) #[true,true,true,true,true,true,false,false,false,false,false,false,false,false,false,false,false,false,false,false,false,false,false,false,false,false,false,false,false,false,false,false] rfl rfl (aC HT_.out (by kernel_rfl)) (fun _ _ _ h=>h) (Or.inr ⟨by rfl,rfl⟩) ?_ ?_
           rotate_left
           ·simp only[apu_]
            rfl
           refine aD (i:=6) (N:=some 40) (v:=undef) (a':=?_) #[true,true,true,true,true,true,true,false,false,false,false,false,false,false,false,false,false,false,false,false,false,false,false,false,false,false,false,false,false,false,false,false] rfl rfl (aC HT_.out (by kernel_rfl)) (fun _ _ _ h=>h) (Or.inr ⟨by rfl,rfl⟩) ?_ ?_
           rotate_left
           ·simp only[apu_]
            rfl
           refine aD (i:=7) (N:=some 41) (v:=undef) (a':=?_) #[true,true,true,true,true,true,true,true,false,false,false,false,false,false,false,false,false,false,false,false,false,false,false,false,false,false,false,false,false,false,false,false] rfl rfl (aC HT_.out (by kernel_rfl)) (fun _ _ _ h=>h) (Or.inr ⟨by rfl,rfl⟩) ?_ ?_
           rotate_left
           ·simp only[apu_]
            rfl
           refine aD (i:=8) (N:=some 42) (v:=undef) (a':=?_) #[true,true,true,true,true,true,true,true,true,false,false,false,false,false,false,false,false,false,false,false,false,false,false,false,false,false,false,false,false,false,false,false] rfl rfl (aC HT_.out (by kernel_rfl)) (fun _ _ _ h=>h) (Or.inr ⟨by rfl,rfl⟩) ?_ ?_
           rotate_left
           ·simp only[apu_]
            rfl
           refine aD (i:=9) (N:=some 43) (v:=undef) (a':=?_) #[true,true,true,true,true,true,true,true,true,true,false,false,false,false,false,false,false,false,false,false,false,false,false,false,false,false,false,false,false,false,false,false] rfl rfl (aC HT_.out (by kernel_rfl)) (fun _ _ _ h=>h) (Or.inr ⟨by rfl,rfl⟩) ?_ ?_
           rotate_left
           ·simp only[apu_]
            rfl
           refine aD (i:=10) (N:=some 44) (v:=undef) (a':=?_) #[true,true,true,true,true,true,true,true,true,true,true,false,false,false,false,false,false,false,false,false,false,false,false,false,false,false,false,false,false,false,false,false] rfl rfl (aC HT_.out (by kernel_rfl)) (fun _ _ _ h=>h) (Or.inr ⟨by rfl,rfl⟩) ?_ ?_
           rotate_left
           ·simp only[apu_]
            rfl
           refine aD (i:=11) (N:=some 45) (v:=undef) (a':=?_) #[true,true,true,true,true,true,true,true,true,true,true,true,false,false,false,false,false,false,false,false,false,false,false,false,false,false,false,false,false,false,false,false] rfl rfl (aC HT_.out (by kernel_rfl)) (fun _ _ _ h=>h) (Or.inr ⟨by rfl,rfl⟩) ?_ ?_
           rotate_left
           ·simp only[apu_]
            rfl
           refine aD (i:=12) (N:=some 46) (v:=undef) (a':=?_) #[true,true,true,true,true,true,true,true,true,true,true,true,true,false,false,false,false,false,false,false,false,false,false,false,false,false,false,false,false,false,false,false] rfl rfl (aC HT_.out (by kernel_rfl)) (fun _ _ _ h=>h) (Or.inr ⟨by rfl,rfl⟩) ?_ ?_
           rotate_left
           ·simp only[apu_]
            rfl
           refine aD (i:=13) (N:=some 47) (v:=undef) (a':=?_) #[true,true,true,true,true,true,true,true,true,true,true,true,true,true,false,false,false,false,false,false,false,false,false,false,false,false,false,false,false,false,false,false] rfl rfl (aC HT_.out (by kernel_rfl)) (fun _ _ _ h=>h) (Or.inr ⟨by rfl,rfl⟩) ?_ ?_
           rotate_left
           ·simp only[apu_]
            rfl
           refine aD (i:=14) (N:=some 48) (v:=undef) (a':=?_) #[true,true,true,true,true,true,true,true,true,true,true,true,true,true,true,false,false,false,false,false,false,false,false,false,false,false,false,false,false,false,false,false] rfl rfl (aC HT_.out (by kernel_rfl)) (fun _ _ _ h=>h) (Or.inr ⟨by rfl,rfl⟩) ?_ ?_
           rotate_left
           ·simp only[apu_]
            rfl
           refine aD (i:=15) (N:=some 49) (v:=undef) (a':=?_) #[true,true,true,true,true,true,true,true,true,true,true,true,true,true,true,true,false,false,false,false,false,false,false,false,false,false,false,false,false,false,false,false] rfl rfl (aC HT_.out (by kernel_rfl)) (fun _ _ _ h=>h) (Or.inr ⟨by rfl,rfl⟩) ?_ ?_
           rotate_left
           ·simp only[apu_]
            rfl
           refine aD (i:=16) (N:=some 50) (v:=undef) (a':=?_) #[true,true,true,true,true,true,true,true,true,true,true,true,true,true,true,true,true,false,false,false,false,false,false,false,false,false,false,false,false,false,false,false] rfl rfl (aC HT_.out (by kernel_rfl)) (fun _ _ _ h=>h) (Or.inr ⟨by rfl,rfl⟩) ?_ ?_
           rotate_left
           ·simp only[apu_]
            rfl
           refine aD (i:=17) (N:=some 51) (v:=undef) (a':=?_) #[true,true,true,true,true,true,true,true,true,true,true,true,true,true,true,true,true,true,false,false,false,false,false,false,false,false,false,false,false,false,false,false] rfl rfl (aC HT_.out (by kernel_rfl)) (fun _ _ _ h=>h) (Or.inr ⟨by rfl,rfl⟩) ?_ ?_
           rotate_left
           ·simp only[apu_]
            rfl
           refine aD (i:=18) (N:=some 52) (v:=undef) (a':=?_) #[true,true,true,true,true,true,true,true,true,true,true,true,true,true,true,true,true,true,true,false,false,false,false,false,false,false,false,false,false,false,false,false] rfl rfl (aC HT_.out (by kernel_rfl)) (fun _ _ _ h=>h) (Or.inr ⟨by rfl,rfl⟩) ?_ ?_
           rotate_left
           ·simp only[apu_]
            rfl
           refine aD (i:=19) (N:=some 53) (v:=?_) (a':=?_) #[true,true,true,true,true,true,true,true,true,true,true,true,true,true,true,true,true,true,true,true,false,false,false,false,false,false,false,false,false,false,false,false] rfl rfl (aC HT_.out (by kernel_rfl)) (fun _ _ _ h=>h) (Or.inl ⟨by rfl,?_⟩) ?_ ?_
           rotate_left
           ·intro w'
            go_simp
            with_reducible rfl
           rotate_left
           ·simp only[apu_]
            rfl
           refine aD (i:=20) (N:=some 54) (v:=?_) (a':=?_) #[true,true,true,true,true,true,true,true,true,true,true,true,true,true,true,true,true,true,true,true,true,false,false,false,false,false,false,false,false,false,false,false] rfl rfl (aC HT_.out (by kernel_rfl)) (fun _ _ _ h=>h) (Or.inl ⟨by rfl,?_⟩) ?_ ?_
           rotate_left
           ·intro w'
            go_simp
            with_reducible rfl
           rotate_left
           ·simp only[apu_]
            rfl
           refine aD (i:=21) (N:=some 55) (v:=undef) (a':=?_) #[true,true,true,true,true,true,true,true,true,true,true,true,true,true,true,true,true,true,true,true,true,true,false,false,false,false,false,false,false,false,false,false] rfl rfl (aC HT_.out (by kernel_rfl)) (fun _ _ _ h=>h) (Or.inr ⟨by rfl,rfl⟩) ?_ ?_
           rotate_left
           ·simp only[apu_]
            rfl
           refine aD (i:=22) (N:=some 56) (v:=undef) (a':=?_) #[true,true,true,true,true,true,true,true,true,true,true,true,true,true,true,true,true,true,true,true,true,true,true,false,false,false,false,false,false,false,false,false] rfl rfl (aC HT_.out (by kernel_rfl)) (fun _ _ _ h=>h) (Or.inr ⟨by rfl,rfl⟩) ?_ ?_
           rotate_left
           ·simp only[apu_]
            rfl
           refine aD (i:=23) (N:=some 57) (v:=undef) (a':=?_) #[true,true,true,true,true,true,true,true,true,true,true,true,true,true,true,true,true,true,true,true,true,true,true,true,false,false,false,false,false,false,false,false] rfl rfl (aC HT_.out (by kernel_rfl)) (fun _ _ _ h=>h) (Or.inr ⟨by rfl,rfl⟩) ?_ ?_
           rotate_left
           ·simp only[apu_]
            rfl
           refine aD (i:=24) (N:=some 58) (v:=undef) (a':=?_) #[true,true,true,true,true,true,true,true,true,true,true,true,true,true,true,true,true,true,true,true,true,true,true,true,true,false,false,false,false,false,false,false] rfl rfl (aC HT_.out (by kernel_rfl)) (fun _ _ _ h=>h) (Or.inr ⟨by rfl,rfl⟩) ?_ ?_
           rotate_left
           ·simp only[apu_]
            rfl
           refine aD (i:=25) (N:=some 59) (v:=?_) (a':=?_) #[true,true,true,true,true,true,true,true,true,true,true,true,true,true,true,true,true,true,true,true,true,true,true,true,true,true,false,false,false,false,false,false] rfl rfl (aC HT_.out (by kernel_rfl)) (fun _ _ _ h=>h) (Or.inl ⟨by rfl,?_⟩) ?_ ?_
           rotate_left
           ·intro w'
            go_simp
            with_reducible rfl
           rotate_left
           ·simp only[apu_]
            rfl
           refine aD (i:=26) (N:=some 60) (v:=?_) (a':=?_) #[true,true,true,true,true,true,true,true,true,true,true,true,true,true,true,true,true,true,true,true,true,true,true,true,true,true,true,false,false,false,false,false] rfl rfl (aC HT_.out (by kernel_rfl)) (fun _ _ _ h=>h) (Or.inl ⟨by rfl,?_⟩) ?_ ?_
           rotate_left
           ·intro w'
            go_simp
            with_reducible rfl
           rotate_left
           ·simp only[apu_]
            rfl
           refine aD (i:=27) (N:=some 61) (v:=undef) (a':=?_) #[true,true,true,true,true,true,true,true,true,true,true,true,true,true,true,true,true,true,true,true,true,true,true,true,true,true,true,true,false,false,false,false] rfl rfl (aC HT_.out (by kernel_rfl)) (fun _ _ _ h=>h) (Or.inr ⟨by rfl,rfl⟩) ?_ ?_
           rotate_left
           ·simp only[apu_]
            rfl
           refine aD (i:=28) (N:=some 62) (v:=undef) (a':=?_) #[true,true,true,true,true,true,true,true,true,true,true,true,true,true,true,true,true,true,true,true,true,true,true,true,true,true,true,true,true,false,false,false] rfl rfl (aC HT_.out (by kernel_rfl)) (fun _ _ _ h=>h) (Or.inr ⟨by rfl,rfl⟩) ?_ ?_
           rotate_left
           ·simp only[apu_]
            rfl
           refine aD (i:=29) (N:=some 63) (v:=undef) (a':=?_) #[true,true,true,true,true,true,true,true,true,true,true,true,true,true,true,true,true,true,true,true,true,true,true,true,true,true,true,true,true,true,false,false] rfl rfl (aC HT_.out (by kernel_rfl)) (fun _ _ _ h=>h) (Or.inr ⟨by rfl,rfl⟩) ?_ ?_
           rotate_left
           ·simp only[apu_]
            rfl
           refine aD (i:=30) (N:=some 64) (v:=undef) (a':=?_) #[true,true,true,true,true,true,true,true,true,true,true,true,true,true,true,true,true,true,true,true,true,true,true,true,true,true,true,true,true,true,true,false] rfl rfl (aC HT_.out (by kernel_rfl)) (fun _ _ _ h=>h) (Or.inr ⟨by rfl,rfl⟩) ?_ ?_
           rotate_left
           ·simp only[apu_]
            rfl
           refine aD (i:=31) (N:=some 65) (v:=?_) (a':=?_) #[true,true,true,true,true,true,true,true,true,true,true,true,true,true,true,true,true,true,true,true,true,true,true,true,true,true,true,true,true,true,true,true] rfl rfl (aC HT_.out (by kernel_rfl)) (fun _ _ _ h=>h) (Or.inl ⟨by rfl,?_⟩) ?_ ?_
           rotate_left
           ·intro w'
            go_simp
            with_reducible rfl
           rotate_left
           ·simp only[apu_]
            rfl
           refine cu (bK HT_.out (by kernel_rfl)) ?_
           try go_wp2
           go_meet
           case rel=>exact⟨_,(true),(by first|rfl|(simp;done)|(simp[*];done)),H',⟨by have:=HJ1.out;have:=HK2.out;first|omega|exact Nat.le_refl _⟩,⟨by(with_reducible repeat(first|apply aj|apply au|apply ak));exact BK187.out⟩,⟨by(with_reducible repeat(first|apply aj|apply au|apply ak));exact BK191.out⟩,⟨by with_reducible repeat(first|exact HB.out|apply af|apply aa|apply ae|refine ai ?_ GE187.out|refine ai ?_ GE191.out)⟩⟩
         case rest =>
          clear HC21
          try clear c1
          try clear c2
          try clear p2
          try clear c4
          try clear c12
          try clear c13
          try clear c14
          try clear c19
          try clear c26
          try clear c43
          obtain⟨kq,x65_20,rfl,HA,HJ20,BK187,BK191,HB⟩:=hcut
          cases kq with
          | zero=>exact absurd HA.out (by simp[spec_GoodSystem.j2])
          | succ kj20 =>
           have H:=HA.out
           clear HA
           simp only[spec_GoodSystem.j2] at H
           by_cases c52:x65_20=true
           ·subst c52
            have H1:(some false)=some r:=by rw[if_pos rfl] at H;exact H
            clear H
            have H:=H1
            clear H1
            obtain rfl:=Option.some.inj H
            go_wp2
            go_ret
            exact⟨by first|rfl|(simp <;> rfl)|(simp[*] <;> rfl),by with_reducible repeat(first|exact HB.out|apply af|apply aa|apply ae|refine ai ?_ GE187.out|refine ai ?_ GE191.out)⟩
           ·replace c52:=Bool.eq_false_iff.mpr c52
            subst c52
            have H1:(spec_GoodSystem.l1 kj20 l0_4 (l0_4.length:Int) x29_2 ((az l0_4 x29_2).f2.f0) (((az l0_4 x29_2).f2.f0).length:Int) 0 a0_0 a0_1 l0_2 l0_3 l0_4 ((az l0_4 x29_2).f0) ((az l0_4 x29_2).f1) ((az l0_4 x29_2).f2.f0))=some r:=by rw[if_neg (show ¬ (false=true) by decide)] at H;exact H
            clear H
            have H:=H1
            clear H1
            have H':=av H
            clear H
            have hnb53:=NB191_187.out
            have hnc53:=NB187_191.out
            have hcz54_0:wc.cell? ⟨gb191,0,none⟩=some (.string ((az l0_4 x29_2).f0)):=(ag BK191.out 0).trans rfl
            have hcz54_1:wc.cell? ⟨gb191,1,none⟩=some (.int .i64 ((az l0_4 x29_2).f1)):=(ag BK191.out 1).trans rfl
            have hcz54_2:wc.cell? ⟨gb191,2,none⟩=some (.slice A190_2 ((az l0_4 x29_2).f2.f0).length c190_2):=(ag BK191.out 2).trans rfl
            have hfz54_0:=ah BK191.out 0
            have hfz54_1:=ah BK191.out 1
            have hfz54_2:=ah BK191.out 2
            go_wp2
            go_loopg [70] kj20 (fun kq v70 w'=>∃ (x70_4:Int),v70 = .int .i64 x70_4∧Aside0 (spec_GoodSystem.l1 kq l0_4 (l0_4.length:Int) x29_2 ((az l0_4 x29_2).f2.f0) (((az l0_4 x29_2).f2.f0).length:Int) x70_4 a0_0 a0_1 l0_2 l0_3 l0_4 ((az l0_4 x29_2).f0) ((az l0_4 x29_2).f1) ((az l0_4 x29_2).f2.f0)=some r)∧Aside0 (kq≤kj20)∧Aside0 (w'.heap[gb187]? = some (.cells #[.int .i64 a0_0,.int .i64 a0_1,(.slice A0_2 l0_2.length c0_2),(.slice A0_3 l0_3.length c0_3),(.slice (some ad190) l0_4.length c0_4)] 35 (0,0)))∧Aside0 (w'.heap[gb191]? = some (.cells #[.string ((az l0_4 x29_2).f0),.int .i64 ((az l0_4 x29_2).f1),(.slice A190_2 ((az l0_4 x29_2).f2.f0).length c190_2)] 47 (0,0)))∧Aside0 (Below w.heap.size w w'))
            case atStart=>exact⟨(0),(by first|rfl|(simp;done)|(simp[*];done)),H',⟨Nat.le_refl _⟩,⟨by(with_reducible repeat(first|apply aj|apply au|apply ak));exact BK187.out⟩,⟨by(with_reducible repeat(first|apply aj|apply au|apply ak));exact BK191.out⟩,⟨by with_reducible repeat(first|exact HB.out|apply af|apply aa|apply ae|refine ai ?_ GE187.out|refine ai ?_ GE191.out)⟩⟩
            case round =>
             clear H'
             try clear c1
             try clear c2
             try clear p2
             try clear c4
             try clear c5
             try clear c12
             try clear c13
             try clear c14
             try clear c19
             try clear c26
             try clear c43
             try clear c52
             try clear c53
             try clear hcz54_0
             try clear hcz54_1
             try clear hcz54_2
             try clear hfz54_0
             try clear hfz54_1
             try clear hfz54_2
             try clear p2
             obtain⟨x70_4,rfl,HA,HK4,BK187,BK191,HB⟩:=hrel
             cases gk with
             | zero=>exact absurd HA.out (by simp[spec_GoodSystem.l1])
             | succ k4=>
              have H:=HA.out
              clear HA
              simp only[spec_GoodSystem.l1] at H
              by_cases c55:x70_4 < (((az l0_4 x29_2).f2.f0).length:Int)
              ·rw [if_pos c55] at H
               have c55b0:decide (x70_4 < (((az l0_4 x29_2).f2.f0).length:Int))=true:=decide_eq_true c55
               clear c55
               by_cases c56:0≤x70_4
               ·rw [if_pos c56] at H
                have c56b0:decide (0≤x70_4)=true:=decide_eq_true c56
                clear c56
                by_cases c57:x70_4 < (((az l0_4 x29_2).f2.f0).length:Int)
                ·rw[if_pos c57] at H
                 have c57b0:decide (x70_4 < (((az l0_4 x29_2).f2.f0).length:Int))=true:=decide_eq_true c57
                 clear c57
                 by_cases c58:(wrap64 (((ax ((az l0_4 x29_2).f2.f0) x70_4).f0) + ((ax ((az l0_4 x29_2).f2.f0) x70_4).f1))) > ((az l0_4 x29_2).f1)
                 ·rw[if_pos c58] at H
                  have c58b0:decide (((az l0_4 x29_2).f1) < (wrap64 (((ax ((az l0_4 x29_2).f2.f0) x70_4).f0) + ((ax ((az l0_4 x29_2).f2.f0) x70_4).f1))))=true:=decide_eq_true c58
                  clear c58
                  obtain rfl:=Option.some.inj H
                  have p198:0≤(x70_4:Int):=of_decide_eq_true (by assumption)
                  have q198:x70_4 < (((az l0_4 x29_2).f2.f0).length:Int):=of_decide_eq_true (by assumption)
                  obtain⟨ad198,e198,hx198_0,hx198_1,hx198_2,hx198_3⟩:=cK HR190_2.out x70_4 p198 q198
                  cases e198
                  replace hx198_0:=(HB.out.cell (World.block_lt_of_cell? w _ hx198_0)).trans hx198_0
                  replace hx198_1:=(HB.out.cell (World.block_lt_of_cell? w _ hx198_1)).trans hx198_1
                  replace hx198_2:=(HB.out.cell (World.block_lt_of_cell? w _ hx198_2)).trans hx198_2
                  replace hx198_3:=(HB.out.cell (World.block_lt_of_cell? w _ hx198_3)).trans hx198_3
                  replace p198:=eq_true p198
                  replace q198:=eq_true q198
                  go_wp2_with (first|((with_reducible refine aJ (N:=6) rfl ?_);(try(refine bu (by rfl) ?_;dsimp only));refine aI ?hg (N:=6) ?hd (cs:=#[.int .i64 0,.int .i64 0,.int .i64 0,.bool false]) (t:=51) ?hr ?_;(case hd=>rfl);(case hg=>rfl);(case hr=>first|(go_simp;done)|(go_simp;rfl));intro gb199 hg w59 hbox hb;have BK199:=av (hbox);have GW199:=av ((by rw[hg];exact(ay (by with_reducible repeat(first|exact HB.out|apply af|apply aa|apply ae|refine ai ?_ GE187.out|refine ai ?_ GE191.out))):w.heap.size≤gb199));have GE199:=av ((by rw[hg];exact(ay (by with_reducible repeat(first|exact HB.out|apply af|apply aa|apply ae|refine ai ?_ GE187.out|refine ai ?_ GE191.out))):w.heap.size≤gb199));replace HB:=av (aA (by with_reducible repeat(first|exact HB.out|apply af|apply aa|apply ae|refine ai ?_ GE187.out|refine ai ?_ GE191.out)) hb);have NB187_199:=av ((by rw[hg];exact Nat.ne_of_lt (aN (g:=gb187) (o:=.cells #[.int .i64 a0_0,.int .i64 a0_1,.slice A0_2 l0_2.length c0_2,.slice A0_3 l0_3.length c0_3,.slice (some ad190) l0_4.length c0_4] 35 (0,0)) (by(with_reducible repeat(first|apply aj|apply au|apply ak));exact BK187.out)):gb187≠gb199));have NB199_187:=av ((by rw[hg];exact Nat.ne_of_gt (aN (g:=gb187) (o:=.cells #[.int .i64 a0_0,.int .i64 a0_1,.slice A0_2 l0_2.length c0_2,.slice A0_3 l0_3.length c0_3,.slice (some ad190) l0_4.length c0_4] 35 (0,0)) (by(with_reducible repeat(first|apply aj|apply au|apply ak));exact BK187.out)):gb199≠gb187));replace BK187:=av (aG (g:=gb187) (o:=.cells #[.int .i64 a0_0,.int .i64 a0_1,.slice A0_2 l0_2.length c0_2,.slice A0_3 l0_3.length c0_3,.slice (some ad190) l0_4.length c0_4] 35 (0,0)) (by(with_reducible repeat(first|apply aj|apply au|apply ak));exact BK187.out) hb);have NB191_199:=av ((by rw[hg];exact Nat.ne_of_lt (aN (g:=gb191) (o:=.cells #[.string ((az l0_4 x29_2).f0),.int .i64 ((az l0_4 x29_2).f1),.slice (some ad198) ((az l0_4 x29_2).f2.f0).length c190_2] 47 (0,0)) (by(with_reducible repeat(first|apply aj|apply au|apply ak));exact BK191.out)):gb191≠gb199));have NB199_191:=av ((by rw[hg];exact Nat.ne_of_gt (aN (g:=gb191) (o:=.cells #[.string ((az l0_4 x29_2).f0),.int .i64 ((az l0_4 x29_2).f1),.slice (some ad198) ((az l0_4 x29_2).f2.f0).length c190_2] 47 (0,0)) (by(with_reducible repeat(first|apply aj|apply au|apply ak));exact BK191.out)):gb199≠gb191));replace BK191:=av (aG (g:=gb191) (o:=.cells #[.string ((az l0_4 x29_2).f0),.int .i64 ((az l0_4 x29_2).f1),.slice (some ad198) ((az l0_4 x29_2).f2.f0).length c190_2] 47 (0,0)) (by(with_reducible repeat(first|apply aj|apply au|apply ak));exact BK191.out) hb);clear hb hbox hg;have hnb60:=NB199_187.out;have hnc60:=NB187_199.out;have hnb61:=NB199_191.out;have hnc61:=NB191_199.out;have hcz62_0:w59.cell? ⟨gb199,0,none⟩=some (.int .i64 0):=(ag BK199.out 0).trans rfl;have hcz62_1:w59.cell? ⟨gb199,1,none⟩=some (.int .i64 0):=(ag BK199.out 1).trans rfl;have hcz62_2:w59.cell? ⟨gb199,2,none⟩=some (.int .i64 0):=(ag BK199.out 2).trans rfl;have hcz62_3:w59.cell? ⟨gb199,3,none⟩=some (.bool false):=(ag BK199.out 3).trans rfl;have hfz62_0:=ah BK199.out 0;have hfz62_1:=ah BK199.out 1;have hfz62_2:=ah BK199.out 2;have hfz62_3:=ah BK199.out 3;have hnb63:=NB191_187.out;have hnc63:=NB187_191.out;have hcz64_0:w59.cell? ⟨gb191,0,none⟩=some (.string ((az l0_4 x29_2).f0)):=(ag BK191.out 0).trans rfl;have hcz64_1:w59.cell? ⟨gb191,1,none⟩=some (.int .i64 ((az l0_4 x29_2).f1)):=(ag BK191.out 1).trans rfl;have hcz64_2:w59.cell? ⟨gb191,2,none⟩=some (.slice (some ad198) ((az l0_4 x29_2).f2.f0).length c190_2):=(ag BK191.out 2).trans rfl;have hfz64_0:=ah BK191.out 0;have hfz64_1:=ah BK191.out 1;have hfz64_2:=ah BK191.out 2))
                  go_ret
                  exact⟨by first|rfl|(simp <;> rfl)|(simp[*] <;> rfl),by with_reducible repeat(first|exact HB.out|apply af|apply aa|apply ae|refine ai ?_ GE187.out|refine ai ?_ GE191.out|refine ai ?_ GE199.out)⟩
                 ·rw[if_neg c58] at H
                  have c58b0:decide (((az l0_4 x29_2).f1) < (wrap64 (((ax ((az l0_4 x29_2).f2.f0) x70_4).f0) + ((ax ((az l0_4 x29_2).f2.f0) x70_4).f1))))=false:=decide_eq_false c58
                  clear c58
                  by_cases c65:(wrap64 (((ax ((az l0_4 x29_2).f2.f0) x70_4).f2) + ((ax ((az l0_4 x29_2).f2.f0) x70_4).f1))) > a0_1
                  ·rw[if_pos c65] at H
                   have c65b0:decide (a0_1 < (wrap64 (((ax ((az l0_4 x29_2).f2.f0) x70_4).f2) + ((ax ((az l0_4 x29_2).f2.f0) x70_4).f1))))=true:=decide_eq_true c65
                   clear c65
                   obtain rfl:=Option.some.inj H
                   have p198:0≤(x70_4:Int):=of_decide_eq_true (by assumption)
                   have q198:x70_4 < (((az l0_4 x29_2).f2.f0).length:Int):=of_decide_eq_true (by assumption)
                   obtain⟨ad198,e198,hx198_0,hx198_1,hx198_2,hx198_3⟩:=cK HR190_2.out x70_4 p198 q198
                   cases e198
                   replace hx198_0:=(HB.out.cell (World.block_lt_of_cell? w _ hx198_0)).trans hx198_0
                   replace hx198_1:=(HB.out.cell (World.block_lt_of_cell? w _ hx198_1)).trans hx198_1
                   replace hx198_2:=(HB.out.cell (World.block_lt_of_cell? w _ hx198_2)).trans hx198_2
                   replace hx198_3:=(HB.out.cell (World.block_lt_of_cell? w _ hx198_3)).trans hx198_3
                   replace p198:=eq_true p198
                   replace q198:=eq_true q198
                   go_wp2_with (first|((with_reducible refine aJ (N:=6) rfl ?_);(try(refine bu (by rfl) ?_;dsimp only));refine aI ?hg (N:=6) ?hd (cs:=#[.int .i64 0,.int .i64 0,.int .i64 0,.bool false]) (t:=51) ?hr ?_;(case hd=>rfl);(case hg=>rfl);(case hr=>first|(go_simp;done)|(go_simp;rfl));intro gb199 hg w66 hbox hb;have BK199:=av (hbox);have GW199:=av ((by rw[hg];exact(ay (by with_reducible repeat(first|exact HB.out|apply af|apply aa|apply ae|refine ai ?_ GE187.out|refine ai ?_ GE191.out))):w.heap.size≤gb199));have GE199:=av ((by rw[hg];exact(ay (by with_reducible repeat(first|exact HB.out|apply af|apply aa|apply ae|refine ai ?_ GE187.out|refine ai ?_ GE191.out))):w.heap.size≤gb199));replace HB:=av (aA (by with_reducible repeat(first|exact HB.out|apply af|apply aa|apply ae|refine ai ?_ GE187.out|refine ai ?_ GE191.out)) hb);have NB187_199:=av ((by rw[hg];exact Nat.ne_of_lt (aN (g:=gb187) (o:=.cells #[.int .i64 a0_0,.int .i64 a0_1,.slice A0_2 l0_2.length c0_2,.slice A0_3 l0_3.length c0_3,.slice (some ad190) l0_4.length c0_4] 35 (0,0)) (by(with_reducible repeat(first|apply aj|apply au|apply ak));exact BK187.out)):gb187≠gb199));have NB199_187:=av ((by rw[hg];exact Nat.ne_of_gt (aN (g:=gb187) (o:=.cells #[.int .i64 a0_0,.int .i64 a0_1,.slice A0_2 l0_2.length c0_2,.slice A0_3 l0_3.length c0_3,.slice (some ad190) l0_4.length c0_4] 35 (0,0)) (by(with_reducible repeat(first|apply aj|apply au|apply ak));exact BK187.out)):gb199≠gb187));replace BK187:=av (aG (g:=gb187) (o:=.cells #[.int .i64 a0_0,.int .i64 a0_1,.slice A0_2 l0_2.length c0_2,.slice A0_3 l0_3.length c0_3,.slice (some ad190) l0_4.length c0_4] 35 (0,0)) (by(with_reducible repeat(first|apply aj|apply au|apply ak));exact BK187.out) hb);have NB191_199:=av ((by rw[hg];exact Nat.ne_of_lt (aN (g:=gb191) (o:=.cells #[.string ((az l0_4 x29_2).f0),.int .i64 ((az l0_4 x29_2).f1),.slice (some ad198) ((az l0_4 x29_2).f2.f0).length c190_2] 47 (0,0)) (by(with_reducible repeat(first|apply aj|apply au|apply ak));exact BK191.out)):gb191≠gb199));have NB199_191:=av ((by rw[hg];exact Nat.ne_of_gt (aN (g:=gb191) (o:=.cells #[.string ((az l0_4 x29_2).f0),.int .i64 ((az l0_4 x29_2).f1),.slice (some ad198) ((az l0_4 x29_2).f2.f0).length c190_2] 47 (0,0)) (by(with_reducible repeat(first|apply aj|apply au|apply ak));exact BK191.out)):gb199≠gb191));replace BK191:=av (aG (g:=gb191) (o:=.cells #[.string ((az l0_4 x29_2).f0),.int .i64 ((az l0_4 x29_2).f1),.slice (some ad198) ((az l0_4 x29_2).f2.f0).length c190_2] 47 (0,0)) (by(with_reducible repeat(first|apply aj|apply au|apply ak));exact BK191.out) hb);clear hb hbox hg;have hnb67:=NB199_187.out;have hnc67:=NB187_199.out;have hnb68:=NB199_191.out;have hnc68:=NB191_199.out;have hcz69_0:w66.cell? ⟨gb199,0,none⟩=some (.int .i64 0):=(ag BK199.out 0).trans rfl;have hcz69_1:w66.cell? ⟨gb199,1,none⟩=some (.int .i64 0):=(ag BK199.out 1).trans rfl;have hcz69_2:w66.cell? ⟨gb199,2,none⟩=some (.int .i64 0):=(ag BK199.out 2).trans rfl;have hcz69_3:w66.cell? ⟨gb199,3,none⟩=some (.bool false):=(ag BK199.out 3).trans rfl;have hfz69_0:=ah BK199.out 0;have hfz69_1:=ah BK199.out 1;have hfz69_2:=ah BK199.out 2;have hfz69_3:=ah BK199.out 3;have hnb70:=NB191_187.out;have hnc70:=NB187_191.out;have hcz71_0:w66.cell? ⟨gb191,0,none⟩=some (.string ((az l0_4 x29_2).f0)):=(ag BK191.out 0).trans rfl;have hcz71_1:w66.cell? ⟨gb191,1,none⟩=some (.int .i64 ((az l0_4 x29_2).f1)):=(ag BK191.out 1).trans rfl;have hcz71_2:w66.cell? ⟨gb191,2,none⟩=some (.slice (some ad198) ((az l0_4 x29_2).f2.f0).length c190_2):=(ag BK191.out 2).trans rfl;have hfz71_0:=ah BK191.out 0;have hfz71_1:=ah BK191.out 1;have hfz71_2:=ah BK191.out 2;have hcz72_0:w66.cell? ⟨gb187,0,none⟩=some (.int .i64 a0_0):=(ag BK187.out 0).trans rfl;have hcz72_1:w66.cell? ⟨gb187,1,none⟩=some (.int .i64 a0_1):=(ag BK187.out 1).trans rfl;have hcz72_2:w66.cell? ⟨gb187,2,none⟩=some (.slice A0_2 l0_2.length c0_2):=(ag BK187.out 2).trans rfl;have hcz72_3:w66.cell? ⟨gb187,3,none⟩=some (.slice A0_3 l0_3.length c0_3):=(ag BK187.out 3).trans rfl;have hcz72_4:w66.cell? ⟨gb187,4,none⟩=some (.slice (some ad190) l0_4.length c0_4):=(ag BK187.out 4).trans rfl;have hfz72_0:=ah BK187.out 0;have hfz72_1:=ah BK187.out 1;have hfz72_2:=ah BK187.out 2;have hfz72_3:=ah BK187.out 3;have hfz72_4:=ah BK187.out 4))
                   go_ret
                   exact⟨by first|rfl|(simp <;> rfl)|(simp[*] <;> rfl),by with_reducible repeat(first|exact HB.out|apply af|apply aa|apply ae|refine ai ?_ GE187.out|refine ai ?_ GE191.out|refine ai ?_ GE199.out)⟩
                  ·rw[if_neg c65] at H
                   have c65b0:decide (a0_1 < (wrap64 (((ax ((az l0_4 x29_2).f2.f0) x70_4).f2) + ((ax ((az l0_4 x29_2).f2.f0) x70_4).f1))))=false:=decide_eq_false c65
                   clear c65
                   have H':=av H
                   clear H
                   have p198:0≤(x70_4:Int):=of_decide_eq_true (by assumption)
                   have q198:x70_4 < (((az l0_4 x29_2).f2.f0).length:Int):=of_decide_eq_true (by assumption)
                   obtain⟨ad198,e198,hx198_0,hx198_1,hx198_2,hx198_3⟩:=cK HR190_2.out x70_4 p198 q198
                   cases e198
                   replace hx198_0:=(HB.out.cell (World.block_lt_of_cell? w _ hx198_0)).trans hx198_0
                   replace hx198_1:=(HB.out.cell (World.block_lt_of_cell? w _ hx198_1)).trans hx198_1
                   replace hx198_2:=(HB.out.cell (World.block_lt_of_cell? w _ hx198_2)).trans hx198_2
                   replace hx198_3:=(HB.out.cell (World.block_lt_of_cell? w _ hx198_3)).trans hx198_3
                   replace p198:=eq_true p198
                   replace q198:=eq_true q198
                   go_wp2_with (first|((with_reducible refine aJ (N:=6) rfl ?_);(try(refine bu (by rfl) ?_;dsimp only));refine aI ?hg (N:=6) ?hd (cs:=#[.int .i64 0,.int .i64 0,.int .i64 0,.bool false]) (t:=51) ?hr ?_;(case hd=>rfl);(case hg=>rfl);(case hr=>first|(go_simp;done)|(go_simp;rfl));intro gb199 hg w73 hbox hb;have BK199:=av (hbox);have GW199:=av ((by rw[hg];exact(ay (by with_reducible repeat(first|exact HB.out|apply af|apply aa|apply ae|refine ai ?_ GE187.out|refine ai ?_ GE191.out))):w.heap.size≤gb199));have GE199:=av ((by rw[hg];exact(ay (by with_reducible repeat(first|exact HB.out|apply af|apply aa|apply ae|refine ai ?_ GE187.out|refine ai ?_ GE191.out))):w.heap.size≤gb199));replace HB:=av (aA (by with_reducible repeat(first|exact HB.out|apply af|apply aa|apply ae|refine ai ?_ GE187.out|refine ai ?_ GE191.out)) hb);have NB187_199:=av ((by rw[hg];exact Nat.ne_of_lt (aN (g:=gb187) (o:=.cells #[.int .i64 a0_0,.int .i64 a0_1,.slice A0_2 l0_2.length c0_2,.slice A0_3 l0_3.length c0_3,.slice (some ad190) l0_4.length c0_4] 35 (0,0)) (by(with_reducible repeat(first|apply aj|apply au|apply ak));exact BK187.out)):gb187≠gb199));have NB199_187:=av ((by rw[hg];exact Nat.ne_of_gt (aN (g:=gb187) (o:=.cells #[.int .i64 a0_0,.int .i64 a0_1,.slice A0_2 l0_2.length c0_2,.slice A0_3 l0_3.length c0_3,.slice (some ad190) l0_4.length c0_4] 35 (0,0)) (by(with_reducible repeat(first|apply aj|apply au|apply ak));exact BK187.out)):gb199≠gb187));replace BK187:=av (aG (g:=gb187) (o:=.cells #[.int .i64 a0_0,.int .i64 a0_1,.slice A0_2 l0_2.length c0_2,.slice A0_3 l0_3.length c0_3,.slice (some ad190) l0_4.length c0_4] 35 (0,0)) (by(with_reducible repeat(first|apply aj|apply au|apply ak));exact BK187.out) hb);have NB191_199:=av ((by rw[hg];exact Nat.ne_of_lt (aN (g:=gb191) (o:=.cells #[.string ((az l0_4 x29_2).f0),.int .i64 ((az l0_4 x29_2).f1),.slice (some ad198) ((az l0_4 x29_2).f2.f0).length c190_2] 47 (0,0)) (by(with_reducible repeat(first|apply aj|apply au|apply ak));exact BK191.out)):gb191≠gb199));have NB199_191:=av ((by rw[hg];exact Nat.ne_of_gt (aN (g:=gb191) (o:=.cells #[.string ((az l0_4 x29_2).f0),.int .i64 ((az l0_4 x29_2).f1),.slice (some ad198) ((az l0_4 x29_2).f2.f0).length c190_2] 47 (0,0)) (by(with_reducible repeat(first|apply aj|apply au|apply ak));exact BK191.out)):gb199≠gb191));replace BK191:=av (aG (g:=gb191) (o:=.cells #[.string ((az l0_4 x29_2).f0),.int .i64 ((az l0_4 x29_2).f1),.slice (some ad198) ((az l0_4 x29_2).f2.f0).length c190_2] 47 (0,0)) (by(with_reducible repeat(first|apply aj|apply au|apply ak));exact BK191.out) hb);clear hb hbox hg;have hnb74:=NB199_187.out;have hnc74:=NB187_199.out;have hnb75:=NB199_191.out;have hnc75:=NB191_199.out;have hcz76_0:w73.cell? ⟨gb199,0,none⟩=some (.int .i64 0):=(ag BK199.out 0).trans rfl;have hcz76_1:w73.cell? ⟨gb199,1,none⟩=some (.int .i64 0):=(ag BK199.out 1).trans rfl;have hcz76_2:w73.cell? ⟨gb199,2,none⟩=some (.int .i64 0):=(ag BK199.out 2).trans rfl;have hcz76_3:w73.cell? ⟨gb199,3,none⟩=some (.bool false):=(ag BK199.out 3).trans rfl;have hfz76_0:=ah BK199.out 0;have hfz76_1:=ah BK199.out 1;have hfz76_2:=ah BK199.out 2;have hfz76_3:=ah BK199.out 3;have hnb77:=NB191_187.out;have hnc77:=NB187_191.out;have hcz78_0:w73.cell? ⟨gb191,0,none⟩=some (.string ((az l0_4 x29_2).f0)):=(ag BK191.out 0).trans rfl;have hcz78_1:w73.cell? ⟨gb191,1,none⟩=some (.int .i64 ((az l0_4 x29_2).f1)):=(ag BK191.out 1).trans rfl;have hcz78_2:w73.cell? ⟨gb191,2,none⟩=some (.slice (some ad198) ((az l0_4 x29_2).f2.f0).length c190_2):=(ag BK191.out 2).trans rfl;have hfz78_0:=ah BK191.out 0;have hfz78_1:=ah BK191.out 1;have hfz78_2:=ah BK191.out 2;have hcz79_0:w73.cell? ⟨gb187,0,none⟩=some (.int .i64 a0_0):=(ag BK187.out 0).trans rfl;have hcz79_1:w73.cell? ⟨gb187,1,none⟩=some (.int .i64 a0_1):=(ag BK187.out 1).trans rfl;have hcz79_2:w73.cell? ⟨gb187,2,none⟩=some (.slice A0_2 l0_2.length c0_2):=(ag BK187.out 2).trans rfl;have hcz79_3:w73.cell? ⟨gb187,3,none⟩=some (.slice A0_3 l0_3.length c0_3):=(ag BK187.out 3).trans rfl;have hcz79_4:w73.cell? ⟨gb187,4,none⟩=some (.slice (some ad190) l0_4.length c0_4):=(ag BK187.out 4).trans rfl;have hfz79_0:=ah BK187.out 0;have hfz79_1:=ah BK187.out 1;have hfz79_2:=ah BK187.out 2;have hfz79_3:=ah BK187.out 3;have hfz79_4:=ah BK187.out 4))
                   go_roundg k4
                   case measure=>have:=HJ1.out;have:=HK2.out;have:=HJ20.out;have:=HK4.out;omega
                   case rel=>exact⟨(wrap64 (x70_4+1)),(by first|rfl|(simp;done)|(simp[*];done)),H',⟨by have:=HJ1.out;have:=HK2.out;have:=HJ20.out;have:=HK4.out;omega⟩,⟨by(with_reducible repeat(first|apply aj|apply au|apply ak));refine aU ?_ NB187_199.out _;(with_reducible repeat(first|apply aj|apply au|apply ak));refine aU ?_ NB187_199.out _;(with_reducible repeat(first|apply aj|apply au|apply ak));refine aU ?_ NB187_199.out _;(with_reducible repeat(first|apply aj|apply au|apply ak));refine aU ?_ NB187_199.out _;(with_reducible repeat(first|apply aj|apply au|apply ak));exact BK187.out⟩,⟨by(with_reducible repeat(first|apply aj|apply au|apply ak));refine aU ?_ NB191_199.out _;(with_reducible repeat(first|apply aj|apply au|apply ak));refine aU ?_ NB191_199.out _;(with_reducible repeat(first|apply aj|apply au|apply ak));refine aU ?_ NB191_199.out _;(with_reducible repeat(first|apply aj|apply au|apply ak));refine aU ?_ NB191_199.out _;(with_reducible repeat(first|apply aj|apply au|apply ak));exact BK191.out⟩,⟨by with_reducible repeat(first|exact HB.out|apply af|apply aa|apply ae|refine ai ?_ GE187.out|refine ai ?_ GE191.out|refine ai ?_ GE199.out)⟩⟩
                ·rw[if_neg c57] at H
                 exact absurd H (by simp)
               ·rw[if_neg c56] at H
                exact absurd H (by simp)
              ·rw[if_neg c55] at H
               have c55b0:decide (x70_4 < (((az l0_4 x29_2).f2.f0).length:Int))=false:=decide_eq_false c55
               clear c55
               have H':=av H
               clear H
               go_wp2
               go_roundg k4
               case measure=>have:=HJ1.out;have:=HK2.out;have:=HJ20.out;have:=HK4.out;omega
               case rel=>exact⟨(wrap64 (x29_2+1)),(by first|rfl|(simp;done)|(simp[*];done)),H',⟨by have:=HJ1.out;have:=HK2.out;have:=HJ20.out;have:=HK4.out;omega⟩,⟨by(with_reducible repeat(first|apply aj|apply au|apply ak));exact BK187.out⟩,⟨by with_reducible repeat(first|exact HB.out|apply af|apply aa|apply ae|refine ai ?_ GE187.out|refine ai ?_ GE191.out)⟩⟩
        ·rw[if_neg c20] at H
         exact absurd H (by simp)
       ·rw[if_neg c19] at H
        exact absurd H (by simp)
      ·rw[if_neg c18] at H
       have c18b0:decide (x29_2 < (l0_4.length:Int))=false:=decide_eq_false c18
       clear c18
       obtain rfl:=Option.some.inj H
       go_wp2
       go_ret
       exact⟨by first|rfl|(simp <;> rfl)|(simp[*] <;> rfl),by with_reducible repeat(first|exact HB.out|apply af|apply aa|apply ae|refine ai ?_ GE187.out)⟩
open Go.RowKit Go.Proofs.YtdghdjachbbdmaaDoorW.PrintWords Go.Proofs.YtdghdjachbbdmaaDoorW.PrintLast Go.Proofs.YtdghdjachbbdmaaDoorW.PrintMore Go.Proofs.YtdghdjachbbdmaaDoor.E
abbrev EX:=S72
theorem oC {a b:EX} (h0:a.f0=b.f0) (h1:a.f1=b.f1):a=b:=by cases a;cases b;simp only at h0 h1;rw[h0,h1]
instance:DecidableEq EX:=fun a b=>if h:a.f0=b.f0∧a.f1=b.f1 then .isTrue (oC h.1 h.2) else .isFalse (fun e=>h ⟨by rw[e],by rw[e]⟩)
structure Sep (B:Int) (l:List EX):Prop where
  a:∀ x∈l,0≤x.f0∧1≤x.f1∧x.f0+x.f1≤B
  p:l.Pairwise fun x y=>x.f0+x.f1<y.f0
section
variable {B:Int} {l m:List EX} {x:EX}
theorem Sep.nil (B:Int):Sep B []:=⟨fun _ h=>(by cases h),List.Pairwise.nil⟩
theorem Sep.cons (hx:0≤x.f0∧1≤x.f1∧x.f0+x.f1≤B) (hl:Sep B l) (hf:∀ y∈l,x.f0+x.f1<y.f0):Sep B (x::l):=
  ⟨fun y hy=>by rcases List.mem_cons.1 hy with e|e;exact e▸hx;exact hl.a y e,List.pairwise_cons.2 ⟨hf,hl.p⟩⟩
theorem Sep.append (hl:Sep B l) (hm:Sep B m) (hf:∀ x∈l,∀ y∈m,x.f0+x.f1<y.f0):Sep B (l++m):=
  ⟨fun y hy=>by rcases List.mem_append.1 hy with e|e;exact hl.a y e;exact hm.a y e,List.pairwise_append.2 ⟨hl.p,hm.p,hf⟩⟩
end
end Go.Proofs.YtdghdjachbbdmaaDoor.PFre
namespace Go.Proofs.YtdghdjachbbdmaaDoor.PFre
open Go.RowKit Go.Proofs.YtdghdjachbbdmaaDoorW.PrintWords Go.Proofs.YtdghdjachbbdmaaDoorW.PrintLast Go.Proofs.YtdghdjachbbdmaaDoorW.PrintMore Go.Proofs.YtdghdjachbbdmaaDoor.E
set_option linter.unusedSimpArgs false
set_option linter.unusedVariables false
abbrev EL:=S72
def slices_Clone_E.f (l0:List EL):Option (List EL):=if l0.length≤1048576 then some l0 else none
set_option maxHeartbeats 2000000 in
set_option maxRecDepth 100000 in
theorem slices_Clone_E.calls (A0:Option Addr) (c0:Nat) (l0:List EL) (r:List EL) (w:World) (hr0:Kd.C k72 w A0 l0.length l0) (hc0:l0.length≤c0) (h:slices_Clone_E.f l0=some r) :
  Calls Tryd.prog 44 #[.slice A0 l0.length c0] w fun e w'=>∃ v0_:Value,e = .returned v0_∧Kd.R k72 72 w' w.heap.size (fun _=>True) v0_ r∧Below w.heap.size w w':=by
 unfold slices_Clone_E.f at h
 by_cases hl:l0.length≤1048576
 ·rw [if_pos hl] at h
  obtain rfl:=Option.some.inj h
  have HR:=av hr0
  have HL:=av hl
  have q:∀ (W:World) (a:Option Addr) (n c:Nat),(binOp .eql 30 (.slice a n c) (.slice none 0 0)).run Tryd.prog W = .ok (.bool a.isNone) W:=fun W a n c=>Lib.run_eql_slice_nil W 30 72 a n c 0 0 Tryd.underlying30
  clear hr0 h hl
  cases A0 with
  | none=>
   have hn:l0=[]:=by
    by_cases hp:0<l0.length
    ·obtain⟨ad,e,_⟩:=HR.out.2.2 hp
     cases e
    ·exact List.eq_nil_of_length_eq_zero (by omega)
   subst hn
   go_enter Tryd.func44,Tryd.ntmps44
   go_wp2
   go_ret
   exact⟨_,rfl,Kd.gV _ _ _ _ _,Below.refl _ _⟩
  | some ad=>
   go_enter Tryd.func44,Tryd.ntmps44
   go_wp2_with (first
    | ((with_reducible refine aJ (N:=5) rfl ?_);refine Kd.oH k72 w.heap.size 72 ?hg (N:=5) ?hd (xs:=([]:List EL)) (inner:=[]) (ok:=fun _=>True) (okp:=fun _=>True) ?hr ?hp (fun _ hk=>hk) trivial (Below.refl w.heap.size w) (Nat.le_refl _) (by simp) ?_;(case hd=>rfl);(case hg=>rfl);(case hr=>first|(go_simp;done)|(go_simp;rfl));(case hp=>exact(bN.none _ _));intro v1 w1 ho1 hb1 hg_ hnew_;clear hg_ hnew_;have HO1:=av ho1;have HB1:=av hb1;clear ho1 hb1)
    | ((with_reducible refine dn (b:=.append) (xs:=#[.tmp 5,.tmp 6]) rfl ?_);at_builtin;refine Kd.dI k72 (w0:=w) w.heap.size rfl (.tmp 5) (.tmp 6) 30 72 (.agg #[.int .i64 0,.int .i64 0]) 16 rfl Tryd.underlying30 d9 rfl (by decide) (by omega) v1 [] l0 _ _ _ (fun _=>True) (fun _=>False) rfl rfl HO1.out (Kd.aQ HR.out HB1.out) (fun _ _ h=>h) (fun _ h=>h.elim) (fun _ _=>trivial) HB1.out HB1.out.size (by have:=HL.out;simp;omega) ?_;intro v2 w2 ho2 hb2 hg_ hat_;clear hg_ hat_;have HO2:=av ho2;have HB2:=av hb2;clear ho2 hb2))
   go_ret
   exact⟨_,rfl,HO2.out,HB2.out⟩
 ·rw[if_neg hl] at h
  cases h
abbrev ES (w:World) (base:Nat) (ok:Nat→Prop) (v:Value) (xs:List EL):Prop:=k72.R 72 w base ok v xs
theorem lF (xs:List EL) (i:Int):aH xs i=xs.getD i.toNat z72:=rfl
open Go.RowKit Go.Proofs.YtdghdjachbbdmaaDoorW.PrintWords Go.Proofs.YtdghdjachbbdmaaDoorW.PrintLast Go.Proofs.YtdghdjachbbdmaaDoorW.PrintMore
attribute [local go_sem] bG bF bQ bR bB bC bH bE
set_option linter.unusedVariables false
set_option linter.unusedSimpArgs false
def cmp_Or_int.l0:Nat→Int→List Int→Int→Int→Option (Int)
 | 0,_,_,_,_=>none
 | k+1,x3,x6,x7,x8=>if x8<x7 then (if 0≤x8 then (if x8 < (x6.length:Int) then (if (rd x6 x8)=x3 then (cmp_Or_int.l0 k x3 x6 x7 (wrap64 (x8+1))) else (some (rd x6 x8))) else (none)) else (none)) else (some x3)
def cmp_Or_int.f (k:Nat) (l0:List Int):Option (Int):=cmp_Or_int.l0 k 0 l0 (l0.length:Int) 0
set_option maxHeartbeats 8000000 in
set_option maxRecDepth 100000 in
theorem cmp_Or_int.calls (k:Nat) (A0:Option Addr) (c0:Nat) (l0:List Int) (r:Int) (w:World) (hr0:Kd.C (Kd.int .i64) w A0 l0.length l0) (hc0:l0.length≤c0) (h:cmp_Or_int.f k l0=some r) :
  Calls Tryd.prog 57 #[.slice A0 l0.length c0] w fun e w'=>e = .returned (.int .i64 r)∧Drawn0 w w':=by
 have HR0:=av hr0
 have HC0:=av hc0
 clear hr0 hc0
 have H:(cmp_Or_int.l0 k 0 l0 (l0.length:Int) 0)=some r:=h
 clear h
 have H':=av H
 clear H
 go_enter Tryd.func57,Tryd.ntmps57
 go_wp2
 go_loopg [8] k (fun kq v8 w'=>∃ (x8_1:Int),v8 = .int .i64 x8_1∧Aside0 (cmp_Or_int.l0 kq 0 l0 (l0.length:Int) x8_1=some r)∧Aside0 (kq≤k)∧Drawn0 w w')
 case atStart=>exact⟨(0),(by first|rfl|(simp;done)|(simp[*];done)),H',⟨Nat.le_refl _⟩,by repeat(first|exact Drawn0.refl _|apply Drawn0.step)⟩
 case round =>
  clear H'
  obtain⟨x8_1,rfl,HA,HK1,⟨m1,rfl⟩⟩:=hrel
  cases gk with
  | zero=>exact absurd HA.out (by simp[cmp_Or_int.l0])
  | succ k1=>
   have H:=HA.out
   clear HA
   simp only[cmp_Or_int.l0] at H
   by_cases c2:x8_1 < (l0.length:Int)
   ·rw [if_pos c2] at H
    have c2b0:decide (x8_1 < (l0.length:Int))=true:=decide_eq_true c2
    clear c2
    by_cases c3:0≤x8_1
    ·rw[if_pos c3] at H
     have c3b0:decide (0≤x8_1)=true:=decide_eq_true c3
     clear c3
     by_cases c4:x8_1 < (l0.length:Int)
     ·rw[if_pos c4] at H
      have c4b0:decide (x8_1 < (l0.length:Int))=true:=decide_eq_true c4
      clear c4
      by_cases c5:(rd l0 x8_1)=0
      ·rw[if_pos c5] at H
       have c5b0:((rd l0 x8_1) == 0)=true:=beq_iff_eq.mpr c5
       have c5b1:((rd l0 x8_1) != 0)=false:=bne_eq_false_iff_eq.mpr c5
       clear c5
       have H':=av H
       clear H
       have p273:0≤(x8_1:Int):=of_decide_eq_true (by assumption)
       have q273:x8_1 < (l0.length:Int):=of_decide_eq_true (by assumption)
       obtain⟨ad273,e273,hx273_0⟩:=Kd.nu HR0.out x8_1 p273 q273
       cases e273
       replace p273:=eq_true p273
       replace q273:=eq_true q273
       go_wp2
       go_roundg k1
       case measure=>have:=HK1.out;omega
       case rel=>exact⟨(wrap64 (x8_1+1)),(by first|rfl|(simp;done)|(simp[*];done)),H',⟨by have:=HK1.out;omega⟩,by repeat(first|exact Drawn0.refl _|apply Drawn0.step)⟩
      ·rw[if_neg c5] at H
       have c5b0:((rd l0 x8_1) == 0)=false:=beq_eq_false_iff_ne.mpr c5
       have c5b1:((rd l0 x8_1) != 0)=true:=bne_iff_ne.mpr c5
       obtain rfl:=Option.some.inj H
       have p273:0≤(x8_1:Int):=of_decide_eq_true (by assumption)
       have q273:x8_1 < (l0.length:Int):=of_decide_eq_true (by assumption)
       obtain⟨ad273,e273,hx273_0⟩:=Kd.nu HR0.out x8_1 p273 q273
       cases e273
       replace p273:=eq_true p273
       replace q273:=eq_true q273
       go_wp2
       go_ret
       exact⟨by first|rfl|(simp;done)|(simp[*];done),by repeat(first|exact Drawn0.refl _|apply Drawn0.step)⟩
     ·rw[if_neg c4] at H
      exact absurd H (by simp)
    ·rw[if_neg c3] at H
     exact absurd H (by simp)
   ·rw[if_neg c2] at H
    have c2b0:decide (x8_1 < (l0.length:Int))=false:=decide_eq_false c2
    clear c2
    obtain rfl:=Option.some.inj H
    go_wp2
    go_ret
    exact⟨by first|rfl|(simp;done)|(simp[*];done),by repeat(first|exact Drawn0.refl _|apply Drawn0.step)⟩
attribute [local go_sem] bG bF bQ bR bB bC bH bE
set_option linter.unusedVariables false
set_option linter.unusedSimpArgs false
def cmp_isNaN_int.f (a0:Int):Option (Bool):=some (a0 != a0)
set_option maxHeartbeats 8000000 in
set_option maxRecDepth 100000 in
theorem cmp_isNaN_int.calls (a0:Int) (r:Bool) (w:World) (h:cmp_isNaN_int.f a0=some r) :
  Calls Tryd.prog 78 #[.int .i64 a0] w fun e w'=>e = .returned (.bool r)∧Drawn0 w w':=by
 have H:(some (a0 != a0))=some r:=h
 clear h
 obtain rfl:=Option.some.inj H
 go_enter Tryd.func78,Tryd.ntmps78
 go_wp2
 go_ret
 exact⟨by first|rfl|(simp;done)|(simp[*];done),by repeat(first|exact Drawn0.refl _|apply Drawn0.step)⟩
attribute [local go_sem] bG bF bQ bR bB bC bH bE
set_option linter.unusedVariables false
set_option linter.unusedSimpArgs false
def cmp_Compare_int.f (a0:Int) (a1:Int):Option (Int):=(cmp_isNaN_int.f a0).bind fun t274=>((cmp_isNaN_int.f a1).bind fun t275=>(if t274=true then (if t275=true then (some 0) else (some (-1))) else (if t275=true then (some 1) else (if a0<a1 then (some (-1)) else (if a0 > a1 then (some 1) else (some 0))))))
set_option maxHeartbeats 8000000 in
set_option maxRecDepth 100000 in
theorem cmp_Compare_int.calls (a0:Int) (a1:Int) (r:Int) (w:World) (h:cmp_Compare_int.f a0 a1=some r) :
  Calls Tryd.prog 58 #[.int .i64 a0,.int .i64 a1] w fun e w'=>e = .returned (.int .i64 r)∧Drawn0 w w':=by
 have H:((cmp_isNaN_int.f a0).bind fun t274=>((cmp_isNaN_int.f a1).bind fun t275=>(if t274=true then (if t275=true then (some 0) else (some (-1))) else (if t275=true then (some 1) else (if a0<a1 then (some (-1)) else (if a0 > a1 then (some 1) else (some 0)))))))=some r:=h
 clear h
 replace H:=Option.bind_eq_some_iff.mp H
 obtain⟨t274,A30,H⟩:=H
 replace H:((cmp_isNaN_int.f a1).bind fun t275=>(if t274=true then (if t275=true then (some 0) else (some (-1))) else (if t275=true then (some 1) else (if a0<a1 then (some (-1)) else (if a0 > a1 then (some 1) else (some 0))))))=some r:=H
 have A3:=av A30
 clear A30
 replace H:=Option.bind_eq_some_iff.mp H
 obtain⟨t275,A40,H⟩:=H
 replace H:(if t274=true then (if t275=true then (some 0) else (some (-1))) else (if t275=true then (some 1) else (if a0<a1 then (some (-1)) else (if a0 > a1 then (some 1) else (some 0)))))=some r:=H
 have A4:=av A40
 clear A40
 by_cases c5:t274=true
 ·subst c5
  have H1:(if t275=true then (some 0) else (some (-1)))=some r:=by rw[if_pos rfl] at H;exact H
  clear H
  have H:=H1
  clear H1
  by_cases c6:t275=true
  ·subst c6
   have H1:(some 0)=some r:=by rw[if_pos rfl] at H;exact H
   clear H
   have H:=H1
   clear H1
   obtain rfl:=Option.some.inj H
   go_enter Tryd.func58,Tryd.ntmps58
   go_wp2_with (first|((with_reducible refine aK (f:=78) rfl ?_);refine bn (some 8) rfl rfl Tryd.func78 (by kernel_rfl) rfl #[.int .i64 a0] rfl (by(try simp only[amp_]);first|done|rfl|(simp only[ald_];rfl)) ?_;(with_reducible refine(cmp_isNaN_int.calls a0 true _ A3.out).mono ?_);rintro e w' ⟨rfl,⟨nd,rfl⟩⟩;refine⟨_,rfl,?_⟩)|((with_reducible refine aK (f:=78) rfl ?_);refine bn (some 10) rfl rfl Tryd.func78 (by kernel_rfl) rfl #[.int .i64 a1] rfl (by(try simp only[amp_]);first|done|rfl|(simp only[ald_];rfl)) ?_;(with_reducible refine(cmp_isNaN_int.calls a1 true _ A4.out).mono ?_);rintro e w' ⟨rfl,⟨nd,rfl⟩⟩;refine⟨_,rfl,?_⟩))
   go_ret
   exact⟨by first|rfl|(simp;done)|(simp[*];done),by repeat(first|exact Drawn0.refl _|apply Drawn0.step)⟩
  ·replace c6:=Bool.eq_false_iff.mpr c6
   subst c6
   have H1:(some (-1))=some r:=by rw[if_neg (show ¬ (false=true) by decide)] at H;exact H
   clear H
   have H:=H1
   clear H1
   obtain rfl:=Option.some.inj H
   go_enter Tryd.func58,Tryd.ntmps58
   go_wp2_with (first|((with_reducible refine aK (f:=78) rfl ?_);refine bn (some 8) rfl rfl Tryd.func78 (by kernel_rfl) rfl #[.int .i64 a0] rfl (by(try simp only[amp_]);first|done|rfl|(simp only[ald_];rfl)) ?_;(with_reducible refine(cmp_isNaN_int.calls a0 true _ A3.out).mono ?_);rintro e w' ⟨rfl,⟨nd,rfl⟩⟩;refine⟨_,rfl,?_⟩)|((with_reducible refine aK (f:=78) rfl ?_);refine bn (some 10) rfl rfl Tryd.func78 (by kernel_rfl) rfl #[.int .i64 a1] rfl (by(try simp only[amp_]);first|done|rfl|(simp only[ald_];rfl)) ?_;(with_reducible refine(cmp_isNaN_int.calls a1 false _ A4.out).mono ?_);rintro e w' ⟨rfl,⟨nd,rfl⟩⟩;refine⟨_,rfl,?_⟩))
   go_ret
   exact⟨by first|rfl|(simp;done)|(simp[*];done),by repeat(first|exact Drawn0.refl _|apply Drawn0.step)⟩
 ·replace c5:=Bool.eq_false_iff.mpr c5
  subst c5
  have H1:(if t275=true then (some 1) else (if a0<a1 then (some (-1)) else (if a0 > a1 then (some 1) else (some 0))))=some r:=by rw[if_neg (show ¬ (false=true) by decide)] at H;exact H
  clear H
  have H:=H1
  clear H1
  by_cases c7:t275=true
  ·subst c7
   have H1:(some 1)=some r:=by rw[if_pos rfl] at H;exact H
   clear H
   have H:=H1
   clear H1
   obtain rfl:=Option.some.inj H
   go_enter Tryd.func58,Tryd.ntmps58
   go_wp2_with (first|((with_reducible refine aK (f:=78) rfl ?_);refine bn (some 8) rfl rfl Tryd.func78 (by kernel_rfl) rfl #[.int .i64 a0] rfl (by(try simp only[amp_]);first|done|rfl|(simp only[ald_];rfl)) ?_;(with_reducible refine(cmp_isNaN_int.calls a0 false _ A3.out).mono ?_);rintro e w' ⟨rfl,⟨nd,rfl⟩⟩;refine⟨_,rfl,?_⟩)|((with_reducible refine aK (f:=78) rfl ?_);refine bn (some 10) rfl rfl Tryd.func78 (by kernel_rfl) rfl #[.int .i64 a1] rfl (by(try simp only[amp_]);first|done|rfl|(simp only[ald_];rfl)) ?_;(with_reducible refine(cmp_isNaN_int.calls a1 true _ A4.out).mono ?_);rintro e w' ⟨rfl,⟨nd,rfl⟩⟩;refine⟨_,rfl,?_⟩))
   go_ret
   exact⟨by first|rfl|(simp;done)|(simp[*];done),by repeat(first|exact Drawn0.refl _|apply Drawn0.step)⟩
  ·replace c7:=Bool.eq_false_iff.mpr c7
   subst c7
   have H1:(if a0<a1 then (some (-1)) else (if a0 > a1 then (some 1) else (some 0)))=some r:=by rw[if_neg (show ¬ (false=true) by decide)] at H;exact H
   clear H
   have H:=H1
   clear H1
   by_cases c8:a0<a1
   ·rw[if_pos c8] at H
    have c8b0:decide (a0<a1)=true:=decide_eq_true c8
    clear c8
    obtain rfl:=Option.some.inj H
    go_enter Tryd.func58,Tryd.ntmps58
    go_wp2_with (first|((with_reducible refine aK (f:=78) rfl ?_);refine bn (some 8) rfl rfl Tryd.func78 (by kernel_rfl) rfl #[.int .i64 a0] rfl (by(try simp only[amp_]);first|done|rfl|(simp only[ald_];rfl)) ?_;(with_reducible refine(cmp_isNaN_int.calls a0 false _ A3.out).mono ?_);rintro e w' ⟨rfl,⟨nd,rfl⟩⟩;refine⟨_,rfl,?_⟩)|((with_reducible refine aK (f:=78) rfl ?_);refine bn (some 10) rfl rfl Tryd.func78 (by kernel_rfl) rfl #[.int .i64 a1] rfl (by(try simp only[amp_]);first|done|rfl|(simp only[ald_];rfl)) ?_;(with_reducible refine(cmp_isNaN_int.calls a1 false _ A4.out).mono ?_);rintro e w' ⟨rfl,⟨nd,rfl⟩⟩;refine⟨_,rfl,?_⟩))
    go_ret
    exact⟨by first|rfl|(simp;done)|(simp[*];done),by repeat(first|exact Drawn0.refl _|apply Drawn0.step)⟩
   ·rw[if_neg c8] at H
    have c8b0:decide (a0<a1)=false:=decide_eq_false c8
    clear c8
    by_cases c9:a0 > a1
    ·rw[if_pos c9] at H
     have c9b0:decide (a1<a0)=true:=decide_eq_true c9
     clear c9
     obtain rfl:=Option.some.inj H
     go_enter Tryd.func58,Tryd.ntmps58
     go_wp2_with (first|((with_reducible refine aK (f:=78) rfl ?_);refine bn (some 8) rfl rfl Tryd.func78 (by kernel_rfl) rfl #[.int .i64 a0] rfl (by(try simp only[amp_]);first|done|rfl|(simp only[ald_];rfl)) ?_;(with_reducible refine(cmp_isNaN_int.calls a0 false _ A3.out).mono ?_);rintro e w' ⟨rfl,⟨nd,rfl⟩⟩;refine⟨_,rfl,?_⟩)|((with_reducible refine aK (f:=78) rfl ?_);refine bn (some 10) rfl rfl Tryd.func78 (by kernel_rfl) rfl #[.int .i64 a1] rfl (by(try simp only[amp_]);first|done|rfl|(simp only[ald_];rfl)) ?_;(with_reducible refine(cmp_isNaN_int.calls a1 false _ A4.out).mono ?_);rintro e w' ⟨rfl,⟨nd,rfl⟩⟩;refine⟨_,rfl,?_⟩))
     go_ret
     exact⟨by first|rfl|(simp;done)|(simp[*];done),by repeat(first|exact Drawn0.refl _|apply Drawn0.step)⟩
    ·rw[if_neg c9] at H
     have c9b0:decide (a1<a0)=false:=decide_eq_false c9
     clear c9
     obtain rfl:=Option.some.inj H
     go_enter Tryd.func58,Tryd.ntmps58
     go_wp2_with (first|((with_reducible refine aK (f:=78) rfl ?_);refine bn (some 8) rfl rfl Tryd.func78 (by kernel_rfl) rfl #[.int .i64 a0] rfl (by(try simp only[amp_]);first|done|rfl|(simp only[ald_];rfl)) ?_;(with_reducible refine(cmp_isNaN_int.calls a0 false _ A3.out).mono ?_);rintro e w' ⟨rfl,⟨nd,rfl⟩⟩;refine⟨_,rfl,?_⟩)|((with_reducible refine aK (f:=78) rfl ?_);refine bn (some 10) rfl rfl Tryd.func78 (by kernel_rfl) rfl #[.int .i64 a1] rfl (by(try simp only[amp_]);first|done|rfl|(simp only[ald_];rfl)) ?_;(with_reducible refine(cmp_isNaN_int.calls a1 false _ A4.out).mono ?_);rintro e w' ⟨rfl,⟨nd,rfl⟩⟩;refine⟨_,rfl,?_⟩))
     go_ret
     exact⟨by first|rfl|(simp;done)|(simp[*];done),by repeat(first|exact Drawn0.refl _|apply Drawn0.step)⟩
end Go.Proofs.YtdghdjachbbdmaaDoor.PFre
namespace Go.Proofs
open Go.Shelf
def Tryd.sortExt_ren:Go.Shelf.Ren:=⟨fun|6=>45|15=>56|14=>55|28=>76|29=>77|20=>68|21=>69|22=>70|23=>71|24=>72|25=>73|26=>74|27=>75|46=>84|47=>85|48=>86|49=>87|50=>88|57=>92|n=>n,fun|22=>30|24=>72|25=>83|3=>3|39=>92|0=>0|53=>114|55=>116|4=>4|46=>107|45=>106|50=>111|5=>5|9=>9|66=>123|70=>127|76=>130|77=>131|n=>n,fun|n=>n⟩
theorem Tryd.sortExt:Go.Proofs.SlLaysF0.n6 Tryd.prog Tryd.sortExt_ren:={
  mixed:=by kernel_rfl
  f6:=⟨Tryd.f45.name,by decide,Tryd.func45.trans (congrArg some (by kernel_rfl))⟩
  f14:=⟨Tryd.f55.name,by decide,Tryd.func55.trans (congrArg some (by kernel_rfl))⟩
  f15:=Tryd.func56.trans (congrArg some (by kernel_rfl))
  f20:=⟨Tryd.f68.name,by decide,Tryd.func68.trans (congrArg some (by kernel_rfl))⟩
  f21:=⟨Tryd.f69.name,by decide,Tryd.func69.trans (congrArg some (by kernel_rfl))⟩
  f22:=⟨Tryd.f70.name,by decide,Tryd.func70.trans (congrArg some (by kernel_rfl))⟩
  f23:=⟨Tryd.f71.name,by decide,Tryd.func71.trans (congrArg some (by kernel_rfl))⟩
  f24:=⟨Tryd.f72.name,by decide,Tryd.func72.trans (congrArg some (by kernel_rfl))⟩
  f25:=⟨Tryd.f73.name,by decide,Tryd.func73.trans (congrArg some (by kernel_rfl))⟩
  f26:=⟨Tryd.f74.name,by decide,Tryd.func74.trans (congrArg some (by kernel_rfl))⟩
  f27:=⟨Tryd.f75.name,by decide,Tryd.func75.trans (congrArg some (by kernel_rfl))⟩
  f28:=Tryd.func76.trans (congrArg some (by kernel_rfl))
  f29:=Tryd.func77.trans (congrArg some (by kernel_rfl))
  f46:=⟨Tryd.f84.name,by decide,Tryd.func84.trans (congrArg some (by kernel_rfl))⟩
  f47:=Tryd.func85.trans (congrArg some (by kernel_rfl))
  f48:=Tryd.func86.trans (congrArg some (by kernel_rfl))
  f49:=⟨Tryd.f87.name,by decide,Tryd.func87.trans (congrArg some (by kernel_rfl))⟩
  f50:=⟨Tryd.f88.name,by decide,Tryd.func88.trans (congrArg some (by kernel_rfl))⟩
  f57:=⟨Tryd.f92.name,by decide,Tryd.func92.trans (congrArg some (by kernel_rfl))⟩
  t0:=Tryd.underlying0
  a0:=Tryd.isAgg0
  z0:=Tryd.sizeOf0
  v0:=Tryd.zeroValue0
  t3:=Tryd.underlying3
  a3:=Tryd.isAgg3
  z3:=Tryd.sizeOf3
  v3:=Tryd.zeroValue3
  t4:=Tryd.underlying4
  a4:=Tryd.isAgg4
  z4:=Tryd.sizeOf4
  v4:=Tryd.zeroValue4
  t5:=Tryd.underlying5
  a5:=Tryd.isAgg5
  z5:=Tryd.sizeOf5
  v5:=Tryd.zeroValue5
  t9:=Tryd.underlying9
  a9:=Tryd.isAgg9
  z9:=Tryd.sizeOf9
  v9:=Tryd.zeroValue9
  t22:=Tryd.underlying30
  a22:=Tryd.isAgg30
  z22:=Tryd.sizeOf30
  v22:=Tryd.zeroValue30
  t25:=Tryd.underlying83
  a25:=Tryd.isAgg83
  z25:=Tryd.sizeOf83
  v25:=Tryd.zeroValue83
  t39:=Tryd.underlying92
  a39:=Tryd.isAgg92
  z39:=Tryd.sizeOf92
  v39:=Tryd.zeroValue92
  t45:=Tryd.underlying106
  a45:=Tryd.isAgg106
  z45:=Tryd.sizeOf106
  v45:=Tryd.zeroValue106
  t46:=Tryd.underlying107
  a46:=Tryd.isAgg107
  z46:=Tryd.sizeOf107
  v46:=Tryd.zeroValue107
  t50:=Tryd.underlying111
  a50:=Tryd.isAgg111
  z50:=Tryd.sizeOf111
  v50:=Tryd.zeroValue111
  t53:=Tryd.underlying114
  a53:=Tryd.isAgg114
  z53:=Tryd.sizeOf114
  v53:=Tryd.zeroValue114
  t55:=Tryd.underlying116
  a55:=Tryd.isAgg116
  z55:=Tryd.sizeOf116
  v55:=Tryd.zeroValue116
  t66:=Tryd.underlying123
  a66:=Tryd.isAgg123
  z66:=Tryd.sizeOf123
  v66:=Tryd.zeroValue123
  t70:=Tryd.underlying127
  a70:=Tryd.isAgg127
  z70:=Tryd.sizeOf127
  v70:=Tryd.zeroValue127
  t76:=Tryd.underlying130
  a76:=Tryd.isAgg130
  z76:=Tryd.sizeOf130
  v76:=Tryd.zeroValue130
  t77:=Tryd.underlying131
  a77:=Tryd.isAgg131
  z77:=Tryd.sizeOf131
  v77:=Tryd.zeroValue131 }
end Go.Proofs
