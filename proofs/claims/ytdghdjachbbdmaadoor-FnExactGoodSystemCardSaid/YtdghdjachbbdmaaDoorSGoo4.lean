import Derived.Test.YtdghdjachbbdmaaDoorSGoo3
namespace Go.Proofs.YtdghdjachbbdmaaDoor.PFre
open Go.RowKit Go.Proofs.YtdghdjachbbdmaaDoorW.PrintWords Go.Proofs.YtdghdjachbbdmaaDoorW.PrintLast Go.Proofs.YtdghdjachbbdmaaDoorW.PrintMore
attribute [local go_sem] bG bF bQ bR bB bC bH bE
set_option linter.unusedVariables false
set_option linter.unusedSimpArgs false
def laws_toExtent.f (a0_0:Int) (a0_1:Int):Option (Int×Int):=some (a0_0,a0_1)
set_option maxHeartbeats 8000000 in
set_option maxRecDepth 100000 in
theorem laws_toExtent.calls (a0_0:Int) (a0_1:Int) (r1:Int) (r2:Int) (w:World) (h:laws_toExtent.f a0_0 a0_1=some (r1,r2)) :
  Calls Tryd.prog 42 #[.agg #[.int .i64 a0_0,.int .i64 a0_1]] w fun e w'=>e = .returned (.agg #[.int .i64 r1,.int .i64 r2])∧Below w.heap.size w w':=by
 have hu80:=Tryd.underlying80
 have hu72:=Tryd.underlying72
 have HB:=av (Below.refl w.heap.size w)
 have H:(some (a0_0,a0_1))=some (r1,r2):=h
 clear h
 simp only[Option.some.injEq,Prod.mk.injEq] at H
 obtain⟨rfl,rfl⟩:=H
 go_enter Tryd.func42,Tryd.ntmps42
 go_wp2_with (first|((with_reducible refine aJ (N:=1) rfl ?_);refine aI ?hg (N:=1) ?hd (cs:=#[.int .i64 a0_0,.int .i64 a0_1]) (t:=80) ?hr ?_;(case hd=>rfl);(case hg=>rfl);(case hr=>first|(go_simp;done)|(go_simp;rfl));intro gb200 hg w2 hbox hb;have BK200:=av (hbox);have GW200:=av ((by rw[hg];exact(ay (by with_reducible repeat(first|exact HB.out|apply af|apply aa|apply ae))):w.heap.size≤gb200));have GE200:=av ((by rw[hg];exact(ay (by with_reducible repeat(first|exact HB.out|apply af|apply aa|apply ae))):w.heap.size≤gb200));replace HB:=av (aA (by with_reducible repeat(first|exact HB.out|apply af|apply aa|apply ae)) hb);clear hb hbox hg)|((with_reducible refine aJ (N:=2) rfl ?_);refine aI ?hg (N:=2) ?hd (cs:=#[.int .i64 0,.int .i64 0]) (t:=72) ?hr ?_;(case hd=>rfl);(case hg=>rfl);(case hr=>first|(go_simp;done)|(go_simp;rfl));intro gb201 hg w3 hbox hb;have BK201:=av (hbox);have GW201:=av ((by rw[hg];exact(ay (by with_reducible repeat(first|exact HB.out|apply af|apply aa|apply ae|refine ai ?_ GE200.out))):w.heap.size≤gb201));have GE201:=av ((by rw[hg];exact(ay (by with_reducible repeat(first|exact HB.out|apply af|apply aa|apply ae|refine ai ?_ GE200.out))):w.heap.size≤gb201));replace HB:=av (aA (by with_reducible repeat(first|exact HB.out|apply af|apply aa|apply ae|refine ai ?_ GE200.out)) hb);have NB200_201:=av ((by rw[hg];exact Nat.ne_of_lt (aN (g:=gb200) (o:=.cells #[.int .i64 a0_0,.int .i64 a0_1] 80 (0,0)) (by(with_reducible repeat(first|apply aj|apply au|apply ak));exact BK200.out)):gb200≠gb201));have NB201_200:=av ((by rw[hg];exact Nat.ne_of_gt (aN (g:=gb200) (o:=.cells #[.int .i64 a0_0,.int .i64 a0_1] 80 (0,0)) (by(with_reducible repeat(first|apply aj|apply au|apply ak));exact BK200.out)):gb201≠gb200));replace BK200:=av (aG (g:=gb200) (o:=.cells #[.int .i64 a0_0,.int .i64 a0_1] 80 (0,0)) (by(with_reducible repeat(first|apply aj|apply au|apply ak));exact BK200.out) hb);clear hb hbox hg)|((with_reducible refine aJ (N:=3) rfl ?_);refine aI ?hg (N:=3) ?hd (cs:=#[.int .i64 0,.int .i64 0]) (t:=72) ?hr ?_;(case hd=>rfl);(case hg=>rfl);(case hr=>first|(go_simp;done)|(go_simp;rfl));intro gb202 hg w4 hbox hb;have BK202:=av (hbox);have GW202:=av ((by rw[hg];exact(ay (by with_reducible repeat(first|exact HB.out|apply af|apply aa|apply ae|refine ai ?_ GE200.out|refine ai ?_ GE201.out))):w.heap.size≤gb202));have GE202:=av ((by rw[hg];exact(ay (by with_reducible repeat(first|exact HB.out|apply af|apply aa|apply ae|refine ai ?_ GE200.out|refine ai ?_ GE201.out))):w.heap.size≤gb202));replace HB:=av (aA (by with_reducible repeat(first|exact HB.out|apply af|apply aa|apply ae|refine ai ?_ GE200.out|refine ai ?_ GE201.out)) hb);have NB200_202:=av ((by rw[hg];exact Nat.ne_of_lt (aN (g:=gb200) (o:=.cells #[.int .i64 a0_0,.int .i64 a0_1] 80 (0,0)) (by(with_reducible repeat(first|apply aj|apply au|apply ak));exact BK200.out)):gb200≠gb202));have NB202_200:=av ((by rw[hg];exact Nat.ne_of_gt (aN (g:=gb200) (o:=.cells #[.int .i64 a0_0,.int .i64 a0_1] 80 (0,0)) (by(with_reducible repeat(first|apply aj|apply au|apply ak));exact BK200.out)):gb202≠gb200));replace BK200:=av (aG (g:=gb200) (o:=.cells #[.int .i64 a0_0,.int .i64 a0_1] 80 (0,0)) (by(with_reducible repeat(first|apply aj|apply au|apply ak));exact BK200.out) hb);have NB201_202:=av ((by rw[hg];exact Nat.ne_of_lt (aN (g:=gb201) (o:=.cells #[.int .i64 0,.int .i64 0] 72 (0,0)) (by(with_reducible repeat(first|apply aj|apply au|apply ak));exact BK201.out)):gb201≠gb202));have NB202_201:=av ((by rw[hg];exact Nat.ne_of_gt (aN (g:=gb201) (o:=.cells #[.int .i64 0,.int .i64 0] 72 (0,0)) (by(with_reducible repeat(first|apply aj|apply au|apply ak));exact BK201.out)):gb202≠gb201));replace BK201:=av (aG (g:=gb201) (o:=.cells #[.int .i64 0,.int .i64 0] 72 (0,0)) (by(with_reducible repeat(first|apply aj|apply au|apply ak));exact BK201.out) hb);clear hb hbox hg;have hnb5:=NB200_201.out;have hnc5:=NB201_200.out;have hnb6:=NB200_202.out;have hnc6:=NB202_200.out;have hcz7_0:w4.cell? ⟨gb200,0,none⟩=some (.int .i64 a0_0):=(ag BK200.out 0).trans rfl;have hcz7_1:w4.cell? ⟨gb200,1,none⟩=some (.int .i64 a0_1):=(ag BK200.out 1).trans rfl;have hfz7_0:=ah BK200.out 0;have hfz7_1:=ah BK200.out 1;have hnb8:=NB202_201.out;have hnc8:=NB201_202.out;have hcz9_0:w4.cell? ⟨gb202,0,none⟩=some (.int .i64 0):=(ag BK202.out 0).trans rfl;have hcz9_1:w4.cell? ⟨gb202,1,none⟩=some (.int .i64 0):=(ag BK202.out 1).trans rfl;have hfz9_0:=ah BK202.out 0;have hfz9_1:=ah BK202.out 1;have hcz10_0:w4.cell? ⟨gb201,0,none⟩=some (.int .i64 0):=(ag BK201.out 0).trans rfl;have hcz10_1:w4.cell? ⟨gb201,1,none⟩=some (.int .i64 0):=(ag BK201.out 1).trans rfl;have hfz10_0:=ah BK201.out 0;have hfz10_1:=ah BK201.out 1))
 refine bodyPost_ret (results_cell_row rfl _ _ gb201 72 #[.int .i64 a0_0,.int .i64 a0_1] (0,0) _ rfl (by(with_reducible repeat(first|apply aj|apply au|apply ak));refine aX (cs:=#[.int .i64 a0_0,.int .i64 0]) ?_ 1 _ rfl;(with_reducible repeat(first|apply aj|apply au|apply ak));refine aX (cs:=#[.int .i64 0,.int .i64 0]) ?_ 0 _ rfl;(with_reducible repeat(first|apply aj|apply au|apply ak));refine aU ?_ NB201_202.out _;(with_reducible repeat(first|apply aj|apply au|apply ak));refine aU ?_ NB201_202.out _;(with_reducible repeat(first|apply aj|apply au|apply ak));exact BK201.out) Tryd.underlying72 rfl (by kernel_rfl)) rfl ?_
 exact⟨by first|rfl|(simp <;> rfl)|(simp[*] <;> rfl),by with_reducible repeat(first|exact HB.out|apply af|apply aa|apply ae|refine ai ?_ GE200.out|refine ai ?_ GE201.out|refine ai ?_ GE202.out)⟩
def laws_toExtentS.l0:Nat→List (S80)→List (S72)→Int→Option ((List (S72)))
 | 0,_,_,_=>none
 | k+1,x0,x3,x4=>if x4 < (x0.length:Int) then (if 0≤x4 then ((laws_toExtent.f ((eD x0 x4).f0) ((eD x0 x4).f1)).bind fun bt207=>(if x4 < (x3.length:Int) then (laws_toExtentS.l0 k x0 (x3.set (x4:Int).toNat (⟨bt207.1,bt207.2⟩:S72)) (wrap64 (x4+1))) else (none))) else (none)) else (some x3)
def laws_toExtentS.f (k:Nat) (l0:List (S80)):Option ((List (S72))):=if 0≤(l0.length:Int) then (if ((l0.length:Int):Int).toNat≤17592186044416 then (laws_toExtentS.l0 k l0 (List.replicate ((l0.length:Int):Int).toNat z72) 0) else (none)) else (none)
set_option maxHeartbeats 8000000 in
set_option maxRecDepth 100000 in
theorem laws_toExtentS.calls (k : Nat) (A0 : Option Addr) (c0 : Nat) (l0 : List (S80)) (r : List (S72)) (w : World) (hr0 : Kd.C k80 w A0 l0.length l0) (hc0 : l0.length ≤ c0) (h : laws_toExtentS.f k l0 = some r) :
  Calls Tryd.prog 29 #[.slice A0 l0.length c0] w fun e w'=>∃ v0_:Value,e = .returned (v0_)∧Kd.R k72 72 w' w.heap.size (fun _=>True) v0_ r∧Below w.heap.size w w':=by
 have hu80:=Tryd.underlying80
 have hu72:=Tryd.underlying72
 have HR0:=av hr0
 have HC0:=av hc0
 clear hr0 hc0
 have HB:=av (Below.refl w.heap.size w)
 have H:(if 0≤(l0.length:Int) then (if ((l0.length:Int):Int).toNat≤17592186044416 then (laws_toExtentS.l0 k l0 (List.replicate ((l0.length:Int):Int).toNat z72) 0) else (none)) else (none))=some r:=h
 clear h
 by_cases c2:0≤(l0.length:Int)
 ·rw [if_pos c2] at H
  have c2b0:=eq_true c2
  have c2b1:decide (0≤(l0.length:Int))=true:=decide_eq_true c2
  clear c2
  by_cases c3:((l0.length:Int):Int).toNat≤17592186044416
  ·rw [if_pos c3] at H
   have c3b0:=eq_true c3
   have c3b1:decide (((l0.length:Int):Int).toNat≤17592186044416)=true:=decide_eq_true c3
   clear c3
   obtain⟨y203,hy203⟩:∃ y_:List (S72),y_ = (List.replicate ((l0.length:Int):Int).toNat z72):=⟨_,rfl⟩
   replace H:(laws_toExtentS.l0 k l0 y203 0)=some r:=by first|(rw[hy203];with_reducible exact H)|(have H2_:=(Option.bind_some _ _).symm.trans H;rw[hy203];with_reducible exact H2_)|(have H2_:=(Option.bind_some _ _).symm.trans H;with_reducible exact H2_)|with_reducible exact H|(rw[hy203];exact H)|exact H
   have Ny203:=av hy203
   clear hy203
   have H':=av H
   clear H
   go_enter Tryd.func29,Tryd.ntmps29
   go_wp2_with (first|((with_reducible refine aJ (N:=7) rfl ?_);refine Kd.jw k72 _ 72 rfl (N:=7) rfl 30 _ _ rfl (l0.length:Int) rfl rfl Tryd.underlying30 (.agg #[(.int .i64 0),(.int .i64 0)]) 16 d9 rfl (by decide) (by omega) z72 (ok:=fun _=>True) (okp:=fun _=>True) (ib _ _ _ z72) (fun _ hk=>hk) trivial (of_decide_eq_true (by assumption)) (Nat.le_trans (Nat.mul_le_mul_right _ (of_decide_eq_true (by assumption):(l0.length:Int).toNat≤17592186044416)) (by omega)) (Below.refl _ _) (Nat.le_refl _) ?_;intro v204 w4 ho5 hb hg_ hnew_;clear hg_ hnew_;(first|rw[← Ny203.out] at ho5|(simp only[Int.reduceToNat] at ho5;rw[← Ny203.out] at ho5));have HO205:=av (Kd.dB ho5 (ay (by with_reducible repeat(first|exact HB.out|apply af|apply aa|apply ae))));replace HB:=av (aA (by with_reducible repeat(first|exact HB.out|apply af|apply aa|apply ae)) hb);clear hb ho5))
   go_loopg [4] k (fun kq v4 w'=>∃ (x3_1:List (S72)) (x4_1:Int),v4 = .int .i64 x4_1∧Aside0 (laws_toExtentS.l0 kq l0 x3_1 x4_1=some r)∧Aside0 (kq≤k)∧Aside0 (Kd.R k72 72 w' w.heap.size (fun _=>True) v204 x3_1)∧Aside0 (Below w.heap.size w w'))
   case atStart=>exact⟨(y203),(0),(by first|rfl|(simp;done)|(simp[*];done)),H',⟨Nat.le_refl _⟩,⟨by(with_reducible repeat(first|apply Kd.bf|apply Kd.bg|apply Kd.bi));exact HO205.out⟩,⟨by with_reducible repeat(first|exact HB.out|apply af|apply aa|apply ae)⟩⟩
   case round =>
    clear H'
    try clear c2
    try clear c2b0
    try clear c2b1
    try clear p2
    try clear c3
    try clear c3b0
    try clear c3b1
    obtain⟨x3_1,x4_1,rfl,HA,HK1,HO_3,HB⟩:=hrel
    cases gk with
    | zero=>exact absurd HA.out (by simp[laws_toExtentS.l0])
    | succ k1=>
     have H:=HA.out
     clear HA
     simp only[laws_toExtentS.l0] at H
     by_cases c6:x4_1 < (l0.length:Int)
     ·rw[if_pos c6] at H
      have c6b0:decide (x4_1 < (l0.length:Int))=true:=decide_eq_true c6
      clear c6
      by_cases c7:0≤x4_1
      ·rw[if_pos c7] at H
       have c7b0:decide (0≤x4_1)=true:=decide_eq_true c7
       clear c7
       replace H:=Option.bind_eq_some_iff.mp H
       obtain⟨⟨t207,t208⟩,A80,H⟩:=H
       replace H:(if x4_1 < (x3_1.length:Int) then (laws_toExtentS.l0 k1 l0 (x3_1.set (x4_1:Int).toNat (⟨t207,t208⟩:S72)) (wrap64 (x4_1+1))) else (none))=some r:=H
       have A8:=av A80
       clear A80
       by_cases c9:x4_1 < (x3_1.length:Int)
       ·rw[if_pos c9] at H
        have c9b0:decide (x4_1 < (x3_1.length:Int))=true:=decide_eq_true c9
        clear c9
        obtain⟨y209,hy209⟩:∃ y_:List (S72),y_ = (x3_1.set (x4_1:Int).toNat (⟨t207,t208⟩:S72)):=⟨_,rfl⟩
        replace H:(laws_toExtentS.l0 k1 l0 y209 (wrap64 (x4_1+1)))=some r:=by first|(rw[hy209];with_reducible exact H)|(have H2_:=(Option.bind_some _ _).symm.trans H;rw[hy209];with_reducible exact H2_)|(have H2_:=(Option.bind_some _ _).symm.trans H;with_reducible exact H2_)|with_reducible exact H|(rw[hy209];exact H)|exact H
        have Ny209:=av hy209
        clear hy209
        have H':=av H
        clear H
        have p206:0≤(x4_1:Int):=of_decide_eq_true (by assumption)
        have q206:x4_1 < (l0.length:Int):=of_decide_eq_true (by assumption)
        obtain⟨ad206,e206,hx206_0,hx206_1⟩:=o6 HR0.out x4_1 p206 q206
        cases e206
        replace hx206_0:=(HB.out.cell (World.block_lt_of_cell? w _ hx206_0)).trans hx206_0
        replace hx206_1:=(HB.out.cell (World.block_lt_of_cell? w _ hx206_1)).trans hx206_1
        replace p206:=eq_true p206
        replace q206:=eq_true q206
        go_wp2_with (first|((with_reducible refine aK (f:=42) rfl ?_);refine bn (some 20) rfl rfl Tryd.func42 (by kernel_rfl) rfl #[.agg #[.int .i64 ((eD l0 x4_1).f0),.int .i64 ((eD l0 x4_1).f1)]] rfl (by(try simp only[amp_]);first|done|rfl|(simp only[ald_];rfl)) ?_;(with_reducible refine(laws_toExtent.calls ((eD l0 x4_1).f0) ((eD l0 x4_1).f1) t207 t208 _ A8.out).mono ?_);rintro e w11 ⟨rfl,hb⟩;refine⟨_,rfl,?_⟩;replace HO_3:=av (Kd.dx (by(with_reducible repeat(first|apply Kd.bf|apply Kd.bg|apply Kd.bi));exact HO_3.out) hb);replace HB:=av (aA (by with_reducible repeat(first|exact HB.out|apply af|apply aa|apply ae)) hb);(try clear hb);(try clear hb2);(try clear hk);(try clear hi);have p10:0≤(x4_1:Int):=of_decide_eq_true (by assumption);have q10:(x4_1:Int) < ((x3_1.length:Int):Int):=of_decide_eq_true (by assumption);obtain⟨go10,co10,eo10,gb10,gl10,cl10,HG10⟩:=Kd.jy HO_3.out (by omega);(first|cases eo10|(injection eo10 with ea_ en_ ec_;(first|subst ea_|(injection ea_ with ea_;subst ea_));subst ec_;clear en_));have GB10:=av gb10;have GG10:=av HG10;clear gb10 gl10 HG10;obtain⟨ce10,hcl10,hM10,hcc10,hfr10⟩:=Kd.iH HO_3.out z72 (x4_1:Int) p10 q10;obtain rfl:=ji hM10;have hx10_0:w11.cell? ⟨go10,(x4_1:Int).toNat*2,none⟩=some (.int .i64 ((aH x3_1 x4_1).f0)):=hcc10 0 _ rfl;have hx10_1:w11.cell? ⟨go10,(x4_1:Int).toNat*2+1,none⟩=some (.int .i64 ((aH x3_1 x4_1).f1)):=hcc10 1 _ rfl;have hf10_0:w11.frozen? ⟨go10,(x4_1:Int).toNat*2,none⟩=false:=hfr10 0;have hf10_1:w11.frozen? ⟨go10,(x4_1:Int).toNat*2+1,none⟩=false:=hfr10 1;clear hcl10 hcc10 hfr10 hM10;replace p10:=eq_true p10;replace q10:=eq_true q10;have HX12:=av (show Kd.R k72 72 w11 w.heap.size (fun _=>True) (.slice (some ⟨go10,0,none⟩) x3_1.length co10) x3_1 from(by(with_reducible repeat(first|apply Kd.bf|apply Kd.bg|apply Kd.bi));exact HO_3.out));obtain⟨ce12,hcl12,hM12,hcc12,hfr12⟩:=Kd.iH HX12.out z72 (x4_1:Int) (of_decide_eq_true (by assumption)) (by have h_:(x4_1:Int) < ((x3_1.length:Int):Int):=of_decide_eq_true (by assumption);first|exact h_|(have e_:=(Kd.R_reads' HO_3.out).1;omega)|simpa using h_);obtain rfl:=ji hM12;have HP12:=Kd.mo HX12.out (x4_1:Int) (of_decide_eq_true (by assumption)) (by have h_:(x4_1:Int) < ((x3_1.length:Int):Int):=of_decide_eq_true (by assumption);first|exact h_|(have e_:=(Kd.R_reads' HO_3.out).1;omega)|simpa using h_) (seg:=[.int .i64 t207,.int .i64 t208]) (j:=0) hcl12 hcc12 (show 2≤2 from by decide) (x':=(⟨t207,t208⟩:S72)) (ib _ _ _ (⟨t207,t208⟩:S72)) (fun _ hk=>hk);have hx12_0:=hcc12 0 _ rfl;(try simp only[show(k72).sz=2 from rfl,Nat.mul_one,Nat.add_zero] at hx12_0);have hf12_0:=hfr12 0;(try simp only[show(k72).sz=2 from rfl,Nat.mul_one,Nat.add_zero] at hf12_0);have hx12_1:=hcc12 1 _ rfl;(try simp only[show(k72).sz=2 from rfl,Nat.mul_one,Nat.add_zero] at hx12_1);have hf12_1:=hfr12 1;(try simp only[show(k72).sz=2 from rfl,Nat.mul_one,Nat.add_zero] at hf12_1);clear hcl12 hcc12 hfr12 hM12)|((with_reducible refine eY (t:=72) (p:=21) rfl ?_);refine eO (t:=72) (p:=21) (v:=?vo_w13) (w1:=((w11.setCell ⟨go10,(x4_1:Int).toNat*2,none⟩ (.int .i64 t207)).setCell ⟨go10,(x4_1:Int).toNat*2+1,none⟩ (.int .i64 t208))) ?hg ?ho ?hn ?hr ?_;(case ho=>rfl);(case hg=>rfl);(case hn=>rfl);(case hr=>first|(go_simp;done)|(go_simp;rfl));intro w13 hw;have hg:w11.grownBy w13 (some go10):=(by rw[hw];exact HP12.2);have hp_:Kd.R k72 72 w13 w.heap.size (fun _=>True) (.slice (some ⟨go10,0,none⟩) x3_1.length co10) y209:=(by rw[hw,Ny209.out];exact HP12.1);clear HP12;replace HO_3:=av (hp_);replace HB:=av ((by rw[hw];exact ai (ai (HB.out) GB10.out) GB10.out:Below w.heap.size w w13));clear hg hw hp_))
        go_roundg k1
        case measure=>have:=HK1.out;omega
        case rel=>exact⟨(y209),(wrap64 (x4_1+1)),(by first|rfl|(simp;done)|(simp[*];done)),H',⟨by have:=HK1.out;omega⟩,⟨by(with_reducible repeat(first|apply Kd.bf|apply Kd.bg|apply Kd.bi));exact HO_3.out⟩,⟨by with_reducible repeat(first|exact HB.out|apply af|apply aa|apply ae)⟩⟩
       ·rw[if_neg c9] at H
        exact absurd H (by simp)
      ·rw[if_neg c7] at H
       exact absurd H (by simp)
     ·rw[if_neg c6] at H
      have c6b0:decide (x4_1 < (l0.length:Int))=false:=decide_eq_false c6
      clear c6
      obtain rfl:=Option.some.inj H
      go_wp2
      go_ret
      exact⟨_,by first|rfl|(simp <;> rfl)|(simp[*] <;> rfl),by(with_reducible repeat(first|apply Kd.bf|apply Kd.bg|apply Kd.bi));exact HO_3.out,by with_reducible repeat(first|exact HB.out|apply af|apply aa|apply ae)⟩
  ·rw[if_neg c3] at H
   exact absurd H (by simp)
 ·rw[if_neg c2] at H
  exact absurd H (by simp)
def laws_toFree.f (k:Nat) (a0_0:Int) (l0_1:List (S80)) (l0_2:List (S80)):Option (Int×(List (S72))×(List (S72))):=(laws_toExtentS.f k l0_1).bind fun t213=>((laws_toExtentS.f k l0_2).bind fun t216=>(some (a0_0,t213,t216)))
set_option maxHeartbeats 8000000 in
set_option maxRecDepth 100000 in
theorem laws_toFree.calls (k:Nat) (a0_0:Int) (A0_1:Option Addr) (c0_1:Nat) (l0_1:List (S80)) (A0_2:Option Addr) (c0_2:Nat) (l0_2:List (S80)) (r1:Int) (r2:List (S72)) (r3:List (S72)) (w:World) (hr0_1:Kd.C k80 w A0_1 l0_1.length l0_1) (hc0_1:l0_1.length≤c0_1) (hr0_2:Kd.C k80 w A0_2 l0_2.length l0_2) (hc0_2:l0_2.length≤c0_2) (h:laws_toFree.f k a0_0 l0_1 l0_2=some (r1,r2,r3)) :
  Calls Tryd.prog 15 #[.agg #[.int .i64 a0_0,.slice A0_1 l0_1.length c0_1,.slice A0_2 l0_2.length c0_2]] w fun e w'=>∃ v1_ v2_:Value,e = .returned (.agg #[.int .i64 r1,v1_,v2_])∧Kd.R k72 72 w' w.heap.size (fun k_=>some k_≠(v2_:Value).ownBlock) v1_ r2∧Kd.R k72 72 w' w.heap.size (fun k_=>some k_≠(v1_:Value).ownBlock) v2_ r3∧Below w.heap.size w w':=by
 have hu24:=Tryd.underlying24
 have hu32:=Tryd.underlying32
 have HR0_1:=av hr0_1
 have HC0_1:=av hc0_1
 clear hr0_1 hc0_1
 have HR0_2:=av hr0_2
 have HC0_2:=av hc0_2
 clear hr0_2 hc0_2
 have HB:=av (Below.refl w.heap.size w)
 have H:((laws_toExtentS.f k l0_1).bind fun t213=>((laws_toExtentS.f k l0_2).bind fun t216=>(some (a0_0,t213,t216))))=some (r1,r2,r3):=h
 clear h
 replace H:=Option.bind_eq_some_iff.mp H
 obtain⟨t213,A20,H⟩:=H
 replace H:((laws_toExtentS.f k l0_2).bind fun t216=>(some (a0_0,t213,t216)))=some (r1,r2,r3):=H
 have A2:=av A20
 clear A20
 replace H:=Option.bind_eq_some_iff.mp H
 obtain⟨t216,A30,H⟩:=H
 replace H:(some (a0_0,t213,t216))=some (r1,r2,r3):=H
 have A3:=av A30
 clear A30
 simp only[Option.some.injEq,Prod.mk.injEq] at H
 obtain⟨rfl,rfl,rfl⟩:=H
 go_enter Tryd.func15,Tryd.ntmps15
 go_wp2_with (first|((with_reducible refine aJ (N:=1) rfl ?_);refine aI ?hg (N:=1) ?hd (cs:=#[.int .i64 a0_0,.slice A0_1 l0_1.length c0_1,.slice A0_2 l0_2.length c0_2]) (t:=24) ?hr ?_;(case hd=>rfl);(case hg=>rfl);(case hr=>first|(go_simp;done)|(go_simp;rfl));intro gb210 hg w4 hbox hb;have BK210:=av (hbox);have GW210:=av ((by rw[hg];exact(ay (by with_reducible repeat(first|exact HB.out|apply af|apply aa|apply ae))):w.heap.size≤gb210));have GE210:=av ((by rw[hg];exact(ay (by with_reducible repeat(first|exact HB.out|apply af|apply aa|apply ae))):w.heap.size≤gb210));replace HB:=av (aA (by with_reducible repeat(first|exact HB.out|apply af|apply aa|apply ae)) hb);clear hb hbox hg)|((with_reducible refine aJ (N:=2) rfl ?_);refine aI ?hg (N:=2) ?hd (cs:=#[.int .i64 0,.slice none 0 0,.slice none 0 0]) (t:=32) ?hr ?_;(case hd=>rfl);(case hg=>rfl);(case hr=>first|(go_simp;done)|(go_simp;rfl));intro gb211 hg w5 hbox hb;have BK211:=av (hbox);have GW211:=av ((by rw[hg];exact(ay (by with_reducible repeat(first|exact HB.out|apply af|apply aa|apply ae|refine ai ?_ GE210.out))):w.heap.size≤gb211));have GE211:=av ((by rw[hg];exact(ay (by with_reducible repeat(first|exact HB.out|apply af|apply aa|apply ae|refine ai ?_ GE210.out))):w.heap.size≤gb211));replace HB:=av (aA (by with_reducible repeat(first|exact HB.out|apply af|apply aa|apply ae|refine ai ?_ GE210.out)) hb);have NB210_211:=av ((by rw[hg];exact Nat.ne_of_lt (aN (g:=gb210) (o:=.cells #[.int .i64 a0_0,.slice A0_1 l0_1.length c0_1,.slice A0_2 l0_2.length c0_2] 24 (0,0)) (by(with_reducible repeat(first|apply aj|apply au|apply ak));exact BK210.out)):gb210≠gb211));have NB211_210:=av ((by rw[hg];exact Nat.ne_of_gt (aN (g:=gb210) (o:=.cells #[.int .i64 a0_0,.slice A0_1 l0_1.length c0_1,.slice A0_2 l0_2.length c0_2] 24 (0,0)) (by(with_reducible repeat(first|apply aj|apply au|apply ak));exact BK210.out)):gb211≠gb210));replace BK210:=av (aG (g:=gb210) (o:=.cells #[.int .i64 a0_0,.slice A0_1 l0_1.length c0_1,.slice A0_2 l0_2.length c0_2] 24 (0,0)) (by(with_reducible repeat(first|apply aj|apply au|apply ak));exact BK210.out) hb);clear hb hbox hg)|((with_reducible refine aJ (N:=3) rfl ?_);refine aI ?hg (N:=3) ?hd (cs:=#[.int .i64 0,.slice none 0 0,.slice none 0 0]) (t:=32) ?hr ?_;(case hd=>rfl);(case hg=>rfl);(case hr=>first|(go_simp;done)|(go_simp;rfl));intro gb212 hg w6 hbox hb;have BK212:=av (hbox);have GW212:=av ((by rw[hg];exact(ay (by with_reducible repeat(first|exact HB.out|apply af|apply aa|apply ae|refine ai ?_ GE210.out|refine ai ?_ GE211.out))):w.heap.size≤gb212));have GE212:=av ((by rw[hg];exact(ay (by with_reducible repeat(first|exact HB.out|apply af|apply aa|apply ae|refine ai ?_ GE210.out|refine ai ?_ GE211.out))):w.heap.size≤gb212));replace HB:=av (aA (by with_reducible repeat(first|exact HB.out|apply af|apply aa|apply ae|refine ai ?_ GE210.out|refine ai ?_ GE211.out)) hb);have NB210_212:=av ((by rw[hg];exact Nat.ne_of_lt (aN (g:=gb210) (o:=.cells #[.int .i64 a0_0,.slice A0_1 l0_1.length c0_1,.slice A0_2 l0_2.length c0_2] 24 (0,0)) (by(with_reducible repeat(first|apply aj|apply au|apply ak));exact BK210.out)):gb210≠gb212));have NB212_210:=av ((by rw[hg];exact Nat.ne_of_gt (aN (g:=gb210) (o:=.cells #[.int .i64 a0_0,.slice A0_1 l0_1.length c0_1,.slice A0_2 l0_2.length c0_2] 24 (0,0)) (by(with_reducible repeat(first|apply aj|apply au|apply ak));exact BK210.out)):gb212≠gb210));replace BK210:=av (aG (g:=gb210) (o:=.cells #[.int .i64 a0_0,.slice A0_1 l0_1.length c0_1,.slice A0_2 l0_2.length c0_2] 24 (0,0)) (by(with_reducible repeat(first|apply aj|apply au|apply ak));exact BK210.out) hb);have NB211_212:=av ((by rw[hg];exact Nat.ne_of_lt (aN (g:=gb211) (o:=.cells #[.int .i64 0,.slice none 0 0,.slice none 0 0] 32 (0,0)) (by(with_reducible repeat(first|apply aj|apply au|apply ak));exact BK211.out)):gb211≠gb212));have NB212_211:=av ((by rw[hg];exact Nat.ne_of_gt (aN (g:=gb211) (o:=.cells #[.int .i64 0,.slice none 0 0,.slice none 0 0] 32 (0,0)) (by(with_reducible repeat(first|apply aj|apply au|apply ak));exact BK211.out)):gb212≠gb211));replace BK211:=av (aG (g:=gb211) (o:=.cells #[.int .i64 0,.slice none 0 0,.slice none 0 0] 32 (0,0)) (by(with_reducible repeat(first|apply aj|apply au|apply ak));exact BK211.out) hb);clear hb hbox hg;have hnb7:=NB210_211.out;have hnc7:=NB211_210.out;have hnb8:=NB210_212.out;have hnc8:=NB212_210.out;have hcz9_0:w6.cell? ⟨gb210,0,none⟩=some (.int .i64 a0_0):=(ag BK210.out 0).trans rfl;have hcz9_1:w6.cell? ⟨gb210,1,none⟩=some (.slice A0_1 l0_1.length c0_1):=(ag BK210.out 1).trans rfl;have hcz9_2:w6.cell? ⟨gb210,2,none⟩=some (.slice A0_2 l0_2.length c0_2):=(ag BK210.out 2).trans rfl;have hfz9_0:=ah BK210.out 0;have hfz9_1:=ah BK210.out 1;have hfz9_2:=ah BK210.out 2;have hnb10:=NB212_211.out;have hnc10:=NB211_212.out;have hcz11_0:w6.cell? ⟨gb212,0,none⟩=some (.int .i64 0):=(ag BK212.out 0).trans rfl;have hcz11_1:w6.cell? ⟨gb212,1,none⟩=some (.slice none 0 0):=(ag BK212.out 1).trans rfl;have hcz11_2:w6.cell? ⟨gb212,2,none⟩=some (.slice none 0 0):=(ag BK212.out 2).trans rfl;have hfz11_0:=ah BK212.out 0;have hfz11_1:=ah BK212.out 1;have hfz11_2:=ah BK212.out 2)|((with_reducible refine aK (f:=29) rfl ?_);refine bn (some 9) rfl rfl Tryd.func29 (by kernel_rfl) rfl #[.slice A0_1 l0_1.length c0_1] rfl (by(try simp only[amp_]);first|done|rfl|(simp only[ald_];rfl)) ?_;(with_reducible refine(laws_toExtentS.calls k _ _ l0_1 t213 _ ?side1 ?side2 A2.out).mono ?_);(case side1=>exact Kd.aQ HR0_1.out (by with_reducible repeat(first|exact HB.out|apply af|apply aa|apply ae|refine ai ?_ GE210.out|refine ai ?_ GE211.out|refine ai ?_ GE212.out)));(case side2=>exact HC0_1.out);rintro e w12 ⟨v214,rfl,ho0,hb⟩;refine⟨_,rfl,?_⟩;have HO215:=av (Kd.dB ho0 (ay (by with_reducible repeat(first|exact HB.out|apply af|apply aa|apply ae|refine ai ?_ GE210.out|refine ai ?_ GE211.out|refine ai ?_ GE212.out))));replace BK210:=av (aG (g:=gb210) (o:=.cells #[.int .i64 a0_0,.slice A0_1 l0_1.length c0_1,.slice A0_2 l0_2.length c0_2] 24 (0,0)) (by(with_reducible repeat(first|apply aj|apply au|apply ak));refine aU ?_ NB210_212.out _;(with_reducible repeat(first|apply aj|apply au|apply ak));exact BK210.out) hb);replace BK211:=av (aG (g:=gb211) (o:=.cells #[.int .i64 0,.slice none 0 0,.slice none 0 0] 32 (0,0)) (by(with_reducible repeat(first|apply aj|apply au|apply ak));refine aU ?_ NB211_212.out _;(with_reducible repeat(first|apply aj|apply au|apply ak));exact BK211.out) hb);replace BK212:=av (aG (g:=gb212) (o:=.cells #[.int .i64 a0_0,.slice none 0 0,.slice none 0 0] 32 (0,0)) (by(with_reducible repeat(first|apply aj|apply au|apply ak));refine aX (cs:=#[.int .i64 0,.slice none 0 0,.slice none 0 0]) ?_ 0 _ rfl;(with_reducible repeat(first|apply aj|apply au|apply ak));exact BK212.out) hb);replace HB:=av (aA (by with_reducible repeat(first|exact HB.out|apply af|apply aa|apply ae|refine ai ?_ GE210.out|refine ai ?_ GE211.out|refine ai ?_ GE212.out)) hb);(try clear hb);(try clear hb2);(try clear hk);(try clear hi);(try clear ho0);obtain⟨Ao13,co13,eo13⟩:=Kd.cz HO215.out;subst eo13;have hcz14_0:w12.cell? ⟨gb212,0,none⟩=some (.int .i64 a0_0):=(ag BK212.out 0).trans rfl;have hcz14_1:w12.cell? ⟨gb212,1,none⟩=some (.slice none 0 0):=(ag BK212.out 1).trans rfl;have hcz14_2:w12.cell? ⟨gb212,2,none⟩=some (.slice none 0 0):=(ag BK212.out 2).trans rfl;have hfz14_0:=ah BK212.out 0;have hfz14_1:=ah BK212.out 1;have hfz14_2:=ah BK212.out 2;have hcz15_0:w12.cell? ⟨gb210,0,none⟩=some (.int .i64 a0_0):=(ag BK210.out 0).trans rfl;have hcz15_1:w12.cell? ⟨gb210,1,none⟩=some (.slice A0_1 l0_1.length c0_1):=(ag BK210.out 1).trans rfl;have hcz15_2:w12.cell? ⟨gb210,2,none⟩=some (.slice A0_2 l0_2.length c0_2):=(ag BK210.out 2).trans rfl;have hfz15_0:=ah BK210.out 0;have hfz15_1:=ah BK210.out 1;have hfz15_2:=ah BK210.out 2)|((with_reducible refine aK (f:=29) rfl ?_);refine bn (some 13) rfl rfl Tryd.func29 (by kernel_rfl) rfl #[.slice A0_2 l0_2.length c0_2] rfl (by(try simp only[amp_]);first|done|rfl|(simp only[ald_];rfl)) ?_;(with_reducible refine(laws_toExtentS.calls k _ _ l0_2 t216 _ ?side1 ?side2 A3.out).mono ?_);(case side1=>exact Kd.aQ HR0_2.out (by with_reducible repeat(first|exact HB.out|apply af|apply aa|apply ae|refine ai ?_ GE210.out|refine ai ?_ GE211.out|refine ai ?_ GE212.out)));(case side2=>exact HC0_2.out);rintro e w16 ⟨v217,rfl,ho0,hb⟩;refine⟨_,rfl,?_⟩;have HO218:=av (Kd.dB (Kd.R_new' ho0 (Kd.lc (by(with_reducible repeat(first|apply Kd.bf|apply Kd.bg|apply Kd.bi));exact(Kd.bT (Kd.bM (p:=⟨gb212,1,none⟩) (Kd.bZ HO215.out BK212.out (by decide)) (fun _ hk=>hk.2) (.slice Ao13 t213.length co13)) (fun _ h_=>h_.1))))) (ay (by with_reducible repeat(first|exact HB.out|apply af|apply aa|apply ae|refine ai ?_ GE210.out|refine ai ?_ GE211.out|refine ai ?_ GE212.out))));replace HO215:=av (Kd.R_elder' (by(with_reducible repeat(first|apply Kd.bf|apply Kd.bg|apply Kd.bi));exact(Kd.bT (Kd.bM (p:=⟨gb212,1,none⟩) (Kd.bZ HO215.out BK212.out (by decide)) (fun _ hk=>hk.2) (.slice Ao13 t213.length co13)) (fun _ h_=>h_.1))) (Kd.ny ho0) hb);replace BK210:=av (aG (g:=gb210) (o:=.cells #[.int .i64 a0_0,.slice A0_1 l0_1.length c0_1,.slice A0_2 l0_2.length c0_2] 24 (0,0)) (by(with_reducible repeat(first|apply aj|apply au|apply ak));refine aU ?_ NB210_212.out _;(with_reducible repeat(first|apply aj|apply au|apply ak));exact BK210.out) hb);replace BK211:=av (aG (g:=gb211) (o:=.cells #[.int .i64 0,.slice none 0 0,.slice none 0 0] 32 (0,0)) (by(with_reducible repeat(first|apply aj|apply au|apply ak));refine aU ?_ NB211_212.out _;(with_reducible repeat(first|apply aj|apply au|apply ak));exact BK211.out) hb);replace BK212:=av (aG (g:=gb212) (o:=.cells #[.int .i64 a0_0,.slice Ao13 t213.length co13,.slice none 0 0] 32 (0,0)) (by(with_reducible repeat(first|apply aj|apply au|apply ak));refine aX (cs:=#[.int .i64 a0_0,.slice none 0 0,.slice none 0 0]) ?_ 1 _ rfl;(with_reducible repeat(first|apply aj|apply au|apply ak));exact BK212.out) hb);replace HB:=av (aA (by with_reducible repeat(first|exact HB.out|apply af|apply aa|apply ae|refine ai ?_ GE210.out|refine ai ?_ GE211.out|refine ai ?_ GE212.out)) hb);(try clear hb);(try clear hb2);(try clear hk);(try clear hi);(try clear ho0);obtain⟨Ao17,co17,eo17⟩:=Kd.cz HO218.out;subst eo17;have hcz18_0:w16.cell? ⟨gb212,0,none⟩=some (.int .i64 a0_0):=(ag BK212.out 0).trans rfl;have hcz18_1:w16.cell? ⟨gb212,1,none⟩=some (.slice Ao13 t213.length co13):=(ag BK212.out 1).trans rfl;have hcz18_2:w16.cell? ⟨gb212,2,none⟩=some (.slice none 0 0):=(ag BK212.out 2).trans rfl;have hfz18_0:=ah BK212.out 0;have hfz18_1:=ah BK212.out 1;have hfz18_2:=ah BK212.out 2;have hcz19_0:w16.cell? ⟨gb211,0,none⟩=some (.int .i64 0):=(ag BK211.out 0).trans rfl;have hcz19_1:w16.cell? ⟨gb211,1,none⟩=some (.slice none 0 0):=(ag BK211.out 1).trans rfl;have hcz19_2:w16.cell? ⟨gb211,2,none⟩=some (.slice none 0 0):=(ag BK211.out 2).trans rfl;have hfz19_0:=ah BK211.out 0;have hfz19_1:=ah BK211.out 1;have hfz19_2:=ah BK211.out 2))
 refine bodyPost_ret (results_cell_row rfl _ _ gb211 32 #[.int .i64 a0_0,.slice Ao13 t213.length co13,.slice Ao17 t216.length co17] (0,0) _ rfl (by(with_reducible repeat(first|apply aj|apply au|apply ak));refine aX (cs:=#[.int .i64 a0_0,.slice Ao13 t213.length co13,.slice none 0 0]) ?_ 2 _ rfl;(with_reducible repeat(first|apply aj|apply au|apply ak));refine aX (cs:=#[.int .i64 a0_0,.slice none 0 0,.slice none 0 0]) ?_ 1 _ rfl;(with_reducible repeat(first|apply aj|apply au|apply ak));refine aX (cs:=#[.int .i64 0,.slice none 0 0,.slice none 0 0]) ?_ 0 _ rfl;(with_reducible repeat(first|apply aj|apply au|apply ak));refine aU ?_ NB211_212.out _;(with_reducible repeat(first|apply aj|apply au|apply ak));exact BK211.out) Tryd.underlying32 rfl (by kernel_rfl)) rfl ?_
 exact⟨_,_,by first|rfl|(simp <;> rfl)|(simp[*] <;> rfl),by(with_reducible repeat(first|apply Kd.bf|apply Kd.bg|apply Kd.bi));exact Kd.bT (Kd.bM (p:=⟨gb211,2,none⟩) (Kd.bM (p:=⟨gb211,1,none⟩) (Kd.bM (p:=⟨gb211,0,none⟩) (Kd.bM (p:=⟨gb212,2,none⟩) (Kd.bZ (Kd.bZ HO215.out BK212.out (by decide)) BK211.out (by decide)) (fun _ hk=>hk.1.2) (.slice Ao17 t216.length co17)) (fun _ hk=>hk.2) (.int .i64 a0_0)) (fun _ hk=>hk.2) (.slice Ao13 t213.length co13)) (fun _ hk=>hk.2) (.slice Ao17 t216.length co17)) (fun _ hk=>hk.1.1.2),by(with_reducible repeat(first|apply Kd.bf|apply Kd.bg|apply Kd.bi));exact Kd.bT (Kd.bM (p:=⟨gb211,2,none⟩) (Kd.bM (p:=⟨gb211,1,none⟩) (Kd.bM (p:=⟨gb211,0,none⟩) (Kd.bM (p:=⟨gb212,2,none⟩) (Kd.bZ (Kd.bZ HO218.out BK212.out (by decide)) BK211.out (by decide)) (fun _ hk=>hk.1.2) (.slice Ao17 t216.length co17)) (fun _ hk=>hk.2) (.int .i64 a0_0)) (fun _ hk=>hk.2) (.slice Ao13 t213.length co13)) (fun _ hk=>hk.2) (.slice Ao17 t216.length co17)) (fun _ hk=>hk.1.1.2),by with_reducible repeat(first|exact HB.out|apply af|apply aa|apply ae|refine ai ?_ GE210.out|refine ai ?_ GE211.out|refine ai ?_ GE212.out)⟩
def laws_toPiece.f (a0_0:Int) (a0_1:Int) (a0_2:Int) (a0_3:Bool):Option (Int×Int×Int×Bool):=some (a0_0,a0_1,a0_2,a0_3)
set_option maxHeartbeats 8000000 in
set_option maxRecDepth 100000 in
theorem laws_toPiece.calls (a0_0:Int) (a0_1:Int) (a0_2:Int) (a0_3:Bool) (r1:Int) (r2:Int) (r3:Int) (r4:Bool) (w:World) (h:laws_toPiece.f a0_0 a0_1 a0_2 a0_3=some (r1,r2,r3,r4)) :
  Calls Tryd.prog 67 #[.agg #[.int .i64 a0_0,.int .i64 a0_1,.int .i64 a0_2,.bool a0_3]] w fun e w'=>e = .returned (.agg #[.int .i64 r1,.int .i64 r2,.int .i64 r3,.bool r4])∧Below w.heap.size w w':=by
 have hu104:=Tryd.underlying104
 have hu51:=Tryd.underlying51
 have HB:=av (Below.refl w.heap.size w)
 have H:(some (a0_0,a0_1,a0_2,a0_3))=some (r1,r2,r3,r4):=h
 clear h
 simp only[Option.some.injEq,Prod.mk.injEq] at H
 obtain⟨rfl,rfl,rfl,rfl⟩:=H
 go_enter Tryd.func67,Tryd.ntmps67
 go_wp2_with (first|((with_reducible refine aJ (N:=1) rfl ?_);refine aI ?hg (N:=1) ?hd (cs:=#[.int .i64 a0_0,.int .i64 a0_1,.int .i64 a0_2,.bool a0_3]) (t:=104) ?hr ?_;(case hd=>rfl);(case hg=>rfl);(case hr=>first|(go_simp;done)|(go_simp;rfl));intro gb219 hg w2 hbox hb;have BK219:=av (hbox);have GW219:=av ((by rw[hg];exact(ay (by with_reducible repeat(first|exact HB.out|apply af|apply aa|apply ae))):w.heap.size≤gb219));have GE219:=av ((by rw[hg];exact(ay (by with_reducible repeat(first|exact HB.out|apply af|apply aa|apply ae))):w.heap.size≤gb219));replace HB:=av (aA (by with_reducible repeat(first|exact HB.out|apply af|apply aa|apply ae)) hb);clear hb hbox hg)|((with_reducible refine aJ (N:=2) rfl ?_);refine aI ?hg (N:=2) ?hd (cs:=#[.int .i64 0,.int .i64 0,.int .i64 0,.bool false]) (t:=51) ?hr ?_;(case hd=>rfl);(case hg=>rfl);(case hr=>first|(go_simp;done)|(go_simp;rfl));intro gb220 hg w3 hbox hb;have BK220:=av (hbox);have GW220:=av ((by rw[hg];exact(ay (by with_reducible repeat(first|exact HB.out|apply af|apply aa|apply ae|refine ai ?_ GE219.out))):w.heap.size≤gb220));have GE220:=av ((by rw[hg];exact(ay (by with_reducible repeat(first|exact HB.out|apply af|apply aa|apply ae|refine ai ?_ GE219.out))):w.heap.size≤gb220));replace HB:=av (aA (by with_reducible repeat(first|exact HB.out|apply af|apply aa|apply ae|refine ai ?_ GE219.out)) hb);have NB219_220:=av ((by rw[hg];exact Nat.ne_of_lt (aN (g:=gb219) (o:=.cells #[.int .i64 a0_0,.int .i64 a0_1,.int .i64 a0_2,.bool a0_3] 104 (0,0)) (by(with_reducible repeat(first|apply aj|apply au|apply ak));exact BK219.out)):gb219≠gb220));have NB220_219:=av ((by rw[hg];exact Nat.ne_of_gt (aN (g:=gb219) (o:=.cells #[.int .i64 a0_0,.int .i64 a0_1,.int .i64 a0_2,.bool a0_3] 104 (0,0)) (by(with_reducible repeat(first|apply aj|apply au|apply ak));exact BK219.out)):gb220≠gb219));replace BK219:=av (aG (g:=gb219) (o:=.cells #[.int .i64 a0_0,.int .i64 a0_1,.int .i64 a0_2,.bool a0_3] 104 (0,0)) (by(with_reducible repeat(first|apply aj|apply au|apply ak));exact BK219.out) hb);clear hb hbox hg)|((with_reducible refine aJ (N:=3) rfl ?_);refine aI ?hg (N:=3) ?hd (cs:=#[.int .i64 0,.int .i64 0,.int .i64 0,.bool false]) (t:=51) ?hr ?_;(case hd=>rfl);(case hg=>rfl);(case hr=>first|(go_simp;done)|(go_simp;rfl));intro gb221 hg w4 hbox hb;have BK221:=av (hbox);have GW221:=av ((by rw[hg];exact(ay (by with_reducible repeat(first|exact HB.out|apply af|apply aa|apply ae|refine ai ?_ GE219.out|refine ai ?_ GE220.out))):w.heap.size≤gb221));have GE221:=av ((by rw[hg];exact(ay (by with_reducible repeat(first|exact HB.out|apply af|apply aa|apply ae|refine ai ?_ GE219.out|refine ai ?_ GE220.out))):w.heap.size≤gb221));replace HB:=av (aA (by with_reducible repeat(first|exact HB.out|apply af|apply aa|apply ae|refine ai ?_ GE219.out|refine ai ?_ GE220.out)) hb);have NB219_221:=av ((by rw[hg];exact Nat.ne_of_lt (aN (g:=gb219) (o:=.cells #[.int .i64 a0_0,.int .i64 a0_1,.int .i64 a0_2,.bool a0_3] 104 (0,0)) (by(with_reducible repeat(first|apply aj|apply au|apply ak));exact BK219.out)):gb219≠gb221));have NB221_219:=av ((by rw[hg];exact Nat.ne_of_gt (aN (g:=gb219) (o:=.cells #[.int .i64 a0_0,.int .i64 a0_1,.int .i64 a0_2,.bool a0_3] 104 (0,0)) (by(with_reducible repeat(first|apply aj|apply au|apply ak));exact BK219.out)):gb221≠gb219));replace BK219:=av (aG (g:=gb219) (o:=.cells #[.int .i64 a0_0,.int .i64 a0_1,.int .i64 a0_2,.bool a0_3] 104 (0,0)) (by(with_reducible repeat(first|apply aj|apply au|apply ak));exact BK219.out) hb);have NB220_221:=av ((by rw[hg];exact Nat.ne_of_lt (aN (g:=gb220) (o:=.cells #[.int .i64 0,.int .i64 0,.int .i64 0,.bool false] 51 (0,0)) (by(with_reducible repeat(first|apply aj|apply au|apply ak));exact BK220.out)):gb220≠gb221));have NB221_220:=av ((by rw[hg];exact Nat.ne_of_gt (aN (g:=gb220) (o:=.cells #[.int .i64 0,.int .i64 0,.int .i64 0,.bool false] 51 (0,0)) (by(with_reducible repeat(first|apply aj|apply au|apply ak));exact BK220.out)):gb221≠gb220));replace BK220:=av (aG (g:=gb220) (o:=.cells #[.int .i64 0,.int .i64 0,.int .i64 0,.bool false] 51 (0,0)) (by(with_reducible repeat(first|apply aj|apply au|apply ak));exact BK220.out) hb);clear hb hbox hg;have hnb5:=NB219_220.out;have hnc5:=NB220_219.out;have hnb6:=NB219_221.out;have hnc6:=NB221_219.out;have hcz7_0:w4.cell? ⟨gb219,0,none⟩=some (.int .i64 a0_0):=(ag BK219.out 0).trans rfl;have hcz7_1:w4.cell? ⟨gb219,1,none⟩=some (.int .i64 a0_1):=(ag BK219.out 1).trans rfl;have hcz7_2:w4.cell? ⟨gb219,2,none⟩=some (.int .i64 a0_2):=(ag BK219.out 2).trans rfl;have hcz7_3:w4.cell? ⟨gb219,3,none⟩=some (.bool a0_3):=(ag BK219.out 3).trans rfl;have hfz7_0:=ah BK219.out 0;have hfz7_1:=ah BK219.out 1;have hfz7_2:=ah BK219.out 2;have hfz7_3:=ah BK219.out 3;have hnb8:=NB221_220.out;have hnc8:=NB220_221.out;have hcz9_0:w4.cell? ⟨gb221,0,none⟩=some (.int .i64 0):=(ag BK221.out 0).trans rfl;have hcz9_1:w4.cell? ⟨gb221,1,none⟩=some (.int .i64 0):=(ag BK221.out 1).trans rfl;have hcz9_2:w4.cell? ⟨gb221,2,none⟩=some (.int .i64 0):=(ag BK221.out 2).trans rfl;have hcz9_3:w4.cell? ⟨gb221,3,none⟩=some (.bool false):=(ag BK221.out 3).trans rfl;have hfz9_0:=ah BK221.out 0;have hfz9_1:=ah BK221.out 1;have hfz9_2:=ah BK221.out 2;have hfz9_3:=ah BK221.out 3;have hcz10_0:w4.cell? ⟨gb220,0,none⟩=some (.int .i64 0):=(ag BK220.out 0).trans rfl;have hcz10_1:w4.cell? ⟨gb220,1,none⟩=some (.int .i64 0):=(ag BK220.out 1).trans rfl;have hcz10_2:w4.cell? ⟨gb220,2,none⟩=some (.int .i64 0):=(ag BK220.out 2).trans rfl;have hcz10_3:w4.cell? ⟨gb220,3,none⟩=some (.bool false):=(ag BK220.out 3).trans rfl;have hfz10_0:=ah BK220.out 0;have hfz10_1:=ah BK220.out 1;have hfz10_2:=ah BK220.out 2;have hfz10_3:=ah BK220.out 3))
 refine bodyPost_ret (results_cell_row rfl _ _ gb220 51 #[.int .i64 a0_0,.int .i64 a0_1,.int .i64 a0_2,.bool a0_3] (0,0) _ rfl (by(with_reducible repeat(first|apply aj|apply au|apply ak));refine aX (cs:=#[.int .i64 a0_0,.int .i64 a0_1,.int .i64 a0_2,.bool false]) ?_ 3 _ rfl;(with_reducible repeat(first|apply aj|apply au|apply ak));refine aX (cs:=#[.int .i64 a0_0,.int .i64 a0_1,.int .i64 0,.bool false]) ?_ 2 _ rfl;(with_reducible repeat(first|apply aj|apply au|apply ak));refine aX (cs:=#[.int .i64 a0_0,.int .i64 0,.int .i64 0,.bool false]) ?_ 1 _ rfl;(with_reducible repeat(first|apply aj|apply au|apply ak));refine aX (cs:=#[.int .i64 0,.int .i64 0,.int .i64 0,.bool false]) ?_ 0 _ rfl;(with_reducible repeat(first|apply aj|apply au|apply ak));refine aU ?_ NB220_221.out _;(with_reducible repeat(first|apply aj|apply au|apply ak));refine aU ?_ NB220_221.out _;(with_reducible repeat(first|apply aj|apply au|apply ak));refine aU ?_ NB220_221.out _;(with_reducible repeat(first|apply aj|apply au|apply ak));refine aU ?_ NB220_221.out _;(with_reducible repeat(first|apply aj|apply au|apply ak));exact BK220.out) Tryd.underlying51 rfl (by kernel_rfl)) rfl ?_
 exact⟨by first|rfl|(simp <;> rfl)|(simp[*] <;> rfl),by with_reducible repeat(first|exact HB.out|apply af|apply aa|apply ae|refine ai ?_ GE219.out|refine ai ?_ GE220.out|refine ai ?_ GE221.out)⟩
def laws_toPieceS.l0:Nat→List (S104)→List (S51)→Int→Option ((List (S51)))
 | 0,_,_,_=>none
 | k+1,x0,x3,x4=>if x4 < (x0.length:Int) then (if 0≤x4 then ((laws_toPiece.f ((bY x0 x4).f0) ((bY x0 x4).f1) ((bY x0 x4).f2) ((bY x0 x4).f3)).bind fun bt226=>(if x4 < (x3.length:Int) then (laws_toPieceS.l0 k x0 (x3.set (x4:Int).toNat (⟨bt226.1,bt226.2.1,bt226.2.2.1,bt226.2.2.2⟩:S51)) (wrap64 (x4+1))) else (none))) else (none)) else (some x3)
def laws_toPieceS.f (k:Nat) (l0:List (S104)):Option ((List (S51))):=if 0≤(l0.length:Int) then (if ((l0.length:Int):Int).toNat≤8796093022208 then (laws_toPieceS.l0 k l0 (List.replicate ((l0.length:Int):Int).toNat z51) 0) else (none)) else (none)
set_option maxHeartbeats 8000000 in
set_option maxRecDepth 100000 in
theorem laws_toPieceS.calls (k : Nat) (A0 : Option Addr) (c0 : Nat) (l0 : List (S104)) (r : List (S51)) (w : World) (hr0 : Kd.C gB w A0 l0.length l0) (hc0 : l0.length ≤ c0) (h : laws_toPieceS.f k l0 = some r) :
  Calls Tryd.prog 54 #[.slice A0 l0.length c0] w fun e w'=>∃ v0_:Value,e = .returned (v0_)∧Kd.R k51 51 w' w.heap.size (fun _=>True) v0_ r∧Below w.heap.size w w':=by
 have hu104:=Tryd.underlying104
 have hu51:=Tryd.underlying51
 have HR0:=av hr0
 have HC0:=av hc0
 clear hr0 hc0
 have HB:=av (Below.refl w.heap.size w)
 have H:(if 0≤(l0.length:Int) then (if ((l0.length:Int):Int).toNat≤8796093022208 then (laws_toPieceS.l0 k l0 (List.replicate ((l0.length:Int):Int).toNat z51) 0) else (none)) else (none))=some r:=h
 clear h
 by_cases c2:0≤(l0.length:Int)
 ·rw [if_pos c2] at H
  have c2b0:=eq_true c2
  have c2b1:decide (0≤(l0.length:Int))=true:=decide_eq_true c2
  clear c2
  by_cases c3:((l0.length:Int):Int).toNat≤8796093022208
  ·rw [if_pos c3] at H
   have c3b0:=eq_true c3
   have c3b1:decide (((l0.length:Int):Int).toNat≤8796093022208)=true:=decide_eq_true c3
   clear c3
   obtain⟨y222,hy222⟩:∃ y_:List (S51),y_ = (List.replicate ((l0.length:Int):Int).toNat z51):=⟨_,rfl⟩
   replace H:(laws_toPieceS.l0 k l0 y222 0)=some r:=by first|(rw[hy222];with_reducible exact H)|(have H2_:=(Option.bind_some _ _).symm.trans H;rw[hy222];with_reducible exact H2_)|(have H2_:=(Option.bind_some _ _).symm.trans H;with_reducible exact H2_)|with_reducible exact H|(rw[hy222];exact H)|exact H
   have Ny222:=av hy222
   clear hy222
   have H':=av H
   clear H
   go_enter Tryd.func54,Tryd.ntmps54
   go_wp2_with (first|((with_reducible refine aJ (N:=7) rfl ?_);refine Kd.jw k51 _ 51 rfl (N:=7) rfl 43 _ _ rfl (l0.length:Int) rfl rfl Tryd.underlying43 (.agg #[(.int .i64 0),(.int .i64 0),(.int .i64 0),(.bool false)]) 32 nC rfl (by decide) (by omega) z51 (ok:=fun _=>True) (okp:=fun _=>True) (lD _ _ _ z51) (fun _ hk=>hk) trivial (of_decide_eq_true (by assumption)) (Nat.le_trans (Nat.mul_le_mul_right _ (of_decide_eq_true (by assumption):(l0.length:Int).toNat≤8796093022208)) (by omega)) (Below.refl _ _) (Nat.le_refl _) ?_;intro v223 w4 ho5 hb hg_ hnew_;clear hg_ hnew_;(first|rw[← Ny222.out] at ho5|(simp only[Int.reduceToNat] at ho5;rw[← Ny222.out] at ho5));have HO224:=av (Kd.dB ho5 (ay (by with_reducible repeat(first|exact HB.out|apply af|apply aa|apply ae))));replace HB:=av (aA (by with_reducible repeat(first|exact HB.out|apply af|apply aa|apply ae)) hb);clear hb ho5))
   go_loopg [4] k (fun kq v4 w'=>∃ (x3_1:List (S51)) (x4_1:Int),v4 = .int .i64 x4_1∧Aside0 (laws_toPieceS.l0 kq l0 x3_1 x4_1=some r)∧Aside0 (kq≤k)∧Aside0 (Kd.R k51 51 w' w.heap.size (fun _=>True) v223 x3_1)∧Aside0 (Below w.heap.size w w'))
   case atStart=>exact⟨(y222),(0),(by first|rfl|(simp;done)|(simp[*];done)),H',⟨Nat.le_refl _⟩,⟨by(with_reducible repeat(first|apply Kd.bf|apply Kd.bg|apply Kd.bi));exact HO224.out⟩,⟨by with_reducible repeat(first|exact HB.out|apply af|apply aa|apply ae)⟩⟩
   case round =>
    clear H'
    try clear c2
    try clear c2b0
    try clear c2b1
    try clear p2
    try clear c3
    try clear c3b0
    try clear c3b1
    try clear c5
    obtain⟨x3_1,x4_1,rfl,HA,HK1,HO_3,HB⟩:=hrel
    cases gk with
    | zero=>exact absurd HA.out (by simp[laws_toPieceS.l0])
    | succ k1=>
     have H:=HA.out
     clear HA
     simp only[laws_toPieceS.l0] at H
     by_cases c6:x4_1 < (l0.length:Int)
     ·rw[if_pos c6] at H
      have c6b0:decide (x4_1 < (l0.length:Int))=true:=decide_eq_true c6
      clear c6
      by_cases c7:0≤x4_1
      ·rw[if_pos c7] at H
       have c7b0:decide (0≤x4_1)=true:=decide_eq_true c7
       clear c7
       replace H:=Option.bind_eq_some_iff.mp H
       obtain⟨⟨t226,t227,t228,t229⟩,A80,H⟩:=H
       replace H:(if x4_1 < (x3_1.length:Int) then (laws_toPieceS.l0 k1 l0 (x3_1.set (x4_1:Int).toNat (⟨t226,t227,t228,t229⟩:S51)) (wrap64 (x4_1+1))) else (none))=some r:=H
       have A8:=av A80
       clear A80
       by_cases c9:x4_1 < (x3_1.length:Int)
       ·rw[if_pos c9] at H
        have c9b0:decide (x4_1 < (x3_1.length:Int))=true:=decide_eq_true c9
        clear c9
        obtain⟨y230,hy230⟩:∃ y_:List (S51),y_ = (x3_1.set (x4_1:Int).toNat (⟨t226,t227,t228,t229⟩:S51)):=⟨_,rfl⟩
        replace H:(laws_toPieceS.l0 k1 l0 y230 (wrap64 (x4_1+1)))=some r:=by first|(rw[hy230];with_reducible exact H)|(have H2_:=(Option.bind_some _ _).symm.trans H;rw[hy230];with_reducible exact H2_)|(have H2_:=(Option.bind_some _ _).symm.trans H;with_reducible exact H2_)|with_reducible exact H|(rw[hy230];exact H)|exact H
        have Ny230:=av hy230
        clear hy230
        have H':=av H
        clear H
        have p225:0≤(x4_1:Int):=of_decide_eq_true (by assumption)
        have q225:x4_1 < (l0.length:Int):=of_decide_eq_true (by assumption)
        obtain⟨ad225,e225,hx225_0,hx225_1,hx225_2,hx225_3⟩:=nW HR0.out x4_1 p225 q225
        cases e225
        replace hx225_0:=(HB.out.cell (World.block_lt_of_cell? w _ hx225_0)).trans hx225_0
        replace hx225_1:=(HB.out.cell (World.block_lt_of_cell? w _ hx225_1)).trans hx225_1
        replace hx225_2:=(HB.out.cell (World.block_lt_of_cell? w _ hx225_2)).trans hx225_2
        replace hx225_3:=(HB.out.cell (World.block_lt_of_cell? w _ hx225_3)).trans hx225_3
        replace p225:=eq_true p225
        replace q225:=eq_true q225
        go_wp2_with (first|((with_reducible refine aK (f:=67) rfl ?_);refine bn (some 20) rfl rfl Tryd.func67 (by kernel_rfl) rfl #[.agg #[.int .i64 ((bY l0 x4_1).f0),.int .i64 ((bY l0 x4_1).f1),.int .i64 ((bY l0 x4_1).f2),.bool ((bY l0 x4_1).f3)]] rfl (by(try simp only[amp_]);first|done|rfl|(simp only[ald_];rfl)) ?_;(with_reducible refine(laws_toPiece.calls ((bY l0 x4_1).f0) ((bY l0 x4_1).f1) ((bY l0 x4_1).f2) ((bY l0 x4_1).f3) t226 t227 t228 t229 _ A8.out).mono ?_);rintro e w11 ⟨rfl,hb⟩;refine⟨_,rfl,?_⟩;replace HO_3:=av (Kd.dx (by(with_reducible repeat(first|apply Kd.bf|apply Kd.bg|apply Kd.bi));exact HO_3.out) hb);replace HB:=av (aA (by with_reducible repeat(first|exact HB.out|apply af|apply aa|apply ae)) hb);(try clear hb);(try clear hb2);(try clear hk);(try clear hi);have p10:0≤(x4_1:Int):=of_decide_eq_true (by assumption);have q10:(x4_1:Int) < ((x3_1.length:Int):Int):=of_decide_eq_true (by assumption);obtain⟨go10,co10,eo10,gb10,gl10,cl10,HG10⟩:=Kd.jy HO_3.out (by omega);(first|cases eo10|(injection eo10 with ea_ en_ ec_;(first|subst ea_|(injection ea_ with ea_;subst ea_));subst ec_;clear en_));have GB10:=av gb10;have GG10:=av HG10;clear gb10 gl10 HG10;obtain⟨ce10,hcl10,hM10,hcc10,hfr10⟩:=Kd.iH HO_3.out z51 (x4_1:Int) p10 q10;obtain rfl:=jc hM10;have hx10_0:w11.cell? ⟨go10,(x4_1:Int).toNat*4,none⟩=some (.int .i64 ((ax x3_1 x4_1).f0)):=hcc10 0 _ rfl;have hx10_1:w11.cell? ⟨go10,(x4_1:Int).toNat*4+1,none⟩=some (.int .i64 ((ax x3_1 x4_1).f1)):=hcc10 1 _ rfl;have hx10_2:w11.cell? ⟨go10,(x4_1:Int).toNat*4+2,none⟩=some (.int .i64 ((ax x3_1 x4_1).f2)):=hcc10 2 _ rfl;have hx10_3:w11.cell? ⟨go10,(x4_1:Int).toNat*4+3,none⟩=some (.bool ((ax x3_1 x4_1).f3)):=hcc10 3 _ rfl;have hf10_0:w11.frozen? ⟨go10,(x4_1:Int).toNat*4,none⟩=false:=hfr10 0;have hf10_1:w11.frozen? ⟨go10,(x4_1:Int).toNat*4+1,none⟩=false:=hfr10 1;have hf10_2:w11.frozen? ⟨go10,(x4_1:Int).toNat*4+2,none⟩=false:=hfr10 2;have hf10_3:w11.frozen? ⟨go10,(x4_1:Int).toNat*4+3,none⟩=false:=hfr10 3;clear hcl10 hcc10 hfr10 hM10;replace p10:=eq_true p10;replace q10:=eq_true q10;have HX12:=av (show Kd.R k51 51 w11 w.heap.size (fun _=>True) (.slice (some ⟨go10,0,none⟩) x3_1.length co10) x3_1 from(by(with_reducible repeat(first|apply Kd.bf|apply Kd.bg|apply Kd.bi));exact HO_3.out));obtain⟨ce12,hcl12,hM12,hcc12,hfr12⟩:=Kd.iH HX12.out z51 (x4_1:Int) (of_decide_eq_true (by assumption)) (by have h_:(x4_1:Int) < ((x3_1.length:Int):Int):=of_decide_eq_true (by assumption);first|exact h_|(have e_:=(Kd.R_reads' HO_3.out).1;omega)|simpa using h_);obtain rfl:=jc hM12;have HP12:=Kd.mo HX12.out (x4_1:Int) (of_decide_eq_true (by assumption)) (by have h_:(x4_1:Int) < ((x3_1.length:Int):Int):=of_decide_eq_true (by assumption);first|exact h_|(have e_:=(Kd.R_reads' HO_3.out).1;omega)|simpa using h_) (seg:=[.int .i64 t226,.int .i64 t227,.int .i64 t228,.bool t229]) (j:=0) hcl12 hcc12 (show 4≤4 from by decide) (x':=(⟨t226,t227,t228,t229⟩:S51)) (lD _ _ _ (⟨t226,t227,t228,t229⟩:S51)) (fun _ hk=>hk);have hx12_0:=hcc12 0 _ rfl;(try simp only[show(k51).sz=4 from rfl,Nat.mul_one,Nat.add_zero] at hx12_0);have hf12_0:=hfr12 0;(try simp only[show(k51).sz=4 from rfl,Nat.mul_one,Nat.add_zero] at hf12_0);have hx12_1:=hcc12 1 _ rfl;(try simp only[show(k51).sz=4 from rfl,Nat.mul_one,Nat.add_zero] at hx12_1);have hf12_1:=hfr12 1;(try simp only[show(k51).sz=4 from rfl,Nat.mul_one,Nat.add_zero] at hf12_1);have hx12_2:=hcc12 2 _ rfl;(try simp only[show(k51).sz=4 from rfl,Nat.mul_one,Nat.add_zero] at hx12_2);have hf12_2:=hfr12 2;(try simp only[show(k51).sz=4 from rfl,Nat.mul_one,Nat.add_zero] at hf12_2);have hx12_3:=hcc12 3 _ rfl;(try simp only[show(k51).sz=4 from rfl,Nat.mul_one,Nat.add_zero] at hx12_3);have hf12_3:=hfr12 3;(try simp only[show(k51).sz=4 from rfl,Nat.mul_one,Nat.add_zero] at hf12_3);clear hcl12 hcc12 hfr12 hM12)|((with_reducible refine eY (t:=51) (p:=21) rfl ?_);refine eO (t:=51) (p:=21) (v:=?vo_w13) (w1:=((((w11.setCell ⟨go10,(x4_1:Int).toNat*4,none⟩ (.int .i64 t226)).setCell ⟨go10,(x4_1:Int).toNat*4+1,none⟩ (.int .i64 t227)).setCell ⟨go10,(x4_1:Int).toNat*4+2,none⟩ (.int .i64 t228)).setCell ⟨go10,(x4_1:Int).toNat*4+3,none⟩ (.bool t229))) ?hg ?ho ?hn ?hr ?_;(case ho=>rfl);(case hg=>rfl);(case hn=>rfl);(case hr=>first|(go_simp;done)|(go_simp;rfl));intro w13 hw;have hg:w11.grownBy w13 (some go10):=(by rw[hw];exact HP12.2);have hp_:Kd.R k51 51 w13 w.heap.size (fun _=>True) (.slice (some ⟨go10,0,none⟩) x3_1.length co10) y230:=(by rw[hw,Ny230.out];exact HP12.1);clear HP12;replace HO_3:=av (hp_);replace HB:=av ((by rw[hw];exact ai (ai (ai (ai (HB.out) GB10.out) GB10.out) GB10.out) GB10.out:Below w.heap.size w w13));clear hg hw hp_))
        go_roundg k1
        case measure=>have:=HK1.out;omega
        case rel=>exact⟨(y230),(wrap64 (x4_1+1)),(by first|rfl|(simp;done)|(simp[*];done)),H',⟨by have:=HK1.out;omega⟩,⟨by(with_reducible repeat(first|apply Kd.bf|apply Kd.bg|apply Kd.bi));exact HO_3.out⟩,⟨by with_reducible repeat(first|exact HB.out|apply af|apply aa|apply ae)⟩⟩
       ·rw[if_neg c9] at H
        exact absurd H (by simp)
      ·rw[if_neg c7] at H
       exact absurd H (by simp)
     ·rw[if_neg c6] at H
      have c6b0:decide (x4_1 < (l0.length:Int))=false:=decide_eq_false c6
      clear c6
      obtain rfl:=Option.some.inj H
      go_wp2
      go_ret
      exact⟨_,by first|rfl|(simp <;> rfl)|(simp[*] <;> rfl),by(with_reducible repeat(first|apply Kd.bf|apply Kd.bg|apply Kd.bi));exact HO_3.out,by with_reducible repeat(first|exact HB.out|apply af|apply aa|apply ae)⟩
  ·rw[if_neg c3] at H
   exact absurd H (by simp)
 ·rw[if_neg c2] at H
  exact absurd H (by simp)
def laws_toFileMap.f (k:Nat) (l0_0:List (S104)):Option ((List (S51))):=(laws_toPieceS.f k l0_0).bind fun t234=>(some t234)
set_option maxHeartbeats 8000000 in
set_option maxRecDepth 100000 in
theorem laws_toFileMap.calls (k:Nat) (A0_0:Option Addr) (c0_0:Nat) (l0_0:List (S104)) (r:List (S51)) (w:World) (hr0_0:Kd.C gB w A0_0 l0_0.length l0_0) (hc0_0:l0_0.length≤c0_0) (h:laws_toFileMap.f k l0_0=some r) :
  Calls Tryd.prog 43 #[.agg #[.slice A0_0 l0_0.length c0_0]] w fun e w'=>∃ v0_:Value,e = .returned (.agg #[v0_])∧Kd.R k51 51 w' w.heap.size (fun _=>True) v0_ r∧Below w.heap.size w w':=by
 have hu61:=Tryd.underlying61
 have hu45:=Tryd.underlying45
 have HR0_0:=av hr0_0
 have HC0_0:=av hc0_0
 clear hr0_0 hc0_0
 have HB:=av (Below.refl w.heap.size w)
 have H:((laws_toPieceS.f k l0_0).bind fun t234=>(some t234))=some r:=h
 clear h
 replace H:=Option.bind_eq_some_iff.mp H
 obtain⟨t234,A20,H⟩:=H
 replace H:(some t234)=some r:=H
 have A2:=av A20
 clear A20
 obtain rfl:=Option.some.inj H
 go_enter Tryd.func43,Tryd.ntmps43
 go_wp2_with (first|((with_reducible refine aJ (N:=1) rfl ?_);refine aI ?hg (N:=1) ?hd (cs:=#[.slice A0_0 l0_0.length c0_0]) (t:=61) ?hr ?_;(case hd=>rfl);(case hg=>rfl);(case hr=>first|(go_simp;done)|(go_simp;rfl));intro gb231 hg w3 hbox hb;have BK231:=av (hbox);have GW231:=av ((by rw[hg];exact(ay (by with_reducible repeat(first|exact HB.out|apply af|apply aa|apply ae))):w.heap.size≤gb231));have GE231:=av ((by rw[hg];exact(ay (by with_reducible repeat(first|exact HB.out|apply af|apply aa|apply ae))):w.heap.size≤gb231));replace HB:=av (aA (by with_reducible repeat(first|exact HB.out|apply af|apply aa|apply ae)) hb);clear hb hbox hg)|((with_reducible refine aJ (N:=2) rfl ?_);refine aI ?hg (N:=2) ?hd (cs:=#[.slice none 0 0]) (t:=45) ?hr ?_;(case hd=>rfl);(case hg=>rfl);(case hr=>first|(go_simp;done)|(go_simp;rfl));intro gb232 hg w4 hbox hb;have BK232:=av (hbox);have GW232:=av ((by rw[hg];exact(ay (by with_reducible repeat(first|exact HB.out|apply af|apply aa|apply ae|refine ai ?_ GE231.out))):w.heap.size≤gb232));have GE232:=av ((by rw[hg];exact(ay (by with_reducible repeat(first|exact HB.out|apply af|apply aa|apply ae|refine ai ?_ GE231.out))):w.heap.size≤gb232));replace HB:=av (aA (by with_reducible repeat(first|exact HB.out|apply af|apply aa|apply ae|refine ai ?_ GE231.out)) hb);have NB231_232:=av ((by rw[hg];exact Nat.ne_of_lt (aN (g:=gb231) (o:=.cells #[.slice A0_0 l0_0.length c0_0] 61 (0,0)) (by(with_reducible repeat(first|apply aj|apply au|apply ak));exact BK231.out)):gb231≠gb232));have NB232_231:=av ((by rw[hg];exact Nat.ne_of_gt (aN (g:=gb231) (o:=.cells #[.slice A0_0 l0_0.length c0_0] 61 (0,0)) (by(with_reducible repeat(first|apply aj|apply au|apply ak));exact BK231.out)):gb232≠gb231));replace BK231:=av (aG (g:=gb231) (o:=.cells #[.slice A0_0 l0_0.length c0_0] 61 (0,0)) (by(with_reducible repeat(first|apply aj|apply au|apply ak));exact BK231.out) hb);clear hb hbox hg)|((with_reducible refine aJ (N:=3) rfl ?_);refine aI ?hg (N:=3) ?hd (cs:=#[.slice none 0 0]) (t:=45) ?hr ?_;(case hd=>rfl);(case hg=>rfl);(case hr=>first|(go_simp;done)|(go_simp;rfl));intro gb233 hg w5 hbox hb;have BK233:=av (hbox);have GW233:=av ((by rw[hg];exact(ay (by with_reducible repeat(first|exact HB.out|apply af|apply aa|apply ae|refine ai ?_ GE231.out|refine ai ?_ GE232.out))):w.heap.size≤gb233));have GE233:=av ((by rw[hg];exact(ay (by with_reducible repeat(first|exact HB.out|apply af|apply aa|apply ae|refine ai ?_ GE231.out|refine ai ?_ GE232.out))):w.heap.size≤gb233));replace HB:=av (aA (by with_reducible repeat(first|exact HB.out|apply af|apply aa|apply ae|refine ai ?_ GE231.out|refine ai ?_ GE232.out)) hb);have NB231_233:=av ((by rw[hg];exact Nat.ne_of_lt (aN (g:=gb231) (o:=.cells #[.slice A0_0 l0_0.length c0_0] 61 (0,0)) (by(with_reducible repeat(first|apply aj|apply au|apply ak));exact BK231.out)):gb231≠gb233));have NB233_231:=av ((by rw[hg];exact Nat.ne_of_gt (aN (g:=gb231) (o:=.cells #[.slice A0_0 l0_0.length c0_0] 61 (0,0)) (by(with_reducible repeat(first|apply aj|apply au|apply ak));exact BK231.out)):gb233≠gb231));replace BK231:=av (aG (g:=gb231) (o:=.cells #[.slice A0_0 l0_0.length c0_0] 61 (0,0)) (by(with_reducible repeat(first|apply aj|apply au|apply ak));exact BK231.out) hb);have NB232_233:=av ((by rw[hg];exact Nat.ne_of_lt (aN (g:=gb232) (o:=.cells #[.slice none 0 0] 45 (0,0)) (by(with_reducible repeat(first|apply aj|apply au|apply ak));exact BK232.out)):gb232≠gb233));have NB233_232:=av ((by rw[hg];exact Nat.ne_of_gt (aN (g:=gb232) (o:=.cells #[.slice none 0 0] 45 (0,0)) (by(with_reducible repeat(first|apply aj|apply au|apply ak));exact BK232.out)):gb233≠gb232));replace BK232:=av (aG (g:=gb232) (o:=.cells #[.slice none 0 0] 45 (0,0)) (by(with_reducible repeat(first|apply aj|apply au|apply ak));exact BK232.out) hb);clear hb hbox hg;have hnb6:=NB231_232.out;have hnc6:=NB232_231.out;have hnb7:=NB231_233.out;have hnc7:=NB233_231.out;have hcz8_0:w5.cell? ⟨gb231,0,none⟩=some (.slice A0_0 l0_0.length c0_0):=(ag BK231.out 0).trans rfl;have hfz8_0:=ah BK231.out 0)|((with_reducible refine aK (f:=54) rfl ?_);refine bn (some 6) rfl rfl Tryd.func54 (by kernel_rfl) rfl #[.slice A0_0 l0_0.length c0_0] rfl (by(try simp only[amp_]);first|done|rfl|(simp only[ald_];rfl)) ?_;(with_reducible refine(laws_toPieceS.calls k _ _ l0_0 t234 _ ?side1 ?side2 A2.out).mono ?_);(case side1=>repeat(first|exact(Kd.aQ HR0_0.out HB.out)|(with_reducible first|apply Kd.aW|apply Kd.aV|apply Kd.aY)));(case side2=>exact HC0_0.out);rintro e w9 ⟨v235,rfl,ho0,hb⟩;refine⟨_,rfl,?_⟩;have HO236:=av (Kd.dB ho0 (ay (by with_reducible repeat(first|exact HB.out|apply af|apply aa|apply ae|refine ai ?_ GE231.out|refine ai ?_ GE232.out|refine ai ?_ GE233.out))));replace BK231:=av (aG (g:=gb231) (o:=.cells #[.slice A0_0 l0_0.length c0_0] 61 (0,0)) (by(with_reducible repeat(first|apply aj|apply au|apply ak));exact BK231.out) hb);replace BK232:=av (aG (g:=gb232) (o:=.cells #[.slice none 0 0] 45 (0,0)) (by(with_reducible repeat(first|apply aj|apply au|apply ak));exact BK232.out) hb);replace BK233:=av (aG (g:=gb233) (o:=.cells #[.slice none 0 0] 45 (0,0)) (by(with_reducible repeat(first|apply aj|apply au|apply ak));exact BK233.out) hb);replace HB:=av (aA (by with_reducible repeat(first|exact HB.out|apply af|apply aa|apply ae|refine ai ?_ GE231.out|refine ai ?_ GE232.out|refine ai ?_ GE233.out)) hb);(try clear hb);(try clear hb2);(try clear hk);(try clear hi);(try clear ho0);obtain⟨Ao10,co10,eo10⟩:=Kd.cz HO236.out;subst eo10;have hnb11:=NB233_232.out;have hnc11:=NB232_233.out;have hcz12_0:w9.cell? ⟨gb233,0,none⟩=some (.slice none 0 0):=(ag BK233.out 0).trans rfl;have hfz12_0:=ah BK233.out 0;have hcz13_0:w9.cell? ⟨gb232,0,none⟩=some (.slice none 0 0):=(ag BK232.out 0).trans rfl;have hfz13_0:=ah BK232.out 0))
 refine bodyPost_ret (results_cell_row rfl _ _ gb232 45 #[.slice Ao10 t234.length co10] (0,0) _ rfl (by(with_reducible repeat(first|apply aj|apply au|apply ak));refine aX (cs:=#[.slice none 0 0]) ?_ 0 _ rfl;(with_reducible repeat(first|apply aj|apply au|apply ak));refine aU ?_ NB232_233.out _;(with_reducible repeat(first|apply aj|apply au|apply ak));exact BK232.out) Tryd.underlying45 rfl (by kernel_rfl)) rfl ?_
 exact⟨_,by first|rfl|(simp <;> rfl)|(simp[*] <;> rfl),by(with_reducible repeat(first|apply Kd.bf|apply Kd.bg|apply Kd.bi));exact Kd.bT (Kd.bM (p:=⟨gb232,0,none⟩) (Kd.bM (p:=⟨gb233,0,none⟩) (Kd.bZ (Kd.bZ HO236.out BK233.out (by decide)) BK232.out (by decide)) (fun _ hk=>hk.1.2) (.slice Ao10 t234.length co10)) (fun _ hk=>hk.2) (.slice Ao10 t234.length co10)) (fun _ hk=>trivial),by with_reducible repeat(first|exact HB.out|apply af|apply aa|apply ae|refine ai ?_ GE231.out|refine ai ?_ GE232.out|refine ai ?_ GE233.out)⟩
def laws_toHeld.f (k:Nat) (a0_0:ByteArray) (a0_1:Int) (l0_2:List (S104)):Option (ByteArray×Int×(List (S51))):=(laws_toFileMap.f k l0_2).bind fun t240=>(some (a0_0,a0_1,t240))
set_option maxHeartbeats 8000000 in
set_option maxRecDepth 100000 in
theorem laws_toHeld.calls (k:Nat) (a0_0:ByteArray) (a0_1:Int) (A0_2:Option Addr) (c0_2:Nat) (l0_2:List (S104)) (r1:ByteArray) (r2:Int) (r3:List (S51)) (w:World) (hr0_2:Kd.C gB w A0_2 l0_2.length l0_2) (hc0_2:l0_2.length≤c0_2) (h:laws_toHeld.f k a0_0 a0_1 l0_2=some (r1,r2,r3)) :
  Calls Tryd.prog 30 #[.agg #[.string a0_0,.int .i64 a0_1,.slice A0_2 l0_2.length c0_2]] w fun e w'=>∃ v2_:Value,e = .returned (.agg #[.string r1,.int .i64 r2,v2_])∧Kd.R k51 51 w' w.heap.size (fun _=>True) v2_ r3∧Below w.heap.size w w':=by
 have hu63:=Tryd.underlying63
 have hu47:=Tryd.underlying47
 have hu61:=Tryd.underlying61
 have hu45:=Tryd.underlying45
 have HR0_2:=av hr0_2
 have HC0_2:=av hc0_2
 clear hr0_2 hc0_2
 have HB:=av (Below.refl w.heap.size w)
 have H:((laws_toFileMap.f k l0_2).bind fun t240=>(some (a0_0,a0_1,t240)))=some (r1,r2,r3):=h
 clear h
 replace H:=Option.bind_eq_some_iff.mp H
 obtain⟨t240,A20,H⟩:=H
 replace H:(some (a0_0,a0_1,t240))=some (r1,r2,r3):=H
 have A2:=av A20
 clear A20
 simp only[Option.some.injEq,Prod.mk.injEq] at H
 obtain⟨rfl,rfl,rfl⟩:=H
 go_enter Tryd.func30,Tryd.ntmps30
 go_wp2_with (first|((with_reducible refine aJ (N:=1) rfl ?_);refine aI ?hg (N:=1) ?hd (cs:=#[.string a0_0,.int .i64 a0_1,.slice A0_2 l0_2.length c0_2]) (t:=63) ?hr ?_;(case hd=>rfl);(case hg=>rfl);(case hr=>first|(go_simp;done)|(go_simp;rfl));intro gb237 hg w3 hbox hb;have BK237:=av (hbox);have GW237:=av ((by rw[hg];exact(ay (by with_reducible repeat(first|exact HB.out|apply af|apply aa|apply ae))):w.heap.size≤gb237));have GE237:=av ((by rw[hg];exact(ay (by with_reducible repeat(first|exact HB.out|apply af|apply aa|apply ae))):w.heap.size≤gb237));replace HB:=av (aA (by with_reducible repeat(first|exact HB.out|apply af|apply aa|apply ae)) hb);clear hb hbox hg)|((with_reducible refine aJ (N:=2) rfl ?_);refine aI ?hg (N:=2) ?hd (cs:=#[.string (⟨#[]⟩:ByteArray),.int .i64 0,.slice none 0 0]) (t:=47) ?hr ?_;(case hd=>rfl);(case hg=>rfl);(case hr=>first|(go_simp;done)|(go_simp;rfl));intro gb238 hg w4 hbox hb;have BK238:=av (hbox);have GW238:=av ((by rw[hg];exact(ay (by with_reducible repeat(first|exact HB.out|apply af|apply aa|apply ae|refine ai ?_ GE237.out))):w.heap.size≤gb238));have GE238:=av ((by rw[hg];exact(ay (by with_reducible repeat(first|exact HB.out|apply af|apply aa|apply ae|refine ai ?_ GE237.out))):w.heap.size≤gb238));replace HB:=av (aA (by with_reducible repeat(first|exact HB.out|apply af|apply aa|apply ae|refine ai ?_ GE237.out)) hb);have NB237_238:=av ((by rw[hg];exact Nat.ne_of_lt (aN (g:=gb237) (o:=.cells #[.string a0_0,.int .i64 a0_1,.slice A0_2 l0_2.length c0_2] 63 (0,0)) (by(with_reducible repeat(first|apply aj|apply au|apply ak));exact BK237.out)):gb237≠gb238));have NB238_237:=av ((by rw[hg];exact Nat.ne_of_gt (aN (g:=gb237) (o:=.cells #[.string a0_0,.int .i64 a0_1,.slice A0_2 l0_2.length c0_2] 63 (0,0)) (by(with_reducible repeat(first|apply aj|apply au|apply ak));exact BK237.out)):gb238≠gb237));replace BK237:=av (aG (g:=gb237) (o:=.cells #[.string a0_0,.int .i64 a0_1,.slice A0_2 l0_2.length c0_2] 63 (0,0)) (by(with_reducible repeat(first|apply aj|apply au|apply ak));exact BK237.out) hb);clear hb hbox hg)|((with_reducible refine aJ (N:=3) rfl ?_);refine aI ?hg (N:=3) ?hd (cs:=#[.string (⟨#[]⟩:ByteArray),.int .i64 0,.slice none 0 0]) (t:=47) ?hr ?_;(case hd=>rfl);(case hg=>rfl);(case hr=>first|(go_simp;done)|(go_simp;rfl));intro gb239 hg w5 hbox hb;have BK239:=av (hbox);have GW239:=av ((by rw[hg];exact(ay (by with_reducible repeat(first|exact HB.out|apply af|apply aa|apply ae|refine ai ?_ GE237.out|refine ai ?_ GE238.out))):w.heap.size≤gb239));have GE239:=av ((by rw[hg];exact(ay (by with_reducible repeat(first|exact HB.out|apply af|apply aa|apply ae|refine ai ?_ GE237.out|refine ai ?_ GE238.out))):w.heap.size≤gb239));replace HB:=av (aA (by with_reducible repeat(first|exact HB.out|apply af|apply aa|apply ae|refine ai ?_ GE237.out|refine ai ?_ GE238.out)) hb);have NB237_239:=av ((by rw[hg];exact Nat.ne_of_lt (aN (g:=gb237) (o:=.cells #[.string a0_0,.int .i64 a0_1,.slice A0_2 l0_2.length c0_2] 63 (0,0)) (by(with_reducible repeat(first|apply aj|apply au|apply ak));exact BK237.out)):gb237≠gb239));have NB239_237:=av ((by rw[hg];exact Nat.ne_of_gt (aN (g:=gb237) (o:=.cells #[.string a0_0,.int .i64 a0_1,.slice A0_2 l0_2.length c0_2] 63 (0,0)) (by(with_reducible repeat(first|apply aj|apply au|apply ak));exact BK237.out)):gb239≠gb237));replace BK237:=av (aG (g:=gb237) (o:=.cells #[.string a0_0,.int .i64 a0_1,.slice A0_2 l0_2.length c0_2] 63 (0,0)) (by(with_reducible repeat(first|apply aj|apply au|apply ak));exact BK237.out) hb);have NB238_239:=av ((by rw[hg];exact Nat.ne_of_lt (aN (g:=gb238) (o:=.cells #[.string (⟨#[]⟩:ByteArray),.int .i64 0,.slice none 0 0] 47 (0,0)) (by(with_reducible repeat(first|apply aj|apply au|apply ak));exact BK238.out)):gb238≠gb239));have NB239_238:=av ((by rw[hg];exact Nat.ne_of_gt (aN (g:=gb238) (o:=.cells #[.string (⟨#[]⟩:ByteArray),.int .i64 0,.slice none 0 0] 47 (0,0)) (by(with_reducible repeat(first|apply aj|apply au|apply ak));exact BK238.out)):gb239≠gb238));replace BK238:=av (aG (g:=gb238) (o:=.cells #[.string (⟨#[]⟩:ByteArray),.int .i64 0,.slice none 0 0] 47 (0,0)) (by(with_reducible repeat(first|apply aj|apply au|apply ak));exact BK238.out) hb);clear hb hbox hg;have hnb6:=NB237_238.out;have hnc6:=NB238_237.out;have hnb7:=NB237_239.out;have hnc7:=NB239_237.out;have hcz8_0:w5.cell? ⟨gb237,0,none⟩=some (.string a0_0):=(ag BK237.out 0).trans rfl;have hcz8_1:w5.cell? ⟨gb237,1,none⟩=some (.int .i64 a0_1):=(ag BK237.out 1).trans rfl;have hcz8_2:w5.cell? ⟨gb237,2,none⟩=some (.slice A0_2 l0_2.length c0_2):=(ag BK237.out 2).trans rfl;have hfz8_0:=ah BK237.out 0;have hfz8_1:=ah BK237.out 1;have hfz8_2:=ah BK237.out 2;have hnb9:=NB239_238.out;have hnc9:=NB238_239.out;have hcz10_0:w5.cell? ⟨gb239,0,none⟩=some (.string (⟨#[]⟩:ByteArray)):=(ag BK239.out 0).trans rfl;have hcz10_1:w5.cell? ⟨gb239,1,none⟩=some (.int .i64 0):=(ag BK239.out 1).trans rfl;have hcz10_2:w5.cell? ⟨gb239,2,none⟩=some (.slice none 0 0):=(ag BK239.out 2).trans rfl;have hfz10_0:=ah BK239.out 0;have hfz10_1:=ah BK239.out 1;have hfz10_2:=ah BK239.out 2)|((with_reducible refine aK (f:=43) rfl ?_);refine bn (some 12) rfl rfl Tryd.func43 (by kernel_rfl) rfl #[.agg #[.slice A0_2 l0_2.length c0_2]] rfl (by(try simp only[amp_]);first|done|rfl|(simp only[ald_];rfl)) ?_;(with_reducible refine(laws_toFileMap.calls k _ _ l0_2 t240 _ ?side1 ?side2 A2.out).mono ?_);(case side1=>exact Kd.aQ HR0_2.out (by with_reducible repeat(first|exact HB.out|apply af|apply aa|apply ae|refine ai ?_ GE237.out|refine ai ?_ GE238.out|refine ai ?_ GE239.out)));(case side2=>exact HC0_2.out);rintro e w11 ⟨v241,rfl,ho0,hb⟩;refine⟨_,rfl,?_⟩;have HO242:=av (Kd.dB ho0 (ay (by with_reducible repeat(first|exact HB.out|apply af|apply aa|apply ae|refine ai ?_ GE237.out|refine ai ?_ GE238.out|refine ai ?_ GE239.out))));replace BK237:=av (aG (g:=gb237) (o:=.cells #[.string a0_0,.int .i64 a0_1,.slice A0_2 l0_2.length c0_2] 63 (0,0)) (by(with_reducible repeat(first|apply aj|apply au|apply ak));refine aU ?_ NB237_239.out _;(with_reducible repeat(first|apply aj|apply au|apply ak));refine aU ?_ NB237_239.out _;(with_reducible repeat(first|apply aj|apply au|apply ak));exact BK237.out) hb);replace BK238:=av (aG (g:=gb238) (o:=.cells #[.string (⟨#[]⟩:ByteArray),.int .i64 0,.slice none 0 0] 47 (0,0)) (by(with_reducible repeat(first|apply aj|apply au|apply ak));refine aU ?_ NB238_239.out _;(with_reducible repeat(first|apply aj|apply au|apply ak));refine aU ?_ NB238_239.out _;(with_reducible repeat(first|apply aj|apply au|apply ak));exact BK238.out) hb);replace BK239:=av (aG (g:=gb239) (o:=.cells #[.string a0_0,.int .i64 a0_1,.slice none 0 0] 47 (0,0)) (by(with_reducible repeat(first|apply aj|apply au|apply ak));refine aX (cs:=#[.string a0_0,.int .i64 0,.slice none 0 0]) ?_ 1 _ rfl;(with_reducible repeat(first|apply aj|apply au|apply ak));refine aX (cs:=#[.string (⟨#[]⟩:ByteArray),.int .i64 0,.slice none 0 0]) ?_ 0 _ rfl;(with_reducible repeat(first|apply aj|apply au|apply ak));exact BK239.out) hb);replace HB:=av (aA (by with_reducible repeat(first|exact HB.out|apply af|apply aa|apply ae|refine ai ?_ GE237.out|refine ai ?_ GE238.out|refine ai ?_ GE239.out)) hb);(try clear hb);(try clear hb2);(try clear hk);(try clear hi);(try clear ho0);obtain⟨Ao12,co12,eo12⟩:=Kd.cz HO242.out;subst eo12;have hcz13_0:w11.cell? ⟨gb239,0,none⟩=some (.string a0_0):=(ag BK239.out 0).trans rfl;have hcz13_1:w11.cell? ⟨gb239,1,none⟩=some (.int .i64 a0_1):=(ag BK239.out 1).trans rfl;have hcz13_2:w11.cell? ⟨gb239,2,none⟩=some (.slice none 0 0):=(ag BK239.out 2).trans rfl;have hfz13_0:=ah BK239.out 0;have hfz13_1:=ah BK239.out 1;have hfz13_2:=ah BK239.out 2;have hcz14_0:w11.cell? ⟨gb238,0,none⟩=some (.string (⟨#[]⟩:ByteArray)):=(ag BK238.out 0).trans rfl;have hcz14_1:w11.cell? ⟨gb238,1,none⟩=some (.int .i64 0):=(ag BK238.out 1).trans rfl;have hcz14_2:w11.cell? ⟨gb238,2,none⟩=some (.slice none 0 0):=(ag BK238.out 2).trans rfl;have hfz14_0:=ah BK238.out 0;have hfz14_1:=ah BK238.out 1;have hfz14_2:=ah BK238.out 2))
 refine bodyPost_ret (results_cell_row rfl _ _ gb238 47 #[.string a0_0,.int .i64 a0_1,.slice Ao12 t240.length co12] (0,0) _ rfl (by(with_reducible repeat(first|apply aj|apply au|apply ak));refine aX (cs:=#[.string a0_0,.int .i64 a0_1,.slice none 0 0]) ?_ 2 _ rfl;(with_reducible repeat(first|apply aj|apply au|apply ak));refine aX (cs:=#[.string a0_0,.int .i64 0,.slice none 0 0]) ?_ 1 _ rfl;(with_reducible repeat(first|apply aj|apply au|apply ak));refine aX (cs:=#[.string (⟨#[]⟩:ByteArray),.int .i64 0,.slice none 0 0]) ?_ 0 _ rfl;(with_reducible repeat(first|apply aj|apply au|apply ak));refine aU ?_ NB238_239.out _;(with_reducible repeat(first|apply aj|apply au|apply ak));exact BK238.out) Tryd.underlying47 rfl (by kernel_rfl)) rfl ?_
 exact⟨_,by first|rfl|(simp <;> rfl)|(simp[*] <;> rfl),by(with_reducible repeat(first|apply Kd.bf|apply Kd.bg|apply Kd.bi));exact Kd.bT (Kd.bM (p:=⟨gb238,2,none⟩) (Kd.bM (p:=⟨gb238,1,none⟩) (Kd.bM (p:=⟨gb238,0,none⟩) (Kd.bM (p:=⟨gb239,2,none⟩) (Kd.bZ (Kd.bZ HO242.out BK239.out (by decide)) BK238.out (by decide)) (fun _ hk=>hk.1.2) (.slice Ao12 t240.length co12)) (fun _ hk=>hk.2) (.string a0_0)) (fun _ hk=>hk.2) (.int .i64 a0_1)) (fun _ hk=>hk.2) (.slice Ao12 t240.length co12)) (fun _ hk=>trivial),by with_reducible repeat(first|exact HB.out|apply af|apply aa|apply ae|refine ai ?_ GE237.out|refine ai ?_ GE238.out|refine ai ?_ GE239.out)⟩
def laws_toHeldS.l0:Nat→List (S63)→List (S47)→Int→Option ((List (S47)))
 | 0,_,_,_=>none
 | k+1,x0,x3,x4=>if x4 < (x0.length:Int) then (if 0≤x4 then ((laws_toHeld.f k ((bP x0 x4).f0) ((bP x0 x4).f1) ((bP x0 x4).f2.f0)).bind fun bt247=>(if x4 < (x3.length:Int) then (laws_toHeldS.l0 k x0 (x3.set (x4:Int).toNat (⟨bt247.1,bt247.2.1,(⟨bt247.2.2⟩:S45)⟩:S47)) (wrap64 (x4+1))) else (none))) else (none)) else (some x3)
def laws_toHeldS.f (k:Nat) (l0:List (S63)):Option ((List (S47))):=if 0≤(l0.length:Int) then (if ((l0.length:Int):Int).toNat≤5864062014805 then (laws_toHeldS.l0 k l0 (List.replicate ((l0.length:Int):Int).toNat z47) 0) else (none)) else (none)
set_option maxHeartbeats 8000000 in
set_option maxRecDepth 100000 in
theorem laws_toHeldS.calls (k : Nat) (A0 : Option Addr) (c0 : Nat) (l0 : List (S63)) (r : List (S47)) (w : World) (hr0 : Kd.C k63 w A0 l0.length l0) (hc0 : l0.length ≤ c0) (h : laws_toHeldS.f k l0 = some r) :
  Calls Tryd.prog 16 #[.slice A0 l0.length c0] w fun e w'=>∃ v0_:Value,e = .returned (v0_)∧Kd.S k47 47 w' w.heap.size (fun _=>True) v0_ r∧Below w.heap.size w w':=by
 have hu63:=Tryd.underlying63
 have hu47:=Tryd.underlying47
 have HR0:=av hr0
 have HC0:=av hc0
 clear hr0 hc0
 have HB:=av (Below.refl w.heap.size w)
 have H:(if 0≤(l0.length:Int) then (if ((l0.length:Int):Int).toNat≤5864062014805 then (laws_toHeldS.l0 k l0 (List.replicate ((l0.length:Int):Int).toNat z47) 0) else (none)) else (none))=some r:=h
 clear h
 by_cases c2:0≤(l0.length:Int)
 ·rw [if_pos c2] at H
  have c2b0:=eq_true c2
  have c2b1:decide (0≤(l0.length:Int))=true:=decide_eq_true c2
  clear c2
  by_cases c3:((l0.length:Int):Int).toNat≤5864062014805
  ·rw [if_pos c3] at H
   have c3b0:=eq_true c3
   have c3b1:decide (((l0.length:Int):Int).toNat≤5864062014805)=true:=decide_eq_true c3
   clear c3
   obtain⟨y243,hy243⟩:∃ y_:List (S47),y_ = (List.replicate ((l0.length:Int):Int).toNat z47):=⟨_,rfl⟩
   replace H:(laws_toHeldS.l0 k l0 y243 0)=some r:=by first|(rw[hy243];with_reducible exact H)|(have H2_:=(Option.bind_some _ _).symm.trans H;rw[hy243];with_reducible exact H2_)|(have H2_:=(Option.bind_some _ _).symm.trans H;with_reducible exact H2_)|with_reducible exact H|(rw[hy243];exact H)|exact H
   have Ny243:=av hy243
   clear hy243
   have H':=av H
   clear H
   go_enter Tryd.func16,Tryd.ntmps16
   go_wp2_with (first|((with_reducible refine aJ (N:=7) rfl ?_);refine Kd.oP k47 _ 47 rfl (N:=7) rfl 33 _ _ rfl (l0.length:Int) rfl rfl Tryd.underlying33 (.agg #[(.string ⟨#[]⟩),(.int .i64 0),(.slice none 0 0)]) 48 oU rfl (by decide) (by omega) z47 (ok:=fun _=>True) (okp:=fun _=>True) (lG _ _ _ z47 (Kd.gV _ _ _ _ _)) (fun _ hk=>hk) trivial (of_decide_eq_true (by assumption)) (Nat.le_trans (Nat.mul_le_mul_right _ (of_decide_eq_true (by assumption):(l0.length:Int).toNat≤5864062014805)) (by omega)) (Below.refl _ _) (Nat.le_refl _) ?_;intro v244 w4 ho5 hb hg_ hnew_;clear hg_ hnew_;(first|rw[← Ny243.out] at ho5|(simp only[Int.reduceToNat] at ho5;rw[← Ny243.out] at ho5));have HO245:=av (Kd.lw ho5 (ay (by with_reducible repeat(first|exact HB.out|apply af|apply aa|apply ae))));replace HB:=av (aA (by with_reducible repeat(first|exact HB.out|apply af|apply aa|apply ae)) hb);clear hb ho5))
   go_loopg [4] k (fun kq v4 w'=>∃ (x3_1:List (S47)) (x4_1:Int),v4 = .int .i64 x4_1∧Aside0 (laws_toHeldS.l0 kq l0 x3_1 x4_1=some r)∧Aside0 (kq≤k)∧Aside0 (Kd.S k47 47 w' w.heap.size (fun _=>True) v244 x3_1)∧Aside0 (Below w.heap.size w w'))
   case atStart=>exact⟨(y243),(0),(by first|rfl|(simp;done)|(simp[*];done)),H',⟨Nat.le_refl _⟩,⟨by(with_reducible repeat(first|apply Kd.fJ|apply Kd.fI|apply Kd.gG));exact HO245.out⟩,⟨by with_reducible repeat(first|exact HB.out|apply af|apply aa|apply ae)⟩⟩
   case round =>
    clear H'
    try clear c1
    try clear c2
    try clear c2b0
    try clear c2b1
    try clear p2
    try clear c3
    try clear c3b0
    try clear c3b1
    obtain⟨x3_1,x4_1,rfl,HA,HK1,HO_3,HB⟩:=hrel
    cases gk with
    | zero=>exact absurd HA.out (by simp[laws_toHeldS.l0])
    | succ k1=>
     have H:=HA.out
     clear HA
     simp only[laws_toHeldS.l0] at H
     by_cases c6:x4_1 < (l0.length:Int)
     ·rw[if_pos c6] at H
      have c6b0:decide (x4_1 < (l0.length:Int))=true:=decide_eq_true c6
      clear c6
      by_cases c7:0≤x4_1
      ·rw[if_pos c7] at H
       have c7b0:decide (0≤x4_1)=true:=decide_eq_true c7
       clear c7
       replace H:=Option.bind_eq_some_iff.mp H
       obtain⟨⟨t247,t248,t249⟩,A80,H⟩:=H
       replace H:(if x4_1 < (x3_1.length:Int) then (laws_toHeldS.l0 k1 l0 (x3_1.set (x4_1:Int).toNat (⟨t247,t248,(⟨t249⟩:S45)⟩:S47)) (wrap64 (x4_1+1))) else (none))=some r:=H
       have A8:=av A80
       clear A80
       by_cases c9:x4_1 < (x3_1.length:Int)
       ·rw[if_pos c9] at H
        have c9b0:decide (x4_1 < (x3_1.length:Int))=true:=decide_eq_true c9
        clear c9
        obtain⟨y252,hy252⟩:∃ y_:List (S47),y_ = (x3_1.set (x4_1:Int).toNat (⟨t247,t248,(⟨t249⟩:S45)⟩:S47)):=⟨_,rfl⟩
        replace H:(laws_toHeldS.l0 k1 l0 y252 (wrap64 (x4_1+1)))=some r:=by first|(rw[hy252];with_reducible exact H)|(have H2_:=(Option.bind_some _ _).symm.trans H;rw[hy252];with_reducible exact H2_)|(have H2_:=(Option.bind_some _ _).symm.trans H;with_reducible exact H2_)|with_reducible exact H|(rw[hy252];exact H)|exact H
        have Ny252:=av hy252
        clear hy252
        have H':=av H
        clear H
        have p246:0≤(x4_1:Int):=of_decide_eq_true (by assumption)
        have q246:x4_1 < (l0.length:Int):=of_decide_eq_true (by assumption)
        obtain⟨ad246,A246_2,c246_2,e246,hx246_0,hx246_1,hx246_2,hl246_2,hi246_2⟩:=ky HR0.out x4_1 p246 q246
        cases e246
        replace hx246_0:=(HB.out.cell (World.block_lt_of_cell? w _ hx246_0)).trans hx246_0
        replace hx246_1:=(HB.out.cell (World.block_lt_of_cell? w _ hx246_1)).trans hx246_1
        replace hx246_2:=(HB.out.cell (World.block_lt_of_cell? w _ hx246_2)).trans hx246_2
        have HR246_2:=av hi246_2
        have HC246_2:=av hl246_2
        clear hi246_2 hl246_2
        replace p246:=eq_true p246
        replace q246:=eq_true q246
        go_wp2_with (first|((with_reducible refine aK (f:=30) rfl ?_);refine bn (some 20) rfl rfl Tryd.func30 (by kernel_rfl) rfl #[.agg #[.string ((bP l0 x4_1).f0),.int .i64 ((bP l0 x4_1).f1),.slice A246_2 ((bP l0 x4_1).f2.f0).length c246_2]] rfl (by(try simp only[amp_]);first|done|rfl|(simp only[ald_];rfl)) ?_;(with_reducible refine(laws_toHeld.calls k1 ((bP l0 x4_1).f0) ((bP l0 x4_1).f1) _ _ ((bP l0 x4_1).f2.f0) t247 t248 t249 _ ?side1 ?side2 A8.out).mono ?_);(case side1=>repeat(first|exact(Kd.aQ HR246_2.out HB.out)|(with_reducible first|apply Kd.aW|apply Kd.aV|apply Kd.aY)));(case side2=>exact HC246_2.out);rintro e w11 ⟨v250,rfl,ho0,hb⟩;refine⟨_,rfl,?_⟩;replace HO_3:=av (Kd.S_elder' (by(with_reducible repeat(first|apply Kd.fJ|apply Kd.fI|apply Kd.gG));exact HO_3.out) (Kd.ny ho0) hb);have HO251:=av (Kd.dB ho0 (ay (by with_reducible repeat(first|exact HB.out|apply af|apply aa|apply ae))));replace HB:=av (aA (by with_reducible repeat(first|exact HB.out|apply af|apply aa|apply ae)) hb);(try clear hb);(try clear hb2);(try clear hk);(try clear hi);(try clear ho0);have hst_:=fun (a_:Addr) (W_:World) (m_:Mode)=>run_store Tryd.prog W_ a_ v250 m_ (by obtain⟨_,_,e_⟩:=Kd.cz HO251.out;rw[e_];rfl);have p10:0≤(x4_1:Int):=of_decide_eq_true (by assumption);have q10:(x4_1:Int) < ((x3_1.length:Int):Int):=of_decide_eq_true (by assumption);obtain⟨go10,co10,eo10,gb10,gl10,cl10,HG10⟩:=Kd.oN HO_3.out (by omega);(first|cases eo10|(injection eo10 with ea_ en_ ec_;(first|subst ea_|(injection ea_ with ea_;subst ea_));subst ec_;clear en_));have GB10:=av gb10;have GG10:=av HG10;clear gb10 gl10 HG10;obtain⟨_,ce10,hcl10,hM10,hcc10,hfr10,_,_⟩:=Kd.mQ HO_3.out z47 (x4_1:Int) p10 q10;obtain⟨ve10_2,rfl,ge10_2⟩:=iX hM10;have hx10_0:w11.cell? ⟨go10,(x4_1:Int).toNat*3,none⟩=some (.string ((az x3_1 x4_1).f0)):=hcc10 0 _ rfl;have hx10_1:w11.cell? ⟨go10,(x4_1:Int).toNat*3+1,none⟩=some (.int .i64 ((az x3_1 x4_1).f1)):=hcc10 1 _ rfl;have hx10_2:w11.cell? ⟨go10,(x4_1:Int).toNat*3+2,none⟩=some (ve10_2):=hcc10 2 _ rfl;have hf10_0:w11.frozen? ⟨go10,(x4_1:Int).toNat*3,none⟩=false:=hfr10 0;have hf10_1:w11.frozen? ⟨go10,(x4_1:Int).toNat*3+1,none⟩=false:=hfr10 1;have hf10_2:w11.frozen? ⟨go10,(x4_1:Int).toNat*3+2,none⟩=false:=hfr10 2;clear hcl10 hcc10 hfr10 hM10;replace p10:=eq_true p10;replace q10:=eq_true q10;have n_:=av (Kd.jT (ok':=(fun k_=>some k_≠(v250:Value).ownBlock)) HO_3.out (fun k_ hk=>hk.2));clear HO_3;have HO_3:=n_;clear n_;have HX12:=av (show Kd.S k47 47 w11 w.heap.size (fun k_=>((fun _=>True)) k_∧¬ ((fun k_=>some k_ = (v250:Value).ownBlock)) k_) (.slice (some ⟨go10,0,none⟩) x3_1.length co10) x3_1 from(by(with_reducible repeat(first|apply Kd.fJ|apply Kd.fI|apply Kd.gG));exact Kd.jT HO_3.out (fun k_ hk=>⟨trivial,fun e_=>hk e_⟩)));obtain⟨oki12,ce12,hcl12,hM12,hcc12,hfr12,hoki12,hH12⟩:=Kd.mQ HX12.out z47 (x4_1:Int) (of_decide_eq_true (by assumption)) (by have h_:(x4_1:Int) < ((x3_1.length:Int):Int):=of_decide_eq_true (by assumption);first|exact h_|(have e_:=(Kd.S_reads' HO_3.out).1;omega)|simpa using h_);obtain⟨ve12_2,rfl,ge12_2⟩:=iX hM12;have HP12:=Kd.S_seg hH12 (of_decide_eq_true (by assumption)) (by have h_:(x4_1:Int) < ((x3_1.length:Int):Int):=of_decide_eq_true (by assumption);first|exact h_|(have e_:=(Kd.S_reads' HO_3.out).1;omega)|simpa using h_) (seg:=[.string t247,.int .i64 t248,v250]) (j:=0) (show 3≤3 from by decide) (x':=(⟨t247,t248,(⟨t249⟩:S45)⟩:S47)) (lG _ _ _ (⟨t247,t248,(⟨t249⟩:S45)⟩:S47) (Kd.bT (Kd.nH rfl (Kd.bT (ok':=fun k_=>((fun _=>True)) k_∧k_≠go10) (Kd.R_apart' (HO251.out) (Kd.lH HO_3.out) (by decide)) (fun k_ hk=>⟨trivial,fun e_=>(hk.2) (by rw[e_];rfl)⟩))) (fun _ h_=>Or.inr (h_)))) (fun _ hk=>hk) (fun k_ hk_=>((Kd.bT (ok':=fun k_=>((fun _=>True)) k_∧k_≠go10) (Kd.R_apart' (HO251.out) (Kd.lH HO_3.out) (by decide)) (fun k_ hk=>⟨trivial,fun e_=>(hk.2) (by rw[e_];rfl)⟩))).1 k_ hk_.symm);have hx12_0:=hcc12 0 _ rfl;(try simp only[show(k47).sz=3 from rfl,Nat.mul_one,Nat.add_zero] at hx12_0);have hf12_0:=hfr12 0;(try simp only[show(k47).sz=3 from rfl,Nat.mul_one,Nat.add_zero] at hf12_0);have hx12_1:=hcc12 1 _ rfl;(try simp only[show(k47).sz=3 from rfl,Nat.mul_one,Nat.add_zero] at hx12_1);have hf12_1:=hfr12 1;(try simp only[show(k47).sz=3 from rfl,Nat.mul_one,Nat.add_zero] at hf12_1);have hx12_2:=hcc12 2 _ rfl;(try simp only[show(k47).sz=3 from rfl,Nat.mul_one,Nat.add_zero] at hx12_2);have hf12_2:=hfr12 2;(try simp only[show(k47).sz=3 from rfl,Nat.mul_one,Nat.add_zero] at hf12_2);clear hcl12 hcc12 hfr12 hM12 hoki12 hH12)|((with_reducible refine eY (t:=47) (p:=21) rfl ?_);refine eO (t:=47) (p:=21) (v:=?vo_w13) (w1:=(((w11.setCell ⟨go10,(x4_1:Int).toNat*3,none⟩ (.string t247)).setCell ⟨go10,(x4_1:Int).toNat*3+1,none⟩ (.int .i64 t248)).setCell ⟨go10,(x4_1:Int).toNat*3+2,none⟩ (v250))) ?hg ?ho ?hn ?hr ?_;(case ho=>rfl);(case hg=>rfl);(case hn=>rfl);(case hr=>first|(go_simp;done)|(go_simp;rfl));intro w13 hw;have hg:w11.grownBy w13 (some go10):=(by rw[hw];exact HP12.2);have hp_:Kd.S k47 47 w13 w.heap.size (fun _=>True) (.slice (some ⟨go10,0,none⟩) x3_1.length co10) y252:=(by rw[hw,Ny252.out];exact HP12.1);clear HP12;replace HO_3:=av (hp_);replace HB:=av ((by rw[hw];exact ai (ai (ai (HB.out) GB10.out) GB10.out) GB10.out:Below w.heap.size w w13));clear HO251;clear hg hw hp_))
        go_roundg k1
        case measure=>have:=HK1.out;omega
        case rel=>exact⟨(y252),(wrap64 (x4_1+1)),(by first|rfl|(simp;done)|(simp[*];done)),H',⟨by have:=HK1.out;omega⟩,⟨by(with_reducible repeat(first|apply Kd.fJ|apply Kd.fI|apply Kd.gG));exact HO_3.out⟩,⟨by with_reducible repeat(first|exact HB.out|apply af|apply aa|apply ae)⟩⟩
       ·rw[if_neg c9] at H
        exact absurd H (by simp)
      ·rw[if_neg c7] at H
       exact absurd H (by simp)
     ·rw[if_neg c6] at H
      have c6b0:decide (x4_1 < (l0.length:Int))=false:=decide_eq_false c6
      clear c6
      obtain rfl:=Option.some.inj H
      go_wp2
      go_ret
      exact⟨_,by first|rfl|(simp <;> rfl)|(simp[*] <;> rfl),by(with_reducible repeat(first|apply Kd.fJ|apply Kd.fI|apply Kd.gG));exact HO_3.out,by with_reducible repeat(first|exact HB.out|apply af|apply aa|apply ae)⟩
  ·rw[if_neg c3] at H
   exact absurd H (by simp)
 ·rw[if_neg c2] at H
  exact absurd H (by simp)
def laws_toSystem.f (k:Nat) (a0_0:Int) (a0_1:Int) (l0_2:List (S80)) (l0_3:List (S80)) (l0_4:List (S63)):Option (Int×Int×(List (S72))×(List (S72))×(List (S47))):=(laws_toFree.f k a0_1 l0_2 l0_3).bind fun bt256=>((laws_toHeldS.f k l0_4).bind fun t263=>(some (a0_0,bt256.1,bt256.2.1,bt256.2.2,t263)))
set_option maxHeartbeats 8000000 in
set_option maxRecDepth 100000 in
theorem laws_toSystem.calls (k:Nat) (a0_0:Int) (a0_1:Int) (A0_2:Option Addr) (c0_2:Nat) (l0_2:List (S80)) (A0_3:Option Addr) (c0_3:Nat) (l0_3:List (S80)) (A0_4:Option Addr) (c0_4:Nat) (l0_4:List (S63)) (r1:Int) (r2:Int) (r3:List (S72)) (r4:List (S72)) (r5:List (S47)) (w:World) (hr0_2:Kd.C k80 w A0_2 l0_2.length l0_2) (hc0_2:l0_2.length≤c0_2) (hr0_3:Kd.C k80 w A0_3 l0_3.length l0_3) (hc0_3:l0_3.length≤c0_3) (hr0_4:Kd.C k63 w A0_4 l0_4.length l0_4) (hc0_4:l0_4.length≤c0_4) (h:laws_toSystem.f k a0_0 a0_1 l0_2 l0_3 l0_4=some (r1,r2,r3,r4,r5)) :
  Calls Tryd.prog 6 #[.agg #[.int .i64 a0_0,.int .i64 a0_1,.slice A0_2 l0_2.length c0_2,.slice A0_3 l0_3.length c0_3,.slice A0_4 l0_4.length c0_4]] w fun e w'=>∃ v2_ v3_ v4_:Value,e = .returned (.agg #[.int .i64 r1,.int .i64 r2,v2_,v3_,v4_])∧Kd.R k72 72 w' w.heap.size (fun k_=>some k_≠(v3_:Value).ownBlock) v2_ r3∧Kd.R k72 72 w' w.heap.size (fun k_=>some k_≠(v2_:Value).ownBlock) v3_ r4∧Kd.S k47 47 w' w.heap.size (fun _=>True) v4_ r5∧Below w.heap.size w w':=by
 have hu27:=Tryd.underlying27
 have hu35:=Tryd.underlying35
 have hu24:=Tryd.underlying24
 have hu32:=Tryd.underlying32
 have HR0_2:=av hr0_2
 have HC0_2:=av hc0_2
 clear hr0_2 hc0_2
 have HR0_3:=av hr0_3
 have HC0_3:=av hc0_3
 clear hr0_3 hc0_3
 have HR0_4:=av hr0_4
 have HC0_4:=av hc0_4
 clear hr0_4 hc0_4
 have HB:=av (Below.refl w.heap.size w)
 have H:((laws_toFree.f k a0_1 l0_2 l0_3).bind fun bt256=>((laws_toHeldS.f k l0_4).bind fun t263=>(some (a0_0,bt256.1,bt256.2.1,bt256.2.2,t263))))=some (r1,r2,r3,r4,r5):=h
 clear h
 replace H:=Option.bind_eq_some_iff.mp H
 obtain⟨⟨t256,t257,t260⟩,A20,H⟩:=H
 replace H:((laws_toHeldS.f k l0_4).bind fun t263=>(some (a0_0,t256,t257,t260,t263)))=some (r1,r2,r3,r4,r5):=H
 have A2:=av A20
 clear A20
 replace H:=Option.bind_eq_some_iff.mp H
 obtain⟨t263,A30,H⟩:=H
 replace H:(some (a0_0,t256,t257,t260,t263))=some (r1,r2,r3,r4,r5):=H
 have A3:=av A30
 clear A30
 simp only[Option.some.injEq,Prod.mk.injEq] at H
 obtain⟨rfl,rfl,rfl,rfl,rfl⟩:=H
 go_enter Tryd.func6,Tryd.ntmps6
 go_wp2_with (first|((with_reducible refine aJ (N:=1) rfl ?_);refine aI ?hg (N:=1) ?hd (cs:=#[.int .i64 a0_0,.int .i64 a0_1,.slice A0_2 l0_2.length c0_2,.slice A0_3 l0_3.length c0_3,.slice A0_4 l0_4.length c0_4]) (t:=27) ?hr ?_;(case hd=>rfl);(case hg=>rfl);(case hr=>first|(go_simp;done)|(go_simp;rfl));intro gb253 hg w4 hbox hb;have BK253:=av (hbox);have GW253:=av ((by rw[hg];exact(ay (by with_reducible repeat(first|exact HB.out|apply af|apply aa|apply ae))):w.heap.size≤gb253));have GE253:=av ((by rw[hg];exact(ay (by with_reducible repeat(first|exact HB.out|apply af|apply aa|apply ae))):w.heap.size≤gb253));replace HB:=av (aA (by with_reducible repeat(first|exact HB.out|apply af|apply aa|apply ae)) hb);clear hb hbox hg)|((with_reducible refine aJ (N:=2) rfl ?_);refine aI ?hg (N:=2) ?hd (cs:=#[.int .i64 0,.int .i64 0,.slice none 0 0,.slice none 0 0,.slice none 0 0]) (t:=35) ?hr ?_;(case hd=>rfl);(case hg=>rfl);(case hr=>first|(go_simp;done)|(go_simp;rfl));intro gb254 hg w5 hbox hb;have BK254:=av (hbox);have GW254:=av ((by rw[hg];exact(ay (by with_reducible repeat(first|exact HB.out|apply af|apply aa|apply ae|refine ai ?_ GE253.out))):w.heap.size≤gb254));have GE254:=av ((by rw[hg];exact(ay (by with_reducible repeat(first|exact HB.out|apply af|apply aa|apply ae|refine ai ?_ GE253.out))):w.heap.size≤gb254));replace HB:=av (aA (by with_reducible repeat(first|exact HB.out|apply af|apply aa|apply ae|refine ai ?_ GE253.out)) hb);have NB253_254:=av ((by rw[hg];exact Nat.ne_of_lt (aN (g:=gb253) (o:=.cells #[.int .i64 a0_0,.int .i64 a0_1,.slice A0_2 l0_2.length c0_2,.slice A0_3 l0_3.length c0_3,.slice A0_4 l0_4.length c0_4] 27 (0,0)) (by(with_reducible repeat(first|apply aj|apply au|apply ak));exact BK253.out)):gb253≠gb254));have NB254_253:=av ((by rw[hg];exact Nat.ne_of_gt (aN (g:=gb253) (o:=.cells #[.int .i64 a0_0,.int .i64 a0_1,.slice A0_2 l0_2.length c0_2,.slice A0_3 l0_3.length c0_3,.slice A0_4 l0_4.length c0_4] 27 (0,0)) (by(with_reducible repeat(first|apply aj|apply au|apply ak));exact BK253.out)):gb254≠gb253));replace BK253:=av (aG (g:=gb253) (o:=.cells #[.int .i64 a0_0,.int .i64 a0_1,.slice A0_2 l0_2.length c0_2,.slice A0_3 l0_3.length c0_3,.slice A0_4 l0_4.length c0_4] 27 (0,0)) (by(with_reducible repeat(first|apply aj|apply au|apply ak));exact BK253.out) hb);clear hb hbox hg)|((with_reducible refine aJ (N:=3) rfl ?_);refine aI ?hg (N:=3) ?hd (cs:=#[.int .i64 0,.int .i64 0,.slice none 0 0,.slice none 0 0,.slice none 0 0]) (t:=35) ?hr ?_;(case hd=>rfl);(case hg=>rfl);(case hr=>first|(go_simp;done)|(go_simp;rfl));intro gb255 hg w6 hbox hb;have BK255:=av (hbox);have GW255:=av ((by rw[hg];exact(ay (by with_reducible repeat(first|exact HB.out|apply af|apply aa|apply ae|refine ai ?_ GE253.out|refine ai ?_ GE254.out))):w.heap.size≤gb255));have GE255:=av ((by rw[hg];exact(ay (by with_reducible repeat(first|exact HB.out|apply af|apply aa|apply ae|refine ai ?_ GE253.out|refine ai ?_ GE254.out))):w.heap.size≤gb255));replace HB:=av (aA (by with_reducible repeat(first|exact HB.out|apply af|apply aa|apply ae|refine ai ?_ GE253.out|refine ai ?_ GE254.out)) hb);have NB253_255:=av ((by rw[hg];exact Nat.ne_of_lt (aN (g:=gb253) (o:=.cells #[.int .i64 a0_0,.int .i64 a0_1,.slice A0_2 l0_2.length c0_2,.slice A0_3 l0_3.length c0_3,.slice A0_4 l0_4.length c0_4] 27 (0,0)) (by(with_reducible repeat(first|apply aj|apply au|apply ak));exact BK253.out)):gb253≠gb255));have NB255_253:=av ((by rw[hg];exact Nat.ne_of_gt (aN (g:=gb253) (o:=.cells #[.int .i64 a0_0,.int .i64 a0_1,.slice A0_2 l0_2.length c0_2,.slice A0_3 l0_3.length c0_3,.slice A0_4 l0_4.length c0_4] 27 (0,0)) (by(with_reducible repeat(first|apply aj|apply au|apply ak));exact BK253.out)):gb255≠gb253));replace BK253:=av (aG (g:=gb253) (o:=.cells #[.int .i64 a0_0,.int .i64 a0_1,.slice A0_2 l0_2.length c0_2,.slice A0_3 l0_3.length c0_3,.slice A0_4 l0_4.length c0_4] 27 (0,0)) (by(with_reducible repeat(first|apply aj|apply au|apply ak));exact BK253.out) hb);have NB254_255:=av ((by rw[hg];exact Nat.ne_of_lt (aN (g:=gb254) (o:=.cells #[.int .i64 0,.int .i64 0,.slice none 0 0,.slice none 0 0,.slice none 0 0] 35 (0,0)) (by(with_reducible repeat(first|apply aj|apply au|apply ak));exact BK254.out)):gb254≠gb255));have NB255_254:=av ((by rw[hg];exact Nat.ne_of_gt (aN (g:=gb254) (o:=.cells #[.int .i64 0,.int .i64 0,.slice none 0 0,.slice none 0 0,.slice none 0 0] 35 (0,0)) (by(with_reducible repeat(first|apply aj|apply au|apply ak));exact BK254.out)):gb255≠gb254));replace BK254:=av (aG (g:=gb254) (o:=.cells #[.int .i64 0,.int .i64 0,.slice none 0 0,.slice none 0 0,.slice none 0 0] 35 (0,0)) (by(with_reducible repeat(first|apply aj|apply au|apply ak));exact BK254.out) hb);clear hb hbox hg;have hnb7:=NB253_254.out;have hnc7:=NB254_253.out;have hnb8:=NB253_255.out;have hnc8:=NB255_253.out;have hcz9_0:w6.cell? ⟨gb253,0,none⟩=some (.int .i64 a0_0):=(ag BK253.out 0).trans rfl;have hcz9_1:w6.cell? ⟨gb253,1,none⟩=some (.int .i64 a0_1):=(ag BK253.out 1).trans rfl;have hcz9_2:w6.cell? ⟨gb253,2,none⟩=some (.slice A0_2 l0_2.length c0_2):=(ag BK253.out 2).trans rfl;have hcz9_3:w6.cell? ⟨gb253,3,none⟩=some (.slice A0_3 l0_3.length c0_3):=(ag BK253.out 3).trans rfl;have hcz9_4:w6.cell? ⟨gb253,4,none⟩=some (.slice A0_4 l0_4.length c0_4):=(ag BK253.out 4).trans rfl;have hfz9_0:=ah BK253.out 0;have hfz9_1:=ah BK253.out 1;have hfz9_2:=ah BK253.out 2;have hfz9_3:=ah BK253.out 3;have hfz9_4:=ah BK253.out 4;have hnb10:=NB255_254.out;have hnc10:=NB254_255.out;have hcz11_0:w6.cell? ⟨gb255,0,none⟩=some (.int .i64 0):=(ag BK255.out 0).trans rfl;have hcz11_1:w6.cell? ⟨gb255,1,none⟩=some (.int .i64 0):=(ag BK255.out 1).trans rfl;have hcz11_2:w6.cell? ⟨gb255,2,none⟩=some (.slice none 0 0):=(ag BK255.out 2).trans rfl;have hcz11_3:w6.cell? ⟨gb255,3,none⟩=some (.slice none 0 0):=(ag BK255.out 3).trans rfl;have hcz11_4:w6.cell? ⟨gb255,4,none⟩=some (.slice none 0 0):=(ag BK255.out 4).trans rfl;have hfz11_0:=ah BK255.out 0;have hfz11_1:=ah BK255.out 1;have hfz11_2:=ah BK255.out 2;have hfz11_3:=ah BK255.out 3;have hfz11_4:=ah BK255.out 4)|((with_reducible refine aK (f:=15) rfl ?_);refine bn (some 9) rfl rfl Tryd.func15 (by kernel_rfl) rfl #[.agg #[.int .i64 a0_1,.slice A0_2 l0_2.length c0_2,.slice A0_3 l0_3.length c0_3]] rfl (by(try simp only[amp_]);first|done|rfl|(simp only[ald_];rfl)) ?_;(with_reducible refine(laws_toFree.calls k a0_1 _ _ l0_2 _ _ l0_3 t256 t257 t260 _ ?side1 ?side2 ?side3 ?side4 A2.out).mono ?_);(case side1=>exact Kd.aQ HR0_2.out (by with_reducible repeat(first|exact HB.out|apply af|apply aa|apply ae|refine ai ?_ GE253.out|refine ai ?_ GE254.out|refine ai ?_ GE255.out)));(case side2=>exact HC0_2.out);(case side3=>exact Kd.aQ HR0_3.out (by with_reducible repeat(first|exact HB.out|apply af|apply aa|apply ae|refine ai ?_ GE253.out|refine ai ?_ GE254.out|refine ai ?_ GE255.out)));(case side4=>exact HC0_3.out);rintro e w12 ⟨v258,v261,rfl,ho0,ho1,hb⟩;refine⟨_,rfl,?_⟩;have HO259:=av (Kd.dB ho0 (ay (by with_reducible repeat(first|exact HB.out|apply af|apply aa|apply ae|refine ai ?_ GE253.out|refine ai ?_ GE254.out|refine ai ?_ GE255.out))));have HO262:=av (Kd.dB ho1 (ay (by with_reducible repeat(first|exact HB.out|apply af|apply aa|apply ae|refine ai ?_ GE253.out|refine ai ?_ GE254.out|refine ai ?_ GE255.out))));replace BK253:=av (aG (g:=gb253) (o:=.cells #[.int .i64 a0_0,.int .i64 a0_1,.slice A0_2 l0_2.length c0_2,.slice A0_3 l0_3.length c0_3,.slice A0_4 l0_4.length c0_4] 27 (0,0)) (by(with_reducible repeat(first|apply aj|apply au|apply ak));refine aU ?_ NB253_255.out _;(with_reducible repeat(first|apply aj|apply au|apply ak));exact BK253.out) hb);replace BK254:=av (aG (g:=gb254) (o:=.cells #[.int .i64 0,.int .i64 0,.slice none 0 0,.slice none 0 0,.slice none 0 0] 35 (0,0)) (by(with_reducible repeat(first|apply aj|apply au|apply ak));refine aU ?_ NB254_255.out _;(with_reducible repeat(first|apply aj|apply au|apply ak));exact BK254.out) hb);replace BK255:=av (aG (g:=gb255) (o:=.cells #[.int .i64 a0_0,.int .i64 0,.slice none 0 0,.slice none 0 0,.slice none 0 0] 35 (0,0)) (by(with_reducible repeat(first|apply aj|apply au|apply ak));refine aX (cs:=#[.int .i64 0,.int .i64 0,.slice none 0 0,.slice none 0 0,.slice none 0 0]) ?_ 0 _ rfl;(with_reducible repeat(first|apply aj|apply au|apply ak));exact BK255.out) hb);replace HB:=av (aA (by with_reducible repeat(first|exact HB.out|apply af|apply aa|apply ae|refine ai ?_ GE253.out|refine ai ?_ GE254.out|refine ai ?_ GE255.out)) hb);(try clear hb);(try clear hb2);(try clear hk);(try clear hi);(try clear ho0);(try clear ho1);have hcz13_0:w12.cell? ⟨gb255,0,none⟩=some (.int .i64 a0_0):=(ag BK255.out 0).trans rfl;have hcz13_1:w12.cell? ⟨gb255,1,none⟩=some (.int .i64 0):=(ag BK255.out 1).trans rfl;have hcz13_2:w12.cell? ⟨gb255,2,none⟩=some (.slice none 0 0):=(ag BK255.out 2).trans rfl;have hcz13_3:w12.cell? ⟨gb255,3,none⟩=some (.slice none 0 0):=(ag BK255.out 3).trans rfl;have hcz13_4:w12.cell? ⟨gb255,4,none⟩=some (.slice none 0 0):=(ag BK255.out 4).trans rfl;have hfz13_0:=ah BK255.out 0;have hfz13_1:=ah BK255.out 1;have hfz13_2:=ah BK255.out 2;have hfz13_3:=ah BK255.out 3;have hfz13_4:=ah BK255.out 4;obtain⟨Ao14,co14,eo14⟩:=Kd.cz HO259.out;subst eo14;obtain⟨Ao15,co15,eo15⟩:=Kd.cz HO262.out;subst eo15;have hcz16_0:w12.cell? ⟨gb253,0,none⟩=some (.int .i64 a0_0):=(ag BK253.out 0).trans rfl;have hcz16_1:w12.cell? ⟨gb253,1,none⟩=some (.int .i64 a0_1):=(ag BK253.out 1).trans rfl;have hcz16_2:w12.cell? ⟨gb253,2,none⟩=some (.slice A0_2 l0_2.length c0_2):=(ag BK253.out 2).trans rfl;have hcz16_3:w12.cell? ⟨gb253,3,none⟩=some (.slice A0_3 l0_3.length c0_3):=(ag BK253.out 3).trans rfl;have hcz16_4:w12.cell? ⟨gb253,4,none⟩=some (.slice A0_4 l0_4.length c0_4):=(ag BK253.out 4).trans rfl;have hfz16_0:=ah BK253.out 0;have hfz16_1:=ah BK253.out 1;have hfz16_2:=ah BK253.out 2;have hfz16_3:=ah BK253.out 3;have hfz16_4:=ah BK253.out 4)|((with_reducible refine aK (f:=16) rfl ?_);refine bn (some 13) rfl rfl Tryd.func16 (by kernel_rfl) rfl #[.slice A0_4 l0_4.length c0_4] rfl (by(try simp only[amp_]);first|done|rfl|(simp only[ald_];rfl)) ?_;(with_reducible refine(laws_toHeldS.calls k _ _ l0_4 t263 _ ?side1 ?side2 A3.out).mono ?_);(case side1=>exact Kd.aQ HR0_4.out (by with_reducible repeat(first|exact HB.out|apply af|apply aa|apply ae|refine ai ?_ GE253.out|refine ai ?_ GE254.out|refine ai ?_ GE255.out)));(case side2=>exact HC0_4.out);rintro e w17 ⟨v264,rfl,ho0,hb⟩;refine⟨_,rfl,?_⟩;replace HO259:=av (Kd.dx (by(with_reducible repeat(first|apply Kd.bf|apply Kd.bg|apply Kd.bi));exact(Kd.bT (Kd.bM (p:=⟨gb255,3,none⟩) (Kd.bM (p:=⟨gb255,2,none⟩) (Kd.bM (p:=⟨gb255,1,none⟩) (Kd.bZ HO259.out BK255.out (by decide)) (fun _ hk=>hk.2) (.int .i64 t256)) (fun _ hk=>hk.2) (.slice Ao14 t257.length co14)) (fun _ hk=>hk.2) (.slice Ao15 t260.length co15)) (fun _ h_=>h_.1))) hb);replace HO262:=av (Kd.dx (by(with_reducible repeat(first|apply Kd.bf|apply Kd.bg|apply Kd.bi));exact(Kd.bT (Kd.bM (p:=⟨gb255,3,none⟩) (Kd.bM (p:=⟨gb255,2,none⟩) (Kd.bM (p:=⟨gb255,1,none⟩) (Kd.bZ HO262.out BK255.out (by decide)) (fun _ hk=>hk.2) (.int .i64 t256)) (fun _ hk=>hk.2) (.slice Ao14 t257.length co14)) (fun _ hk=>hk.2) (.slice Ao15 t260.length co15)) (fun _ h_=>h_.1))) hb);have HO265:=av (Kd.lw ho0 (ay (by with_reducible repeat(first|exact HB.out|apply af|apply aa|apply ae|refine ai ?_ GE253.out|refine ai ?_ GE254.out|refine ai ?_ GE255.out))));replace BK253:=av (aG (g:=gb253) (o:=.cells #[.int .i64 a0_0,.int .i64 a0_1,.slice A0_2 l0_2.length c0_2,.slice A0_3 l0_3.length c0_3,.slice A0_4 l0_4.length c0_4] 27 (0,0)) (by(with_reducible repeat(first|apply aj|apply au|apply ak));refine aU ?_ NB253_255.out _;(with_reducible repeat(first|apply aj|apply au|apply ak));refine aU ?_ NB253_255.out _;(with_reducible repeat(first|apply aj|apply au|apply ak));refine aU ?_ NB253_255.out _;(with_reducible repeat(first|apply aj|apply au|apply ak));exact BK253.out) hb);replace BK254:=av (aG (g:=gb254) (o:=.cells #[.int .i64 0,.int .i64 0,.slice none 0 0,.slice none 0 0,.slice none 0 0] 35 (0,0)) (by(with_reducible repeat(first|apply aj|apply au|apply ak));refine aU ?_ NB254_255.out _;(with_reducible repeat(first|apply aj|apply au|apply ak));refine aU ?_ NB254_255.out _;(with_reducible repeat(first|apply aj|apply au|apply ak));refine aU ?_ NB254_255.out _;(with_reducible repeat(first|apply aj|apply au|apply ak));exact BK254.out) hb);replace BK255:=av (aG (g:=gb255) (o:=.cells #[.int .i64 a0_0,.int .i64 t256,.slice Ao14 t257.length co14,.slice Ao15 t260.length co15,.slice none 0 0] 35 (0,0)) (by(with_reducible repeat(first|apply aj|apply au|apply ak));refine aX (cs:=#[.int .i64 a0_0,.int .i64 t256,.slice Ao14 t257.length co14,.slice none 0 0,.slice none 0 0]) ?_ 3 _ rfl;(with_reducible repeat(first|apply aj|apply au|apply ak));refine aX (cs:=#[.int .i64 a0_0,.int .i64 t256,.slice none 0 0,.slice none 0 0,.slice none 0 0]) ?_ 2 _ rfl;(with_reducible repeat(first|apply aj|apply au|apply ak));refine aX (cs:=#[.int .i64 a0_0,.int .i64 0,.slice none 0 0,.slice none 0 0,.slice none 0 0]) ?_ 1 _ rfl;(with_reducible repeat(first|apply aj|apply au|apply ak));exact BK255.out) hb);replace HB:=av (aA (by with_reducible repeat(first|exact HB.out|apply af|apply aa|apply ae|refine ai ?_ GE253.out|refine ai ?_ GE254.out|refine ai ?_ GE255.out)) hb);(try clear hb);(try clear hb2);(try clear hk);(try clear hi);(try clear ho0);obtain⟨Ao18,co18,eo18⟩:=Kd.lK HO265.out;subst eo18;have hcz19_0:w17.cell? ⟨gb255,0,none⟩=some (.int .i64 a0_0):=(ag BK255.out 0).trans rfl;have hcz19_1:w17.cell? ⟨gb255,1,none⟩=some (.int .i64 t256):=(ag BK255.out 1).trans rfl;have hcz19_2:w17.cell? ⟨gb255,2,none⟩=some (.slice Ao14 t257.length co14):=(ag BK255.out 2).trans rfl;have hcz19_3:w17.cell? ⟨gb255,3,none⟩=some (.slice Ao15 t260.length co15):=(ag BK255.out 3).trans rfl;have hcz19_4:w17.cell? ⟨gb255,4,none⟩=some (.slice none 0 0):=(ag BK255.out 4).trans rfl;have hfz19_0:=ah BK255.out 0;have hfz19_1:=ah BK255.out 1;have hfz19_2:=ah BK255.out 2;have hfz19_3:=ah BK255.out 3;have hfz19_4:=ah BK255.out 4;have hcz20_0:w17.cell? ⟨gb254,0,none⟩=some (.int .i64 0):=(ag BK254.out 0).trans rfl;have hcz20_1:w17.cell? ⟨gb254,1,none⟩=some (.int .i64 0):=(ag BK254.out 1).trans rfl;have hcz20_2:w17.cell? ⟨gb254,2,none⟩=some (.slice none 0 0):=(ag BK254.out 2).trans rfl;have hcz20_3:w17.cell? ⟨gb254,3,none⟩=some (.slice none 0 0):=(ag BK254.out 3).trans rfl;have hcz20_4:w17.cell? ⟨gb254,4,none⟩=some (.slice none 0 0):=(ag BK254.out 4).trans rfl;have hfz20_0:=ah BK254.out 0;have hfz20_1:=ah BK254.out 1;have hfz20_2:=ah BK254.out 2;have hfz20_3:=ah BK254.out 3;have hfz20_4:=ah BK254.out 4))
 refine bodyPost_ret (results_cell_row rfl _ _ gb254 35 #[.int .i64 a0_0,.int .i64 t256,.slice Ao14 t257.length co14,.slice Ao15 t260.length co15,.slice Ao18 t263.length co18] (0,0) _ rfl (by(with_reducible repeat(first|apply aj|apply au|apply ak));refine aX (cs:=#[.int .i64 a0_0,.int .i64 t256,.slice Ao14 t257.length co14,.slice Ao15 t260.length co15,.slice none 0 0]) ?_ 4 _ rfl;(with_reducible repeat(first|apply aj|apply au|apply ak));refine aX (cs:=#[.int .i64 a0_0,.int .i64 t256,.slice Ao14 t257.length co14,.slice none 0 0,.slice none 0 0]) ?_ 3 _ rfl;(with_reducible repeat(first|apply aj|apply au|apply ak));refine aX (cs:=#[.int .i64 a0_0,.int .i64 t256,.slice none 0 0,.slice none 0 0,.slice none 0 0]) ?_ 2 _ rfl;(with_reducible repeat(first|apply aj|apply au|apply ak));refine aX (cs:=#[.int .i64 a0_0,.int .i64 0,.slice none 0 0,.slice none 0 0,.slice none 0 0]) ?_ 1 _ rfl;(with_reducible repeat(first|apply aj|apply au|apply ak));refine aX (cs:=#[.int .i64 0,.int .i64 0,.slice none 0 0,.slice none 0 0,.slice none 0 0]) ?_ 0 _ rfl;(with_reducible repeat(first|apply aj|apply au|apply ak));refine aU ?_ NB254_255.out _;(with_reducible repeat(first|apply aj|apply au|apply ak));exact BK254.out) Tryd.underlying35 rfl (by kernel_rfl)) rfl ?_
 exact⟨_,_,_,by first|rfl|(simp <;> rfl)|(simp[*] <;> rfl),by(with_reducible repeat(first|apply Kd.bf|apply Kd.bg|apply Kd.bi));exact Kd.bT (Kd.bM (p:=⟨gb254,4,none⟩) (Kd.bM (p:=⟨gb254,3,none⟩) (Kd.bM (p:=⟨gb254,2,none⟩) (Kd.bM (p:=⟨gb254,1,none⟩) (Kd.bM (p:=⟨gb254,0,none⟩) (Kd.bM (p:=⟨gb255,4,none⟩) (Kd.bZ (Kd.bZ HO259.out BK255.out (by decide)) BK254.out (by decide)) (fun _ hk=>hk.1.2) (.slice Ao18 t263.length co18)) (fun _ hk=>hk.2) (.int .i64 a0_0)) (fun _ hk=>hk.2) (.int .i64 t256)) (fun _ hk=>hk.2) (.slice Ao14 t257.length co14)) (fun _ hk=>hk.2) (.slice Ao15 t260.length co15)) (fun _ hk=>hk.2) (.slice Ao18 t263.length co18)) (fun _ hk=>hk.1.1),by(with_reducible repeat(first|apply Kd.bf|apply Kd.bg|apply Kd.bi));exact Kd.bT (Kd.bM (p:=⟨gb254,4,none⟩) (Kd.bM (p:=⟨gb254,3,none⟩) (Kd.bM (p:=⟨gb254,2,none⟩) (Kd.bM (p:=⟨gb254,1,none⟩) (Kd.bM (p:=⟨gb254,0,none⟩) (Kd.bM (p:=⟨gb255,4,none⟩) (Kd.bZ (Kd.bZ HO262.out BK255.out (by decide)) BK254.out (by decide)) (fun _ hk=>hk.1.2) (.slice Ao18 t263.length co18)) (fun _ hk=>hk.2) (.int .i64 a0_0)) (fun _ hk=>hk.2) (.int .i64 t256)) (fun _ hk=>hk.2) (.slice Ao14 t257.length co14)) (fun _ hk=>hk.2) (.slice Ao15 t260.length co15)) (fun _ hk=>hk.2) (.slice Ao18 t263.length co18)) (fun _ hk=>hk.1.1),by(with_reducible repeat(first|apply Kd.fJ|apply Kd.fI|apply Kd.gG));exact Kd.jT (Kd.ja (p:=⟨gb254,4,none⟩) (Kd.ja (p:=⟨gb254,3,none⟩) (Kd.ja (p:=⟨gb254,2,none⟩) (Kd.ja (p:=⟨gb254,1,none⟩) (Kd.ja (p:=⟨gb254,0,none⟩) (Kd.ja (p:=⟨gb255,4,none⟩) (Kd.lM (Kd.lM HO265.out BK255.out (by decide)) BK254.out (by decide)) (fun _ hk=>hk.1.2) (.slice Ao18 t263.length co18)) (fun _ hk=>hk.2) (.int .i64 a0_0)) (fun _ hk=>hk.2) (.int .i64 t256)) (fun _ hk=>hk.2) (.slice Ao14 t257.length co14)) (fun _ hk=>hk.2) (.slice Ao15 t260.length co15)) (fun _ hk=>hk.2) (.slice Ao18 t263.length co18)) (fun _ hk=>trivial),by with_reducible repeat(first|exact HB.out|apply af|apply aa|apply ae|refine ai ?_ GE253.out|refine ai ?_ GE254.out|refine ai ?_ GE255.out)⟩
attribute [local go_sem] bG bF bQ bR bB bC bH bE
set_option linter.unusedVariables false
set_option linter.unusedSimpArgs false
def spec_l1In.f (a0:Int) (a1:Int) (a2:Int):Option (Bool):=if a0≥a1 then (some (decide (a0≤a2))) else (some false)
set_option maxHeartbeats 8000000 in
set_option maxRecDepth 100000 in
theorem spec_l1In.calls (a0:Int) (a1:Int) (a2:Int) (r:Bool) (w:World) (h:spec_l1In.f a0 a1 a2=some r) :
  Calls Tryd.prog 12 #[.int .i64 a0,.int .i64 a1,.int .i64 a2] w fun e w'=>e = .returned (.bool r)∧Drawn0 w w':=by
 have H:(if a0≥a1 then (some (decide (a0≤a2))) else (some false))=some r:=h
 clear h
 by_cases c4:a0≥a1
 ·rw[if_pos c4] at H
  have c4b0:decide (a1≤a0)=true:=decide_eq_true c4
  clear c4
  obtain rfl:=Option.some.inj H
  go_enter Tryd.func12,Tryd.ntmps12
  go_wp2
  go_ret
  exact⟨by first|rfl|(simp;done)|(simp[*];done),by repeat(first|exact Drawn0.refl _|apply Drawn0.step)⟩
 ·rw[if_neg c4] at H
  have c4b0:decide (a1≤a0)=false:=decide_eq_false c4
  clear c4
  obtain rfl:=Option.some.inj H
  go_enter Tryd.func12,Tryd.ntmps12
  go_wp2
  go_ret
  exact⟨by first|rfl|(simp;done)|(simp[*];done),by repeat(first|exact Drawn0.refl _|apply Drawn0.step)⟩
def impl_within.f (a0:Int) (a1:Int) (a2:Int):Option (Bool):=if a0≥a1 then (some (decide (a0≤a2))) else (some false)
set_option maxHeartbeats 8000000 in
set_option maxRecDepth 100000 in
theorem impl_within.calls (a0:Int) (a1:Int) (a2:Int) (r:Bool) (w:World) (h:impl_within.f a0 a1 a2=some r) :
  Calls Tryd.prog 18 #[.int .i64 a0,.int .i64 a1,.int .i64 a2] w fun e w'=>e = .returned (.bool r)∧Drawn0 w w':=by
 have H:(if a0≥a1 then (some (decide (a0≤a2))) else (some false))=some r:=h
 clear h
 by_cases c4:a0≥a1
 ·rw[if_pos c4] at H
  have c4b0:decide (a1≤a0)=true:=decide_eq_true c4
  clear c4
  obtain rfl:=Option.some.inj H
  go_enter Tryd.func18,Tryd.ntmps18
  go_wp2
  go_ret
  exact⟨by first|rfl|(simp;done)|(simp[*];done),by repeat(first|exact Drawn0.refl _|apply Drawn0.step)⟩
 ·rw[if_neg c4] at H
  have c4b0:decide (a1≤a0)=false:=decide_eq_false c4
  clear c4
  obtain rfl:=Option.some.inj H
  go_enter Tryd.func18,Tryd.ntmps18
  go_wp2
  go_ret
  exact⟨by first|rfl|(simp;done)|(simp[*];done),by repeat(first|exact Drawn0.refl _|apply Drawn0.step)⟩
attribute [local go_sem] bG bF bQ bR bB bC bH bE
set_option linter.unusedVariables false
set_option linter.unusedSimpArgs false
def spec_l5Less.f (a0_0:Int) (a0_1:Int) (a1_0:Int) (a1_1:Int):Option (Bool):=if a0_1<a1_1 then (some true) else (if a0_1=a1_1 then (some (decide (a0_0<a1_0))) else (some false))
set_option maxHeartbeats 8000000 in
set_option maxRecDepth 100000 in
theorem spec_l5Less.calls (a0_0:Int) (a0_1:Int) (a1_0:Int) (a1_1:Int) (r:Bool) (w:World) (h:spec_l5Less.f a0_0 a0_1 a1_0 a1_1=some r) :
  Calls Tryd.prog 41 #[.agg #[.int .i64 a0_0,.int .i64 a0_1],.agg #[.int .i64 a1_0,.int .i64 a1_1]] w fun e w'=>e = .returned (.bool r)∧Below w.heap.size w w':=by
 have hu72:=Tryd.underlying72
 have HB:=av (Below.refl w.heap.size w)
 have H:(if a0_1<a1_1 then (some true) else (if a0_1=a1_1 then (some (decide (a0_0<a1_0))) else (some false)))=some r:=h
 clear h
 by_cases c3:a0_1<a1_1
 ·rw[if_pos c3] at H
  have c3b0:decide (a0_1<a1_1)=true:=decide_eq_true c3
  clear c3
  obtain rfl:=Option.some.inj H
  go_enter Tryd.func41,Tryd.ntmps41
  go_wp2_with (first|((with_reducible refine aJ (N:=2) rfl ?_);refine aI ?hg (N:=2) ?hd (cs:=#[.int .i64 a0_0,.int .i64 a0_1]) (t:=72) ?hr ?_;(case hd=>rfl);(case hg=>rfl);(case hr=>first|(go_simp;done)|(go_simp;rfl));intro gb120 hg w4 hbox hb;have BK120:=av (hbox);have GW120:=av ((by rw[hg];exact(ay (by with_reducible repeat(first|exact HB.out|apply af|apply aa|apply ae))):w.heap.size≤gb120));have GE120:=av ((by rw[hg];exact(ay (by with_reducible repeat(first|exact HB.out|apply af|apply aa|apply ae))):w.heap.size≤gb120));replace HB:=av (aA (by with_reducible repeat(first|exact HB.out|apply af|apply aa|apply ae)) hb);clear hb hbox hg)|((with_reducible refine aJ (N:=3) rfl ?_);refine aI ?hg (N:=3) ?hd (cs:=#[.int .i64 a1_0,.int .i64 a1_1]) (t:=72) ?hr ?_;(case hd=>rfl);(case hg=>rfl);(case hr=>first|(go_simp;done)|(go_simp;rfl));intro gb121 hg w5 hbox hb;have BK121:=av (hbox);have GW121:=av ((by rw[hg];exact(ay (by with_reducible repeat(first|exact HB.out|apply af|apply aa|apply ae|refine ai ?_ GE120.out))):w.heap.size≤gb121));have GE121:=av ((by rw[hg];exact(ay (by with_reducible repeat(first|exact HB.out|apply af|apply aa|apply ae|refine ai ?_ GE120.out))):w.heap.size≤gb121));replace HB:=av (aA (by with_reducible repeat(first|exact HB.out|apply af|apply aa|apply ae|refine ai ?_ GE120.out)) hb);have NB120_121:=av ((by rw[hg];exact Nat.ne_of_lt (aN (g:=gb120) (o:=.cells #[.int .i64 a0_0,.int .i64 a0_1] 72 (0,0)) (by(with_reducible repeat(first|apply aj|apply au|apply ak));exact BK120.out)):gb120≠gb121));have NB121_120:=av ((by rw[hg];exact Nat.ne_of_gt (aN (g:=gb120) (o:=.cells #[.int .i64 a0_0,.int .i64 a0_1] 72 (0,0)) (by(with_reducible repeat(first|apply aj|apply au|apply ak));exact BK120.out)):gb121≠gb120));replace BK120:=av (aG (g:=gb120) (o:=.cells #[.int .i64 a0_0,.int .i64 a0_1] 72 (0,0)) (by(with_reducible repeat(first|apply aj|apply au|apply ak));exact BK120.out) hb);clear hb hbox hg;have hnb6:=NB120_121.out;have hnc6:=NB121_120.out;have hcz7_0:w5.cell? ⟨gb120,0,none⟩=some (.int .i64 a0_0):=(ag BK120.out 0).trans rfl;have hcz7_1:w5.cell? ⟨gb120,1,none⟩=some (.int .i64 a0_1):=(ag BK120.out 1).trans rfl;have hfz7_0:=ah BK120.out 0;have hfz7_1:=ah BK120.out 1;have hcz8_0:w5.cell? ⟨gb121,0,none⟩=some (.int .i64 a1_0):=(ag BK121.out 0).trans rfl;have hcz8_1:w5.cell? ⟨gb121,1,none⟩=some (.int .i64 a1_1):=(ag BK121.out 1).trans rfl;have hfz8_0:=ah BK121.out 0;have hfz8_1:=ah BK121.out 1))
  go_ret
  exact⟨by first|rfl|(simp <;> rfl)|(simp[*] <;> rfl),by with_reducible repeat(first|exact HB.out|apply af|apply aa|apply ae|refine ai ?_ GE120.out|refine ai ?_ GE121.out)⟩
 ·rw[if_neg c3] at H
  have c3b0:decide (a0_1<a1_1)=false:=decide_eq_false c3
  clear c3
  by_cases c9:a0_1=a1_1
  ·rw[if_pos c9] at H
   have c9b0:(a0_1 == a1_1)=true:=beq_iff_eq.mpr c9
   have c9b1:(a0_1 != a1_1)=false:=bne_eq_false_iff_eq.mpr c9
   clear c9
   obtain rfl:=Option.some.inj H
   go_enter Tryd.func41,Tryd.ntmps41
   go_wp2_with (first|((with_reducible refine aJ (N:=2) rfl ?_);refine aI ?hg (N:=2) ?hd (cs:=#[.int .i64 a0_0,.int .i64 a0_1]) (t:=72) ?hr ?_;(case hd=>rfl);(case hg=>rfl);(case hr=>first|(go_simp;done)|(go_simp;rfl));intro gb120 hg w10 hbox hb;have BK120:=av (hbox);have GW120:=av ((by rw[hg];exact(ay (by with_reducible repeat(first|exact HB.out|apply af|apply aa|apply ae))):w.heap.size≤gb120));have GE120:=av ((by rw[hg];exact(ay (by with_reducible repeat(first|exact HB.out|apply af|apply aa|apply ae))):w.heap.size≤gb120));replace HB:=av (aA (by with_reducible repeat(first|exact HB.out|apply af|apply aa|apply ae)) hb);clear hb hbox hg)|((with_reducible refine aJ (N:=3) rfl ?_);refine aI ?hg (N:=3) ?hd (cs:=#[.int .i64 a1_0,.int .i64 a1_1]) (t:=72) ?hr ?_;(case hd=>rfl);(case hg=>rfl);(case hr=>first|(go_simp;done)|(go_simp;rfl));intro gb121 hg w11 hbox hb;have BK121:=av (hbox);have GW121:=av ((by rw[hg];exact(ay (by with_reducible repeat(first|exact HB.out|apply af|apply aa|apply ae|refine ai ?_ GE120.out))):w.heap.size≤gb121));have GE121:=av ((by rw[hg];exact(ay (by with_reducible repeat(first|exact HB.out|apply af|apply aa|apply ae|refine ai ?_ GE120.out))):w.heap.size≤gb121));replace HB:=av (aA (by with_reducible repeat(first|exact HB.out|apply af|apply aa|apply ae|refine ai ?_ GE120.out)) hb);have NB120_121:=av ((by rw[hg];exact Nat.ne_of_lt (aN (g:=gb120) (o:=.cells #[.int .i64 a0_0,.int .i64 a0_1] 72 (0,0)) (by(with_reducible repeat(first|apply aj|apply au|apply ak));exact BK120.out)):gb120≠gb121));have NB121_120:=av ((by rw[hg];exact Nat.ne_of_gt (aN (g:=gb120) (o:=.cells #[.int .i64 a0_0,.int .i64 a0_1] 72 (0,0)) (by(with_reducible repeat(first|apply aj|apply au|apply ak));exact BK120.out)):gb121≠gb120));replace BK120:=av (aG (g:=gb120) (o:=.cells #[.int .i64 a0_0,.int .i64 a0_1] 72 (0,0)) (by(with_reducible repeat(first|apply aj|apply au|apply ak));exact BK120.out) hb);clear hb hbox hg;have hnb12:=NB120_121.out;have hnc12:=NB121_120.out;have hcz13_0:w11.cell? ⟨gb120,0,none⟩=some (.int .i64 a0_0):=(ag BK120.out 0).trans rfl;have hcz13_1:w11.cell? ⟨gb120,1,none⟩=some (.int .i64 a0_1):=(ag BK120.out 1).trans rfl;have hfz13_0:=ah BK120.out 0;have hfz13_1:=ah BK120.out 1;have hcz14_0:w11.cell? ⟨gb121,0,none⟩=some (.int .i64 a1_0):=(ag BK121.out 0).trans rfl;have hcz14_1:w11.cell? ⟨gb121,1,none⟩=some (.int .i64 a1_1):=(ag BK121.out 1).trans rfl;have hfz14_0:=ah BK121.out 0;have hfz14_1:=ah BK121.out 1))
   go_ret
   exact⟨by first|rfl|(simp <;> rfl)|(simp[*] <;> rfl),by with_reducible repeat(first|exact HB.out|apply af|apply aa|apply ae|refine ai ?_ GE120.out|refine ai ?_ GE121.out)⟩
  ·rw[if_neg c9] at H
   have c9b0:(a0_1 == a1_1)=false:=beq_eq_false_iff_ne.mpr c9
   have c9b1:(a0_1 != a1_1)=true:=bne_iff_ne.mpr c9
   obtain rfl:=Option.some.inj H
   go_enter Tryd.func41,Tryd.ntmps41
   go_wp2_with (first|((with_reducible refine aJ (N:=2) rfl ?_);refine aI ?hg (N:=2) ?hd (cs:=#[.int .i64 a0_0,.int .i64 a0_1]) (t:=72) ?hr ?_;(case hd=>rfl);(case hg=>rfl);(case hr=>first|(go_simp;done)|(go_simp;rfl));intro gb120 hg w15 hbox hb;have BK120:=av (hbox);have GW120:=av ((by rw[hg];exact(ay (by with_reducible repeat(first|exact HB.out|apply af|apply aa|apply ae))):w.heap.size≤gb120));have GE120:=av ((by rw[hg];exact(ay (by with_reducible repeat(first|exact HB.out|apply af|apply aa|apply ae))):w.heap.size≤gb120));replace HB:=av (aA (by with_reducible repeat(first|exact HB.out|apply af|apply aa|apply ae)) hb);clear hb hbox hg)|((with_reducible refine aJ (N:=3) rfl ?_);refine aI ?hg (N:=3) ?hd (cs:=#[.int .i64 a1_0,.int .i64 a1_1]) (t:=72) ?hr ?_;(case hd=>rfl);(case hg=>rfl);(case hr=>first|(go_simp;done)|(go_simp;rfl));intro gb121 hg w16 hbox hb;have BK121:=av (hbox);have GW121:=av ((by rw[hg];exact(ay (by with_reducible repeat(first|exact HB.out|apply af|apply aa|apply ae|refine ai ?_ GE120.out))):w.heap.size≤gb121));have GE121:=av ((by rw[hg];exact(ay (by with_reducible repeat(first|exact HB.out|apply af|apply aa|apply ae|refine ai ?_ GE120.out))):w.heap.size≤gb121));replace HB:=av (aA (by with_reducible repeat(first|exact HB.out|apply af|apply aa|apply ae|refine ai ?_ GE120.out)) hb);have NB120_121:=av ((by rw[hg];exact Nat.ne_of_lt (aN (g:=gb120) (o:=.cells #[.int .i64 a0_0,.int .i64 a0_1] 72 (0,0)) (by(with_reducible repeat(first|apply aj|apply au|apply ak));exact BK120.out)):gb120≠gb121));have NB121_120:=av ((by rw[hg];exact Nat.ne_of_gt (aN (g:=gb120) (o:=.cells #[.int .i64 a0_0,.int .i64 a0_1] 72 (0,0)) (by(with_reducible repeat(first|apply aj|apply au|apply ak));exact BK120.out)):gb121≠gb120));replace BK120:=av (aG (g:=gb120) (o:=.cells #[.int .i64 a0_0,.int .i64 a0_1] 72 (0,0)) (by(with_reducible repeat(first|apply aj|apply au|apply ak));exact BK120.out) hb);clear hb hbox hg;have hnb17:=NB120_121.out;have hnc17:=NB121_120.out;have hcz18_0:w16.cell? ⟨gb120,0,none⟩=some (.int .i64 a0_0):=(ag BK120.out 0).trans rfl;have hcz18_1:w16.cell? ⟨gb120,1,none⟩=some (.int .i64 a0_1):=(ag BK120.out 1).trans rfl;have hfz18_0:=ah BK120.out 0;have hfz18_1:=ah BK120.out 1;have hcz19_0:w16.cell? ⟨gb121,0,none⟩=some (.int .i64 a1_0):=(ag BK121.out 0).trans rfl;have hcz19_1:w16.cell? ⟨gb121,1,none⟩=some (.int .i64 a1_1):=(ag BK121.out 1).trans rfl;have hfz19_0:=ah BK121.out 0;have hfz19_1:=ah BK121.out 1))
   go_ret
   exact⟨by first|rfl|(simp <;> rfl)|(simp[*] <;> rfl),by with_reducible repeat(first|exact HB.out|apply af|apply aa|apply ae|refine ai ?_ GE120.out|refine ai ?_ GE121.out)⟩
attribute [local go_sem] bG bF bQ bR bB bC bH bE
set_option linter.unusedVariables false
set_option linter.unusedSimpArgs false
mutual
def spec_l5BySize.l0:Nat→List (S72)→List (S72)→Int→Int→Option ((List (S72)))
 | 0,_,_,_,_=>none
 | k+1,x3,x8,x9,x10=>if x10<x9 then (if 0≤x10 then (if x10 < (x8.length:Int) then (spec_l5BySize.l1 k x3 0 x8 x9 x10 ((aH x8 x10).f0) ((aH x8 x10).f1)) else (none)) else (none)) else (some x3)
def spec_l5BySize.l1:Nat→List (S72)→Int→List (S72)→Int→Int→Int→Int→Option ((List (S72)))
 | 0,_,_,_,_,_,_,_=>none
 | k+1,x3,x6,x8,x9,x10,x124000,x124001=>if x6 < (x3.length:Int) then (if 0≤x6 then ((spec_l5Less.f ((aH x3 x6).f0) ((aH x3 x6).f1) x124000 x124001).bind fun t125=>(if t125=true then (spec_l5BySize.l1 k x3 (wrap64 (x6+1)) x8 x9 x10 x124000 x124001) else (if x6≤(x3.length:Int) then ((some (x3.take (x6:Int).toNat:List (S72))).bind fun y126=>(if ([]:List (S72)).length+y126.length<8796093022208 then ((some (([]:List (S72))++y126:List (S72))).bind fun y130=>(if y130.length<8796093022208 then ((some (y130++[(⟨x124000,x124001⟩:S72)]:List (S72))).bind fun y133=>((some (x3.drop (x6:Int).toNat:List (S72))).bind fun y136=>(if y133.length+y136.length<8796093022208 then (spec_l5BySize.l0 k (y133++y136) x8 x9 (wrap64 (x10+1))) else (none)))) else (none))) else (none))) else (none)))) else (none)) else (if 0≤x6 then (if x6≤(x3.length:Int) then ((some (x3.take (x6:Int).toNat:List (S72))).bind fun y143=>(if ([]:List (S72)).length+y143.length<8796093022208 then ((some (([]:List (S72))++y143:List (S72))).bind fun y147=>(if y147.length<8796093022208 then ((some (y147++[(⟨x124000,x124001⟩:S72)]:List (S72))).bind fun y150=>((some (x3.drop (x6:Int).toNat:List (S72))).bind fun y153=>(if y150.length+y153.length<8796093022208 then (spec_l5BySize.l0 k (y150++y153) x8 x9 (wrap64 (x10+1))) else (none)))) else (none))) else (none))) else (none)) else (none))
end
def spec_l5BySize.f (k:Nat) (l0:List (S72)):Option ((List (S72))):=spec_l5BySize.l0 k ([]:List (S72)) l0 (l0.length:Int) 0
def spec_l5BySize.T6:Bool×List (List Nat×List Nat):=(true,[([],[]),([],[]),([1],[1]),([0,2],[0,2]),([3],[3]),([4],[4]),([4],[4]),([5,6,4],[4,5,6]),([7,4],[4,7]),([4],[4]),([8,9,4,4],[4,8,9]),([4,10],[4,10])])
def spec_l5BySize.B6:List Nat:=[0,0,2,7,15,31,31,127,255,31,1023,2047]
theorem spec_l5BySize.tab6:dR .any (opsOf Tryd.f26 6)=spec_l5BySize.T6:=by kernel_rfl
theorem spec_l5BySize.bits6:dH spec_l5BySize.T6.2 spec_l5BySize.B6=true:=by kernel_rfl
set_option maxHeartbeats 8000000 in
set_option maxRecDepth 100000 in
theorem spec_l5BySize.calls (k : Nat) (A0 : Option Addr) (c0 : Nat) (l0 : List (S72)) (r : List (S72)) (w : World) (hr0 : Kd.C k72 w A0 l0.length l0) (hc0 : l0.length ≤ c0) (h : spec_l5BySize.f k l0 = some r) :
  Calls Tryd.prog 26 #[.slice A0 l0.length c0] w fun e w'=>∃ v0_:Value,e = .returned (v0_)∧Kd.R k72 72 w' w.heap.size (fun _=>True) v0_ r∧Below w.heap.size w w':=by
 have hu72:=Tryd.underlying72
 have HR0:=av hr0
 have HC0:=av hc0
 clear hr0 hc0
 have HB:=av (Below.refl w.heap.size w)
 have H:(spec_l5BySize.l0 k ([]:List (S72)) l0 (l0.length:Int) 0)=some r:=h
 clear h
 have H':=av H
 clear H
 go_enter Tryd.func26,Tryd.ntmps26
 go_wp2
 go_loopg [3,10] k (fun kq v3 v10 w'=>∃ (x3_1:List (S72)) (x10_1:Int),v10 = .int .i64 x10_1∧Aside0 (spec_l5BySize.l0 kq x3_1 l0 (l0.length:Int) x10_1=some r)∧Aside0 (kq≤k)∧Aside0 (Kd.R k72 72 w' w.heap.size (fun _=>True) v3 x3_1)∧Aside0 (Below w.heap.size w w'))
 case atStart=>exact⟨(([]:List (S72))),(0),(by first|rfl|(simp;done)|(simp[*];done)),H',⟨Nat.le_refl _⟩,⟨by first|exact Kd.gV _ _ _ _ _|exact Kd.N_nil _ _ _ _ _|exact Kd.V_nil _ _ _ _ _|exact Kd.Q_nil _ _ _ _ _|exact Kd.S_nil _ _ _ _ _⟩,⟨by with_reducible repeat(first|exact HB.out|apply af|apply aa|apply ae)⟩⟩
 case round =>
  clear H'
  obtain⟨x3_1,x10_1,rfl,HA,HK1,HO_3,HB⟩:=hrel
  cases gk with
  | zero=>exact absurd HA.out (by simp[spec_l5BySize.l0])
  | succ k1 =>
   have H:=HA.out
   clear HA
   simp only[spec_l5BySize.l0] at H
   by_cases c2:x10_1 < (l0.length:Int)
   ·rw [if_pos c2] at H
    have c2b0:decide (x10_1 < (l0.length:Int))=true:=decide_eq_true c2
    clear c2
    by_cases c3:0≤x10_1
    ·rw [if_pos c3] at H
     have c3b0:decide (0≤x10_1)=true:=decide_eq_true c3
     clear c3
     by_cases c4:x10_1 < (l0.length:Int)
     ·rw [if_pos c4] at H
      have c4b0:decide (x10_1 < (l0.length:Int))=true:=decide_eq_true c4
      clear c4
      have H':=av H
      clear H
      have p122:0≤(x10_1:Int):=of_decide_eq_true (by assumption)
      have q122:x10_1 < (l0.length:Int):=of_decide_eq_true (by assumption)
      obtain⟨ad122,e122,hx122_0,hx122_1⟩:=bI HR0.out x10_1 p122 q122
      cases e122
      replace hx122_0:=(HB.out.cell (World.block_lt_of_cell? w _ hx122_0)).trans hx122_0
      replace hx122_1:=(HB.out.cell (World.block_lt_of_cell? w _ hx122_1)).trans hx122_1
      replace p122:=eq_true p122
      replace q122:=eq_true q122
      go_wp2_with (first|((with_reducible refine aJ (N:=5) rfl ?_);refine aI ?hg (N:=5) ?hd (cs:=#[.int .i64 0,.int .i64 0]) (t:=72) ?hr ?_;(case hd=>rfl);(case hg=>rfl);(case hr=>first|(go_simp;done)|(go_simp;rfl));intro gb123 hg w5 hbox hb;replace HO_3:=av (Kd.dx (Kd.mD (by(with_reducible repeat(first|apply Kd.bf|apply Kd.bg|apply Kd.bi));exact HO_3.out) gb123 (Nat.le_of_eq hg.symm)) hb);have BK123:=av (hbox);have GW123:=av ((by rw[hg];exact(ay (by with_reducible repeat(first|exact HB.out|apply af|apply aa|apply ae))):w.heap.size≤gb123));have GE123:=av ((by rw[hg];exact(ay (by with_reducible repeat(first|exact HB.out|apply af|apply aa|apply ae))):w.heap.size≤gb123));replace HB:=av (aA (by with_reducible repeat(first|exact HB.out|apply af|apply aa|apply ae)) hb);clear hb hbox hg;have hcz6_0:w5.cell? ⟨gb123,0,none⟩=some (.int .i64 0):=(ag BK123.out 0).trans rfl;have hcz6_1:w5.cell? ⟨gb123,1,none⟩=some (.int .i64 0):=(ag BK123.out 1).trans rfl;have hfz6_0:=ah BK123.out 0;have hfz6_1:=ah BK123.out 1))
      go_loopg [6] k1 (fun kq v6 w'=>∃ (x6_2:Int),v6 = .int .i64 x6_2∧Aside0 (spec_l5BySize.l1 kq x3_1 x6_2 l0 (l0.length:Int) x10_1 ((aH l0 x10_1).f0) ((aH l0 x10_1).f1)=some r)∧Aside0 (kq≤k1)∧Aside0 (Kd.R k72 72 w' w.heap.size (fun k_=>k_≠gb123) u3 x3_1)∧Aside0 (w'.heap[gb123]? = some (.cells #[.int .i64 ((aH l0 x10_1).f0),.int .i64 ((aH l0 x10_1).f1)] 72 (0,0)))∧Aside0 (Below w.heap.size w w'))
      case atStart=>exact⟨(0),(by first|rfl|(simp;done)|(simp[*];done)),H',⟨Nat.le_refl _⟩,⟨by(with_reducible repeat(first|apply Kd.bf|apply Kd.bg|apply Kd.bi));exact Kd.bT (Kd.bM (p:=⟨gb123,1,none⟩) (Kd.bM (p:=⟨gb123,0,none⟩) (Kd.bT HO_3.out (fun k_ hk=>(⟨hk,hk.2⟩:_∧k_≠gb123))) (fun _ hk=>hk.2) (.int .i64 ((aH l0 x10_1).f0))) (fun _ hk=>hk.2) (.int .i64 ((aH l0 x10_1).f1))) (fun _ hk=>hk.1.2)⟩,⟨by(with_reducible repeat(first|apply aj|apply au|apply ak));refine aX (cs:=#[.int .i64 ((aH l0 x10_1).f0),.int .i64 0]) ?_ 1 _ rfl;(with_reducible repeat(first|apply aj|apply au|apply ak));refine aX (cs:=#[.int .i64 0,.int .i64 0]) ?_ 0 _ rfl;(with_reducible repeat(first|apply aj|apply au|apply ak));exact BK123.out⟩,⟨by with_reducible repeat(first|exact HB.out|apply af|apply aa|apply ae|refine ai ?_ GE123.out)⟩⟩
      case round =>
       clear H'
       try clear p1
       try clear q1
       try clear hx1
       try clear c2
       try clear c2b0
       try clear p2
       try clear c3
       try clear c3b0
       try clear c4
       try clear c4b0
       try clear hcz6_0
       try clear hcz6_1
       try clear hfz6_0
       try clear hfz6_1
       try clear hx122_0
       try clear hx122_1
       try clear p122
       try clear q122
       obtain⟨x6_2,rfl,HA,HK2,HO_3,BK123,HB⟩:=hrel
       cases gk with
       | zero=>exact absurd HA.out (by simp[spec_l5BySize.l1])
       | succ k2 =>
        have H:=HA.out
        clear HA
        simp only[spec_l5BySize.l1] at H
        by_cases c7:x6_2 < (x3_1.length:Int)
        ·rw [if_pos c7] at H
         have c7b0:decide (x6_2 < (x3_1.length:Int))=true:=decide_eq_true c7
         clear c7
         by_cases c8:0≤x6_2
         ·rw [if_pos c8] at H
          have c8b0:decide (0≤x6_2)=true:=decide_eq_true c8
          clear c8
          replace H:=Option.bind_eq_some_iff.mp H
          obtain⟨t125,A90,H⟩:=H
          replace H:(if t125=true then (spec_l5BySize.l1 k2 x3_1 (wrap64 (x6_2+1)) l0 (l0.length:Int) x10_1 ((aH l0 x10_1).f0) ((aH l0 x10_1).f1)) else (if x6_2≤(x3_1.length:Int) then ((some (x3_1.take (x6_2:Int).toNat:List (S72))).bind fun y126=>(if ([]:List (S72)).length+y126.length<8796093022208 then ((some (([]:List (S72))++y126:List (S72))).bind fun y130=>(if y130.length<8796093022208 then ((some (y130++[(⟨((aH l0 x10_1).f0),((aH l0 x10_1).f1)⟩:S72)]:List (S72))).bind fun y133=>((some (x3_1.drop (x6_2:Int).toNat:List (S72))).bind fun y136=>(if y133.length+y136.length<8796093022208 then (spec_l5BySize.l0 k2 (y133++y136) l0 (l0.length:Int) (wrap64 (x10_1+1))) else (none)))) else (none))) else (none))) else (none)))=some r:=H
          have A9:=av A90
          clear A90
          by_cases c10:t125=true
          ·subst c10
           have H1:(spec_l5BySize.l1 k2 x3_1 (wrap64 (x6_2+1)) l0 (l0.length:Int) x10_1 ((aH l0 x10_1).f0) ((aH l0 x10_1).f1))=some r:=by rw[if_pos rfl] at H;exact H
           clear H
           have H:=H1
           clear H1
           have H':=av H
           clear H
           try go_wp2
           have n0_:=av (Kd.bi HO_3.out)
           have n1_:=av (au BK123.out)
           have n2_:=av (ae HB.out)
           clear HO_3
           clear BK123
           clear HB
           have HO_3:=n0_
           have BK123:=n1_
           have HB:=n2_
           clear n0_ n1_ n2_
           obtain⟨Ao12,co12,eo12⟩:=Kd.cz HO_3.out
           (first|subst eo12|(injection eo12 with f1_ f2_ f3_;have f4_:=f1_.symm;have f5_:=f3_.symm;clear f1_ f2_ f3_;subst f4_;subst f5_))
           have p124:0≤(x6_2:Int):=of_decide_eq_true (by assumption)
           have q124:x6_2 < (x3_1.length:Int):=of_decide_eq_true (by assumption)
           obtain⟨ad124,e124,hx124_0,hx124_1⟩:=bI (Kd.R_reads' HO_3.out).2.2 x6_2 p124 q124
           cases e124
           replace p124:=eq_true p124
           replace q124:=eq_true q124
           refine bJ (n:=12) (S:=fun w'=>w'.cell? ⟨gb123,0,none⟩=some (.int .i64 ((aH l0 x10_1).f0))∧w'.cell? ⟨gb123,1,none⟩=some (.int .i64 ((aH l0 x10_1).f1))∧w'.cell? (ad124.add ((x6_2).toNat*2))=some (.int .i64 ((aH x3_1 x6_2).f0))∧w'.cell? ⟨(ad124.add ((x6_2).toNat*2)).block,(ad124.add ((x6_2).toNat*2)).off+1,none⟩=some (.int .i64 ((aH x3_1 x6_2).f1))) (ds:=[]) #[false,false,false,false,false,false,false,false,false,false,false,false] (by kernel_rfl) rfl rfl ⟨(ag BK123.out 0).trans rfl,(ag BK123.out 1).trans rfl,hx124_0,hx124_1⟩ (fun hHeld=>?_);refine bz spec_l5BySize.tab6 spec_l5BySize.bits6 (fun HT_ HW_=>?_)
           generalize wr.drew=w11 at HO_3 BK123 HB hx124_0 hx124_1 hHeld ⊢
           refine aD (i:=0) (N:=some 14) (v:=?_) (a':=?_) #[true,false,false,false,false,false,false,false,false,false,false,false] rfl rfl (aC HT_.out (by kernel_rfl)) (fun _ _ _ h=>h) (Or.inl ⟨by rfl,?_⟩) ?_ ?_
           rotate_left
           ·intro w'
            go_simp
            with_reducible rfl
           rotate_left
           ·simp only[apu_]
            rfl
           refine aD (i:=1) (N:=some 15) (v:=?_) (a':=?_) #[true,true,false,false,false,false,false,false,false,false,false,false] rfl rfl (aC HT_.out (by kernel_rfl)) (fun _ _ _ h=>h) (Or.inl ⟨by rfl,?_⟩) ?_ ?_
           rotate_left
           ·intro w'
            go_simp
            with_reducible rfl
           rotate_left
           ·simp only[apu_]
            rfl
           refine aD (i:=2) (N:=some 16) (v:=?_) (a':=?_) #[true,true,true,false,false,false,false,false,false,false,false,false] rfl rfl (aC HT_.out (by kernel_rfl)) (fun _ _ _ h=>h) (Or.inl ⟨by rfl,?_⟩) ?_ ?_
           rotate_left
           ·intro w'
            go_simp
            with_reducible rfl
           rotate_left
           ·simp only[apu_]
            rfl
           refine aD (i:=3) (N:=some 17) (v:=?_) (a':=?_) #[true,true,true,true,false,false,false,false,false,false,false,false] rfl rfl (aC HT_.out (by kernel_rfl)) (fun _ _ _ h=>h) (Or.inl ⟨by rfl,?_⟩) ?_ ?_
           rotate_left
           ·intro w'
            go_simp
            with_reducible rfl
           rotate_left
           ·simp only[apu_]
            rfl
           refine aD (i:=4) (N:=some 18) (v:=?_) (a':=?_) #[true,true,true,true,true,false,false,false,false,false,false,false] rfl rfl (aC HT_.out (by kernel_rfl)) (fun _ _ _ h=>h) (Or.inl ⟨by rfl,?_⟩) ?_ ?_
           rotate_left
           ·intro w'
            go_simp
            with_reducible rfl
           rotate_left
           ·simp only[apu_]
            rfl
           refine aD (i:=5) (N:=some 19) (v:=?_) (a':=?_) #[true,true,true,true,true,true,false,false,false,false,false,false] rfl rfl (aC HT_.out (by kernel_rfl)) (fun _ _ _ h=>h) (Or.inl ⟨by rfl,?_⟩) ?_ ?_
           rotate_left
           ·intro w'
            go_simp
            with_reducible rfl
           rotate_left
           ·simp only[apu_]
            rfl
           refine aD (i:=6) (N:=some 20) (v:=?_) (a':=?_) #[true,true,true,true,true,true,true,false,false,false,false,false] rfl rfl (aC HT_.out (by kernel_rfl)) (fun _ _ _ h=>h) (Or.inl ⟨by rfl,?_⟩) ?_ ?_
           rotate_left
           ·intro w'
            go_simp
            with_reducible rfl
           rotate_left
           ·simp only[apu_]
            rfl
           refine aD (i:=7) (N:=some 21) (v:=?_) (a':=?_) #[true,true,true,true,true,true,true,true,false,false,false,false] rfl rfl (aC HT_.out (by kernel_rfl)) (fun _ _ _ h=>h) (Or.inl ⟨by rfl,?_⟩) ?_ ?_
           rotate_left
           ·intro w'
            go_simp
            with_reducible rfl
           rotate_left
           ·simp only[apu_]
            rfl
           refine aZ (i:=8) (N:=some 22) (v:=?_) (a':=?_) #[true,true,true,true,true,true,true,true,true,false,false,false] rfl rfl (aT HT_.out HW_.out (by kernel_rfl)) (fun _ _ _ h=>h) (Or.inl ⟨by rfl,?_⟩) hHeld ?_ ?_
           rotate_left
           ·rintro w' ⟨s0,s1,s2,s3⟩
            go_simp
            with_reducible rfl
           rotate_left
           ·simp only[apu_]
            rfl
           refine aZ (i:=9) (N:=some 23) (v:=?_) (a':=?_) #[true,true,true,true,true,true,true,true,true,true,false,false] rfl rfl (aT HT_.out HW_.out (by kernel_rfl)) (fun _ _ _ h=>h) (Or.inl ⟨by rfl,?_⟩) hHeld ?_ ?_
           rotate_left
           ·rintro w' ⟨s0,s1,s2,s3⟩
            go_simp
            with_reducible rfl
           rotate_left
           ·simp only[apu_]
            rfl
           refine di (i:=10) (N:=some 24) #[true,true,true,true,true,true,true,true,true,true,true,false] rfl rfl (bW HT_.out (by kernel_rfl)) (by decide) (fun K hK=>?_)
           refine bU Tryd.func41 (by kernel_rfl) rfl #[.agg #[.int .i64 ((aH x3_1 x6_2).f0),.int .i64 ((aH x3_1 x6_2).f1)],.agg #[.int .i64 ((aH l0 x10_1).f0),.int .i64 ((aH l0 x10_1).f1)]] (by rfl) rfl rfl (by(try simp only[amp_]);first|done|rfl|(simp only[ald_];rfl)) ?_
           with_reducible refine(spec_l5Less.calls ((aH x3_1 x6_2).f0) ((aH x3_1 x6_2).f1) ((aH l0 x10_1).f0) ((aH l0 x10_1).f1) true _ A9.out).mono ?_
           rintro e w13 ⟨rfl,hb⟩
           have HS2_:=(hb.cell (World.block_lt_of_cell? _ _ (hHeld.2.2.1))).trans (hHeld.2.2.1)
           have HS3_:=(hb.cell (World.block_lt_of_cell? _ _ (hHeld.2.2.2))).trans (hHeld.2.2.2)
           refine⟨_,rfl,?_⟩
           have n0_:=av (Kd.dx (by(with_reducible repeat(first|apply Kd.bf|apply Kd.bg|apply Kd.bi));exact HO_3.out) hb)
           have n1_:=av (aG (g:=gb123) (o:=.cells #[.int .i64 ((aH l0 x10_1).f0),.int .i64 ((aH l0 x10_1).f1)] 72 (0,0)) (by(with_reducible repeat(first|apply aj|apply au|apply ak));exact BK123.out) hb)
           have n2_:=av (aA (by with_reducible repeat(first|exact HB.out|apply af|apply aa|apply ae|refine ai ?_ GE123.out)) hb)
           clear HO_3
           clear BK123
           clear HB
           have HO_3:=n0_
           have BK123:=n1_
           have HB:=n2_
           clear n0_ n1_ n2_
           (try clear hb)
           (try clear hb2)
           (try clear hk)
           (try clear hi)
           refine hK.out _ _ ⟨(ag BK123.out 0).trans rfl,(ag BK123.out 1).trans rfl,HS2_,HS3_⟩ (fun hHeld=>?_)
           clear hK K
           refine bS (a':=?_) ?_ ?_
           rotate_left
           ·show Act.put _ (some 24) _=_
            simp only[apu_]
            rfl
           refine aD (i:=11) (N:=some 25) (v:=?_) (a':=?_) #[true,true,true,true,true,true,true,true,true,true,true,true] rfl rfl (aC HT_.out (by kernel_rfl)) (fun _ _ _ h=>h) (Or.inl ⟨by rfl,?_⟩) ?_ ?_
           rotate_left
           ·intro w'
            go_simp
            with_reducible rfl
           rotate_left
           ·simp only[apu_]
            rfl
           refine cu (bK HT_.out (by kernel_rfl)) ?_
           try go_wp2
           go_roundg k2
           case measure=>have:=HK1.out;have:=HK2.out;omega
           case rel=>exact⟨(wrap64 (x6_2+1)),(by first|rfl|(simp;done)|(simp[*];done)),H',⟨by have:=HK1.out;have:=HK2.out;omega⟩,⟨by(with_reducible repeat(first|apply Kd.bf|apply Kd.bg|apply Kd.bi));exact HO_3.out⟩,⟨by(with_reducible repeat(first|apply aj|apply au|apply ak));exact BK123.out⟩,⟨by with_reducible repeat(first|exact HB.out|apply af|apply aa|apply ae|refine ai ?_ GE123.out)⟩⟩
          ·replace c10:=Bool.eq_false_iff.mpr c10
           subst c10
           have H1:(if x6_2≤(x3_1.length:Int) then ((some (x3_1.take (x6_2:Int).toNat:List (S72))).bind fun y126=>(if ([]:List (S72)).length+y126.length<8796093022208 then ((some (([]:List (S72))++y126:List (S72))).bind fun y130=>(if y130.length<8796093022208 then ((some (y130++[(⟨((aH l0 x10_1).f0),((aH l0 x10_1).f1)⟩:S72)]:List (S72))).bind fun y133=>((some (x3_1.drop (x6_2:Int).toNat:List (S72))).bind fun y136=>(if y133.length+y136.length<8796093022208 then (spec_l5BySize.l0 k2 (y133++y136) l0 (l0.length:Int) (wrap64 (x10_1+1))) else (none)))) else (none))) else (none))) else (none))=some r:=by rw[if_neg (show ¬ (false=true) by decide)] at H;exact H
           clear H
           have H:=H1
           clear H1
           have c14b0:=eq_true (of_decide_eq_true (by assumption):0≤x6_2)
           by_cases c15:x6_2≤(x3_1.length:Int)
           ·rw [if_pos c15] at H
            have c15b0:=eq_true c15
            have c15b1:decide (x6_2≤(x3_1.length:Int))=true:=decide_eq_true c15
            clear c15
            obtain⟨y126,hy126⟩:∃ y_:List (S72),y_ = (x3_1.take (x6_2:Int).toNat):=⟨_,rfl⟩
            replace H:(if ([]:List (S72)).length+y126.length<8796093022208 then ((some (([]:List (S72))++y126:List (S72))).bind fun y130=>(if y130.length<8796093022208 then ((some (y130++[(⟨((aH l0 x10_1).f0),((aH l0 x10_1).f1)⟩:S72)]:List (S72))).bind fun y133=>((some (x3_1.drop (x6_2:Int).toNat:List (S72))).bind fun y136=>(if y133.length+y136.length<8796093022208 then (spec_l5BySize.l0 k2 (y133++y136) l0 (l0.length:Int) (wrap64 (x10_1+1))) else (none)))) else (none))) else (none))=some r:=by first|(rw[hy126];with_reducible exact H)|(have H2_:=(Option.bind_some _ _).symm.trans H;rw[hy126];with_reducible exact H2_)|(have H2_:=(Option.bind_some _ _).symm.trans H;with_reducible exact H2_)|with_reducible exact H|(rw[hy126];exact H)|exact H
            have Ny126:=av hy126
            clear hy126
            by_cases c16:([]:List (S72)).length+y126.length<8796093022208
            ·rw [if_pos c16] at H
             have LMc16:=av c16
             clear c16
             obtain⟨y130,hy130⟩:∃ y_:List (S72),y_ = (([]:List (S72))++y126):=⟨_,rfl⟩
             replace H:(if y130.length<8796093022208 then ((some (y130++[(⟨((aH l0 x10_1).f0),((aH l0 x10_1).f1)⟩:S72)]:List (S72))).bind fun y133=>((some (x3_1.drop (x6_2:Int).toNat:List (S72))).bind fun y136=>(if y133.length+y136.length<8796093022208 then (spec_l5BySize.l0 k2 (y133++y136) l0 (l0.length:Int) (wrap64 (x10_1+1))) else (none)))) else (none))=some r:=by first|(rw[hy130];with_reducible exact H)|(have H2_:=(Option.bind_some _ _).symm.trans H;rw[hy130];with_reducible exact H2_)|(have H2_:=(Option.bind_some _ _).symm.trans H;with_reducible exact H2_)|with_reducible exact H|(rw[hy130];exact H)|exact H
             have Ny130:=av hy130
             clear hy130
             by_cases c17:y130.length<8796093022208
             ·rw[if_pos c17] at H
              have LMc17:=av c17
              clear c17
              obtain⟨y133,hy133⟩:∃ y_:List (S72),y_ = (y130++[(⟨((aH l0 x10_1).f0),((aH l0 x10_1).f1)⟩:S72)]):=⟨_,rfl⟩
              replace H:((some (x3_1.drop (x6_2:Int).toNat:List (S72))).bind fun y136=>(if y133.length+y136.length<8796093022208 then (spec_l5BySize.l0 k2 (y133++y136) l0 (l0.length:Int) (wrap64 (x10_1+1))) else (none)))=some r:=by first|(rw[hy133];with_reducible exact H)|(have H2_:=(Option.bind_some _ _).symm.trans H;rw[hy133];with_reducible exact H2_)|(have H2_:=(Option.bind_some _ _).symm.trans H;with_reducible exact H2_)|with_reducible exact H|(rw[hy133];exact H)|exact H
              have Ny133:=av hy133
              clear hy133
              have c18b0:=eq_true (of_decide_eq_true (by assumption):0≤x6_2)
              have c19b0:=eq_true (of_decide_eq_true (by assumption):x6_2≤(x3_1.length:Int))
              obtain⟨y136,hy136⟩:∃ y_:List (S72),y_ = (x3_1.drop (x6_2:Int).toNat):=⟨_,rfl⟩
              replace H:(if y133.length+y136.length<8796093022208 then (spec_l5BySize.l0 k2 (y133++y136) l0 (l0.length:Int) (wrap64 (x10_1+1))) else (none))=some r:=by first|(rw[hy136];with_reducible exact H)|(have H2_:=(Option.bind_some _ _).symm.trans H;rw[hy136];with_reducible exact H2_)|(have H2_:=(Option.bind_some _ _).symm.trans H;with_reducible exact H2_)|with_reducible exact H|(rw[hy136];exact H)|exact H
              have Ny136:=av hy136
              clear hy136
              by_cases c20:y133.length+y136.length<8796093022208
              ·rw[if_pos c20] at H
               have LMc20:=av c20
               clear c20
               obtain⟨y140,hy140⟩:∃ y_:List (S72),y_ = (y133++y136):=⟨_,rfl⟩
               replace H:(spec_l5BySize.l0 k2 y140 l0 (l0.length:Int) (wrap64 (x10_1+1)))=some r:=by first|(rw[hy140];with_reducible exact H)|(have H2_:=(Option.bind_some _ _).symm.trans H;rw[hy140];with_reducible exact H2_)|(have H2_:=(Option.bind_some _ _).symm.trans H;with_reducible exact H2_)|with_reducible exact H|(rw[hy140];exact H)|exact H
               have Ny140:=av hy140
               clear hy140
               have H':=av H
               clear H
               try go_wp2
               have n0_:=av (Kd.bi HO_3.out)
               have n1_:=av (au BK123.out)
               have n2_:=av (ae HB.out)
               clear HO_3
               clear BK123
               clear HB
               have HO_3:=n0_
               have BK123:=n1_
               have HB:=n2_
               clear n0_ n1_ n2_
               obtain⟨Ao22,co22,eo22⟩:=Kd.cz HO_3.out
               (first|subst eo22|(injection eo22 with f1_ f2_ f3_;have f4_:=f1_.symm;have f5_:=f3_.symm;clear f1_ f2_ f3_;subst f4_;subst f5_))
               have p124:0≤(x6_2:Int):=of_decide_eq_true (by assumption)
               have q124:x6_2 < (x3_1.length:Int):=of_decide_eq_true (by assumption)
               obtain⟨ad124,e124,hx124_0,hx124_1⟩:=bI (Kd.R_reads' HO_3.out).2.2 x6_2 p124 q124
               cases e124
               replace p124:=eq_true p124
               replace q124:=eq_true q124
               refine bJ (n:=12) (S:=fun w'=>w'.cell? ⟨gb123,0,none⟩=some (.int .i64 ((aH l0 x10_1).f0))∧w'.cell? ⟨gb123,1,none⟩=some (.int .i64 ((aH l0 x10_1).f1))∧w'.cell? (ad124.add ((x6_2).toNat*2))=some (.int .i64 ((aH x3_1 x6_2).f0))∧w'.cell? ⟨(ad124.add ((x6_2).toNat*2)).block,(ad124.add ((x6_2).toNat*2)).off+1,none⟩=some (.int .i64 ((aH x3_1 x6_2).f1))) (ds:=[]) #[false,false,false,false,false,false,false,false,false,false,false,false] (by kernel_rfl) rfl rfl ⟨(ag BK123.out 0).trans rfl,(ag BK123.out 1).trans rfl,hx124_0,hx124_1⟩ (fun hHeld=>?_);refine bz spec_l5BySize.tab6 spec_l5BySize.bits6 (fun HT_ HW_=>?_)
               generalize wr.drew=w21 at HO_3 BK123 HB hx124_0 hx124_1 hHeld ⊢
               refine aD (i:=0) (N:=some 14) (v:=?_) (a':=?_) #[true,false,false,false,false,false,false,false,false,false,false,false] rfl rfl (aC HT_.out (by kernel_rfl)) (fun _ _ _ h=>h) (Or.inl ⟨by rfl,?_⟩) ?_ ?_
               rotate_left
               ·intro w'
                go_simp
                with_reducible rfl
               rotate_left
               ·simp only[apu_]
                rfl
               refine aD (i:=1) (N:=some 15) (v:=?_) (a':=?_) #[true,true,false,false,false,false,false,false,false,false,false,false] rfl rfl (aC HT_.out (by kernel_rfl)) (fun _ _ _ h=>h) (Or.inl ⟨by rfl,?_⟩) ?_ ?_
               rotate_left
               ·intro w'
                go_simp
                with_reducible rfl
               rotate_left
               ·simp only[apu_]
                rfl
               refine aD (i:=2) (N:=some 16) (v:=?_) (a':=?_) #[true,true,true,false,false,false,false,false,false,false,false,false] rfl rfl (aC HT_.out (by kernel_rfl)) (fun _ _ _ h=>h) (Or.inl ⟨by rfl,?_⟩) ?_ ?_
               rotate_left
               ·intro w'
                go_simp
                with_reducible rfl
               rotate_left
               ·simp only[apu_]
                rfl
               refine aD (i:=3) (N:=some 17) (v:=?_) (a':=?_) #[true,true,true,true,false,false,false,false,false,false,false,false] rfl rfl (aC HT_.out (by kernel_rfl)) (fun _ _ _ h=>h) (Or.inl ⟨by rfl,?_⟩) ?_ ?_
               rotate_left
               ·intro w'
                go_simp
                with_reducible rfl
               rotate_left
               ·simp only[apu_]
                rfl
               refine aD (i:=4) (N:=some 18) (v:=?_) (a':=?_) #[true,true,true,true,true,false,false,false,false,false,false,false] rfl rfl (aC HT_.out (by kernel_rfl)) (fun _ _ _ h=>h) (Or.inl ⟨by rfl,?_⟩) ?_ ?_
               rotate_left
               ·intro w'
                go_simp
                with_reducible rfl
               rotate_left
               ·simp only[apu_]
                rfl
               refine aD (i:=5) (N:=some 19) (v:=?_) (a':=?_) #[true,true,true,true,true,true,false,false,false,false,false,false] rfl rfl (aC HT_.out (by kernel_rfl)) (fun _ _ _ h=>h) (Or.inl ⟨by rfl,?_⟩) ?_ ?_
               rotate_left
               ·intro w'
                go_simp
                with_reducible rfl
               rotate_left
               ·simp only[apu_]
                rfl
               refine aD (i:=6) (N:=some 20) (v:=?_) (a':=?_) #[true,true,true,true,true,true,true,false,false,false,false,false] rfl rfl (aC HT_.out (by kernel_rfl)) (fun _ _ _ h=>h) (Or.inl ⟨by rfl,?_⟩) ?_ ?_
               rotate_left
               ·intro w'
                go_simp
                with_reducible rfl
               rotate_left
               ·simp only[apu_]
                rfl
               refine aD (i:=7) (N:=some 21) (v:=?_) (a':=?_) #[true,true,true,true,true,true,true,true,false,false,false,false] rfl rfl (aC HT_.out (by kernel_rfl)) (fun _ _ _ h=>h) (Or.inl ⟨by rfl,?_⟩) ?_ ?_
               rotate_left
               ·intro w'
                go_simp
                with_reducible rfl
               rotate_left
               ·simp only[apu_]
                rfl
               refine aZ (i:=8) (N:=some 22) (v:=?_) (a':=?_) #[true,true,true,true,true,true,true,true,true,false,false,false] rfl rfl (aT HT_.out HW_.out (by kernel_rfl)) (fun _ _ _ h=>h) (Or.inl ⟨by rfl,?_⟩) hHeld ?_ ?_
               rotate_left
               ·rintro w' ⟨s0,s1,s2,s3⟩
                go_simp
                with_reducible rfl
               rotate_left
               ·simp only[apu_]
                rfl
               refine aZ (i:=9) (N:=some 23) (v:=?_) (a':=?_) #[true,true,true,true,true,true,true,true,true,true,false,false] rfl rfl (aT HT_.out HW_.out (by kernel_rfl)) (fun _ _ _ h=>h) (Or.inl ⟨by rfl,?_⟩) hHeld ?_ ?_
               rotate_left
               ·rintro w' ⟨s0,s1,s2,s3⟩
                go_simp
                with_reducible rfl
               rotate_left
               ·simp only[apu_]
                rfl
               refine di (i:=10) (N:=some 24) #[true,true,true,true,true,true,true,true,true,true,true,false] rfl rfl (bW HT_.out (by kernel_rfl)) (by decide) (fun K hK=>?_)
               refine bU Tryd.func41 (by kernel_rfl) rfl #[.agg #[.int .i64 ((aH x3_1 x6_2).f0),.int .i64 ((aH x3_1 x6_2).f1)],.agg #[.int .i64 ((aH l0 x10_1).f0),.int .i64 ((aH l0 x10_1).f1)]] (by rfl) rfl rfl (by(try simp only[amp_]);first|done|rfl|(simp only[ald_];rfl)) ?_
               with_reducible refine(spec_l5Less.calls ((aH x3_1 x6_2).f0) ((aH x3_1 x6_2).f1) ((aH l0 x10_1).f0) ((aH l0 x10_1).f1) false _ A9.out).mono ?_
               rintro e w23 ⟨rfl,hb⟩
               have HS2_:=(hb.cell (World.block_lt_of_cell? _ _ (hHeld.2.2.1))).trans (hHeld.2.2.1)
               have HS3_:=(hb.cell (World.block_lt_of_cell? _ _ (hHeld.2.2.2))).trans (hHeld.2.2.2)
               refine⟨_,rfl,?_⟩
               have n0_:=av (Kd.dx (by(with_reducible repeat(first|apply Kd.bf|apply Kd.bg|apply Kd.bi));exact HO_3.out) hb)
               have n1_:=av (aG (g:=gb123) (o:=.cells #[.int .i64 ((aH l0 x10_1).f0),.int .i64 ((aH l0 x10_1).f1)] 72 (0,0)) (by(with_reducible repeat(first|apply aj|apply au|apply ak));exact BK123.out) hb)
               have n2_:=av (aA (by with_reducible repeat(first|exact HB.out|apply af|apply aa|apply ae|refine ai ?_ GE123.out)) hb)
               clear HO_3
               clear BK123
               clear HB
               have HO_3:=n0_
               have BK123:=n1_
               have HB:=n2_
               clear n0_ n1_ n2_
               (try clear hb)
               (try clear hb2)
               (try clear hk)
               (try clear hi)
               refine hK.out _ _ ⟨(ag BK123.out 0).trans rfl,(ag BK123.out 1).trans rfl,HS2_,HS3_⟩ (fun hHeld=>?_)
               clear hK K
               refine bS (a':=?_) ?_ ?_
               rotate_left
               ·show Act.put _ (some 24) _=_
                simp only[apu_]
                rfl
               refine aD (i:=11) (N:=some 25) (v:=?_) (a':=?_) #[true,true,true,true,true,true,true,true,true,true,true,true] rfl rfl (aC HT_.out (by kernel_rfl)) (fun _ _ _ h=>h) (Or.inl ⟨by rfl,?_⟩) ?_ ?_
               rotate_left
               ·intro w'
                go_simp
                with_reducible rfl
               rotate_left
               ·simp only[apu_]
                rfl
               refine cu (bK HT_.out (by kernel_rfl)) ?_
               have q24:(x6_2:Int)≤((x3_1.length:Int):Int):=of_decide_eq_true (by assumption)
               obtain⟨i024,hi024,_,hsz24,_⟩:=info_parts d9
               have hroom24:x3_1.length≤co22:=(Kd.R_reads' HO_3.out).2.1
               have hC24:Kd.C k72 _ (some ad124) x3_1.length x3_1:=(Kd.R_reads' HO_3.out).2.2
               have hcut24:=kI (P:=Tryd.prog) 30 72 .i64 Tryd.underlying30 hi024 (some ad124) x3_1.length co22 x6_2 (of_decide_eq_true (by assumption)) q24 hroom24
               have hr24:=Kd.eU (m:=(x6_2:Int).toNat) hC24 (by omega)
               have hy24:y126.length = (x6_2:Int).toNat:=(by rw[Ny126.out,List.length_take];omega)
               rw[← Ny126.out] at hr24
               rw[← hy24] at hcut24
               have HR129:=av hr24
               have HC129:=av (show y126.length≤co22 from by omega)
               clear hr24 hC24 hroom24 hi024 hsz24
               have KY24:=av hy24
               clear hy24
               have KL24:=av (show(x6_2:Int).toNat≤x3_1.length from by omega)
               replace q24:=eq_true q24
               try go_wp2_with (first|((with_reducible refine dn (b:=.append) (xs:=#[.tmp 28,.tmp 31]) rfl ?_);at_builtin;refine Kd.dI k72 (w0:=w) w.heap.size rfl (.tmp 28) (.tmp 31) 30 72 (.agg #[(.int .i64 0),(.int .i64 0)]) 16 rfl Tryd.underlying30 d9 rfl (by decide) (by omega) (.slice none 0 0) ([]:List (S72)) y126 _ _ _ (fun k_=>some k_≠(.slice (some ad124) x3_1.length co22:Value).ownBlock∧k_≠gb123) (fun _=>False) rfl rfl ?aO ?aR (fun _ _ h=>h) (fun _ h=>h.elim) ?aF ?aB ?aS ?aL ?_;(case aR=>repeat(first|exact(by repeat(first|(with_reducible exact HR129.out)|(with_reducible first|apply Kd.aW|apply Kd.aV|apply Kd.aY)|exact HR129.out))|(with_reducible first|apply Kd.aW|apply Kd.aV|apply Kd.aY)));(case aB=>exact(by with_reducible repeat(first|exact HB.out|apply af|apply aa|apply ae|refine ai ?_ GE123.out)));(case aF=>exact(fun k_ hk=>⟨Kd.fresh' (Kd.lc (by(with_reducible repeat(first|apply Kd.bf|apply Kd.bg|apply Kd.bi));exact HO_3.out)) k_ hk,Kd.gH (g:=gb123) (o:=.cells #[.int .i64 ((aH l0 x10_1).f0),.int .i64 ((aH l0 x10_1).f1)] 72 (0,0)) (by(with_reducible repeat(first|apply aj|apply au|apply ak));exact BK123.out) k_ hk⟩));(case aO=>exact((Kd.gV _ _ _ _ (fun k_=>some k_≠(.slice (some ad124) x3_1.length co22:Value).ownBlock∧k_≠gb123))));(case aS=>exact(ay (by with_reducible repeat(first|exact HB.out|apply af|apply aa|apply ae|refine ai ?_ GE123.out))));(case aL=>have:=LMc16.out;omega);intro v131 w25 ho hb hg hat;rw[← Ny130.out] at ho;replace BK123:=av (dM (g:=gb123) (o:=.cells #[.int .i64 ((aH l0 x10_1).f0),.int .i64 ((aH l0 x10_1).f1)] 72 (0,0)) (by(with_reducible repeat(first|apply aj|apply au|apply ak));exact BK123.out) hg (by simp[Value.ownBlock]));replace HB:=av (hb);replace HR129:=av ((show Kd.C k72 w25 (some ad124) y126.length y126 from by rw[Ny126.out];exact Kd.eU (m:=(x6_2:Int).toNat) ((Kd.R_reads' (Kd.dm (Kd.eF (by(with_reducible repeat(first|apply Kd.bf|apply Kd.bg|apply Kd.bi));exact HO_3.out)) hg hat)).2.2) KL24.out));replace HO_3:=av (Kd.dm (Kd.eF (by(with_reducible repeat(first|apply Kd.bf|apply Kd.bg|apply Kd.bi));exact HO_3.out)) hg hat);have HO132:=av (ho);clear ho hb hg hat;have hcz26_0:w25.cell? ⟨gb123,0,none⟩=some (.int .i64 ((aH l0 x10_1).f0)):=(ag BK123.out 0).trans rfl;have hcz26_1:w25.cell? ⟨gb123,1,none⟩=some (.int .i64 ((aH l0 x10_1).f1)):=(ag BK123.out 1).trans rfl;have hfz26_0:=ah BK123.out 0;have hfz26_1:=ah BK123.out 1)|((with_reducible refine dn (b:=.append) (xs:=#[.tmp 33,.tmp 35]) rfl ?_);at_builtin;refine Kd.j5 k72 (w0:=w) w.heap.size rfl (.tmp 33) (.tmp 35) 30 72 (.agg #[(.int .i64 0),(.int .i64 0)]) 16 rfl Tryd.underlying30 d9 rfl (by decide) (by omega) v131 y130 (⟨((aH l0 x10_1).f0),((aH l0 x10_1).f1)⟩:S72) [.int .i64 ((aH l0 x10_1).f0),.int .i64 ((aH l0 x10_1).f1)] (fun k_=>some k_≠(.slice (some ad124) x3_1.length co22:Value).ownBlock∧k_≠gb123) (fun _=>False) rfl rfl ?aP (fun _ hk=>hk.elim) ?aF ?aO ?aB ?aS ?aL ?_;(case aP=>exact ib _ _ _ (⟨((aH l0 x10_1).f0),((aH l0 x10_1).f1)⟩:S72));(case aB=>exact(by with_reducible repeat(first|exact HB.out|apply af|apply aa|apply ae|refine ai ?_ GE123.out)));(case aF=>exact(fun k_ hk=>⟨Kd.fresh' (Kd.lc (by(with_reducible repeat(first|apply Kd.bf|apply Kd.bg|apply Kd.bi));exact HO_3.out)) k_ hk,Kd.gH (g:=gb123) (o:=.cells #[.int .i64 ((aH l0 x10_1).f0),.int .i64 ((aH l0 x10_1).f1)] 72 (0,0)) (by(with_reducible repeat(first|apply aj|apply au|apply ak));exact BK123.out) k_ hk⟩));(case aO=>exact(by(with_reducible repeat(first|apply Kd.bf|apply Kd.bg|apply Kd.bi));exact HO132.out));(case aS=>exact(ay (by with_reducible repeat(first|exact HB.out|apply af|apply aa|apply ae|refine ai ?_ GE123.out))));(case aL=>have:=LMc17.out;omega);intro v134 w27 ho hb hg hat;rw[← Ny133.out] at ho;replace BK123:=av (dM (g:=gb123) (o:=.cells #[.int .i64 ((aH l0 x10_1).f0),.int .i64 ((aH l0 x10_1).f1)] 72 (0,0)) (by(with_reducible repeat(first|apply aj|apply au|apply ak));exact BK123.out) hg (Kd.jC HO132.out (fun _ hk=>hk.2)));replace HB:=av (hb);replace HR129:=av ((show Kd.C k72 w27 (some ad124) y126.length y126 from by rw[Ny126.out];exact Kd.eU (m:=(x6_2:Int).toNat) ((Kd.R_reads' (Kd.dm (ok:=(fun k_=>k_≠gb123)) (by(with_reducible repeat(first|apply Kd.bf|apply Kd.bg|apply Kd.bi));exact HO_3.out) hg hat)).2.2) KL24.out));replace HO_3:=av (Kd.dm (ok:=(fun k_=>k_≠gb123)) (by(with_reducible repeat(first|apply Kd.bf|apply Kd.bg|apply Kd.bi));exact HO_3.out) hg hat);have HO135:=av (ho);clear HO132;clear ho hb hg hat;have q28:(x6_2:Int)≤((x3_1.length:Int):Int):=of_decide_eq_true (by assumption);obtain⟨i028,hi028,_,hsz28,_⟩:=info_parts d9;have hroom28:x3_1.length≤co22:=(Kd.R_reads' HO_3.out).2.1;have hC28:Kd.C k72 _ (some ad124) x3_1.length x3_1:=(Kd.R_reads' HO_3.out).2.2;have q028:(0:Int)≤(x6_2:Int):=of_decide_eq_true (by assumption);have hcut28:=jX (P:=Tryd.prog) 30 72 .i64 Tryd.underlying30 hi028 2 hsz28 (some ad124) x3_1.length co22 x6_2 q028 q28;have hr28:=Kd.jP (m:=(x6_2:Int).toNat) (c:=co22) hC28 (by omega) hroom28;obtain⟨A28,hA28⟩:∃ A1,A1 = (if co22 = (x6_2:Int).toNat then (some ad124) else ((some ad124):Option Addr).map (·.add ((x6_2:Int).toNat*2))):=⟨_,rfl⟩;obtain⟨c28,hc28⟩:∃ c1,c1=co22 - (x6_2:Int).toNat:=⟨_,rfl⟩;have hy28:y136.length=x3_1.length - (x6_2:Int).toNat:=(by rw[Ny136.out,List.length_drop] <;> omega);rw[show(x3_1).drop (x6_2:Int).toNat=y136 from Ny136.out.symm] at hr28;replace hr28:Kd.C k72 _ A28 y136.length y136:=(by rw[hA28];exact hr28);rw[← hy28,← hA28,← hc28] at hcut28;have HR139:=av hr28;have HC139:=av (show y136.length≤c28 from by rw[hy28,hc28];exact Nat.sub_le_sub_right hroom28 _);clear hr28 hC28 hroom28 hi028 hsz28 hc28;have KY28:=av hy28;have KA28:=av hA28;clear hy28 hA28;have KL28:=av (show(x6_2:Int).toNat≤x3_1.length from by omega);replace q28:=eq_true q28)|((with_reducible refine dn (b:=.append) (xs:=#[.tmp 37,.tmp 40]) rfl ?_);at_builtin;refine Kd.dI k72 (w0:=w) w.heap.size rfl (.tmp 37) (.tmp 40) 30 72 (.agg #[(.int .i64 0),(.int .i64 0)]) 16 rfl Tryd.underlying30 d9 rfl (by decide) (by omega) v134 y133 y136 _ _ _ (fun k_=>some k_≠(.slice (some ad124) x3_1.length co22:Value).ownBlock∧k_≠gb123) (fun _=>False) rfl rfl ?aO ?aR (fun _ _ h=>h) (fun _ h=>h.elim) ?aF ?aB ?aS ?aL ?_;(case aR=>repeat(first|exact(by repeat(first|(with_reducible exact HR139.out)|(with_reducible first|apply Kd.aW|apply Kd.aV|apply Kd.aY)|exact HR139.out))|(with_reducible first|apply Kd.aW|apply Kd.aV|apply Kd.aY)));(case aB=>exact(by with_reducible repeat(first|exact HB.out|apply af|apply aa|apply ae|refine ai ?_ GE123.out)));(case aF=>exact(fun k_ hk=>⟨Kd.fresh' (Kd.lc (by(with_reducible repeat(first|apply Kd.bf|apply Kd.bg|apply Kd.bi));exact HO_3.out)) k_ hk,Kd.gH (g:=gb123) (o:=.cells #[.int .i64 ((aH l0 x10_1).f0),.int .i64 ((aH l0 x10_1).f1)] 72 (0,0)) (by(with_reducible repeat(first|apply aj|apply au|apply ak));exact BK123.out) k_ hk⟩));(case aO=>exact(by(with_reducible repeat(first|apply Kd.bf|apply Kd.bg|apply Kd.bi));exact HO135.out));(case aS=>exact(ay (by with_reducible repeat(first|exact HB.out|apply af|apply aa|apply ae|refine ai ?_ GE123.out))));(case aL=>have:=LMc20.out;omega);intro v141 w29 ho hb hg hat;rw[← Ny140.out] at ho;replace BK123:=av (dM (g:=gb123) (o:=.cells #[.int .i64 ((aH l0 x10_1).f0),.int .i64 ((aH l0 x10_1).f1)] 72 (0,0)) (by(with_reducible repeat(first|apply aj|apply au|apply ak));exact BK123.out) hg (Kd.jC HO135.out (fun _ hk=>hk.2)));replace HB:=av (hb);replace HR129:=av ((show Kd.C k72 w29 (some ad124) y126.length y126 from by rw[Ny126.out];exact Kd.eU (m:=(x6_2:Int).toNat) ((Kd.R_reads' (Kd.dm (ok:=(fun k_=>k_≠gb123)) (by(with_reducible repeat(first|apply Kd.bf|apply Kd.bg|apply Kd.bi));exact HO_3.out) hg hat)).2.2) KL24.out));replace HR139:=av ((show Kd.C k72 w29 A28 y136.length y136 from by rw[Ny136.out,KA28.out];exact Kd.jP (m:=(x6_2:Int).toNat) (c:=co22) ((Kd.R_reads' (Kd.dm (ok:=(fun k_=>k_≠gb123)) (by(with_reducible repeat(first|apply Kd.bf|apply Kd.bg|apply Kd.bi));exact HO_3.out) hg hat)).2.2) KL28.out ((Kd.R_reads' (Kd.dm (ok:=(fun k_=>k_≠gb123)) (by(with_reducible repeat(first|apply Kd.bf|apply Kd.bg|apply Kd.bi));exact HO_3.out) hg hat)).2.1)));replace HO_3:=av (Kd.dm (ok:=(fun k_=>k_≠gb123)) (by(with_reducible repeat(first|apply Kd.bf|apply Kd.bg|apply Kd.bi));exact HO_3.out) hg hat);have HO142:=av (ho);clear HO135;clear ho hb hg hat))
               go_roundg k2
               case measure=>have:=HK1.out;have:=HK2.out;omega
               case rel=>exact⟨(y140),(wrap64 (x10_1+1)),(by first|rfl|(simp;done)|(simp[*];done)),H',⟨by have:=HK1.out;have:=HK2.out;omega⟩,⟨by(with_reducible repeat(first|apply Kd.bf|apply Kd.bg|apply Kd.bi));exact Kd.bT HO142.out (fun _ hk=>trivial)⟩,⟨by with_reducible repeat(first|exact HB.out|apply af|apply aa|apply ae|refine ai ?_ GE123.out)⟩⟩
              ·rw[if_neg c20] at H
               exact absurd H (by simp)
             ·rw[if_neg c17] at H
              exact absurd H (by simp)
            ·rw[if_neg c16] at H
             exact absurd H (by simp)
           ·rw[if_neg c15] at H
            exact absurd H (by simp)
         ·rw[if_neg c8] at H
          exact absurd H (by simp)
        ·rw [if_neg c7] at H
         have c7b0:decide (x6_2 < (x3_1.length:Int))=false:=decide_eq_false c7
         clear c7
         by_cases c30:0≤x6_2
         ·rw [if_pos c30] at H
          have c30b0:=eq_true c30
          have c30b1:decide (0≤x6_2)=true:=decide_eq_true c30
          clear c30
          by_cases c31:x6_2≤(x3_1.length:Int)
          ·rw [if_pos c31] at H
           have c31b0:=eq_true c31
           have c31b1:decide (x6_2≤(x3_1.length:Int))=true:=decide_eq_true c31
           clear c31
           obtain⟨y143,hy143⟩:∃ y_:List (S72),y_ = (x3_1.take (x6_2:Int).toNat):=⟨_,rfl⟩
           replace H:(if ([]:List (S72)).length+y143.length<8796093022208 then ((some (([]:List (S72))++y143:List (S72))).bind fun y147=>(if y147.length<8796093022208 then ((some (y147++[(⟨((aH l0 x10_1).f0),((aH l0 x10_1).f1)⟩:S72)]:List (S72))).bind fun y150=>((some (x3_1.drop (x6_2:Int).toNat:List (S72))).bind fun y153=>(if y150.length+y153.length<8796093022208 then (spec_l5BySize.l0 k2 (y150++y153) l0 (l0.length:Int) (wrap64 (x10_1+1))) else (none)))) else (none))) else (none))=some r:=by first|(rw[hy143];with_reducible exact H)|(have H2_:=(Option.bind_some _ _).symm.trans H;rw[hy143];with_reducible exact H2_)|(have H2_:=(Option.bind_some _ _).symm.trans H;with_reducible exact H2_)|with_reducible exact H|(rw[hy143];exact H)|exact H
           have Ny143:=av hy143
           clear hy143
           by_cases c32:([]:List (S72)).length+y143.length<8796093022208
           ·rw [if_pos c32] at H
            have LMc32:=av c32
            clear c32
            obtain⟨y147,hy147⟩:∃ y_:List (S72),y_ = (([]:List (S72))++y143):=⟨_,rfl⟩
            replace H:(if y147.length<8796093022208 then ((some (y147++[(⟨((aH l0 x10_1).f0),((aH l0 x10_1).f1)⟩:S72)]:List (S72))).bind fun y150=>((some (x3_1.drop (x6_2:Int).toNat:List (S72))).bind fun y153=>(if y150.length+y153.length<8796093022208 then (spec_l5BySize.l0 k2 (y150++y153) l0 (l0.length:Int) (wrap64 (x10_1+1))) else (none)))) else (none))=some r:=by first|(rw[hy147];with_reducible exact H)|(have H2_:=(Option.bind_some _ _).symm.trans H;rw[hy147];with_reducible exact H2_)|(have H2_:=(Option.bind_some _ _).symm.trans H;with_reducible exact H2_)|with_reducible exact H|(rw[hy147];exact H)|exact H
            have Ny147:=av hy147
            clear hy147
            by_cases c33:y147.length<8796093022208
            ·rw[if_pos c33] at H
             have LMc33:=av c33
             clear c33
             obtain⟨y150,hy150⟩:∃ y_:List (S72),y_ = (y147++[(⟨((aH l0 x10_1).f0),((aH l0 x10_1).f1)⟩:S72)]):=⟨_,rfl⟩
             replace H:((some (x3_1.drop (x6_2:Int).toNat:List (S72))).bind fun y153=>(if y150.length+y153.length<8796093022208 then (spec_l5BySize.l0 k2 (y150++y153) l0 (l0.length:Int) (wrap64 (x10_1+1))) else (none)))=some r:=by first|(rw[hy150];with_reducible exact H)|(have H2_:=(Option.bind_some _ _).symm.trans H;rw[hy150];with_reducible exact H2_)|(have H2_:=(Option.bind_some _ _).symm.trans H;with_reducible exact H2_)|with_reducible exact H|(rw[hy150];exact H)|exact H
             have Ny150:=av hy150
             clear hy150
             have c34b0:=eq_true (of_decide_eq_true (by assumption):0≤x6_2)
             have c35b0:=eq_true (of_decide_eq_true (by assumption):x6_2≤(x3_1.length:Int))
             obtain⟨y153,hy153⟩:∃ y_:List (S72),y_ = (x3_1.drop (x6_2:Int).toNat):=⟨_,rfl⟩
             replace H:(if y150.length+y153.length<8796093022208 then (spec_l5BySize.l0 k2 (y150++y153) l0 (l0.length:Int) (wrap64 (x10_1+1))) else (none))=some r:=by first|(rw[hy153];with_reducible exact H)|(have H2_:=(Option.bind_some _ _).symm.trans H;rw[hy153];with_reducible exact H2_)|(have H2_:=(Option.bind_some _ _).symm.trans H;with_reducible exact H2_)|with_reducible exact H|(rw[hy153];exact H)|exact H
             have Ny153:=av hy153
             clear hy153
             by_cases c36:y150.length+y153.length<8796093022208
             ·rw[if_pos c36] at H
              have LMc36:=av c36
              clear c36
              obtain⟨y157,hy157⟩:∃ y_:List (S72),y_ = (y150++y153):=⟨_,rfl⟩
              replace H:(spec_l5BySize.l0 k2 y157 l0 (l0.length:Int) (wrap64 (x10_1+1)))=some r:=by first|(rw[hy157];with_reducible exact H)|(have H2_:=(Option.bind_some _ _).symm.trans H;rw[hy157];with_reducible exact H2_)|(have H2_:=(Option.bind_some _ _).symm.trans H;with_reducible exact H2_)|with_reducible exact H|(rw[hy157];exact H)|exact H
              have Ny157:=av hy157
              clear hy157
              have H':=av H
              clear H
              try go_wp2
              have n0_:=av (Kd.bi HO_3.out)
              have n1_:=av (au BK123.out)
              have n2_:=av (ae HB.out)
              clear HO_3
              clear BK123
              clear HB
              have HO_3:=n0_
              have BK123:=n1_
              have HB:=n2_
              clear n0_ n1_ n2_
              obtain⟨Ao38,co38,eo38⟩:=Kd.cz HO_3.out
              (first|subst eo38|(injection eo38 with f1_ f2_ f3_;have f4_:=f1_.symm;have f5_:=f3_.symm;clear f1_ f2_ f3_;subst f4_;subst f5_))
              refine bJ (n:=12) (S:=fun w'=>True) (ds:=[]) #[false,false,false,false,false,false,false,false,false,false,false,false] (by kernel_rfl) rfl rfl trivial (fun hHeld=>?_);refine bz spec_l5BySize.tab6 spec_l5BySize.bits6 (fun HT_ HW_=>?_)
              generalize wr.drew=w37 at HO_3 BK123 HB hHeld ⊢
              refine aD (i:=0) (N:=some 14) (v:=?_) (a':=?_) #[true,false,false,false,false,false,false,false,false,false,false,false] rfl rfl (aC HT_.out (by kernel_rfl)) (fun _ _ _ h=>h) (Or.inl ⟨by rfl,?_⟩) ?_ ?_
              rotate_left
              ·intro w'
               go_simp
               with_reducible rfl
              rotate_left
              ·simp only[apu_]
               rfl
              refine aD (i:=1) (N:=some 15) (v:=?_) (a':=?_) #[true,true,false,false,false,false,false,false,false,false,false,false] rfl rfl (aC HT_.out (by kernel_rfl)) (fun _ _ _ h=>h) (Or.inl ⟨by rfl,?_⟩) ?_ ?_
              rotate_left
              ·intro w'
               go_simp
               with_reducible rfl
              rotate_left
              ·simp only[apu_]
               rfl
              refine aD (i:=2) (N:=some 16) (v:=?_) (a':=?_) #[true,true,true,false,false,false,false,false,false,false,false,false] rfl rfl (aC HT_.out (by kernel_rfl)) (fun _ _ _ h=>h) (Or.inl ⟨by rfl,?_⟩) ?_ ?_
              rotate_left
              ·intro w'
               go_simp
               with_reducible rfl
              rotate_left
              ·simp only[apu_]
               rfl
              refine aD (i:=3) (N:=some 17) (v:=?_) (a':=?_) #[true,true,true,true,false,false,false,false,false,false,false,false] rfl rfl (aC HT_.out (by kernel_rfl)) (fun _ _ _ h=>h) (Or.inl ⟨by rfl,?_⟩) ?_ ?_
              rotate_left
              ·intro w'
               go_simp
               with_reducible rfl
              rotate_left
              ·simp only[apu_]
               rfl
              refine aD (i:=4) (N:=some 18) (v:=?_) (a':=?_) #[true,true,true,true,true,false,false,false,false,false,false,false] rfl rfl (aC HT_.out (by kernel_rfl)) (fun _ _ _ h=>h) (Or.inl ⟨by rfl,?_⟩) ?_ ?_
              rotate_left
              ·intro w'
               go_simp
               with_reducible rfl
              rotate_left
              ·simp only[apu_]
               rfl
              refine aD (i:=5) (N:=some 19) (v:=undef) (a':=?_) #[true,true,true,true,true,true,false,false,false,false,false,false] rfl rfl (aC HT_.out (by kernel_rfl)) (fun _ _ _ h=>h) (Or.inr ⟨by rfl,rfl⟩) ?_ ?_
              rotate_left
              ·simp only[apu_]
               rfl
              refine aD (i:=6) (N:=some 20) (v:=undef) (a':=?_) #[true,true,true,true,true,true,true,false,false,false,false,false] rfl rfl (aC HT_.out (by kernel_rfl)) (fun _ _ _ h=>h) (Or.inr ⟨by rfl,rfl⟩) ?_ ?_
              rotate_left
              ·simp only[apu_]
               rfl
              refine aD (i:=7) (N:=some 21) (v:=undef) (a':=?_) #[true,true,true,true,true,true,true,true,false,false,false,false] rfl rfl (aC HT_.out (by kernel_rfl)) (fun _ _ _ h=>h) (Or.inr ⟨by rfl,rfl⟩) ?_ ?_
              rotate_left
              ·simp only[apu_]
               rfl
              refine aD (i:=8) (N:=some 22) (v:=undef) (a':=?_) #[true,true,true,true,true,true,true,true,true,false,false,false] rfl rfl (aC HT_.out (by kernel_rfl)) (fun _ _ _ h=>h) (Or.inr ⟨by rfl,rfl⟩) ?_ ?_
              rotate_left
              ·simp only[apu_]
               rfl
              refine aD (i:=9) (N:=some 23) (v:=undef) (a':=?_) #[true,true,true,true,true,true,true,true,true,true,false,false] rfl rfl (aC HT_.out (by kernel_rfl)) (fun _ _ _ h=>h) (Or.inr ⟨by rfl,rfl⟩) ?_ ?_
              rotate_left
              ·simp only[apu_]
               rfl
              refine aD (i:=10) (N:=some 24) (v:=undef) (a':=?_) #[true,true,true,true,true,true,true,true,true,true,true,false] rfl rfl (aC HT_.out (by kernel_rfl)) (fun _ _ _ h=>h) (Or.inr ⟨by rfl,rfl⟩) ?_ ?_
              rotate_left
              ·simp only[apu_]
               rfl
              refine aD (i:=11) (N:=some 25) (v:=?_) (a':=?_) #[true,true,true,true,true,true,true,true,true,true,true,true] rfl rfl (aC HT_.out (by kernel_rfl)) (fun _ _ _ h=>h) (Or.inl ⟨by rfl,?_⟩) ?_ ?_
              rotate_left
              ·intro w'
               go_simp
               with_reducible rfl
              rotate_left
              ·simp only[apu_]
               rfl
              refine cu (bK HT_.out (by kernel_rfl)) ?_
              have q39:(x6_2:Int)≤((x3_1.length:Int):Int):=of_decide_eq_true (by assumption)
              obtain⟨i039,hi039,_,hsz39,_⟩:=info_parts d9
              have hroom39:x3_1.length≤co38:=(Kd.R_reads' HO_3.out).2.1
              have hC39:Kd.C k72 _ Ao38 x3_1.length x3_1:=(Kd.R_reads' HO_3.out).2.2
              have hcut39:=kI (P:=Tryd.prog) 30 72 .i64 Tryd.underlying30 hi039 Ao38 x3_1.length co38 x6_2 (of_decide_eq_true (by assumption)) q39 hroom39
              have hr39:=Kd.eU (m:=(x6_2:Int).toNat) hC39 (by omega)
              have hy39:y143.length = (x6_2:Int).toNat:=(by rw[Ny143.out,List.length_take];omega)
              rw[← Ny143.out] at hr39
              rw[← hy39] at hcut39
              have HR146:=av hr39
              have HC146:=av (show y143.length≤co38 from by omega)
              clear hr39 hC39 hroom39 hi039 hsz39
              have KY39:=av hy39
              clear hy39
              have KL39:=av (show(x6_2:Int).toNat≤x3_1.length from by omega)
              replace q39:=eq_true q39
              try go_wp2_with (first|((with_reducible refine dn (b:=.append) (xs:=#[.tmp 28,.tmp 31]) rfl ?_);at_builtin;refine Kd.dI k72 (w0:=w) w.heap.size rfl (.tmp 28) (.tmp 31) 30 72 (.agg #[(.int .i64 0),(.int .i64 0)]) 16 rfl Tryd.underlying30 d9 rfl (by decide) (by omega) (.slice none 0 0) ([]:List (S72)) y143 _ _ _ (fun k_=>some k_≠(.slice Ao38 x3_1.length co38:Value).ownBlock∧k_≠gb123) (fun _=>False) rfl rfl ?aO ?aR (fun _ _ h=>h) (fun _ h=>h.elim) ?aF ?aB ?aS ?aL ?_;(case aR=>repeat(first|exact(by repeat(first|(with_reducible exact HR146.out)|(with_reducible first|apply Kd.aW|apply Kd.aV|apply Kd.aY)|exact HR146.out))|(with_reducible first|apply Kd.aW|apply Kd.aV|apply Kd.aY)));(case aB=>exact(by with_reducible repeat(first|exact HB.out|apply af|apply aa|apply ae|refine ai ?_ GE123.out)));(case aF=>exact(fun k_ hk=>⟨Kd.fresh' (Kd.lc (by(with_reducible repeat(first|apply Kd.bf|apply Kd.bg|apply Kd.bi));exact HO_3.out)) k_ hk,Kd.gH (g:=gb123) (o:=.cells #[.int .i64 ((aH l0 x10_1).f0),.int .i64 ((aH l0 x10_1).f1)] 72 (0,0)) (by(with_reducible repeat(first|apply aj|apply au|apply ak));exact BK123.out) k_ hk⟩));(case aO=>exact((Kd.gV _ _ _ _ (fun k_=>some k_≠(.slice Ao38 x3_1.length co38:Value).ownBlock∧k_≠gb123))));(case aS=>exact(ay (by with_reducible repeat(first|exact HB.out|apply af|apply aa|apply ae|refine ai ?_ GE123.out))));(case aL=>have:=LMc32.out;omega);intro v148 w40 ho hb hg hat;rw[← Ny147.out] at ho;replace BK123:=av (dM (g:=gb123) (o:=.cells #[.int .i64 ((aH l0 x10_1).f0),.int .i64 ((aH l0 x10_1).f1)] 72 (0,0)) (by(with_reducible repeat(first|apply aj|apply au|apply ak));exact BK123.out) hg (by simp[Value.ownBlock]));replace HB:=av (hb);replace HR146:=av ((show Kd.C k72 w40 Ao38 y143.length y143 from by rw[Ny143.out];exact Kd.eU (m:=(x6_2:Int).toNat) ((Kd.R_reads' (Kd.dm (Kd.eF (by(with_reducible repeat(first|apply Kd.bf|apply Kd.bg|apply Kd.bi));exact HO_3.out)) hg hat)).2.2) KL39.out));replace HO_3:=av (Kd.dm (Kd.eF (by(with_reducible repeat(first|apply Kd.bf|apply Kd.bg|apply Kd.bi));exact HO_3.out)) hg hat);have HO149:=av (ho);clear ho hb hg hat;have hcz41_0:w40.cell? ⟨gb123,0,none⟩=some (.int .i64 ((aH l0 x10_1).f0)):=(ag BK123.out 0).trans rfl;have hcz41_1:w40.cell? ⟨gb123,1,none⟩=some (.int .i64 ((aH l0 x10_1).f1)):=(ag BK123.out 1).trans rfl;have hfz41_0:=ah BK123.out 0;have hfz41_1:=ah BK123.out 1)|((with_reducible refine dn (b:=.append) (xs:=#[.tmp 33,.tmp 35]) rfl ?_);at_builtin;refine Kd.j5 k72 (w0:=w) w.heap.size rfl (.tmp 33) (.tmp 35) 30 72 (.agg #[(.int .i64 0),(.int .i64 0)]) 16 rfl Tryd.underlying30 d9 rfl (by decide) (by omega) v148 y147 (⟨((aH l0 x10_1).f0),((aH l0 x10_1).f1)⟩:S72) [.int .i64 ((aH l0 x10_1).f0),.int .i64 ((aH l0 x10_1).f1)] (fun k_=>some k_≠(.slice Ao38 x3_1.length co38:Value).ownBlock∧k_≠gb123) (fun _=>False) rfl rfl ?aP (fun _ hk=>hk.elim) ?aF ?aO ?aB ?aS ?aL ?_;(case aP=>exact ib _ _ _ (⟨((aH l0 x10_1).f0),((aH l0 x10_1).f1)⟩:S72));(case aB=>exact(by with_reducible repeat(first|exact HB.out|apply af|apply aa|apply ae|refine ai ?_ GE123.out)));(case aF=>exact(fun k_ hk=>⟨Kd.fresh' (Kd.lc (by(with_reducible repeat(first|apply Kd.bf|apply Kd.bg|apply Kd.bi));exact HO_3.out)) k_ hk,Kd.gH (g:=gb123) (o:=.cells #[.int .i64 ((aH l0 x10_1).f0),.int .i64 ((aH l0 x10_1).f1)] 72 (0,0)) (by(with_reducible repeat(first|apply aj|apply au|apply ak));exact BK123.out) k_ hk⟩));(case aO=>exact(by(with_reducible repeat(first|apply Kd.bf|apply Kd.bg|apply Kd.bi));exact HO149.out));(case aS=>exact(ay (by with_reducible repeat(first|exact HB.out|apply af|apply aa|apply ae|refine ai ?_ GE123.out))));(case aL=>have:=LMc33.out;omega);intro v151 w42 ho hb hg hat;rw[← Ny150.out] at ho;replace BK123:=av (dM (g:=gb123) (o:=.cells #[.int .i64 ((aH l0 x10_1).f0),.int .i64 ((aH l0 x10_1).f1)] 72 (0,0)) (by(with_reducible repeat(first|apply aj|apply au|apply ak));exact BK123.out) hg (Kd.jC HO149.out (fun _ hk=>hk.2)));replace HB:=av (hb);replace HR146:=av ((show Kd.C k72 w42 Ao38 y143.length y143 from by rw[Ny143.out];exact Kd.eU (m:=(x6_2:Int).toNat) ((Kd.R_reads' (Kd.dm (ok:=(fun k_=>k_≠gb123)) (by(with_reducible repeat(first|apply Kd.bf|apply Kd.bg|apply Kd.bi));exact HO_3.out) hg hat)).2.2) KL39.out));replace HO_3:=av (Kd.dm (ok:=(fun k_=>k_≠gb123)) (by(with_reducible repeat(first|apply Kd.bf|apply Kd.bg|apply Kd.bi));exact HO_3.out) hg hat);have HO152:=av (ho);clear HO149;clear ho hb hg hat;have q43:(x6_2:Int)≤((x3_1.length:Int):Int):=of_decide_eq_true (by assumption);obtain⟨i043,hi043,_,hsz43,_⟩:=info_parts d9;have hroom43:x3_1.length≤co38:=(Kd.R_reads' HO_3.out).2.1;have hC43:Kd.C k72 _ Ao38 x3_1.length x3_1:=(Kd.R_reads' HO_3.out).2.2;have q043:(0:Int)≤(x6_2:Int):=of_decide_eq_true (by assumption);have hcut43:=jX (P:=Tryd.prog) 30 72 .i64 Tryd.underlying30 hi043 2 hsz43 Ao38 x3_1.length co38 x6_2 q043 q43;have hr43:=Kd.jP (m:=(x6_2:Int).toNat) (c:=co38) hC43 (by omega) hroom43;obtain⟨A43,hA43⟩:∃ A1,A1 = (if co38 = (x6_2:Int).toNat then Ao38 else (Ao38:Option Addr).map (·.add ((x6_2:Int).toNat*2))):=⟨_,rfl⟩;obtain⟨c43,hc43⟩:∃ c1,c1=co38 - (x6_2:Int).toNat:=⟨_,rfl⟩;have hy43:y153.length=x3_1.length - (x6_2:Int).toNat:=(by rw[Ny153.out,List.length_drop] <;> omega);rw[show(x3_1).drop (x6_2:Int).toNat=y153 from Ny153.out.symm] at hr43;replace hr43:Kd.C k72 _ A43 y153.length y153:=(by rw[hA43];exact hr43);rw[← hy43,← hA43,← hc43] at hcut43;have HR156:=av hr43;have HC156:=av (show y153.length≤c43 from by rw[hy43,hc43];exact Nat.sub_le_sub_right hroom43 _);clear hr43 hC43 hroom43 hi043 hsz43 hc43;have KY43:=av hy43;have KA43:=av hA43;clear hy43 hA43;have KL43:=av (show(x6_2:Int).toNat≤x3_1.length from by omega);replace q43:=eq_true q43)|((with_reducible refine dn (b:=.append) (xs:=#[.tmp 37,.tmp 40]) rfl ?_);at_builtin;refine Kd.dI k72 (w0:=w) w.heap.size rfl (.tmp 37) (.tmp 40) 30 72 (.agg #[(.int .i64 0),(.int .i64 0)]) 16 rfl Tryd.underlying30 d9 rfl (by decide) (by omega) v151 y150 y153 _ _ _ (fun k_=>some k_≠(.slice Ao38 x3_1.length co38:Value).ownBlock∧k_≠gb123) (fun _=>False) rfl rfl ?aO ?aR (fun _ _ h=>h) (fun _ h=>h.elim) ?aF ?aB ?aS ?aL ?_;(case aR=>repeat(first|exact(by repeat(first|(with_reducible exact HR156.out)|(with_reducible first|apply Kd.aW|apply Kd.aV|apply Kd.aY)|exact HR156.out))|(with_reducible first|apply Kd.aW|apply Kd.aV|apply Kd.aY)));(case aB=>exact(by with_reducible repeat(first|exact HB.out|apply af|apply aa|apply ae|refine ai ?_ GE123.out)));(case aF=>exact(fun k_ hk=>⟨Kd.fresh' (Kd.lc (by(with_reducible repeat(first|apply Kd.bf|apply Kd.bg|apply Kd.bi));exact HO_3.out)) k_ hk,Kd.gH (g:=gb123) (o:=.cells #[.int .i64 ((aH l0 x10_1).f0),.int .i64 ((aH l0 x10_1).f1)] 72 (0,0)) (by(with_reducible repeat(first|apply aj|apply au|apply ak));exact BK123.out) k_ hk⟩));(case aO=>exact(by(with_reducible repeat(first|apply Kd.bf|apply Kd.bg|apply Kd.bi));exact HO152.out));(case aS=>exact(ay (by with_reducible repeat(first|exact HB.out|apply af|apply aa|apply ae|refine ai ?_ GE123.out))));(case aL=>have:=LMc36.out;omega);intro v158 w44 ho hb hg hat;rw[← Ny157.out] at ho;replace BK123:=av (dM (g:=gb123) (o:=.cells #[.int .i64 ((aH l0 x10_1).f0),.int .i64 ((aH l0 x10_1).f1)] 72 (0,0)) (by(with_reducible repeat(first|apply aj|apply au|apply ak));exact BK123.out) hg (Kd.jC HO152.out (fun _ hk=>hk.2)));replace HB:=av (hb);replace HR146:=av ((show Kd.C k72 w44 Ao38 y143.length y143 from by rw[Ny143.out];exact Kd.eU (m:=(x6_2:Int).toNat) ((Kd.R_reads' (Kd.dm (ok:=(fun k_=>k_≠gb123)) (by(with_reducible repeat(first|apply Kd.bf|apply Kd.bg|apply Kd.bi));exact HO_3.out) hg hat)).2.2) KL39.out));replace HR156:=av ((show Kd.C k72 w44 A43 y153.length y153 from by rw[Ny153.out,KA43.out];exact Kd.jP (m:=(x6_2:Int).toNat) (c:=co38) ((Kd.R_reads' (Kd.dm (ok:=(fun k_=>k_≠gb123)) (by(with_reducible repeat(first|apply Kd.bf|apply Kd.bg|apply Kd.bi));exact HO_3.out) hg hat)).2.2) KL43.out ((Kd.R_reads' (Kd.dm (ok:=(fun k_=>k_≠gb123)) (by(with_reducible repeat(first|apply Kd.bf|apply Kd.bg|apply Kd.bi));exact HO_3.out) hg hat)).2.1)));replace HO_3:=av (Kd.dm (ok:=(fun k_=>k_≠gb123)) (by(with_reducible repeat(first|apply Kd.bf|apply Kd.bg|apply Kd.bi));exact HO_3.out) hg hat);have HO159:=av (ho);clear HO152;clear ho hb hg hat))
              go_roundg k2
              case measure=>have:=HK1.out;have:=HK2.out;omega
              case rel=>exact⟨(y157),(wrap64 (x10_1+1)),(by first|rfl|(simp;done)|(simp[*];done)),H',⟨by have:=HK1.out;have:=HK2.out;omega⟩,⟨by(with_reducible repeat(first|apply Kd.bf|apply Kd.bg|apply Kd.bi));exact Kd.bT HO159.out (fun _ hk=>trivial)⟩,⟨by with_reducible repeat(first|exact HB.out|apply af|apply aa|apply ae|refine ai ?_ GE123.out)⟩⟩
             ·rw[if_neg c36] at H
              exact absurd H (by simp)
            ·rw[if_neg c33] at H
             exact absurd H (by simp)
           ·rw[if_neg c32] at H
            exact absurd H (by simp)
          ·rw[if_neg c31] at H
           exact absurd H (by simp)
         ·rw[if_neg c30] at H
          exact absurd H (by simp)
     ·rw[if_neg c4] at H
      exact absurd H (by simp)
    ·rw[if_neg c3] at H
     exact absurd H (by simp)
   ·rw[if_neg c2] at H
    have c2b0:decide (x10_1 < (l0.length:Int))=false:=decide_eq_false c2
    clear c2
    obtain rfl:=Option.some.inj H
    go_wp2
    go_ret
    exact⟨_,by first|rfl|(simp <;> rfl)|(simp[*] <;> rfl),by(with_reducible repeat(first|apply Kd.bf|apply Kd.bg|apply Kd.bi));exact HO_3.out,by with_reducible repeat(first|exact HB.out|apply af|apply aa|apply ae)⟩
end Go.Proofs.YtdghdjachbbdmaaDoor.PFre
