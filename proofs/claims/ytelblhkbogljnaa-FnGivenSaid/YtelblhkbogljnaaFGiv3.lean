import Derived.Test.YtelblhkbogljnaaFGiv2
namespace Go.Proofs.Ytelblhkbogljnaa.PFre
open Go.RowKit Go.Proofs.YtelblhkbogljnaaW.PrintWords Go.Proofs.YtelblhkbogljnaaW.PrintLast Go.Proofs.YtelblhkbogljnaaW.PrintMore
attribute [local go_sem] bG bH bS bT bB bA bJ bI
set_option linter.unusedVariables false
set_option linter.unusedSimpArgs false
mutual
def spec_l5BySize.l0:Nat→List (S35)→List (S35)→Int→Int→Option ((List (S35)))
 | 0,_,_,_,_=>none
 | k+1,x3,x8,x9,x10=>if x10<x9 then (if 0≤x10 then (if x10 < (x8.length:Int) then (spec_l5BySize.l1 k x3 0 x8 x9 x10 ((ax x8 x10).f0) ((ax x8 x10).f1)) else (none)) else (none)) else (some x3)
def spec_l5BySize.l1:Nat→List (S35)→Int→List (S35)→Int→Int→Int→Int→Option ((List (S35)))
 | 0,_,_,_,_,_,_,_=>none
 | k+1,x3,x6,x8,x9,x10,x112000,x112001=>if x6 < (x3.length:Int) then (if 0≤x6 then ((spec_l5Less.f ((ax x3 x6).f0) ((ax x3 x6).f1) x112000 x112001).bind fun t113=>(if t113=true then (spec_l5BySize.l1 k x3 (wrap64 (x6+1)) x8 x9 x10 x112000 x112001) else (if x6≤(x3.length:Int) then ((some (x3.take (x6:Int).toNat:List (S35))).bind fun y114=>(if ([]:List (S35)).length+y114.length<8796093022208 then ((some (([]:List (S35))++y114:List (S35))).bind fun y118=>(if y118.length<8796093022208 then ((some (y118++[(⟨x112000,x112001⟩:S35)]:List (S35))).bind fun y121=>((some (x3.drop (x6:Int).toNat:List (S35))).bind fun y124=>(if y121.length+y124.length<8796093022208 then (spec_l5BySize.l0 k (y121++y124) x8 x9 (wrap64 (x10+1))) else (none)))) else (none))) else (none))) else (none)))) else (none)) else (if 0≤x6 then (if x6≤(x3.length:Int) then ((some (x3.take (x6:Int).toNat:List (S35))).bind fun y131=>(if ([]:List (S35)).length+y131.length<8796093022208 then ((some (([]:List (S35))++y131:List (S35))).bind fun y135=>(if y135.length<8796093022208 then ((some (y135++[(⟨x112000,x112001⟩:S35)]:List (S35))).bind fun y138=>((some (x3.drop (x6:Int).toNat:List (S35))).bind fun y141=>(if y138.length+y141.length<8796093022208 then (spec_l5BySize.l0 k (y138++y141) x8 x9 (wrap64 (x10+1))) else (none)))) else (none))) else (none))) else (none)) else (none))
end
def spec_l5BySize.f (k:Nat) (l0:List (S35)):Option ((List (S35))):=spec_l5BySize.l0 k ([]:List (S35)) l0 (l0.length:Int) 0
def spec_l5BySize.T6:Bool×List (List Nat×List Nat):=(true,[([],[]),([],[]),([1],[1]),([0,2],[0,2]),([3],[3]),([4],[4]),([4],[4]),([5,6,4],[4,5,6]),([7,4],[4,7]),([4],[4]),([8,9,4,4],[4,8,9]),([4,10],[4,10])])
def spec_l5BySize.B6:List Nat:=[0,0,2,7,15,31,31,127,255,31,1023,2047]
theorem spec_l5BySize.tab6:fK .any (opsOf Try.f61 6)=spec_l5BySize.T6:=by kernel_rfl
theorem spec_l5BySize.bits6:gH spec_l5BySize.T6.2 spec_l5BySize.B6=true:=by kernel_rfl
set_option maxHeartbeats 8000000 in
set_option maxRecDepth 100000 in
theorem spec_l5BySize.calls (k : Nat) (A0 : Option Addr) (c0 : Nat) (l0 : List (S35)) (r : List (S35)) (w : World) (hr0 : Kd.C k35 w A0 l0.length l0) (hc0 : l0.length ≤ c0) (h : spec_l5BySize.f k l0 = some r) :
  Calls Try.prog 61 #[.slice A0 l0.length c0] w fun e w'=>∃ v0_:Value,e = .returned (v0_)∧Kd.R k35 35 w' w.heap.size (fun _=>True) v0_ r∧Below w.heap.size w w':=by
 have hu35:=Try.underlying35
 have HR0:=au hr0
 have HC0:=au hc0
 clear hr0 hc0
 have HB:=au (Below.refl w.heap.size w)
 have H:(spec_l5BySize.l0 k ([]:List (S35)) l0 (l0.length:Int) 0)=some r:=h
 clear h
 have H':=au H
 clear H
 go_enter Try.func61,Try.ntmps61
 go_wp2
 go_loopg [3,10] k (fun kq v3 v10 w'=>∃ (x3_1:List (S35)) (x10_1:Int),v10 = .int .i64 x10_1∧Aside0 (spec_l5BySize.l0 kq x3_1 l0 (l0.length:Int) x10_1=some r)∧Aside0 (kq≤k)∧Aside0 (Kd.R k35 35 w' w.heap.size (fun _=>True) v3 x3_1)∧Aside0 (Below w.heap.size w w'))
 case atStart=>exact⟨(([]:List (S35))),(0),(by first|rfl|(simp;done)|(simp[*];done)),H',⟨Nat.le_refl _⟩,⟨by first|exact Kd.dn _ _ _ _ _|exact Kd.dU _ _ _ _ _|exact Kd.dQ _ _ _ _ _|exact Kd.dR _ _ _ _ _|exact Kd.dS _ _ _ _ _⟩,⟨by with_reducible repeat(first|exact HB.out|apply ah|apply aa|apply ai)⟩⟩
 case round =>
  clear H'
  obtain⟨x3_1,x10_1,rfl,HA,HK1,HO_3,HB⟩:=hrel
  cases gk with
  | zero=>exact absurd HA.out (by simp[spec_l5BySize.l0])
  | succ k1 =>
   have H:=HA.out
   clear HA
   simp only[spec_l5BySize.l0] at H
   by_cases c2:x10_1 < (l0.length:Int)
   ·rw [if_pos c2] at H
    have c2b0:decide (x10_1 < (l0.length:Int))=true:=decide_eq_true c2
    clear c2
    by_cases c3:0≤x10_1
    ·rw [if_pos c3] at H
     have c3b0:decide (0≤x10_1)=true:=decide_eq_true c3
     clear c3
     by_cases c4:x10_1 < (l0.length:Int)
     ·rw [if_pos c4] at H
      have c4b0:decide (x10_1 < (l0.length:Int))=true:=decide_eq_true c4
      clear c4
      have H':=au H
      clear H
      have p110:0≤(x10_1:Int):=of_decide_eq_true (by assumption)
      have q110:x10_1 < (l0.length:Int):=of_decide_eq_true (by assumption)
      obtain⟨ad110,e110,hx110_0,hx110_1⟩:=bF HR0.out x10_1 p110 q110
      cases e110
      replace hx110_0:=(HB.out.cell (World.block_lt_of_cell? w _ hx110_0)).trans hx110_0
      replace hx110_1:=(HB.out.cell (World.block_lt_of_cell? w _ hx110_1)).trans hx110_1
      replace p110:=eq_true p110
      replace q110:=eq_true q110
      go_wp2_with (first|((with_reducible refine aM (N:=5) rfl ?_);refine aJ ?hg (N:=5) ?hd (cs:=#[.int .i64 0,.int .i64 0]) (t:=35) ?hr ?_;(case hd=>rfl);(case hg=>rfl);(case hr=>first|(go_simp;done)|(go_simp;rfl));intro gb111 hg w5 hbox hb;replace HO_3:=au (Kd.bi (Kd.eX (by(with_reducible repeat(first|apply Kd.aD|apply Kd.aC|apply Kd.aI));exact HO_3.out) gb111 (Nat.le_of_eq hg.symm)) hb);have BK111:=au (hbox);have GW111:=au ((by rw[hg];exact(az (by with_reducible repeat(first|exact HB.out|apply ah|apply aa|apply ai))):w.heap.size≤gb111));have GE111:=au ((by rw[hg];exact(az (by with_reducible repeat(first|exact HB.out|apply ah|apply aa|apply ai))):w.heap.size≤gb111));replace HB:=au (aA (by with_reducible repeat(first|exact HB.out|apply ah|apply aa|apply ai)) hb);clear hb hbox hg;have hcz6_0:w5.cell? ⟨gb111,0,none⟩=some (.int .i64 0):=(ak BK111.out 0).trans rfl;have hcz6_1:w5.cell? ⟨gb111,1,none⟩=some (.int .i64 0):=(ak BK111.out 1).trans rfl;have hfz6_0:=av BK111.out 0;have hfz6_1:=av BK111.out 1))
      go_loopg [6] k1 (fun kq v6 w'=>∃ (x6_2:Int),v6 = .int .i64 x6_2∧Aside0 (spec_l5BySize.l1 kq x3_1 x6_2 l0 (l0.length:Int) x10_1 ((ax l0 x10_1).f0) ((ax l0 x10_1).f1)=some r)∧Aside0 (kq≤k1)∧Aside0 (Kd.R k35 35 w' w.heap.size (fun k_=>k_≠gb111) u3 x3_1)∧Aside0 (w'.heap[gb111]? = some (.cells #[.int .i64 ((ax l0 x10_1).f0),.int .i64 ((ax l0 x10_1).f1)] 35 (0,0)))∧Aside0 (Below w.heap.size w w'))
      case atStart=>exact⟨(0),(by first|rfl|(simp;done)|(simp[*];done)),H',⟨Nat.le_refl _⟩,⟨by(with_reducible repeat(first|apply Kd.aD|apply Kd.aC|apply Kd.aI));exact Kd.aT (Kd.aV (p:=⟨gb111,1,none⟩) (Kd.aV (p:=⟨gb111,0,none⟩) (Kd.aT HO_3.out (fun k_ hk=>(⟨hk,hk.2⟩:_∧k_≠gb111))) (fun _ hk=>hk.2) (.int .i64 ((ax l0 x10_1).f0))) (fun _ hk=>hk.2) (.int .i64 ((ax l0 x10_1).f1))) (fun _ hk=>hk.1.2)⟩,⟨by(with_reducible repeat(first|apply ag|apply aj|apply af));refine aK (cs:=#[.int .i64 ((ax l0 x10_1).f0),.int .i64 0]) ?_ 1 _ rfl;(with_reducible repeat(first|apply ag|apply aj|apply af));refine aK (cs:=#[.int .i64 0,.int .i64 0]) ?_ 0 _ rfl;(with_reducible repeat(first|apply ag|apply aj|apply af));exact BK111.out⟩,⟨by with_reducible repeat(first|exact HB.out|apply ah|apply aa|apply ai|refine ae ?_ GE111.out)⟩⟩
      case round =>
       clear H'
       try clear p1
       try clear q1
       try clear hx1
       try clear c2
       try clear c2b0
       try clear p2
       try clear c3
       try clear c3b0
       try clear c4
       try clear c4b0
       try clear c6
       try clear hcz6_0
       try clear hcz6_1
       try clear hfz6_0
       try clear hfz6_1
       try clear hx110_0
       try clear hx110_1
       try clear p110
       try clear q110
       obtain⟨x6_2,rfl,HA,HK2,HO_3,BK111,HB⟩:=hrel
       cases gk with
       | zero=>exact absurd HA.out (by simp[spec_l5BySize.l1])
       | succ k2 =>
        have H:=HA.out
        clear HA
        simp only[spec_l5BySize.l1] at H
        by_cases c7:x6_2 < (x3_1.length:Int)
        ·rw [if_pos c7] at H
         have c7b0:decide (x6_2 < (x3_1.length:Int))=true:=decide_eq_true c7
         clear c7
         by_cases c8:0≤x6_2
         ·rw [if_pos c8] at H
          have c8b0:decide (0≤x6_2)=true:=decide_eq_true c8
          clear c8
          replace H:=Option.bind_eq_some_iff.mp H
          obtain⟨t113,A90,H⟩:=H
          replace H:(if t113=true then (spec_l5BySize.l1 k2 x3_1 (wrap64 (x6_2+1)) l0 (l0.length:Int) x10_1 ((ax l0 x10_1).f0) ((ax l0 x10_1).f1)) else (if x6_2≤(x3_1.length:Int) then ((some (x3_1.take (x6_2:Int).toNat:List (S35))).bind fun y114=>(if ([]:List (S35)).length+y114.length<8796093022208 then ((some (([]:List (S35))++y114:List (S35))).bind fun y118=>(if y118.length<8796093022208 then ((some (y118++[(⟨((ax l0 x10_1).f0),((ax l0 x10_1).f1)⟩:S35)]:List (S35))).bind fun y121=>((some (x3_1.drop (x6_2:Int).toNat:List (S35))).bind fun y124=>(if y121.length+y124.length<8796093022208 then (spec_l5BySize.l0 k2 (y121++y124) l0 (l0.length:Int) (wrap64 (x10_1+1))) else (none)))) else (none))) else (none))) else (none)))=some r:=H
          have A9:=au A90
          clear A90
          by_cases c10:t113=true
          ·subst c10
           have H1:(spec_l5BySize.l1 k2 x3_1 (wrap64 (x6_2+1)) l0 (l0.length:Int) x10_1 ((ax l0 x10_1).f0) ((ax l0 x10_1).f1))=some r:=by rw[if_pos rfl] at H;exact H
           clear H
           have H:=H1
           clear H1
           have H':=au H
           clear H
           try go_wp2
           have n0_:=au (Kd.aI HO_3.out)
           have n1_:=au (aj BK111.out)
           have n2_:=au (ai HB.out)
           clear HO_3
           clear BK111
           clear HB
           have HO_3:=n0_
           have BK111:=n1_
           have HB:=n2_
           clear n0_ n1_ n2_
           obtain⟨Ao12,co12,eo12⟩:=Kd.bq HO_3.out
           (first|subst eo12|(injection eo12 with f1_ f2_ f3_;have f4_:=f1_.symm;have f5_:=f3_.symm;clear f1_ f2_ f3_;subst f4_;subst f5_))
           have p112:0≤(x6_2:Int):=of_decide_eq_true (by assumption)
           have q112:x6_2 < (x3_1.length:Int):=of_decide_eq_true (by assumption)
           obtain⟨ad112,e112,hx112_0,hx112_1⟩:=bF (Kd.R_reads' HO_3.out).2.2 x6_2 p112 q112
           cases e112
           replace p112:=eq_true p112
           replace q112:=eq_true q112
           refine dZ (n:=12) (S:=fun w'=>w'.cell? ⟨gb111,0,none⟩=some (.int .i64 ((ax l0 x10_1).f0))∧w'.cell? ⟨gb111,1,none⟩=some (.int .i64 ((ax l0 x10_1).f1))∧w'.cell? (ad112.add ((x6_2).toNat*2))=some (.int .i64 ((ax x3_1 x6_2).f0))∧w'.cell? ⟨(ad112.add ((x6_2).toNat*2)).block,(ad112.add ((x6_2).toNat*2)).off+1,none⟩=some (.int .i64 ((ax x3_1 x6_2).f1))) (ds:=[]) #[false,false,false,false,false,false,false,false,false,false,false,false] (by kernel_rfl) rfl rfl ⟨(ak BK111.out 0).trans rfl,(ak BK111.out 1).trans rfl,hx112_0,hx112_1⟩ (fun hHeld=>?_);refine fB spec_l5BySize.tab6 spec_l5BySize.bits6 (fun HT_ HW_=>?_)
           generalize wr.drew=w11 at HO_3 BK111 HB hx112_0 hx112_1 hHeld ⊢
           refine aQ (i:=0) (N:=some 14) (v:=?_) (a':=?_) #[true,false,false,false,false,false,false,false,false,false,false,false] rfl rfl (bM HT_.out (by kernel_rfl)) (fun _ _ _ h=>h) (Or.inl ⟨by rfl,?_⟩) ?_ ?_
           rotate_left
           ·intro w'
            go_simp
            with_reducible rfl
           rotate_left
           ·simp only[apu_]
            rfl
           refine aQ (i:=1) (N:=some 15) (v:=?_) (a':=?_) #[true,true,false,false,false,false,false,false,false,false,false,false] rfl rfl (bM HT_.out (by kernel_rfl)) (fun _ _ _ h=>h) (Or.inl ⟨by rfl,?_⟩) ?_ ?_
           rotate_left
           ·intro w'
            go_simp
            with_reducible rfl
           rotate_left
           ·simp only[apu_]
            rfl
           refine aQ (i:=2) (N:=some 16) (v:=?_) (a':=?_) #[true,true,true,false,false,false,false,false,false,false,false,false] rfl rfl (bM HT_.out (by kernel_rfl)) (fun _ _ _ h=>h) (Or.inl ⟨by rfl,?_⟩) ?_ ?_
           rotate_left
           ·intro w'
            go_simp
            with_reducible rfl
           rotate_left
           ·simp only[apu_]
            rfl
           refine aQ (i:=3) (N:=some 17) (v:=?_) (a':=?_) #[true,true,true,true,false,false,false,false,false,false,false,false] rfl rfl (bM HT_.out (by kernel_rfl)) (fun _ _ _ h=>h) (Or.inl ⟨by rfl,?_⟩) ?_ ?_
           rotate_left
           ·intro w'
            go_simp
            with_reducible rfl
           rotate_left
           ·simp only[apu_]
            rfl
           refine aQ (i:=4) (N:=some 18) (v:=?_) (a':=?_) #[true,true,true,true,true,false,false,false,false,false,false,false] rfl rfl (bM HT_.out (by kernel_rfl)) (fun _ _ _ h=>h) (Or.inl ⟨by rfl,?_⟩) ?_ ?_
           rotate_left
           ·intro w'
            go_simp
            with_reducible rfl
           rotate_left
           ·simp only[apu_]
            rfl
           refine aQ (i:=5) (N:=some 19) (v:=?_) (a':=?_) #[true,true,true,true,true,true,false,false,false,false,false,false] rfl rfl (bM HT_.out (by kernel_rfl)) (fun _ _ _ h=>h) (Or.inl ⟨by rfl,?_⟩) ?_ ?_
           rotate_left
           ·intro w'
            go_simp
            with_reducible rfl
           rotate_left
           ·simp only[apu_]
            rfl
           refine aQ (i:=6) (N:=some 20) (v:=?_) (a':=?_) #[true,true,true,true,true,true,true,false,false,false,false,false] rfl rfl (bM HT_.out (by kernel_rfl)) (fun _ _ _ h=>h) (Or.inl ⟨by rfl,?_⟩) ?_ ?_
           rotate_left
           ·intro w'
            go_simp
            with_reducible rfl
           rotate_left
           ·simp only[apu_]
            rfl
           refine aQ (i:=7) (N:=some 21) (v:=?_) (a':=?_) #[true,true,true,true,true,true,true,true,false,false,false,false] rfl rfl (bM HT_.out (by kernel_rfl)) (fun _ _ _ h=>h) (Or.inl ⟨by rfl,?_⟩) ?_ ?_
           rotate_left
           ·intro w'
            go_simp
            with_reducible rfl
           rotate_left
           ·simp only[apu_]
            rfl
           refine bN (i:=8) (N:=some 22) (v:=?_) (a':=?_) #[true,true,true,true,true,true,true,true,true,false,false,false] rfl rfl (dF HT_.out HW_.out (by kernel_rfl)) (fun _ _ _ h=>h) (Or.inl ⟨by rfl,?_⟩) hHeld ?_ ?_
           rotate_left
           ·rintro w' ⟨s0,s1,s2,s3⟩
            go_simp
            with_reducible rfl
           rotate_left
           ·simp only[apu_]
            rfl
           refine bN (i:=9) (N:=some 23) (v:=?_) (a':=?_) #[true,true,true,true,true,true,true,true,true,true,false,false] rfl rfl (dF HT_.out HW_.out (by kernel_rfl)) (fun _ _ _ h=>h) (Or.inl ⟨by rfl,?_⟩) hHeld ?_ ?_
           rotate_left
           ·rintro w' ⟨s0,s1,s2,s3⟩
            go_simp
            with_reducible rfl
           rotate_left
           ·simp only[apu_]
            rfl
           refine dN (i:=10) (N:=some 24) #[true,true,true,true,true,true,true,true,true,true,true,false] rfl rfl (ed HT_.out (by kernel_rfl)) (by decide) (fun K hK=>?_)
           refine dh Try.func79 (by kernel_rfl) rfl #[.agg #[.int .i64 ((ax x3_1 x6_2).f0),.int .i64 ((ax x3_1 x6_2).f1)],.agg #[.int .i64 ((ax l0 x10_1).f0),.int .i64 ((ax l0 x10_1).f1)]] (by rfl) rfl rfl (by(try simp only[amp_]);first|done|rfl|(simp only[ald_];rfl)) ?_
           with_reducible refine(spec_l5Less.calls ((ax x3_1 x6_2).f0) ((ax x3_1 x6_2).f1) ((ax l0 x10_1).f0) ((ax l0 x10_1).f1) true _ A9.out).mono ?_
           rintro e w13 ⟨rfl,hb⟩
           have HS2_:=(hb.cell (World.block_lt_of_cell? _ _ (hHeld.2.2.1))).trans (hHeld.2.2.1)
           have HS3_:=(hb.cell (World.block_lt_of_cell? _ _ (hHeld.2.2.2))).trans (hHeld.2.2.2)
           refine⟨_,rfl,?_⟩
           have n0_:=au (Kd.bi (by(with_reducible repeat(first|apply Kd.aD|apply Kd.aC|apply Kd.aI));exact HO_3.out) hb)
           have n1_:=au (ay (g:=gb111) (o:=.cells #[.int .i64 ((ax l0 x10_1).f0),.int .i64 ((ax l0 x10_1).f1)] 35 (0,0)) (by(with_reducible repeat(first|apply ag|apply aj|apply af));exact BK111.out) hb)
           have n2_:=au (aA (by with_reducible repeat(first|exact HB.out|apply ah|apply aa|apply ai|refine ae ?_ GE111.out)) hb)
           clear HO_3
           clear BK111
           clear HB
           have HO_3:=n0_
           have BK111:=n1_
           have HB:=n2_
           clear n0_ n1_ n2_
           (try clear hb)
           (try clear hb2)
           (try clear hk)
           (try clear hi)
           refine hK.out _ _ ⟨(ak BK111.out 0).trans rfl,(ak BK111.out 1).trans rfl,HS2_,HS3_⟩ (fun hHeld=>?_)
           clear hK K
           refine bQ (a':=?_) ?_ ?_
           rotate_left
           ·show Act.put _ (some 24) _=_
            simp only[apu_]
            rfl
           refine aQ (i:=11) (N:=some 25) (v:=?_) (a':=?_) #[true,true,true,true,true,true,true,true,true,true,true,true] rfl rfl (bM HT_.out (by kernel_rfl)) (fun _ _ _ h=>h) (Or.inl ⟨by rfl,?_⟩) ?_ ?_
           rotate_left
           ·intro w'
            go_simp
            with_reducible rfl
           rotate_left
           ·simp only[apu_]
            rfl
           refine fo (gZ HT_.out (by kernel_rfl)) ?_
           try go_wp2
           go_roundg k2
           case measure=>have:=HK1.out;have:=HK2.out;omega
           case rel=>exact⟨(wrap64 (x6_2+1)),(by first|rfl|(simp;done)|(simp[*];done)),H',⟨by have:=HK1.out;have:=HK2.out;omega⟩,⟨by(with_reducible repeat(first|apply Kd.aD|apply Kd.aC|apply Kd.aI));exact HO_3.out⟩,⟨by(with_reducible repeat(first|apply ag|apply aj|apply af));exact BK111.out⟩,⟨by with_reducible repeat(first|exact HB.out|apply ah|apply aa|apply ai|refine ae ?_ GE111.out)⟩⟩
          ·replace c10:=Bool.eq_false_iff.mpr c10
           subst c10
           have H1:(if x6_2≤(x3_1.length:Int) then ((some (x3_1.take (x6_2:Int).toNat:List (S35))).bind fun y114=>(if ([]:List (S35)).length+y114.length<8796093022208 then ((some (([]:List (S35))++y114:List (S35))).bind fun y118=>(if y118.length<8796093022208 then ((some (y118++[(⟨((ax l0 x10_1).f0),((ax l0 x10_1).f1)⟩:S35)]:List (S35))).bind fun y121=>((some (x3_1.drop (x6_2:Int).toNat:List (S35))).bind fun y124=>(if y121.length+y124.length<8796093022208 then (spec_l5BySize.l0 k2 (y121++y124) l0 (l0.length:Int) (wrap64 (x10_1+1))) else (none)))) else (none))) else (none))) else (none))=some r:=by rw[if_neg (show ¬ (false=true) by decide)] at H;exact H
           clear H
           have H:=H1
           clear H1
           have c14b0:=eq_true (of_decide_eq_true (by assumption):0≤x6_2)
           by_cases c15:x6_2≤(x3_1.length:Int)
           ·rw [if_pos c15] at H
            have c15b0:=eq_true c15
            have c15b1:decide (x6_2≤(x3_1.length:Int))=true:=decide_eq_true c15
            clear c15
            obtain⟨y114,hy114⟩:∃ y_:List (S35),y_ = (x3_1.take (x6_2:Int).toNat):=⟨_,rfl⟩
            replace H:(if ([]:List (S35)).length+y114.length<8796093022208 then ((some (([]:List (S35))++y114:List (S35))).bind fun y118=>(if y118.length<8796093022208 then ((some (y118++[(⟨((ax l0 x10_1).f0),((ax l0 x10_1).f1)⟩:S35)]:List (S35))).bind fun y121=>((some (x3_1.drop (x6_2:Int).toNat:List (S35))).bind fun y124=>(if y121.length+y124.length<8796093022208 then (spec_l5BySize.l0 k2 (y121++y124) l0 (l0.length:Int) (wrap64 (x10_1+1))) else (none)))) else (none))) else (none))=some r:=by first|(rw[hy114];with_reducible exact H)|(have H2_:=(Option.bind_some _ _).symm.trans H;rw[hy114];with_reducible exact H2_)|(have H2_:=(Option.bind_some _ _).symm.trans H;with_reducible exact H2_)|with_reducible exact H|(rw[hy114];exact H)|exact H
            have Ny114:=au hy114
            clear hy114
            by_cases c16:([]:List (S35)).length+y114.length<8796093022208
            ·rw [if_pos c16] at H
             have LMc16:=au c16
             clear c16
             obtain⟨y118,hy118⟩:∃ y_:List (S35),y_ = (([]:List (S35))++y114):=⟨_,rfl⟩
             replace H:(if y118.length<8796093022208 then ((some (y118++[(⟨((ax l0 x10_1).f0),((ax l0 x10_1).f1)⟩:S35)]:List (S35))).bind fun y121=>((some (x3_1.drop (x6_2:Int).toNat:List (S35))).bind fun y124=>(if y121.length+y124.length<8796093022208 then (spec_l5BySize.l0 k2 (y121++y124) l0 (l0.length:Int) (wrap64 (x10_1+1))) else (none)))) else (none))=some r:=by first|(rw[hy118];with_reducible exact H)|(have H2_:=(Option.bind_some _ _).symm.trans H;rw[hy118];with_reducible exact H2_)|(have H2_:=(Option.bind_some _ _).symm.trans H;with_reducible exact H2_)|with_reducible exact H|(rw[hy118];exact H)|exact H
             have Ny118:=au hy118
             clear hy118
             by_cases c17:y118.length<8796093022208
             ·rw[if_pos c17] at H
              have LMc17:=au c17
              clear c17
              obtain⟨y121,hy121⟩:∃ y_:List (S35),y_ = (y118++[(⟨((ax l0 x10_1).f0),((ax l0 x10_1).f1)⟩:S35)]):=⟨_,rfl⟩
              replace H:((some (x3_1.drop (x6_2:Int).toNat:List (S35))).bind fun y124=>(if y121.length+y124.length<8796093022208 then (spec_l5BySize.l0 k2 (y121++y124) l0 (l0.length:Int) (wrap64 (x10_1+1))) else (none)))=some r:=by first|(rw[hy121];with_reducible exact H)|(have H2_:=(Option.bind_some _ _).symm.trans H;rw[hy121];with_reducible exact H2_)|(have H2_:=(Option.bind_some _ _).symm.trans H;with_reducible exact H2_)|with_reducible exact H|(rw[hy121];exact H)|exact H
              have Ny121:=au hy121
              clear hy121
              have c18b0:=eq_true (of_decide_eq_true (by assumption):0≤x6_2)
              have c19b0:=eq_true (of_decide_eq_true (by assumption):x6_2≤(x3_1.length:Int))
              obtain⟨y124,hy124⟩:∃ y_:List (S35),y_ = (x3_1.drop (x6_2:Int).toNat):=⟨_,rfl⟩
              replace H:(if y121.length+y124.length<8796093022208 then (spec_l5BySize.l0 k2 (y121++y124) l0 (l0.length:Int) (wrap64 (x10_1+1))) else (none))=some r:=by first|(rw[hy124];with_reducible exact H)|(have H2_:=(Option.bind_some _ _).symm.trans H;rw[hy124];with_reducible exact H2_)|(have H2_:=(Option.bind_some _ _).symm.trans H;with_reducible exact H2_)|with_reducible exact H|(rw[hy124];exact H)|exact H
              have Ny124:=au hy124
              clear hy124
              by_cases c20:y121.length+y124.length<8796093022208
              ·rw[if_pos c20] at H
               have LMc20:=au c20
               clear c20
               obtain⟨y128,hy128⟩:∃ y_:List (S35),y_ = (y121++y124):=⟨_,rfl⟩
               replace H:(spec_l5BySize.l0 k2 y128 l0 (l0.length:Int) (wrap64 (x10_1+1)))=some r:=by first|(rw[hy128];with_reducible exact H)|(have H2_:=(Option.bind_some _ _).symm.trans H;rw[hy128];with_reducible exact H2_)|(have H2_:=(Option.bind_some _ _).symm.trans H;with_reducible exact H2_)|with_reducible exact H|(rw[hy128];exact H)|exact H
               have Ny128:=au hy128
               clear hy128
               have H':=au H
               clear H
               try go_wp2
               have n0_:=au (Kd.aI HO_3.out)
               have n1_:=au (aj BK111.out)
               have n2_:=au (ai HB.out)
               clear HO_3
               clear BK111
               clear HB
               have HO_3:=n0_
               have BK111:=n1_
               have HB:=n2_
               clear n0_ n1_ n2_
               obtain⟨Ao22,co22,eo22⟩:=Kd.bq HO_3.out
               (first|subst eo22|(injection eo22 with f1_ f2_ f3_;have f4_:=f1_.symm;have f5_:=f3_.symm;clear f1_ f2_ f3_;subst f4_;subst f5_))
               have p112:0≤(x6_2:Int):=of_decide_eq_true (by assumption)
               have q112:x6_2 < (x3_1.length:Int):=of_decide_eq_true (by assumption)
               obtain⟨ad112,e112,hx112_0,hx112_1⟩:=bF (Kd.R_reads' HO_3.out).2.2 x6_2 p112 q112
               cases e112
               replace p112:=eq_true p112
               replace q112:=eq_true q112
               refine dZ (n:=12) (S:=fun w'=>w'.cell? ⟨gb111,0,none⟩=some (.int .i64 ((ax l0 x10_1).f0))∧w'.cell? ⟨gb111,1,none⟩=some (.int .i64 ((ax l0 x10_1).f1))∧w'.cell? (ad112.add ((x6_2).toNat*2))=some (.int .i64 ((ax x3_1 x6_2).f0))∧w'.cell? ⟨(ad112.add ((x6_2).toNat*2)).block,(ad112.add ((x6_2).toNat*2)).off+1,none⟩=some (.int .i64 ((ax x3_1 x6_2).f1))) (ds:=[]) #[false,false,false,false,false,false,false,false,false,false,false,false] (by kernel_rfl) rfl rfl ⟨(ak BK111.out 0).trans rfl,(ak BK111.out 1).trans rfl,hx112_0,hx112_1⟩ (fun hHeld=>?_);refine fB spec_l5BySize.tab6 spec_l5BySize.bits6 (fun HT_ HW_=>?_)
               generalize wr.drew=w21 at HO_3 BK111 HB hx112_0 hx112_1 hHeld ⊢
               refine aQ (i:=0) (N:=some 14) (v:=?_) (a':=?_) #[true,false,false,false,false,false,false,false,false,false,false,false] rfl rfl (bM HT_.out (by kernel_rfl)) (fun _ _ _ h=>h) (Or.inl ⟨by rfl,?_⟩) ?_ ?_
               rotate_left
               ·intro w'
                go_simp
                with_reducible rfl
               rotate_left
               ·simp only[apu_]
                rfl
               refine aQ (i:=1) (N:=some 15) (v:=?_) (a':=?_) #[true,true,false,false,false,false,false,false,false,false,false,false] rfl rfl (bM HT_.out (by kernel_rfl)) (fun _ _ _ h=>h) (Or.inl ⟨by rfl,?_⟩) ?_ ?_
               rotate_left
               ·intro w'
                go_simp
                with_reducible rfl
               rotate_left
               ·simp only[apu_]
                rfl
               refine aQ (i:=2) (N:=some 16) (v:=?_) (a':=?_) #[true,true,true,false,false,false,false,false,false,false,false,false] rfl rfl (bM HT_.out (by kernel_rfl)) (fun _ _ _ h=>h) (Or.inl ⟨by rfl,?_⟩) ?_ ?_
               rotate_left
               ·intro w'
                go_simp
                with_reducible rfl
               rotate_left
               ·simp only[apu_]
                rfl
               refine aQ (i:=3) (N:=some 17) (v:=?_) (a':=?_) #[true,true,true,true,false,false,false,false,false,false,false,false] rfl rfl (bM HT_.out (by kernel_rfl)) (fun _ _ _ h=>h) (Or.inl ⟨by rfl,?_⟩) ?_ ?_
               rotate_left
               ·intro w'
                go_simp
                with_reducible rfl
               rotate_left
               ·simp only[apu_]
                rfl
               refine aQ (i:=4) (N:=some 18) (v:=?_) (a':=?_) #[true,true,true,true,true,false,false,false,false,false,false,false] rfl rfl (bM HT_.out (by kernel_rfl)) (fun _ _ _ h=>h) (Or.inl ⟨by rfl,?_⟩) ?_ ?_
               rotate_left
               ·intro w'
                go_simp
                with_reducible rfl
               rotate_left
               ·simp only[apu_]
                rfl
               refine aQ (i:=5) (N:=some 19) (v:=?_) (a':=?_) #[true,true,true,true,true,true,false,false,false,false,false,false] rfl rfl (bM HT_.out (by kernel_rfl)) (fun _ _ _ h=>h) (Or.inl ⟨by rfl,?_⟩) ?_ ?_
               rotate_left
               ·intro w'
                go_simp
                with_reducible rfl
               rotate_left
               ·simp only[apu_]
                rfl
               refine aQ (i:=6) (N:=some 20) (v:=?_) (a':=?_) #[true,true,true,true,true,true,true,false,false,false,false,false] rfl rfl (bM HT_.out (by kernel_rfl)) (fun _ _ _ h=>h) (Or.inl ⟨by rfl,?_⟩) ?_ ?_
               rotate_left
               ·intro w'
                go_simp
                with_reducible rfl
               rotate_left
               ·simp only[apu_]
                rfl
               refine aQ (i:=7) (N:=some 21) (v:=?_) (a':=?_) #[true,true,true,true,true,true,true,true,false,false,false,false] rfl rfl (bM HT_.out (by kernel_rfl)) (fun _ _ _ h=>h) (Or.inl ⟨by rfl,?_⟩) ?_ ?_
               rotate_left
               ·intro w'
                go_simp
                with_reducible rfl
               rotate_left
               ·simp only[apu_]
                rfl
               refine bN (i:=8) (N:=some 22) (v:=?_) (a':=?_) #[true,true,true,true,true,true,true,true,true,false,false,false] rfl rfl (dF HT_.out HW_.out (by kernel_rfl)) (fun _ _ _ h=>h) (Or.inl ⟨by rfl,?_⟩) hHeld ?_ ?_
               rotate_left
               ·rintro w' ⟨s0,s1,s2,s3⟩
                go_simp
                with_reducible rfl
               rotate_left
               ·simp only[apu_]
                rfl
               refine bN (i:=9) (N:=some 23) (v:=?_) (a':=?_) #[true,true,true,true,true,true,true,true,true,true,false,false] rfl rfl (dF HT_.out HW_.out (by kernel_rfl)) (fun _ _ _ h=>h) (Or.inl ⟨by rfl,?_⟩) hHeld ?_ ?_
               rotate_left
               ·rintro w' ⟨s0,s1,s2,s3⟩
                go_simp
                with_reducible rfl
               rotate_left
               ·simp only[apu_]
                rfl
               refine dN (i:=10) (N:=some 24) #[true,true,true,true,true,true,true,true,true,true,true,false] rfl rfl (ed HT_.out (by kernel_rfl)) (by decide) (fun K hK=>?_)
               refine dh Try.func79 (by kernel_rfl) rfl #[.agg #[.int .i64 ((ax x3_1 x6_2).f0),.int .i64 ((ax x3_1 x6_2).f1)],.agg #[.int .i64 ((ax l0 x10_1).f0),.int .i64 ((ax l0 x10_1).f1)]] (by rfl) rfl rfl (by(try simp only[amp_]);first|done|rfl|(simp only[ald_];rfl)) ?_
               with_reducible refine(spec_l5Less.calls ((ax x3_1 x6_2).f0) ((ax x3_1 x6_2).f1) ((ax l0 x10_1).f0) ((ax l0 x10_1).f1) false _ A9.out).mono ?_
               rintro e w23 ⟨rfl,hb⟩
               have HS2_:=(hb.cell (World.block_lt_of_cell? _ _ (hHeld.2.2.1))).trans (hHeld.2.2.1)
               have HS3_:=(hb.cell (World.block_lt_of_cell? _ _ (hHeld.2.2.2))).trans (hHeld.2.2.2)
               refine⟨_,rfl,?_⟩
               have n0_:=au (Kd.bi (by(with_reducible repeat(first|apply Kd.aD|apply Kd.aC|apply Kd.aI));exact HO_3.out) hb)
               have n1_:=au (ay (g:=gb111) (o:=.cells #[.int .i64 ((ax l0 x10_1).f0),.int .i64 ((ax l0 x10_1).f1)] 35 (0,0)) (by(with_reducible repeat(first|apply ag|apply aj|apply af));exact BK111.out) hb)
               have n2_:=au (aA (by with_reducible repeat(first|exact HB.out|apply ah|apply aa|apply ai|refine ae ?_ GE111.out)) hb)
               clear HO_3
               clear BK111
               clear HB
               have HO_3:=n0_
               have BK111:=n1_
               have HB:=n2_
               clear n0_ n1_ n2_
               (try clear hb)
               (try clear hb2)
               (try clear hk)
               (try clear hi)
               refine hK.out _ _ ⟨(ak BK111.out 0).trans rfl,(ak BK111.out 1).trans rfl,HS2_,HS3_⟩ (fun hHeld=>?_)
               clear hK K
               refine bQ (a':=?_) ?_ ?_
               rotate_left
               ·show Act.put _ (some 24) _=_
                simp only[apu_]
                rfl
               refine aQ (i:=11) (N:=some 25) (v:=?_) (a':=?_) #[true,true,true,true,true,true,true,true,true,true,true,true] rfl rfl (bM HT_.out (by kernel_rfl)) (fun _ _ _ h=>h) (Or.inl ⟨by rfl,?_⟩) ?_ ?_
               rotate_left
               ·intro w'
                go_simp
                with_reducible rfl
               rotate_left
               ·simp only[apu_]
                rfl
               refine fo (gZ HT_.out (by kernel_rfl)) ?_
               have q24:(x6_2:Int)≤((x3_1.length:Int):Int):=of_decide_eq_true (by assumption)
               obtain⟨i024,hi024,_,hsz24,_⟩:=info_parts bV
               have hroom24:x3_1.length≤co22:=(Kd.R_reads' HO_3.out).2.1
               have hC24:Kd.C k35 _ (some ad112) x3_1.length x3_1:=(Kd.R_reads' HO_3.out).2.2
               have hcut24:=jF (P:=Try.prog) 22 35 .i64 Try.underlying22 hi024 (some ad112) x3_1.length co22 x6_2 (of_decide_eq_true (by assumption)) q24 hroom24
               have hr24:=Kd.fJ (m:=(x6_2:Int).toNat) hC24 (by omega)
               have hy24:y114.length = (x6_2:Int).toNat:=(by rw[Ny114.out,List.length_take];omega)
               rw[← Ny114.out] at hr24
               rw[← hy24] at hcut24
               have HR117:=au hr24
               have HC117:=au (show y114.length≤co22 from by omega)
               clear hr24 hC24 hroom24 hi024 hsz24
               have KY24:=au hy24
               clear hy24
               have KL24:=au (show(x6_2:Int).toNat≤x3_1.length from by omega)
               replace q24:=eq_true q24
               try go_wp2_with (first|((with_reducible refine bu (b:=.append) (xs:=#[.tmp 28,.tmp 31]) rfl ?_);at_builtin;refine Kd.bY k35 (w0:=w) w.heap.size rfl (.tmp 28) (.tmp 31) 22 35 (.agg #[(.int .i64 0),(.int .i64 0)]) 16 rfl Try.underlying22 bV rfl (by decide) (by omega) (.slice none 0 0) ([]:List (S35)) y114 _ _ _ (fun k_=>some k_≠(.slice (some ad112) x3_1.length co22:Value).ownBlock∧k_≠gb111) (fun _=>False) rfl rfl ?aO ?aR (fun _ _ h=>h) (fun _ h=>h.elim) ?aF ?aB ?aS ?aL ?_;(case aR=>repeat(first|exact(by repeat(first|(with_reducible exact HR117.out)|(with_reducible first|apply Kd.aY|apply Kd.aZ|apply Kd.bn)|exact HR117.out))|(with_reducible first|apply Kd.aY|apply Kd.aZ|apply Kd.bn)));(case aB=>exact(by with_reducible repeat(first|exact HB.out|apply ah|apply aa|apply ai|refine ae ?_ GE111.out)));(case aF=>exact(fun k_ hk=>⟨Kd.fresh' (Kd.fq (by(with_reducible repeat(first|apply Kd.aD|apply Kd.aC|apply Kd.aI));exact HO_3.out)) k_ hk,Kd.bZ (g:=gb111) (o:=.cells #[.int .i64 ((ax l0 x10_1).f0),.int .i64 ((ax l0 x10_1).f1)] 35 (0,0)) (by(with_reducible repeat(first|apply ag|apply aj|apply af));exact BK111.out) k_ hk⟩));(case aO=>exact((Kd.dn _ _ _ _ (fun k_=>some k_≠(.slice (some ad112) x3_1.length co22:Value).ownBlock∧k_≠gb111))));(case aS=>exact(az (by with_reducible repeat(first|exact HB.out|apply ah|apply aa|apply ai|refine ae ?_ GE111.out))));(case aL=>have:=LMc16.out;omega);intro v119 w25 ho hb hg hat;rw[← Ny118.out] at ho;replace BK111:=au (bf (g:=gb111) (o:=.cells #[.int .i64 ((ax l0 x10_1).f0),.int .i64 ((ax l0 x10_1).f1)] 35 (0,0)) (by(with_reducible repeat(first|apply ag|apply aj|apply af));exact BK111.out) hg (by simp[Value.ownBlock]));replace HB:=au (hb);replace HR117:=au ((show Kd.C k35 w25 (some ad112) y114.length y114 from by rw[Ny114.out];exact Kd.fJ (m:=(x6_2:Int).toNat) ((Kd.R_reads' (Kd.dV (Kd.gG (by(with_reducible repeat(first|apply Kd.aD|apply Kd.aC|apply Kd.aI));exact HO_3.out)) hg hat)).2.2) KL24.out));replace HO_3:=au (Kd.dV (Kd.gG (by(with_reducible repeat(first|apply Kd.aD|apply Kd.aC|apply Kd.aI));exact HO_3.out)) hg hat);have HO120:=au (ho);clear ho hb hg hat;have hcz26_0:w25.cell? ⟨gb111,0,none⟩=some (.int .i64 ((ax l0 x10_1).f0)):=(ak BK111.out 0).trans rfl;have hcz26_1:w25.cell? ⟨gb111,1,none⟩=some (.int .i64 ((ax l0 x10_1).f1)):=(ak BK111.out 1).trans rfl;have hfz26_0:=av BK111.out 0;have hfz26_1:=av BK111.out 1)|((with_reducible refine bu (b:=.append) (xs:=#[.tmp 33,.tmp 35]) rfl ?_);at_builtin;refine Kd.dH k35 (w0:=w) w.heap.size rfl (.tmp 33) (.tmp 35) 22 35 (.agg #[(.int .i64 0),(.int .i64 0)]) 16 rfl Try.underlying22 bV rfl (by decide) (by omega) v119 y118 (⟨((ax l0 x10_1).f0),((ax l0 x10_1).f1)⟩:S35) [.int .i64 ((ax l0 x10_1).f0),.int .i64 ((ax l0 x10_1).f1)] (fun k_=>some k_≠(.slice (some ad112) x3_1.length co22:Value).ownBlock∧k_≠gb111) (fun _=>False) rfl rfl ?aP (fun _ hk=>hk.elim) ?aF ?aO ?aB ?aS ?aL ?_;(case aP=>exact eu _ _ _ (⟨((ax l0 x10_1).f0),((ax l0 x10_1).f1)⟩:S35));(case aB=>exact(by with_reducible repeat(first|exact HB.out|apply ah|apply aa|apply ai|refine ae ?_ GE111.out)));(case aF=>exact(fun k_ hk=>⟨Kd.fresh' (Kd.fq (by(with_reducible repeat(first|apply Kd.aD|apply Kd.aC|apply Kd.aI));exact HO_3.out)) k_ hk,Kd.bZ (g:=gb111) (o:=.cells #[.int .i64 ((ax l0 x10_1).f0),.int .i64 ((ax l0 x10_1).f1)] 35 (0,0)) (by(with_reducible repeat(first|apply ag|apply aj|apply af));exact BK111.out) k_ hk⟩));(case aO=>exact(by(with_reducible repeat(first|apply Kd.aD|apply Kd.aC|apply Kd.aI));exact HO120.out));(case aS=>exact(az (by with_reducible repeat(first|exact HB.out|apply ah|apply aa|apply ai|refine ae ?_ GE111.out))));(case aL=>have:=LMc17.out;omega);intro v122 w27 ho hb hg hat;rw[← Ny121.out] at ho;replace BK111:=au (bf (g:=gb111) (o:=.cells #[.int .i64 ((ax l0 x10_1).f0),.int .i64 ((ax l0 x10_1).f1)] 35 (0,0)) (by(with_reducible repeat(first|apply ag|apply aj|apply af));exact BK111.out) hg (Kd.dA HO120.out (fun _ hk=>hk.2)));replace HB:=au (hb);replace HR117:=au ((show Kd.C k35 w27 (some ad112) y114.length y114 from by rw[Ny114.out];exact Kd.fJ (m:=(x6_2:Int).toNat) ((Kd.R_reads' (Kd.dV (ok:=(fun k_=>k_≠gb111)) (by(with_reducible repeat(first|apply Kd.aD|apply Kd.aC|apply Kd.aI));exact HO_3.out) hg hat)).2.2) KL24.out));replace HO_3:=au (Kd.dV (ok:=(fun k_=>k_≠gb111)) (by(with_reducible repeat(first|apply Kd.aD|apply Kd.aC|apply Kd.aI));exact HO_3.out) hg hat);have HO123:=au (ho);clear HO120;clear ho hb hg hat;have q28:(x6_2:Int)≤((x3_1.length:Int):Int):=of_decide_eq_true (by assumption);obtain⟨i028,hi028,_,hsz28,_⟩:=info_parts bV;have hroom28:x3_1.length≤co22:=(Kd.R_reads' HO_3.out).2.1;have hC28:Kd.C k35 _ (some ad112) x3_1.length x3_1:=(Kd.R_reads' HO_3.out).2.2;have q028:(0:Int)≤(x6_2:Int):=of_decide_eq_true (by assumption);have hcut28:=gU (P:=Try.prog) 22 35 .i64 Try.underlying22 hi028 2 hsz28 (some ad112) x3_1.length co22 x6_2 q028 q28;have hr28:=Kd.iw (m:=(x6_2:Int).toNat) (c:=co22) hC28 (by omega) hroom28;obtain⟨A28,hA28⟩:∃ A1,A1 = (if co22 = (x6_2:Int).toNat then (some ad112) else ((some ad112):Option Addr).map (·.add ((x6_2:Int).toNat*2))):=⟨_,rfl⟩;obtain⟨c28,hc28⟩:∃ c1,c1=co22 - (x6_2:Int).toNat:=⟨_,rfl⟩;have hy28:y124.length=x3_1.length - (x6_2:Int).toNat:=(by rw[Ny124.out,List.length_drop] <;> omega);rw[show(x3_1).drop (x6_2:Int).toNat=y124 from Ny124.out.symm] at hr28;replace hr28:Kd.C k35 _ A28 y124.length y124:=(by rw[hA28];exact hr28);rw[← hy28,← hA28,← hc28] at hcut28;have HR127:=au hr28;have HC127:=au (show y124.length≤c28 from by rw[hy28,hc28];exact Nat.sub_le_sub_right hroom28 _);clear hr28 hC28 hroom28 hi028 hsz28 hc28;have KY28:=au hy28;have KA28:=au hA28;clear hy28 hA28;have KL28:=au (show(x6_2:Int).toNat≤x3_1.length from by omega);replace q28:=eq_true q28)|((with_reducible refine bu (b:=.append) (xs:=#[.tmp 37,.tmp 40]) rfl ?_);at_builtin;refine Kd.bY k35 (w0:=w) w.heap.size rfl (.tmp 37) (.tmp 40) 22 35 (.agg #[(.int .i64 0),(.int .i64 0)]) 16 rfl Try.underlying22 bV rfl (by decide) (by omega) v122 y121 y124 _ _ _ (fun k_=>some k_≠(.slice (some ad112) x3_1.length co22:Value).ownBlock∧k_≠gb111) (fun _=>False) rfl rfl ?aO ?aR (fun _ _ h=>h) (fun _ h=>h.elim) ?aF ?aB ?aS ?aL ?_;(case aR=>repeat(first|exact(by repeat(first|(with_reducible exact HR127.out)|(with_reducible first|apply Kd.aY|apply Kd.aZ|apply Kd.bn)|exact HR127.out))|(with_reducible first|apply Kd.aY|apply Kd.aZ|apply Kd.bn)));(case aB=>exact(by with_reducible repeat(first|exact HB.out|apply ah|apply aa|apply ai|refine ae ?_ GE111.out)));(case aF=>exact(fun k_ hk=>⟨Kd.fresh' (Kd.fq (by(with_reducible repeat(first|apply Kd.aD|apply Kd.aC|apply Kd.aI));exact HO_3.out)) k_ hk,Kd.bZ (g:=gb111) (o:=.cells #[.int .i64 ((ax l0 x10_1).f0),.int .i64 ((ax l0 x10_1).f1)] 35 (0,0)) (by(with_reducible repeat(first|apply ag|apply aj|apply af));exact BK111.out) k_ hk⟩));(case aO=>exact(by(with_reducible repeat(first|apply Kd.aD|apply Kd.aC|apply Kd.aI));exact HO123.out));(case aS=>exact(az (by with_reducible repeat(first|exact HB.out|apply ah|apply aa|apply ai|refine ae ?_ GE111.out))));(case aL=>have:=LMc20.out;omega);intro v129 w29 ho hb hg hat;rw[← Ny128.out] at ho;replace BK111:=au (bf (g:=gb111) (o:=.cells #[.int .i64 ((ax l0 x10_1).f0),.int .i64 ((ax l0 x10_1).f1)] 35 (0,0)) (by(with_reducible repeat(first|apply ag|apply aj|apply af));exact BK111.out) hg (Kd.dA HO123.out (fun _ hk=>hk.2)));replace HB:=au (hb);replace HR117:=au ((show Kd.C k35 w29 (some ad112) y114.length y114 from by rw[Ny114.out];exact Kd.fJ (m:=(x6_2:Int).toNat) ((Kd.R_reads' (Kd.dV (ok:=(fun k_=>k_≠gb111)) (by(with_reducible repeat(first|apply Kd.aD|apply Kd.aC|apply Kd.aI));exact HO_3.out) hg hat)).2.2) KL24.out));replace HR127:=au ((show Kd.C k35 w29 A28 y124.length y124 from by rw[Ny124.out,KA28.out];exact Kd.iw (m:=(x6_2:Int).toNat) (c:=co22) ((Kd.R_reads' (Kd.dV (ok:=(fun k_=>k_≠gb111)) (by(with_reducible repeat(first|apply Kd.aD|apply Kd.aC|apply Kd.aI));exact HO_3.out) hg hat)).2.2) KL28.out ((Kd.R_reads' (Kd.dV (ok:=(fun k_=>k_≠gb111)) (by(with_reducible repeat(first|apply Kd.aD|apply Kd.aC|apply Kd.aI));exact HO_3.out) hg hat)).2.1)));replace HO_3:=au (Kd.dV (ok:=(fun k_=>k_≠gb111)) (by(with_reducible repeat(first|apply Kd.aD|apply Kd.aC|apply Kd.aI));exact HO_3.out) hg hat);have HO130:=au (ho);clear HO123;clear ho hb hg hat))
               go_roundg k2
               case measure=>have:=HK1.out;have:=HK2.out;omega
               case rel=>exact⟨(y128),(wrap64 (x10_1+1)),(by first|rfl|(simp;done)|(simp[*];done)),H',⟨by have:=HK1.out;have:=HK2.out;omega⟩,⟨by(with_reducible repeat(first|apply Kd.aD|apply Kd.aC|apply Kd.aI));exact Kd.aT HO130.out (fun _ hk=>trivial)⟩,⟨by with_reducible repeat(first|exact HB.out|apply ah|apply aa|apply ai|refine ae ?_ GE111.out)⟩⟩
              ·rw[if_neg c20] at H
               exact absurd H (by simp)
             ·rw[if_neg c17] at H
              exact absurd H (by simp)
            ·rw[if_neg c16] at H
             exact absurd H (by simp)
           ·rw[if_neg c15] at H
            exact absurd H (by simp)
         ·rw[if_neg c8] at H
          exact absurd H (by simp)
        ·rw [if_neg c7] at H
         have c7b0:decide (x6_2 < (x3_1.length:Int))=false:=decide_eq_false c7
         clear c7
         by_cases c30:0≤x6_2
         ·rw [if_pos c30] at H
          have c30b0:=eq_true c30
          have c30b1:decide (0≤x6_2)=true:=decide_eq_true c30
          clear c30
          by_cases c31:x6_2≤(x3_1.length:Int)
          ·rw [if_pos c31] at H
           have c31b0:=eq_true c31
           have c31b1:decide (x6_2≤(x3_1.length:Int))=true:=decide_eq_true c31
           clear c31
           obtain⟨y131,hy131⟩:∃ y_:List (S35),y_ = (x3_1.take (x6_2:Int).toNat):=⟨_,rfl⟩
           replace H:(if ([]:List (S35)).length+y131.length<8796093022208 then ((some (([]:List (S35))++y131:List (S35))).bind fun y135=>(if y135.length<8796093022208 then ((some (y135++[(⟨((ax l0 x10_1).f0),((ax l0 x10_1).f1)⟩:S35)]:List (S35))).bind fun y138=>((some (x3_1.drop (x6_2:Int).toNat:List (S35))).bind fun y141=>(if y138.length+y141.length<8796093022208 then (spec_l5BySize.l0 k2 (y138++y141) l0 (l0.length:Int) (wrap64 (x10_1+1))) else (none)))) else (none))) else (none))=some r:=by first|(rw[hy131];with_reducible exact H)|(have H2_:=(Option.bind_some _ _).symm.trans H;rw[hy131];with_reducible exact H2_)|(have H2_:=(Option.bind_some _ _).symm.trans H;with_reducible exact H2_)|with_reducible exact H|(rw[hy131];exact H)|exact H
           have Ny131:=au hy131
           clear hy131
           by_cases c32:([]:List (S35)).length+y131.length<8796093022208
           ·rw [if_pos c32] at H
            have LMc32:=au c32
            clear c32
            obtain⟨y135,hy135⟩:∃ y_:List (S35),y_ = (([]:List (S35))++y131):=⟨_,rfl⟩
            replace H:(if y135.length<8796093022208 then ((some (y135++[(⟨((ax l0 x10_1).f0),((ax l0 x10_1).f1)⟩:S35)]:List (S35))).bind fun y138=>((some (x3_1.drop (x6_2:Int).toNat:List (S35))).bind fun y141=>(if y138.length+y141.length<8796093022208 then (spec_l5BySize.l0 k2 (y138++y141) l0 (l0.length:Int) (wrap64 (x10_1+1))) else (none)))) else (none))=some r:=by first|(rw[hy135];with_reducible exact H)|(have H2_:=(Option.bind_some _ _).symm.trans H;rw[hy135];with_reducible exact H2_)|(have H2_:=(Option.bind_some _ _).symm.trans H;with_reducible exact H2_)|with_reducible exact H|(rw[hy135];exact H)|exact H
            have Ny135:=au hy135
            clear hy135
            by_cases c33:y135.length<8796093022208
            ·rw[if_pos c33] at H
             have LMc33:=au c33
             clear c33
             obtain⟨y138,hy138⟩:∃ y_:List (S35),y_ = (y135++[(⟨((ax l0 x10_1).f0),((ax l0 x10_1).f1)⟩:S35)]):=⟨_,rfl⟩
             replace H:((some (x3_1.drop (x6_2:Int).toNat:List (S35))).bind fun y141=>(if y138.length+y141.length<8796093022208 then (spec_l5BySize.l0 k2 (y138++y141) l0 (l0.length:Int) (wrap64 (x10_1+1))) else (none)))=some r:=by first|(rw[hy138];with_reducible exact H)|(have H2_:=(Option.bind_some _ _).symm.trans H;rw[hy138];with_reducible exact H2_)|(have H2_:=(Option.bind_some _ _).symm.trans H;with_reducible exact H2_)|with_reducible exact H|(rw[hy138];exact H)|exact H
             have Ny138:=au hy138
             clear hy138
             have c34b0:=eq_true (of_decide_eq_true (by assumption):0≤x6_2)
             have c35b0:=eq_true (of_decide_eq_true (by assumption):x6_2≤(x3_1.length:Int))
             obtain⟨y141,hy141⟩:∃ y_:List (S35),y_ = (x3_1.drop (x6_2:Int).toNat):=⟨_,rfl⟩
             replace H:(if y138.length+y141.length<8796093022208 then (spec_l5BySize.l0 k2 (y138++y141) l0 (l0.length:Int) (wrap64 (x10_1+1))) else (none))=some r:=by first|(rw[hy141];with_reducible exact H)|(have H2_:=(Option.bind_some _ _).symm.trans H;rw[hy141];with_reducible exact H2_)|(have H2_:=(Option.bind_some _ _).symm.trans H;with_reducible exact H2_)|with_reducible exact H|(rw[hy141];exact H)|exact H
             have Ny141:=au hy141
             clear hy141
             by_cases c36:y138.length+y141.length<8796093022208
             ·rw[if_pos c36] at H
              have LMc36:=au c36
              clear c36
              obtain⟨y145,hy145⟩:∃ y_:List (S35),y_ = (y138++y141):=⟨_,rfl⟩
              replace H:(spec_l5BySize.l0 k2 y145 l0 (l0.length:Int) (wrap64 (x10_1+1)))=some r:=by first|(rw[hy145];with_reducible exact H)|(have H2_:=(Option.bind_some _ _).symm.trans H;rw[hy145];with_reducible exact H2_)|(have H2_:=(Option.bind_some _ _).symm.trans H;with_reducible exact H2_)|with_reducible exact H|(rw[hy145];exact H)|exact H
              have Ny145:=au hy145
              clear hy145
              have H':=au H
              clear H
              try go_wp2
              have n0_:=au (Kd.aI HO_3.out)
              have n1_:=au (aj BK111.out)
              have n2_:=au (ai HB.out)
              clear HO_3
              clear BK111
              clear HB
              have HO_3:=n0_
              have BK111:=n1_
              have HB:=n2_
              clear n0_ n1_ n2_
              obtain⟨Ao38,co38,eo38⟩:=Kd.bq HO_3.out
              (first|subst eo38|(injection eo38 with f1_ f2_ f3_;have f4_:=f1_.symm;have f5_:=f3_.symm;clear f1_ f2_ f3_;subst f4_;subst f5_))
              refine dZ (n:=12) (S:=fun w'=>True) (ds:=[]) #[false,false,false,false,false,false,false,false,false,false,false,false] (by kernel_rfl) rfl rfl trivial (fun hHeld=>?_);refine fB spec_l5BySize.tab6 spec_l5BySize.bits6 (fun HT_ HW_=>?_)
              generalize wr.drew=w37 at HO_3 BK111 HB hHeld ⊢
              refine aQ (i:=0) (N:=some 14) (v:=?_) (a':=?_) #[true,false,false,false,false,false,false,false,false,false,false,false] rfl rfl (bM HT_.out (by kernel_rfl)) (fun _ _ _ h=>h) (Or.inl ⟨by rfl,?_⟩) ?_ ?_
              rotate_left
              ·intro w'
               go_simp
               with_reducible rfl
              rotate_left
              ·simp only[apu_]
               rfl
              refine aQ (i:=1) (N:=some 15) (v:=?_) (a':=?_) #[true,true,false,false,false,false,false,false,false,false,false,false] rfl rfl (bM HT_.out (by kernel_rfl)) (fun _ _ _ h=>h) (Or.inl ⟨by rfl,?_⟩) ?_ ?_
              rotate_left
              ·intro w'
               go_simp
               with_reducible rfl
              rotate_left
              ·simp only[apu_]
               rfl
              refine aQ (i:=2) (N:=some 16) (v:=?_) (a':=?_) #[true,true,true,false,false,false,false,false,false,false,false,false] rfl rfl (bM HT_.out (by kernel_rfl)) (fun _ _ _ h=>h) (Or.inl ⟨by rfl,?_⟩) ?_ ?_
              rotate_left
              ·intro w'
               go_simp
               with_reducible rfl
              rotate_left
              ·simp only[apu_]
               rfl
              refine aQ (i:=3) (N:=some 17) (v:=?_) (a':=?_) #[true,true,true,true,false,false,false,false,false,false,false,false] rfl rfl (bM HT_.out (by kernel_rfl)) (fun _ _ _ h=>h) (Or.inl ⟨by rfl,?_⟩) ?_ ?_
              rotate_left
              ·intro w'
               go_simp
               with_reducible rfl
              rotate_left
              ·simp only[apu_]
               rfl
              refine aQ (i:=4) (N:=some 18) (v:=?_) (a':=?_) #[true,true,true,true,true,false,false,false,false,false,false,false] rfl rfl (bM HT_.out (by kernel_rfl)) (fun _ _ _ h=>h) (Or.inl ⟨by rfl,?_⟩) ?_ ?_
              rotate_left
              ·intro w'
               go_simp
               with_reducible rfl
              rotate_left
              ·simp only[apu_]
               rfl
              refine aQ (i:=5) (N:=some 19) (v:=undef) (a':=?_) #[true,true,true,true,true,true,false,false,false,false,false,false] rfl rfl (bM HT_.out (by kernel_rfl)) (fun _ _ _ h=>h) (Or.inr ⟨by rfl,rfl⟩) ?_ ?_
              rotate_left
              ·simp only[apu_]
               rfl
              refine aQ (i:=6) (N:=some 20) (v:=undef) (a':=?_) #[true,true,true,true,true,true,true,false,false,false,false,false] rfl rfl (bM HT_.out (by kernel_rfl)) (fun _ _ _ h=>h) (Or.inr ⟨by rfl,rfl⟩) ?_ ?_
              rotate_left
              ·simp only[apu_]
               rfl
              refine aQ (i:=7) (N:=some 21) (v:=undef) (a':=?_) #[true,true,true,true,true,true,true,true,false,false,false,false] rfl rfl (bM HT_.out (by kernel_rfl)) (fun _ _ _ h=>h) (Or.inr ⟨by rfl,rfl⟩) ?_ ?_
              rotate_left
              ·simp only[apu_]
               rfl
              refine aQ (i:=8) (N:=some 22) (v:=undef) (a':=?_) #[true,true,true,true,true,true,true,true,true,false,false,false] rfl rfl (bM HT_.out (by kernel_rfl)) (fun _ _ _ h=>h) (Or.inr ⟨by rfl,rfl⟩) ?_ ?_
              rotate_left
              ·simp only[apu_]
               rfl
              refine aQ (i:=9) (N:=some 23) (v:=undef) (a':=?_) #[true,true,true,true,true,true,true,true,true,true,false,false] rfl rfl (bM HT_.out (by kernel_rfl)) (fun _ _ _ h=>h) (Or.inr ⟨by rfl,rfl⟩) ?_ ?_
              rotate_left
              ·simp only[apu_]
               rfl
              refine aQ (i:=10) (N:=some 24) (v:=undef) (a':=?_) #[true,true,true,true,true,true,true,true,true,true,true,false] rfl rfl (bM HT_.out (by kernel_rfl)) (fun _ _ _ h=>h) (Or.inr ⟨by rfl,rfl⟩) ?_ ?_
              rotate_left
              ·simp only[apu_]
               rfl
              refine aQ (i:=11) (N:=some 25) (v:=?_) (a':=?_) #[true,true,true,true,true,true,true,true,true,true,true,true] rfl rfl (bM HT_.out (by kernel_rfl)) (fun _ _ _ h=>h) (Or.inl ⟨by rfl,?_⟩) ?_ ?_
              rotate_left
              ·intro w'
               go_simp
               with_reducible rfl
              rotate_left
              ·simp only[apu_]
               rfl
              refine fo (gZ HT_.out (by kernel_rfl)) ?_
              have q39:(x6_2:Int)≤((x3_1.length:Int):Int):=of_decide_eq_true (by assumption)
              obtain⟨i039,hi039,_,hsz39,_⟩:=info_parts bV
              have hroom39:x3_1.length≤co38:=(Kd.R_reads' HO_3.out).2.1
              have hC39:Kd.C k35 _ Ao38 x3_1.length x3_1:=(Kd.R_reads' HO_3.out).2.2
              have hcut39:=jF (P:=Try.prog) 22 35 .i64 Try.underlying22 hi039 Ao38 x3_1.length co38 x6_2 (of_decide_eq_true (by assumption)) q39 hroom39
              have hr39:=Kd.fJ (m:=(x6_2:Int).toNat) hC39 (by omega)
              have hy39:y131.length = (x6_2:Int).toNat:=(by rw[Ny131.out,List.length_take];omega)
              rw[← Ny131.out] at hr39
              rw[← hy39] at hcut39
              have HR134:=au hr39
              have HC134:=au (show y131.length≤co38 from by omega)
              clear hr39 hC39 hroom39 hi039 hsz39
              have KY39:=au hy39
              clear hy39
              have KL39:=au (show(x6_2:Int).toNat≤x3_1.length from by omega)
              replace q39:=eq_true q39
              try go_wp2_with (first|((with_reducible refine bu (b:=.append) (xs:=#[.tmp 28,.tmp 31]) rfl ?_);at_builtin;refine Kd.bY k35 (w0:=w) w.heap.size rfl (.tmp 28) (.tmp 31) 22 35 (.agg #[(.int .i64 0),(.int .i64 0)]) 16 rfl Try.underlying22 bV rfl (by decide) (by omega) (.slice none 0 0) ([]:List (S35)) y131 _ _ _ (fun k_=>some k_≠(.slice Ao38 x3_1.length co38:Value).ownBlock∧k_≠gb111) (fun _=>False) rfl rfl ?aO ?aR (fun _ _ h=>h) (fun _ h=>h.elim) ?aF ?aB ?aS ?aL ?_;(case aR=>repeat(first|exact(by repeat(first|(with_reducible exact HR134.out)|(with_reducible first|apply Kd.aY|apply Kd.aZ|apply Kd.bn)|exact HR134.out))|(with_reducible first|apply Kd.aY|apply Kd.aZ|apply Kd.bn)));(case aB=>exact(by with_reducible repeat(first|exact HB.out|apply ah|apply aa|apply ai|refine ae ?_ GE111.out)));(case aF=>exact(fun k_ hk=>⟨Kd.fresh' (Kd.fq (by(with_reducible repeat(first|apply Kd.aD|apply Kd.aC|apply Kd.aI));exact HO_3.out)) k_ hk,Kd.bZ (g:=gb111) (o:=.cells #[.int .i64 ((ax l0 x10_1).f0),.int .i64 ((ax l0 x10_1).f1)] 35 (0,0)) (by(with_reducible repeat(first|apply ag|apply aj|apply af));exact BK111.out) k_ hk⟩));(case aO=>exact((Kd.dn _ _ _ _ (fun k_=>some k_≠(.slice Ao38 x3_1.length co38:Value).ownBlock∧k_≠gb111))));(case aS=>exact(az (by with_reducible repeat(first|exact HB.out|apply ah|apply aa|apply ai|refine ae ?_ GE111.out))));(case aL=>have:=LMc32.out;omega);intro v136 w40 ho hb hg hat;rw[← Ny135.out] at ho;replace BK111:=au (bf (g:=gb111) (o:=.cells #[.int .i64 ((ax l0 x10_1).f0),.int .i64 ((ax l0 x10_1).f1)] 35 (0,0)) (by(with_reducible repeat(first|apply ag|apply aj|apply af));exact BK111.out) hg (by simp[Value.ownBlock]));replace HB:=au (hb);replace HR134:=au ((show Kd.C k35 w40 Ao38 y131.length y131 from by rw[Ny131.out];exact Kd.fJ (m:=(x6_2:Int).toNat) ((Kd.R_reads' (Kd.dV (Kd.gG (by(with_reducible repeat(first|apply Kd.aD|apply Kd.aC|apply Kd.aI));exact HO_3.out)) hg hat)).2.2) KL39.out));replace HO_3:=au (Kd.dV (Kd.gG (by(with_reducible repeat(first|apply Kd.aD|apply Kd.aC|apply Kd.aI));exact HO_3.out)) hg hat);have HO137:=au (ho);clear ho hb hg hat;have hcz41_0:w40.cell? ⟨gb111,0,none⟩=some (.int .i64 ((ax l0 x10_1).f0)):=(ak BK111.out 0).trans rfl;have hcz41_1:w40.cell? ⟨gb111,1,none⟩=some (.int .i64 ((ax l0 x10_1).f1)):=(ak BK111.out 1).trans rfl;have hfz41_0:=av BK111.out 0;have hfz41_1:=av BK111.out 1)|((with_reducible refine bu (b:=.append) (xs:=#[.tmp 33,.tmp 35]) rfl ?_);at_builtin;refine Kd.dH k35 (w0:=w) w.heap.size rfl (.tmp 33) (.tmp 35) 22 35 (.agg #[(.int .i64 0),(.int .i64 0)]) 16 rfl Try.underlying22 bV rfl (by decide) (by omega) v136 y135 (⟨((ax l0 x10_1).f0),((ax l0 x10_1).f1)⟩:S35) [.int .i64 ((ax l0 x10_1).f0),.int .i64 ((ax l0 x10_1).f1)] (fun k_=>some k_≠(.slice Ao38 x3_1.length co38:Value).ownBlock∧k_≠gb111) (fun _=>False) rfl rfl ?aP (fun _ hk=>hk.elim) ?aF ?aO ?aB ?aS ?aL ?_;(case aP=>exact eu _ _ _ (⟨((ax l0 x10_1).f0),((ax l0 x10_1).f1)⟩:S35));(case aB=>exact(by with_reducible repeat(first|exact HB.out|apply ah|apply aa|apply ai|refine ae ?_ GE111.out)));(case aF=>exact(fun k_ hk=>⟨Kd.fresh' (Kd.fq (by(with_reducible repeat(first|apply Kd.aD|apply Kd.aC|apply Kd.aI));exact HO_3.out)) k_ hk,Kd.bZ (g:=gb111) (o:=.cells #[.int .i64 ((ax l0 x10_1).f0),.int .i64 ((ax l0 x10_1).f1)] 35 (0,0)) (by(with_reducible repeat(first|apply ag|apply aj|apply af));exact BK111.out) k_ hk⟩));(case aO=>exact(by(with_reducible repeat(first|apply Kd.aD|apply Kd.aC|apply Kd.aI));exact HO137.out));(case aS=>exact(az (by with_reducible repeat(first|exact HB.out|apply ah|apply aa|apply ai|refine ae ?_ GE111.out))));(case aL=>have:=LMc33.out;omega);intro v139 w42 ho hb hg hat;rw[← Ny138.out] at ho;replace BK111:=au (bf (g:=gb111) (o:=.cells #[.int .i64 ((ax l0 x10_1).f0),.int .i64 ((ax l0 x10_1).f1)] 35 (0,0)) (by(with_reducible repeat(first|apply ag|apply aj|apply af));exact BK111.out) hg (Kd.dA HO137.out (fun _ hk=>hk.2)));replace HB:=au (hb);replace HR134:=au ((show Kd.C k35 w42 Ao38 y131.length y131 from by rw[Ny131.out];exact Kd.fJ (m:=(x6_2:Int).toNat) ((Kd.R_reads' (Kd.dV (ok:=(fun k_=>k_≠gb111)) (by(with_reducible repeat(first|apply Kd.aD|apply Kd.aC|apply Kd.aI));exact HO_3.out) hg hat)).2.2) KL39.out));replace HO_3:=au (Kd.dV (ok:=(fun k_=>k_≠gb111)) (by(with_reducible repeat(first|apply Kd.aD|apply Kd.aC|apply Kd.aI));exact HO_3.out) hg hat);have HO140:=au (ho);clear HO137;clear ho hb hg hat;have q43:(x6_2:Int)≤((x3_1.length:Int):Int):=of_decide_eq_true (by assumption);obtain⟨i043,hi043,_,hsz43,_⟩:=info_parts bV;have hroom43:x3_1.length≤co38:=(Kd.R_reads' HO_3.out).2.1;have hC43:Kd.C k35 _ Ao38 x3_1.length x3_1:=(Kd.R_reads' HO_3.out).2.2;have q043:(0:Int)≤(x6_2:Int):=of_decide_eq_true (by assumption);have hcut43:=gU (P:=Try.prog) 22 35 .i64 Try.underlying22 hi043 2 hsz43 Ao38 x3_1.length co38 x6_2 q043 q43;have hr43:=Kd.iw (m:=(x6_2:Int).toNat) (c:=co38) hC43 (by omega) hroom43;obtain⟨A43,hA43⟩:∃ A1,A1 = (if co38 = (x6_2:Int).toNat then Ao38 else (Ao38:Option Addr).map (·.add ((x6_2:Int).toNat*2))):=⟨_,rfl⟩;obtain⟨c43,hc43⟩:∃ c1,c1=co38 - (x6_2:Int).toNat:=⟨_,rfl⟩;have hy43:y141.length=x3_1.length - (x6_2:Int).toNat:=(by rw[Ny141.out,List.length_drop] <;> omega);rw[show(x3_1).drop (x6_2:Int).toNat=y141 from Ny141.out.symm] at hr43;replace hr43:Kd.C k35 _ A43 y141.length y141:=(by rw[hA43];exact hr43);rw[← hy43,← hA43,← hc43] at hcut43;have HR144:=au hr43;have HC144:=au (show y141.length≤c43 from by rw[hy43,hc43];exact Nat.sub_le_sub_right hroom43 _);clear hr43 hC43 hroom43 hi043 hsz43 hc43;have KY43:=au hy43;have KA43:=au hA43;clear hy43 hA43;have KL43:=au (show(x6_2:Int).toNat≤x3_1.length from by omega);replace q43:=eq_true q43)|((with_reducible refine bu (b:=.append) (xs:=#[.tmp 37,.tmp 40]) rfl ?_);at_builtin;refine Kd.bY k35 (w0:=w) w.heap.size rfl (.tmp 37) (.tmp 40) 22 35 (.agg #[(.int .i64 0),(.int .i64 0)]) 16 rfl Try.underlying22 bV rfl (by decide) (by omega) v139 y138 y141 _ _ _ (fun k_=>some k_≠(.slice Ao38 x3_1.length co38:Value).ownBlock∧k_≠gb111) (fun _=>False) rfl rfl ?aO ?aR (fun _ _ h=>h) (fun _ h=>h.elim) ?aF ?aB ?aS ?aL ?_;(case aR=>repeat(first|exact(by repeat(first|(with_reducible exact HR144.out)|(with_reducible first|apply Kd.aY|apply Kd.aZ|apply Kd.bn)|exact HR144.out))|(with_reducible first|apply Kd.aY|apply Kd.aZ|apply Kd.bn)));(case aB=>exact(by with_reducible repeat(first|exact HB.out|apply ah|apply aa|apply ai|refine ae ?_ GE111.out)));(case aF=>exact(fun k_ hk=>⟨Kd.fresh' (Kd.fq (by(with_reducible repeat(first|apply Kd.aD|apply Kd.aC|apply Kd.aI));exact HO_3.out)) k_ hk,Kd.bZ (g:=gb111) (o:=.cells #[.int .i64 ((ax l0 x10_1).f0),.int .i64 ((ax l0 x10_1).f1)] 35 (0,0)) (by(with_reducible repeat(first|apply ag|apply aj|apply af));exact BK111.out) k_ hk⟩));(case aO=>exact(by(with_reducible repeat(first|apply Kd.aD|apply Kd.aC|apply Kd.aI));exact HO140.out));(case aS=>exact(az (by with_reducible repeat(first|exact HB.out|apply ah|apply aa|apply ai|refine ae ?_ GE111.out))));(case aL=>have:=LMc36.out;omega);intro v146 w44 ho hb hg hat;rw[← Ny145.out] at ho;replace BK111:=au (bf (g:=gb111) (o:=.cells #[.int .i64 ((ax l0 x10_1).f0),.int .i64 ((ax l0 x10_1).f1)] 35 (0,0)) (by(with_reducible repeat(first|apply ag|apply aj|apply af));exact BK111.out) hg (Kd.dA HO140.out (fun _ hk=>hk.2)));replace HB:=au (hb);replace HR134:=au ((show Kd.C k35 w44 Ao38 y131.length y131 from by rw[Ny131.out];exact Kd.fJ (m:=(x6_2:Int).toNat) ((Kd.R_reads' (Kd.dV (ok:=(fun k_=>k_≠gb111)) (by(with_reducible repeat(first|apply Kd.aD|apply Kd.aC|apply Kd.aI));exact HO_3.out) hg hat)).2.2) KL39.out));replace HR144:=au ((show Kd.C k35 w44 A43 y141.length y141 from by rw[Ny141.out,KA43.out];exact Kd.iw (m:=(x6_2:Int).toNat) (c:=co38) ((Kd.R_reads' (Kd.dV (ok:=(fun k_=>k_≠gb111)) (by(with_reducible repeat(first|apply Kd.aD|apply Kd.aC|apply Kd.aI));exact HO_3.out) hg hat)).2.2) KL43.out ((Kd.R_reads' (Kd.dV (ok:=(fun k_=>k_≠gb111)) (by(with_reducible repeat(first|apply Kd.aD|apply Kd.aC|apply Kd.aI));exact HO_3.out) hg hat)).2.1)));replace HO_3:=au (Kd.dV (ok:=(fun k_=>k_≠gb111)) (by(with_reducible repeat(first|apply Kd.aD|apply Kd.aC|apply Kd.aI));exact HO_3.out) hg hat);have HO147:=au (ho);clear HO140;clear ho hb hg hat))
              go_roundg k2
              case measure=>have:=HK1.out;have:=HK2.out;omega
              case rel=>exact⟨(y145),(wrap64 (x10_1+1)),(by first|rfl|(simp;done)|(simp[*];done)),H',⟨by have:=HK1.out;have:=HK2.out;omega⟩,⟨by(with_reducible repeat(first|apply Kd.aD|apply Kd.aC|apply Kd.aI));exact Kd.aT HO147.out (fun _ hk=>trivial)⟩,⟨by with_reducible repeat(first|exact HB.out|apply ah|apply aa|apply ai|refine ae ?_ GE111.out)⟩⟩
             ·rw[if_neg c36] at H
              exact absurd H (by simp)
            ·rw[if_neg c33] at H
             exact absurd H (by simp)
           ·rw[if_neg c32] at H
            exact absurd H (by simp)
          ·rw[if_neg c31] at H
           exact absurd H (by simp)
         ·rw[if_neg c30] at H
          exact absurd H (by simp)
     ·rw[if_neg c4] at H
      exact absurd H (by simp)
    ·rw[if_neg c3] at H
     exact absurd H (by simp)
   ·rw[if_neg c2] at H
    have c2b0:decide (x10_1 < (l0.length:Int))=false:=decide_eq_false c2
    clear c2
    obtain rfl:=Option.some.inj H
    go_wp2
    go_ret
    exact⟨_,by first|rfl|(simp <;> rfl)|(simp[*] <;> rfl),by(with_reducible repeat(first|apply Kd.aD|apply Kd.aC|apply Kd.aI));exact HO_3.out,by with_reducible repeat(first|exact HB.out|apply ah|apply aa|apply ai)⟩
attribute [local go_sem] bG bH bS bT bB bA bJ bI
set_option linter.unusedVariables false
set_option linter.unusedSimpArgs false
def spec_l1In.f (a0:Int) (a1:Int) (a2:Int):Option (Bool):=if a0≥a1 then (some (decide (a0≤a2))) else (some false)
set_option maxHeartbeats 8000000 in
set_option maxRecDepth 100000 in
theorem spec_l1In.calls (a0:Int) (a1:Int) (a2:Int) (r:Bool) (w:World) (h:spec_l1In.f a0 a1 a2=some r) :
  Calls Try.prog 32 #[.int .i64 a0,.int .i64 a1,.int .i64 a2] w fun e w'=>e = .returned (.bool r)∧Drawn0 w w':=by
 have H:(if a0≥a1 then (some (decide (a0≤a2))) else (some false))=some r:=h
 clear h
 by_cases c4:a0≥a1
 ·rw[if_pos c4] at H
  have c4b0:decide (a1≤a0)=true:=decide_eq_true c4
  clear c4
  obtain rfl:=Option.some.inj H
  go_enter Try.func32,Try.ntmps32
  go_wp2
  go_ret
  exact⟨by first|rfl|(simp;done)|(simp[*];done),by repeat(first|exact Drawn0.refl _|apply Drawn0.step)⟩
 ·rw[if_neg c4] at H
  have c4b0:decide (a1≤a0)=false:=decide_eq_false c4
  clear c4
  obtain rfl:=Option.some.inj H
  go_enter Try.func32,Try.ntmps32
  go_wp2
  go_ret
  exact⟨by first|rfl|(simp;done)|(simp[*];done),by repeat(first|exact Drawn0.refl _|apply Drawn0.step)⟩
attribute [local go_sem] bG bH bS bT bB bA bJ bI
set_option linter.unusedVariables false
set_option linter.unusedSimpArgs false
def spec_l5Place.l0:Nat→List (S35)→Int→List (S35)→Int→Int→Option (Bool)
 | 0,_,_,_,_,_=>none
 | k+1,x0,x1,x7,x8,x9=>if x9<x8 then (if 0≤x9 then (if x9 < (x7.length:Int) then (if ((ax x7 x9).f0)<0 then (some false) else (if ((ax x7 x9).f1)<1 then (some false) else (if ((ax x7 x9).f1) > x1 then (some false) else (if ((ax x7 x9).f0) > (wrap64 (x1 - ((ax x7 x9).f1))) then (some false) else (if x9 > 0 then (if 0≤(wrap64 (x9 - 1)) then (if (wrap64 (x9 - 1)) < (x0.length:Int) then (if (wrap64 (((ax x0 (wrap64 (x9 - 1))).f0) + ((ax x0 (wrap64 (x9 - 1))).f1)))≥((ax x7 x9).f0) then (some false) else (spec_l5Place.l0 k x0 x1 x7 x8 (wrap64 (x9+1)))) else (none)) else (none)) else (spec_l5Place.l0 k x0 x1 x7 x8 (wrap64 (x9+1)))))))) else (none)) else (none)) else ((spec_l1In.f x1 1 400).bind fun t105=>(if t105=true then (some (decide ((x0.length:Int)≤60))) else (some false)))
def spec_l5Place.f (k:Nat) (l0:List (S35)) (a1:Int):Option (Bool):=spec_l5Place.l0 k l0 a1 l0 (l0.length:Int) 0
set_option maxHeartbeats 8000000 in
set_option maxRecDepth 100000 in
theorem spec_l5Place.calls (k : Nat) (A0 : Option Addr) (c0 : Nat) (l0 : List (S35)) (a1 : Int) (r : Bool) (w : World) (hr0 : Kd.C k35 w A0 l0.length l0) (hc0 : l0.length ≤ c0) (h : spec_l5Place.f k l0 a1 = some r) :
  Calls Try.prog 59 #[.slice A0 l0.length c0,.int .i64 a1] w fun e w'=>e = .returned (.bool r)∧Below w.heap.size w w':=by
 have hu35:=Try.underlying35
 have HR0:=au hr0
 have HC0:=au hc0
 clear hr0 hc0
 have HB:=au (Below.refl w.heap.size w)
 have H:(spec_l5Place.l0 k l0 a1 l0 (l0.length:Int) 0)=some r:=h
 clear h
 have H':=au H
 clear H
 go_enter Try.func59,Try.ntmps59
 go_wp2
 repeat(go_quiet (fail);try go_wp2)
 go_loopg [9] k (fun kq v9 w'=>∃ (x9_1:Int),v9 = .int .i64 x9_1∧Aside0 (spec_l5Place.l0 kq l0 a1 l0 (l0.length:Int) x9_1=some r)∧Aside0 (kq≤k)∧Aside0 (Below w.heap.size w w'))
 case atStart=>exact⟨(0),(by first|rfl|(simp;done)|(simp[*];done)),H',⟨Nat.le_refl _⟩,⟨by with_reducible repeat(first|exact HB.out|apply ah|apply aa|apply ai)⟩⟩
 case round =>
  clear H'
  try clear p2
  obtain⟨x9_1,rfl,HA,HK1,HB⟩:=hrel
  cases gk with
  | zero=>exact absurd HA.out (by simp[spec_l5Place.l0])
  | succ k1 =>
   have H:=HA.out
   clear HA
   simp only[spec_l5Place.l0] at H
   by_cases c3:x9_1 < (l0.length:Int)
   ·rw [if_pos c3] at H
    have c3b0:decide (x9_1 < (l0.length:Int))=true:=decide_eq_true c3
    clear c3
    by_cases c4:0≤x9_1
    ·rw [if_pos c4] at H
     have c4b0:decide (0≤x9_1)=true:=decide_eq_true c4
     clear c4
     by_cases c5:x9_1 < (l0.length:Int)
     ·rw [if_pos c5] at H
      have c5b0:decide (x9_1 < (l0.length:Int))=true:=decide_eq_true c5
      clear c5
      by_cases c6:((ax l0 x9_1).f0)<0
      ·rw[if_pos c6] at H
       have c6b0:decide (((ax l0 x9_1).f0)<0)=true:=decide_eq_true c6
       clear c6
       obtain rfl:=Option.some.inj H
       have p101:0≤(x9_1:Int):=of_decide_eq_true (by assumption)
       have q101:x9_1 < (l0.length:Int):=of_decide_eq_true (by assumption)
       obtain⟨ad101,e101,hx101_0,hx101_1⟩:=bF HR0.out x9_1 p101 q101
       cases e101
       replace hx101_0:=(HB.out.cell (World.block_lt_of_cell? w _ hx101_0)).trans hx101_0
       replace hx101_1:=(HB.out.cell (World.block_lt_of_cell? w _ hx101_1)).trans hx101_1
       replace p101:=eq_true p101
       replace q101:=eq_true q101
       go_wp2_with (first|((with_reducible refine aM (N:=6) rfl ?_);(try(refine bW (by rfl) ?_;dsimp only));refine aJ ?hg (N:=6) ?hd (cs:=#[.int .i64 0,.int .i64 0]) (t:=35) ?hr ?_;(case hd=>rfl);(case hg=>rfl);(case hr=>first|(go_simp;done)|(go_simp;rfl));intro gb102 hg w7 hbox hb;have BK102:=au (hbox);have GW102:=au ((by rw[hg];exact(az (by with_reducible repeat(first|exact HB.out|apply ah|apply aa|apply ai))):w.heap.size≤gb102));have GE102:=au ((by rw[hg];exact(az (by with_reducible repeat(first|exact HB.out|apply ah|apply aa|apply ai))):w.heap.size≤gb102));replace HB:=au (aA (by with_reducible repeat(first|exact HB.out|apply ah|apply aa|apply ai)) hb);clear hb hbox hg;have hcz8_0:w7.cell? ⟨gb102,0,none⟩=some (.int .i64 0):=(ak BK102.out 0).trans rfl;have hcz8_1:w7.cell? ⟨gb102,1,none⟩=some (.int .i64 0):=(ak BK102.out 1).trans rfl;have hfz8_0:=av BK102.out 0;have hfz8_1:=av BK102.out 1))
       repeat(go_quiet (first|((with_reducible refine aM (N:=6) rfl ?_);(try(refine bW (by rfl) ?_;dsimp only));refine aJ ?hg (N:=6) ?hd (cs:=#[.int .i64 0,.int .i64 0]) (t:=35) ?hr ?_;(case hd=>rfl);(case hg=>rfl);(case hr=>first|(go_simp;done)|(go_simp;rfl));intro gb102 hg w7 hbox hb;have BK102:=au (hbox);have GW102:=au ((by rw[hg];exact(az (by with_reducible repeat(first|exact HB.out|apply ah|apply aa|apply ai))):w.heap.size≤gb102));have GE102:=au ((by rw[hg];exact(az (by with_reducible repeat(first|exact HB.out|apply ah|apply aa|apply ai))):w.heap.size≤gb102));replace HB:=au (aA (by with_reducible repeat(first|exact HB.out|apply ah|apply aa|apply ai)) hb);clear hb hbox hg;have hcz8_0:w7.cell? ⟨gb102,0,none⟩=some (.int .i64 0):=(ak BK102.out 0).trans rfl;have hcz8_1:w7.cell? ⟨gb102,1,none⟩=some (.int .i64 0):=(ak BK102.out 1).trans rfl;have hfz8_0:=av BK102.out 0;have hfz8_1:=av BK102.out 1));try go_wp2_with (first|((with_reducible refine aM (N:=6) rfl ?_);(try(refine bW (by rfl) ?_;dsimp only));refine aJ ?hg (N:=6) ?hd (cs:=#[.int .i64 0,.int .i64 0]) (t:=35) ?hr ?_;(case hd=>rfl);(case hg=>rfl);(case hr=>first|(go_simp;done)|(go_simp;rfl));intro gb102 hg w7 hbox hb;have BK102:=au (hbox);have GW102:=au ((by rw[hg];exact(az (by with_reducible repeat(first|exact HB.out|apply ah|apply aa|apply ai))):w.heap.size≤gb102));have GE102:=au ((by rw[hg];exact(az (by with_reducible repeat(first|exact HB.out|apply ah|apply aa|apply ai))):w.heap.size≤gb102));replace HB:=au (aA (by with_reducible repeat(first|exact HB.out|apply ah|apply aa|apply ai)) hb);clear hb hbox hg;have hcz8_0:w7.cell? ⟨gb102,0,none⟩=some (.int .i64 0):=(ak BK102.out 0).trans rfl;have hcz8_1:w7.cell? ⟨gb102,1,none⟩=some (.int .i64 0):=(ak BK102.out 1).trans rfl;have hfz8_0:=av BK102.out 0;have hfz8_1:=av BK102.out 1)))
       go_ret
       exact⟨by first|rfl|(simp <;> rfl)|(simp[*] <;> rfl),by with_reducible repeat(first|exact HB.out|apply ah|apply aa|apply ai|refine ae ?_ GE102.out)⟩
      ·rw [if_neg c6] at H
       have c6b0:decide (((ax l0 x9_1).f0)<0)=false:=decide_eq_false c6
       clear c6
       by_cases c9:((ax l0 x9_1).f1)<1
       ·rw[if_pos c9] at H
        have c9b0:decide (((ax l0 x9_1).f1)<1)=true:=decide_eq_true c9
        clear c9
        obtain rfl:=Option.some.inj H
        have p101:0≤(x9_1:Int):=of_decide_eq_true (by assumption)
        have q101:x9_1 < (l0.length:Int):=of_decide_eq_true (by assumption)
        obtain⟨ad101,e101,hx101_0,hx101_1⟩:=bF HR0.out x9_1 p101 q101
        cases e101
        replace hx101_0:=(HB.out.cell (World.block_lt_of_cell? w _ hx101_0)).trans hx101_0
        replace hx101_1:=(HB.out.cell (World.block_lt_of_cell? w _ hx101_1)).trans hx101_1
        replace p101:=eq_true p101
        replace q101:=eq_true q101
        go_wp2_with (first|((with_reducible refine aM (N:=6) rfl ?_);(try(refine bW (by rfl) ?_;dsimp only));refine aJ ?hg (N:=6) ?hd (cs:=#[.int .i64 0,.int .i64 0]) (t:=35) ?hr ?_;(case hd=>rfl);(case hg=>rfl);(case hr=>first|(go_simp;done)|(go_simp;rfl));intro gb102 hg w10 hbox hb;have BK102:=au (hbox);have GW102:=au ((by rw[hg];exact(az (by with_reducible repeat(first|exact HB.out|apply ah|apply aa|apply ai))):w.heap.size≤gb102));have GE102:=au ((by rw[hg];exact(az (by with_reducible repeat(first|exact HB.out|apply ah|apply aa|apply ai))):w.heap.size≤gb102));replace HB:=au (aA (by with_reducible repeat(first|exact HB.out|apply ah|apply aa|apply ai)) hb);clear hb hbox hg;have hcz11_0:w10.cell? ⟨gb102,0,none⟩=some (.int .i64 0):=(ak BK102.out 0).trans rfl;have hcz11_1:w10.cell? ⟨gb102,1,none⟩=some (.int .i64 0):=(ak BK102.out 1).trans rfl;have hfz11_0:=av BK102.out 0;have hfz11_1:=av BK102.out 1))
        repeat(go_quiet (first|((with_reducible refine aM (N:=6) rfl ?_);(try(refine bW (by rfl) ?_;dsimp only));refine aJ ?hg (N:=6) ?hd (cs:=#[.int .i64 0,.int .i64 0]) (t:=35) ?hr ?_;(case hd=>rfl);(case hg=>rfl);(case hr=>first|(go_simp;done)|(go_simp;rfl));intro gb102 hg w10 hbox hb;have BK102:=au (hbox);have GW102:=au ((by rw[hg];exact(az (by with_reducible repeat(first|exact HB.out|apply ah|apply aa|apply ai))):w.heap.size≤gb102));have GE102:=au ((by rw[hg];exact(az (by with_reducible repeat(first|exact HB.out|apply ah|apply aa|apply ai))):w.heap.size≤gb102));replace HB:=au (aA (by with_reducible repeat(first|exact HB.out|apply ah|apply aa|apply ai)) hb);clear hb hbox hg;have hcz11_0:w10.cell? ⟨gb102,0,none⟩=some (.int .i64 0):=(ak BK102.out 0).trans rfl;have hcz11_1:w10.cell? ⟨gb102,1,none⟩=some (.int .i64 0):=(ak BK102.out 1).trans rfl;have hfz11_0:=av BK102.out 0;have hfz11_1:=av BK102.out 1));try go_wp2_with (first|((with_reducible refine aM (N:=6) rfl ?_);(try(refine bW (by rfl) ?_;dsimp only));refine aJ ?hg (N:=6) ?hd (cs:=#[.int .i64 0,.int .i64 0]) (t:=35) ?hr ?_;(case hd=>rfl);(case hg=>rfl);(case hr=>first|(go_simp;done)|(go_simp;rfl));intro gb102 hg w10 hbox hb;have BK102:=au (hbox);have GW102:=au ((by rw[hg];exact(az (by with_reducible repeat(first|exact HB.out|apply ah|apply aa|apply ai))):w.heap.size≤gb102));have GE102:=au ((by rw[hg];exact(az (by with_reducible repeat(first|exact HB.out|apply ah|apply aa|apply ai))):w.heap.size≤gb102));replace HB:=au (aA (by with_reducible repeat(first|exact HB.out|apply ah|apply aa|apply ai)) hb);clear hb hbox hg;have hcz11_0:w10.cell? ⟨gb102,0,none⟩=some (.int .i64 0):=(ak BK102.out 0).trans rfl;have hcz11_1:w10.cell? ⟨gb102,1,none⟩=some (.int .i64 0):=(ak BK102.out 1).trans rfl;have hfz11_0:=av BK102.out 0;have hfz11_1:=av BK102.out 1)))
        go_ret
        exact⟨by first|rfl|(simp <;> rfl)|(simp[*] <;> rfl),by with_reducible repeat(first|exact HB.out|apply ah|apply aa|apply ai|refine ae ?_ GE102.out)⟩
       ·rw [if_neg c9] at H
        have c9b0:decide (((ax l0 x9_1).f1)<1)=false:=decide_eq_false c9
        clear c9
        by_cases c12:((ax l0 x9_1).f1) > a1
        ·rw[if_pos c12] at H
         have c12b0:decide (a1 < ((ax l0 x9_1).f1))=true:=decide_eq_true c12
         clear c12
         obtain rfl:=Option.some.inj H
         have p101:0≤(x9_1:Int):=of_decide_eq_true (by assumption)
         have q101:x9_1 < (l0.length:Int):=of_decide_eq_true (by assumption)
         obtain⟨ad101,e101,hx101_0,hx101_1⟩:=bF HR0.out x9_1 p101 q101
         cases e101
         replace hx101_0:=(HB.out.cell (World.block_lt_of_cell? w _ hx101_0)).trans hx101_0
         replace hx101_1:=(HB.out.cell (World.block_lt_of_cell? w _ hx101_1)).trans hx101_1
         replace p101:=eq_true p101
         replace q101:=eq_true q101
         go_wp2_with (first|((with_reducible refine aM (N:=6) rfl ?_);(try(refine bW (by rfl) ?_;dsimp only));refine aJ ?hg (N:=6) ?hd (cs:=#[.int .i64 0,.int .i64 0]) (t:=35) ?hr ?_;(case hd=>rfl);(case hg=>rfl);(case hr=>first|(go_simp;done)|(go_simp;rfl));intro gb102 hg w13 hbox hb;have BK102:=au (hbox);have GW102:=au ((by rw[hg];exact(az (by with_reducible repeat(first|exact HB.out|apply ah|apply aa|apply ai))):w.heap.size≤gb102));have GE102:=au ((by rw[hg];exact(az (by with_reducible repeat(first|exact HB.out|apply ah|apply aa|apply ai))):w.heap.size≤gb102));replace HB:=au (aA (by with_reducible repeat(first|exact HB.out|apply ah|apply aa|apply ai)) hb);clear hb hbox hg;have hcz14_0:w13.cell? ⟨gb102,0,none⟩=some (.int .i64 0):=(ak BK102.out 0).trans rfl;have hcz14_1:w13.cell? ⟨gb102,1,none⟩=some (.int .i64 0):=(ak BK102.out 1).trans rfl;have hfz14_0:=av BK102.out 0;have hfz14_1:=av BK102.out 1))
         repeat(go_quiet (first|((with_reducible refine aM (N:=6) rfl ?_);(try(refine bW (by rfl) ?_;dsimp only));refine aJ ?hg (N:=6) ?hd (cs:=#[.int .i64 0,.int .i64 0]) (t:=35) ?hr ?_;(case hd=>rfl);(case hg=>rfl);(case hr=>first|(go_simp;done)|(go_simp;rfl));intro gb102 hg w13 hbox hb;have BK102:=au (hbox);have GW102:=au ((by rw[hg];exact(az (by with_reducible repeat(first|exact HB.out|apply ah|apply aa|apply ai))):w.heap.size≤gb102));have GE102:=au ((by rw[hg];exact(az (by with_reducible repeat(first|exact HB.out|apply ah|apply aa|apply ai))):w.heap.size≤gb102));replace HB:=au (aA (by with_reducible repeat(first|exact HB.out|apply ah|apply aa|apply ai)) hb);clear hb hbox hg;have hcz14_0:w13.cell? ⟨gb102,0,none⟩=some (.int .i64 0):=(ak BK102.out 0).trans rfl;have hcz14_1:w13.cell? ⟨gb102,1,none⟩=some (.int .i64 0):=(ak BK102.out 1).trans rfl;have hfz14_0:=av BK102.out 0;have hfz14_1:=av BK102.out 1));try go_wp2_with (first|((with_reducible refine aM (N:=6) rfl ?_);(try(refine bW (by rfl) ?_;dsimp only));refine aJ ?hg (N:=6) ?hd (cs:=#[.int .i64 0,.int .i64 0]) (t:=35) ?hr ?_;(case hd=>rfl);(case hg=>rfl);(case hr=>first|(go_simp;done)|(go_simp;rfl));intro gb102 hg w13 hbox hb;have BK102:=au (hbox);have GW102:=au ((by rw[hg];exact(az (by with_reducible repeat(first|exact HB.out|apply ah|apply aa|apply ai))):w.heap.size≤gb102));have GE102:=au ((by rw[hg];exact(az (by with_reducible repeat(first|exact HB.out|apply ah|apply aa|apply ai))):w.heap.size≤gb102));replace HB:=au (aA (by with_reducible repeat(first|exact HB.out|apply ah|apply aa|apply ai)) hb);clear hb hbox hg;have hcz14_0:w13.cell? ⟨gb102,0,none⟩=some (.int .i64 0):=(ak BK102.out 0).trans rfl;have hcz14_1:w13.cell? ⟨gb102,1,none⟩=some (.int .i64 0):=(ak BK102.out 1).trans rfl;have hfz14_0:=av BK102.out 0;have hfz14_1:=av BK102.out 1)))
         go_ret
         exact⟨by first|rfl|(simp <;> rfl)|(simp[*] <;> rfl),by with_reducible repeat(first|exact HB.out|apply ah|apply aa|apply ai|refine ae ?_ GE102.out)⟩
        ·rw [if_neg c12] at H
         have c12b0:decide (a1 < ((ax l0 x9_1).f1))=false:=decide_eq_false c12
         clear c12
         by_cases c15:((ax l0 x9_1).f0) > (wrap64 (a1 - ((ax l0 x9_1).f1)))
         ·rw[if_pos c15] at H
          have c15b0:decide ((wrap64 (a1 - ((ax l0 x9_1).f1))) < ((ax l0 x9_1).f0))=true:=decide_eq_true c15
          clear c15
          obtain rfl:=Option.some.inj H
          have p101:0≤(x9_1:Int):=of_decide_eq_true (by assumption)
          have q101:x9_1 < (l0.length:Int):=of_decide_eq_true (by assumption)
          obtain⟨ad101,e101,hx101_0,hx101_1⟩:=bF HR0.out x9_1 p101 q101
          cases e101
          replace hx101_0:=(HB.out.cell (World.block_lt_of_cell? w _ hx101_0)).trans hx101_0
          replace hx101_1:=(HB.out.cell (World.block_lt_of_cell? w _ hx101_1)).trans hx101_1
          replace p101:=eq_true p101
          replace q101:=eq_true q101
          go_wp2_with (first|((with_reducible refine aM (N:=6) rfl ?_);(try(refine bW (by rfl) ?_;dsimp only));refine aJ ?hg (N:=6) ?hd (cs:=#[.int .i64 0,.int .i64 0]) (t:=35) ?hr ?_;(case hd=>rfl);(case hg=>rfl);(case hr=>first|(go_simp;done)|(go_simp;rfl));intro gb102 hg w16 hbox hb;have BK102:=au (hbox);have GW102:=au ((by rw[hg];exact(az (by with_reducible repeat(first|exact HB.out|apply ah|apply aa|apply ai))):w.heap.size≤gb102));have GE102:=au ((by rw[hg];exact(az (by with_reducible repeat(first|exact HB.out|apply ah|apply aa|apply ai))):w.heap.size≤gb102));replace HB:=au (aA (by with_reducible repeat(first|exact HB.out|apply ah|apply aa|apply ai)) hb);clear hb hbox hg;have hcz17_0:w16.cell? ⟨gb102,0,none⟩=some (.int .i64 0):=(ak BK102.out 0).trans rfl;have hcz17_1:w16.cell? ⟨gb102,1,none⟩=some (.int .i64 0):=(ak BK102.out 1).trans rfl;have hfz17_0:=av BK102.out 0;have hfz17_1:=av BK102.out 1))
          repeat(go_quiet (first|((with_reducible refine aM (N:=6) rfl ?_);(try(refine bW (by rfl) ?_;dsimp only));refine aJ ?hg (N:=6) ?hd (cs:=#[.int .i64 0,.int .i64 0]) (t:=35) ?hr ?_;(case hd=>rfl);(case hg=>rfl);(case hr=>first|(go_simp;done)|(go_simp;rfl));intro gb102 hg w16 hbox hb;have BK102:=au (hbox);have GW102:=au ((by rw[hg];exact(az (by with_reducible repeat(first|exact HB.out|apply ah|apply aa|apply ai))):w.heap.size≤gb102));have GE102:=au ((by rw[hg];exact(az (by with_reducible repeat(first|exact HB.out|apply ah|apply aa|apply ai))):w.heap.size≤gb102));replace HB:=au (aA (by with_reducible repeat(first|exact HB.out|apply ah|apply aa|apply ai)) hb);clear hb hbox hg;have hcz17_0:w16.cell? ⟨gb102,0,none⟩=some (.int .i64 0):=(ak BK102.out 0).trans rfl;have hcz17_1:w16.cell? ⟨gb102,1,none⟩=some (.int .i64 0):=(ak BK102.out 1).trans rfl;have hfz17_0:=av BK102.out 0;have hfz17_1:=av BK102.out 1));try go_wp2_with (first|((with_reducible refine aM (N:=6) rfl ?_);(try(refine bW (by rfl) ?_;dsimp only));refine aJ ?hg (N:=6) ?hd (cs:=#[.int .i64 0,.int .i64 0]) (t:=35) ?hr ?_;(case hd=>rfl);(case hg=>rfl);(case hr=>first|(go_simp;done)|(go_simp;rfl));intro gb102 hg w16 hbox hb;have BK102:=au (hbox);have GW102:=au ((by rw[hg];exact(az (by with_reducible repeat(first|exact HB.out|apply ah|apply aa|apply ai))):w.heap.size≤gb102));have GE102:=au ((by rw[hg];exact(az (by with_reducible repeat(first|exact HB.out|apply ah|apply aa|apply ai))):w.heap.size≤gb102));replace HB:=au (aA (by with_reducible repeat(first|exact HB.out|apply ah|apply aa|apply ai)) hb);clear hb hbox hg;have hcz17_0:w16.cell? ⟨gb102,0,none⟩=some (.int .i64 0):=(ak BK102.out 0).trans rfl;have hcz17_1:w16.cell? ⟨gb102,1,none⟩=some (.int .i64 0):=(ak BK102.out 1).trans rfl;have hfz17_0:=av BK102.out 0;have hfz17_1:=av BK102.out 1)))
          go_ret
          exact⟨by first|rfl|(simp <;> rfl)|(simp[*] <;> rfl),by with_reducible repeat(first|exact HB.out|apply ah|apply aa|apply ai|refine ae ?_ GE102.out)⟩
         ·rw [if_neg c15] at H
          have c15b0:decide ((wrap64 (a1 - ((ax l0 x9_1).f1))) < ((ax l0 x9_1).f0))=false:=decide_eq_false c15
          clear c15
          by_cases c18:x9_1 > 0
          ·rw [if_pos c18] at H
           have c18b0:decide (0<x9_1)=true:=decide_eq_true c18
           clear c18
           obtain⟨ji19,hji19⟩:∃ j_:Int,(wrap64 (x9_1 - 1))=j_:=⟨_,rfl⟩
           replace H:(if 0≤(ji19) then (if (ji19) < (l0.length:Int) then (if (wrap64 (((ax l0 (ji19)).f0) + ((ax l0 (ji19)).f1)))≥((ax l0 x9_1).f0) then (some false) else (spec_l5Place.l0 k1 l0 a1 l0 (l0.length:Int) (wrap64 (x9_1+1)))) else (none)) else (none))=some r:=by first|(rw[hji19] at H;exact H)|(simp only[hji19] at H ⊢;exact H)
           have hji19w:(IntKind.i64.wrap (x9_1 - 1))=ji19:=(kE _).trans hji19
           by_cases c20:0≤(ji19)
           ·rw[if_pos c20] at H
            have c20b0:decide (0≤(ji19))=true:=decide_eq_true c20
            clear c20
            by_cases c21:(ji19) < (l0.length:Int)
            ·rw[if_pos c21] at H
             have c21b0:decide ((ji19) < (l0.length:Int))=true:=decide_eq_true c21
             clear c21
             by_cases c22:(wrap64 (((ax l0 (ji19)).f0) + ((ax l0 (ji19)).f1)))≥((ax l0 x9_1).f0)
             ·rw[if_pos c22] at H
              have c22b0:decide (((ax l0 x9_1).f0)≤(wrap64 (((ax l0 (ji19)).f0) + ((ax l0 (ji19)).f1))))=true:=decide_eq_true c22
              clear c22
              obtain rfl:=Option.some.inj H
              have p101:0≤(x9_1:Int):=of_decide_eq_true (by assumption)
              have q101:x9_1 < (l0.length:Int):=of_decide_eq_true (by assumption)
              obtain⟨ad101,e101,hx101_0,hx101_1⟩:=bF HR0.out x9_1 p101 q101
              cases e101
              replace hx101_0:=(HB.out.cell (World.block_lt_of_cell? w _ hx101_0)).trans hx101_0
              replace hx101_1:=(HB.out.cell (World.block_lt_of_cell? w _ hx101_1)).trans hx101_1
              replace p101:=eq_true p101
              replace q101:=eq_true q101
              go_wp2_with (first|((with_reducible refine aM (N:=6) rfl ?_);(try(refine bW (by rfl) ?_;dsimp only));refine aJ ?hg (N:=6) ?hd (cs:=#[.int .i64 0,.int .i64 0]) (t:=35) ?hr ?_;(case hd=>rfl);(case hg=>rfl);(case hr=>first|(go_simp;done)|(go_simp;rfl));intro gb102 hg w23 hbox hb;have BK102:=au (hbox);have GW102:=au ((by rw[hg];exact(az (by with_reducible repeat(first|exact HB.out|apply ah|apply aa|apply ai))):w.heap.size≤gb102));have GE102:=au ((by rw[hg];exact(az (by with_reducible repeat(first|exact HB.out|apply ah|apply aa|apply ai))):w.heap.size≤gb102));replace HB:=au (aA (by with_reducible repeat(first|exact HB.out|apply ah|apply aa|apply ai)) hb);clear hb hbox hg;have hcz24_0:w23.cell? ⟨gb102,0,none⟩=some (.int .i64 0):=(ak BK102.out 0).trans rfl;have hcz24_1:w23.cell? ⟨gb102,1,none⟩=some (.int .i64 0):=(ak BK102.out 1).trans rfl;have hfz24_0:=av BK102.out 0;have hfz24_1:=av BK102.out 1;have p103:0≤((ji19):Int):=of_decide_eq_true (by assumption);have q103:(ji19) < (l0.length:Int):=of_decide_eq_true (by assumption);obtain⟨ad103,e103,hx103_0,hx103_1⟩:=bF HR0.out (ji19) p103 q103;obtain rfl:ad101=ad103:=(by injection e103);have hn103_0:ad101.block≠gb102:=Nat.ne_of_lt (Nat.lt_of_lt_of_le (by have:=World.block_lt_of_cell? _ _ hx103_0;first|rwa [add_block] at this|exact this) GW102.out);have hn103_1:ad101.block≠gb102:=Nat.ne_of_lt (Nat.lt_of_lt_of_le (by have:=World.block_lt_of_cell? _ _ hx103_0;first|rwa [add_block] at this|exact this) GW102.out);replace hx103_0:=(HB.out.cell (World.block_lt_of_cell? w _ hx103_0)).trans hx103_0;replace hx103_1:=(HB.out.cell (World.block_lt_of_cell? w _ hx103_1)).trans hx103_1;replace hx103_0:=(cell_far (p:=⟨gb102,0,none⟩) (by first|(rw[add_block];exact hn103_0)|(show(Addr.add _ _).block≠_;rw[add_block];exact hn103_0)|exact hn103_0) (.int .i64 ((ax l0 x9_1).f0))).trans hx103_0;replace hx103_1:=(cell_far (p:=⟨gb102,0,none⟩) (by first|(rw[add_block];exact hn103_0)|(show(Addr.add _ _).block≠_;rw[add_block];exact hn103_0)|exact hn103_0) (.int .i64 ((ax l0 x9_1).f0))).trans hx103_1;replace hx103_0:=(cell_far (p:=⟨gb102,1,none⟩) (by first|(rw[add_block];exact hn103_1)|(show(Addr.add _ _).block≠_;rw[add_block];exact hn103_1)|exact hn103_1) (.int .i64 ((ax l0 x9_1).f1))).trans hx103_0;replace hx103_1:=(cell_far (p:=⟨gb102,1,none⟩) (by first|(rw[add_block];exact hn103_1)|(show(Addr.add _ _).block≠_;rw[add_block];exact hn103_1)|exact hn103_1) (.int .i64 ((ax l0 x9_1).f1))).trans hx103_1;(try have hy103_0:=fun (n_:Nat)=>(show((((w23.drewN n_).setCell ⟨gb102,0,none⟩ (.int .i64 ((ax l0 x9_1).f0))).setCell ⟨gb102,1,none⟩ (.int .i64 ((ax l0 x9_1).f1)))).cell? _=some _ from hx103_0));(try have hy103_1:=fun (n_:Nat)=>(show((((w23.drewN n_).setCell ⟨gb102,0,none⟩ (.int .i64 ((ax l0 x9_1).f0))).setCell ⟨gb102,1,none⟩ (.int .i64 ((ax l0 x9_1).f1)))).cell? _=some _ from hx103_1));clear hn103_0;clear hn103_1;replace p103:=eq_true p103;replace q103:=eq_true q103;have p104:0≤((ji19):Int):=of_decide_eq_true (by assumption);have q104:(ji19) < (l0.length:Int):=of_decide_eq_true (by assumption);obtain⟨ad104,e104,hx104_0,hx104_1⟩:=bF HR0.out (ji19) p104 q104;obtain rfl:ad101=ad104:=(by injection e104);have hn104_0:ad101.block≠gb102:=Nat.ne_of_lt (Nat.lt_of_lt_of_le (by have:=World.block_lt_of_cell? _ _ hx104_0;first|rwa [add_block] at this|exact this) GW102.out);have hn104_1:ad101.block≠gb102:=Nat.ne_of_lt (Nat.lt_of_lt_of_le (by have:=World.block_lt_of_cell? _ _ hx104_0;first|rwa [add_block] at this|exact this) GW102.out);replace hx104_0:=(HB.out.cell (World.block_lt_of_cell? w _ hx104_0)).trans hx104_0;replace hx104_1:=(HB.out.cell (World.block_lt_of_cell? w _ hx104_1)).trans hx104_1;replace hx104_0:=(cell_far (p:=⟨gb102,0,none⟩) (by first|(rw[add_block];exact hn104_0)|(show(Addr.add _ _).block≠_;rw[add_block];exact hn104_0)|exact hn104_0) (.int .i64 ((ax l0 x9_1).f0))).trans hx104_0;replace hx104_1:=(cell_far (p:=⟨gb102,0,none⟩) (by first|(rw[add_block];exact hn104_0)|(show(Addr.add _ _).block≠_;rw[add_block];exact hn104_0)|exact hn104_0) (.int .i64 ((ax l0 x9_1).f0))).trans hx104_1;replace hx104_0:=(cell_far (p:=⟨gb102,1,none⟩) (by first|(rw[add_block];exact hn104_1)|(show(Addr.add _ _).block≠_;rw[add_block];exact hn104_1)|exact hn104_1) (.int .i64 ((ax l0 x9_1).f1))).trans hx104_0;replace hx104_1:=(cell_far (p:=⟨gb102,1,none⟩) (by first|(rw[add_block];exact hn104_1)|(show(Addr.add _ _).block≠_;rw[add_block];exact hn104_1)|exact hn104_1) (.int .i64 ((ax l0 x9_1).f1))).trans hx104_1;(try have hy104_0:=fun (n_:Nat)=>(show((((w23.drewN n_).setCell ⟨gb102,0,none⟩ (.int .i64 ((ax l0 x9_1).f0))).setCell ⟨gb102,1,none⟩ (.int .i64 ((ax l0 x9_1).f1)))).cell? _=some _ from hx104_0));(try have hy104_1:=fun (n_:Nat)=>(show((((w23.drewN n_).setCell ⟨gb102,0,none⟩ (.int .i64 ((ax l0 x9_1).f0))).setCell ⟨gb102,1,none⟩ (.int .i64 ((ax l0 x9_1).f1)))).cell? _=some _ from hx104_1));clear hn104_0;clear hn104_1;replace p104:=eq_true p104;replace q104:=eq_true q104))
              repeat(go_quiet (first|((with_reducible refine aM (N:=6) rfl ?_);(try(refine bW (by rfl) ?_;dsimp only));refine aJ ?hg (N:=6) ?hd (cs:=#[.int .i64 0,.int .i64 0]) (t:=35) ?hr ?_;(case hd=>rfl);(case hg=>rfl);(case hr=>first|(go_simp;done)|(go_simp;rfl));intro gb102 hg w23 hbox hb;have BK102:=au (hbox);have GW102:=au ((by rw[hg];exact(az (by with_reducible repeat(first|exact HB.out|apply ah|apply aa|apply ai))):w.heap.size≤gb102));have GE102:=au ((by rw[hg];exact(az (by with_reducible repeat(first|exact HB.out|apply ah|apply aa|apply ai))):w.heap.size≤gb102));replace HB:=au (aA (by with_reducible repeat(first|exact HB.out|apply ah|apply aa|apply ai)) hb);clear hb hbox hg;have hcz24_0:w23.cell? ⟨gb102,0,none⟩=some (.int .i64 0):=(ak BK102.out 0).trans rfl;have hcz24_1:w23.cell? ⟨gb102,1,none⟩=some (.int .i64 0):=(ak BK102.out 1).trans rfl;have hfz24_0:=av BK102.out 0;have hfz24_1:=av BK102.out 1;have p103:0≤((ji19):Int):=of_decide_eq_true (by assumption);have q103:(ji19) < (l0.length:Int):=of_decide_eq_true (by assumption);obtain⟨ad103,e103,hx103_0,hx103_1⟩:=bF HR0.out (ji19) p103 q103;obtain rfl:ad101=ad103:=(by injection e103);have hn103_0:ad101.block≠gb102:=Nat.ne_of_lt (Nat.lt_of_lt_of_le (by have:=World.block_lt_of_cell? _ _ hx103_0;first|rwa [add_block] at this|exact this) GW102.out);have hn103_1:ad101.block≠gb102:=Nat.ne_of_lt (Nat.lt_of_lt_of_le (by have:=World.block_lt_of_cell? _ _ hx103_0;first|rwa [add_block] at this|exact this) GW102.out);replace hx103_0:=(HB.out.cell (World.block_lt_of_cell? w _ hx103_0)).trans hx103_0;replace hx103_1:=(HB.out.cell (World.block_lt_of_cell? w _ hx103_1)).trans hx103_1;replace hx103_0:=(cell_far (p:=⟨gb102,0,none⟩) (by first|(rw[add_block];exact hn103_0)|(show(Addr.add _ _).block≠_;rw[add_block];exact hn103_0)|exact hn103_0) (.int .i64 ((ax l0 x9_1).f0))).trans hx103_0;replace hx103_1:=(cell_far (p:=⟨gb102,0,none⟩) (by first|(rw[add_block];exact hn103_0)|(show(Addr.add _ _).block≠_;rw[add_block];exact hn103_0)|exact hn103_0) (.int .i64 ((ax l0 x9_1).f0))).trans hx103_1;replace hx103_0:=(cell_far (p:=⟨gb102,1,none⟩) (by first|(rw[add_block];exact hn103_1)|(show(Addr.add _ _).block≠_;rw[add_block];exact hn103_1)|exact hn103_1) (.int .i64 ((ax l0 x9_1).f1))).trans hx103_0;replace hx103_1:=(cell_far (p:=⟨gb102,1,none⟩) (by first|(rw[add_block];exact hn103_1)|(show(Addr.add _ _).block≠_;rw[add_block];exact hn103_1)|exact hn103_1) (.int .i64 ((ax l0 x9_1).f1))).trans hx103_1;(try have hy103_0:=fun (n_:Nat)=>(show((((w23.drewN n_).setCell ⟨gb102,0,none⟩ (.int .i64 ((ax l0 x9_1).f0))).setCell ⟨gb102,1,none⟩ (.int .i64 ((ax l0 x9_1).f1)))).cell? _=some _ from hx103_0));(try have hy103_1:=fun (n_:Nat)=>(show((((w23.drewN n_).setCell ⟨gb102,0,none⟩ (.int .i64 ((ax l0 x9_1).f0))).setCell ⟨gb102,1,none⟩ (.int .i64 ((ax l0 x9_1).f1)))).cell? _=some _ from hx103_1));clear hn103_0;clear hn103_1;replace p103:=eq_true p103;replace q103:=eq_true q103;have p104:0≤((ji19):Int):=of_decide_eq_true (by assumption);have q104:(ji19) < (l0.length:Int):=of_decide_eq_true (by assumption);obtain⟨ad104,e104,hx104_0,hx104_1⟩:=bF HR0.out (ji19) p104 q104;obtain rfl:ad101=ad104:=(by injection e104);have hn104_0:ad101.block≠gb102:=Nat.ne_of_lt (Nat.lt_of_lt_of_le (by have:=World.block_lt_of_cell? _ _ hx104_0;first|rwa [add_block] at this|exact this) GW102.out);have hn104_1:ad101.block≠gb102:=Nat.ne_of_lt (Nat.lt_of_lt_of_le (by have:=World.block_lt_of_cell? _ _ hx104_0;first|rwa [add_block] at this|exact this) GW102.out);replace hx104_0:=(HB.out.cell (World.block_lt_of_cell? w _ hx104_0)).trans hx104_0;replace hx104_1:=(HB.out.cell (World.block_lt_of_cell? w _ hx104_1)).trans hx104_1;replace hx104_0:=(cell_far (p:=⟨gb102,0,none⟩) (by first|(rw[add_block];exact hn104_0)|(show(Addr.add _ _).block≠_;rw[add_block];exact hn104_0)|exact hn104_0) (.int .i64 ((ax l0 x9_1).f0))).trans hx104_0;replace hx104_1:=(cell_far (p:=⟨gb102,0,none⟩) (by first|(rw[add_block];exact hn104_0)|(show(Addr.add _ _).block≠_;rw[add_block];exact hn104_0)|exact hn104_0) (.int .i64 ((ax l0 x9_1).f0))).trans hx104_1;replace hx104_0:=(cell_far (p:=⟨gb102,1,none⟩) (by first|(rw[add_block];exact hn104_1)|(show(Addr.add _ _).block≠_;rw[add_block];exact hn104_1)|exact hn104_1) (.int .i64 ((ax l0 x9_1).f1))).trans hx104_0;replace hx104_1:=(cell_far (p:=⟨gb102,1,none⟩) (by first|(rw[add_block];exact hn104_1)|(show(Addr.add _ _).block≠_;rw[add_block];exact hn104_1)|exact hn104_1) (.int .i64 ((ax l0 x9_1).f1))).trans hx104_1;(try have hy104_0:=fun (n_:Nat)=>(show((((w23.drewN n_).setCell ⟨gb102,0,none⟩ (.int .i64 ((ax l0 x9_1).f0))).setCell ⟨gb102,1,none⟩ (.int .i64 ((ax l0 x9_1).f1)))).cell? _=some _ from hx104_0));(try have hy104_1:=fun (n_:Nat)=>(show((((w23.drewN n_).setCell ⟨gb102,0,none⟩ (.int .i64 ((ax l0 x9_1).f0))).setCell ⟨gb102,1,none⟩ (.int .i64 ((ax l0 x9_1).f1)))).cell? _=some _ from hx104_1));clear hn104_0;clear hn104_1;replace p104:=eq_true p104;replace q104:=eq_true q104));try go_wp2_with (first|((with_reducible refine aM (N:=6) rfl ?_);(try(refine bW (by rfl) ?_;dsimp only));refine aJ ?hg (N:=6) ?hd (cs:=#[.int .i64 0,.int .i64 0]) (t:=35) ?hr ?_;(case hd=>rfl);(case hg=>rfl);(case hr=>first|(go_simp;done)|(go_simp;rfl));intro gb102 hg w23 hbox hb;have BK102:=au (hbox);have GW102:=au ((by rw[hg];exact(az (by with_reducible repeat(first|exact HB.out|apply ah|apply aa|apply ai))):w.heap.size≤gb102));have GE102:=au ((by rw[hg];exact(az (by with_reducible repeat(first|exact HB.out|apply ah|apply aa|apply ai))):w.heap.size≤gb102));replace HB:=au (aA (by with_reducible repeat(first|exact HB.out|apply ah|apply aa|apply ai)) hb);clear hb hbox hg;have hcz24_0:w23.cell? ⟨gb102,0,none⟩=some (.int .i64 0):=(ak BK102.out 0).trans rfl;have hcz24_1:w23.cell? ⟨gb102,1,none⟩=some (.int .i64 0):=(ak BK102.out 1).trans rfl;have hfz24_0:=av BK102.out 0;have hfz24_1:=av BK102.out 1;have p103:0≤((ji19):Int):=of_decide_eq_true (by assumption);have q103:(ji19) < (l0.length:Int):=of_decide_eq_true (by assumption);obtain⟨ad103,e103,hx103_0,hx103_1⟩:=bF HR0.out (ji19) p103 q103;obtain rfl:ad101=ad103:=(by injection e103);have hn103_0:ad101.block≠gb102:=Nat.ne_of_lt (Nat.lt_of_lt_of_le (by have:=World.block_lt_of_cell? _ _ hx103_0;first|rwa [add_block] at this|exact this) GW102.out);have hn103_1:ad101.block≠gb102:=Nat.ne_of_lt (Nat.lt_of_lt_of_le (by have:=World.block_lt_of_cell? _ _ hx103_0;first|rwa [add_block] at this|exact this) GW102.out);replace hx103_0:=(HB.out.cell (World.block_lt_of_cell? w _ hx103_0)).trans hx103_0;replace hx103_1:=(HB.out.cell (World.block_lt_of_cell? w _ hx103_1)).trans hx103_1;replace hx103_0:=(cell_far (p:=⟨gb102,0,none⟩) (by first|(rw[add_block];exact hn103_0)|(show(Addr.add _ _).block≠_;rw[add_block];exact hn103_0)|exact hn103_0) (.int .i64 ((ax l0 x9_1).f0))).trans hx103_0;replace hx103_1:=(cell_far (p:=⟨gb102,0,none⟩) (by first|(rw[add_block];exact hn103_0)|(show(Addr.add _ _).block≠_;rw[add_block];exact hn103_0)|exact hn103_0) (.int .i64 ((ax l0 x9_1).f0))).trans hx103_1;replace hx103_0:=(cell_far (p:=⟨gb102,1,none⟩) (by first|(rw[add_block];exact hn103_1)|(show(Addr.add _ _).block≠_;rw[add_block];exact hn103_1)|exact hn103_1) (.int .i64 ((ax l0 x9_1).f1))).trans hx103_0;replace hx103_1:=(cell_far (p:=⟨gb102,1,none⟩) (by first|(rw[add_block];exact hn103_1)|(show(Addr.add _ _).block≠_;rw[add_block];exact hn103_1)|exact hn103_1) (.int .i64 ((ax l0 x9_1).f1))).trans hx103_1;(try have hy103_0:=fun (n_:Nat)=>(show((((w23.drewN n_).setCell ⟨gb102,0,none⟩ (.int .i64 ((ax l0 x9_1).f0))).setCell ⟨gb102,1,none⟩ (.int .i64 ((ax l0 x9_1).f1)))).cell? _=some _ from hx103_0));(try have hy103_1:=fun (n_:Nat)=>(show((((w23.drewN n_).setCell ⟨gb102,0,none⟩ (.int .i64 ((ax l0 x9_1).f0))).setCell ⟨gb102,1,none⟩ (.int .i64 ((ax l0 x9_1).f1)))).cell? _=some _ from hx103_1));clear hn103_0;clear hn103_1;replace p103:=eq_true p103;replace q103:=eq_true q103;have p104:0≤((ji19):Int):=of_decide_eq_true (by assumption);have q104:(ji19) < (l0.length:Int):=of_decide_eq_true (by assumption);obtain⟨ad104,e104,hx104_0,hx104_1⟩:=bF HR0.out (ji19) p104 q104;obtain rfl:ad101=ad104:=(by injection e104);have hn104_0:ad101.block≠gb102:=Nat.ne_of_lt (Nat.lt_of_lt_of_le (by have:=World.block_lt_of_cell? _ _ hx104_0;first|rwa [add_block] at this|exact this) GW102.out);have hn104_1:ad101.block≠gb102:=Nat.ne_of_lt (Nat.lt_of_lt_of_le (by have:=World.block_lt_of_cell? _ _ hx104_0;first|rwa [add_block] at this|exact this) GW102.out);replace hx104_0:=(HB.out.cell (World.block_lt_of_cell? w _ hx104_0)).trans hx104_0;replace hx104_1:=(HB.out.cell (World.block_lt_of_cell? w _ hx104_1)).trans hx104_1;replace hx104_0:=(cell_far (p:=⟨gb102,0,none⟩) (by first|(rw[add_block];exact hn104_0)|(show(Addr.add _ _).block≠_;rw[add_block];exact hn104_0)|exact hn104_0) (.int .i64 ((ax l0 x9_1).f0))).trans hx104_0;replace hx104_1:=(cell_far (p:=⟨gb102,0,none⟩) (by first|(rw[add_block];exact hn104_0)|(show(Addr.add _ _).block≠_;rw[add_block];exact hn104_0)|exact hn104_0) (.int .i64 ((ax l0 x9_1).f0))).trans hx104_1;replace hx104_0:=(cell_far (p:=⟨gb102,1,none⟩) (by first|(rw[add_block];exact hn104_1)|(show(Addr.add _ _).block≠_;rw[add_block];exact hn104_1)|exact hn104_1) (.int .i64 ((ax l0 x9_1).f1))).trans hx104_0;replace hx104_1:=(cell_far (p:=⟨gb102,1,none⟩) (by first|(rw[add_block];exact hn104_1)|(show(Addr.add _ _).block≠_;rw[add_block];exact hn104_1)|exact hn104_1) (.int .i64 ((ax l0 x9_1).f1))).trans hx104_1;(try have hy104_0:=fun (n_:Nat)=>(show((((w23.drewN n_).setCell ⟨gb102,0,none⟩ (.int .i64 ((ax l0 x9_1).f0))).setCell ⟨gb102,1,none⟩ (.int .i64 ((ax l0 x9_1).f1)))).cell? _=some _ from hx104_0));(try have hy104_1:=fun (n_:Nat)=>(show((((w23.drewN n_).setCell ⟨gb102,0,none⟩ (.int .i64 ((ax l0 x9_1).f0))).setCell ⟨gb102,1,none⟩ (.int .i64 ((ax l0 x9_1).f1)))).cell? _=some _ from hx104_1));clear hn104_0;clear hn104_1;replace p104:=eq_true p104;replace q104:=eq_true q104)))
              go_ret
              exact⟨by first|rfl|(simp[cu,cB] <;> rfl)|(simp only[← hji19];first|rfl|(simp[cu,cB] <;> rfl))|(simp[*,cu,cB] <;> rfl)|(simp[E.eB];done)|(rw[E.fw]),by with_reducible repeat(first|exact HB.out|apply ah|apply aa|apply ai|refine ae ?_ GE102.out)⟩
             ·rw[if_neg c22] at H
              have c22b0:decide (((ax l0 x9_1).f0)≤(wrap64 (((ax l0 (ji19)).f0) + ((ax l0 (ji19)).f1))))=false:=decide_eq_false c22
              clear c22
              have H':=au H
              clear H
              have p101:0≤(x9_1:Int):=of_decide_eq_true (by assumption)
              have q101:x9_1 < (l0.length:Int):=of_decide_eq_true (by assumption)
              obtain⟨ad101,e101,hx101_0,hx101_1⟩:=bF HR0.out x9_1 p101 q101
              cases e101
              replace hx101_0:=(HB.out.cell (World.block_lt_of_cell? w _ hx101_0)).trans hx101_0
              replace hx101_1:=(HB.out.cell (World.block_lt_of_cell? w _ hx101_1)).trans hx101_1
              replace p101:=eq_true p101
              replace q101:=eq_true q101
              go_wp2_with (first|((with_reducible refine aM (N:=6) rfl ?_);(try(refine bW (by rfl) ?_;dsimp only));refine aJ ?hg (N:=6) ?hd (cs:=#[.int .i64 0,.int .i64 0]) (t:=35) ?hr ?_;(case hd=>rfl);(case hg=>rfl);(case hr=>first|(go_simp;done)|(go_simp;rfl));intro gb102 hg w25 hbox hb;have BK102:=au (hbox);have GW102:=au ((by rw[hg];exact(az (by with_reducible repeat(first|exact HB.out|apply ah|apply aa|apply ai))):w.heap.size≤gb102));have GE102:=au ((by rw[hg];exact(az (by with_reducible repeat(first|exact HB.out|apply ah|apply aa|apply ai))):w.heap.size≤gb102));replace HB:=au (aA (by with_reducible repeat(first|exact HB.out|apply ah|apply aa|apply ai)) hb);clear hb hbox hg;have hcz26_0:w25.cell? ⟨gb102,0,none⟩=some (.int .i64 0):=(ak BK102.out 0).trans rfl;have hcz26_1:w25.cell? ⟨gb102,1,none⟩=some (.int .i64 0):=(ak BK102.out 1).trans rfl;have hfz26_0:=av BK102.out 0;have hfz26_1:=av BK102.out 1;have p103:0≤((ji19):Int):=of_decide_eq_true (by assumption);have q103:(ji19) < (l0.length:Int):=of_decide_eq_true (by assumption);obtain⟨ad103,e103,hx103_0,hx103_1⟩:=bF HR0.out (ji19) p103 q103;obtain rfl:ad101=ad103:=(by injection e103);have hn103_0:ad101.block≠gb102:=Nat.ne_of_lt (Nat.lt_of_lt_of_le (by have:=World.block_lt_of_cell? _ _ hx103_0;first|rwa [add_block] at this|exact this) GW102.out);have hn103_1:ad101.block≠gb102:=Nat.ne_of_lt (Nat.lt_of_lt_of_le (by have:=World.block_lt_of_cell? _ _ hx103_0;first|rwa [add_block] at this|exact this) GW102.out);replace hx103_0:=(HB.out.cell (World.block_lt_of_cell? w _ hx103_0)).trans hx103_0;replace hx103_1:=(HB.out.cell (World.block_lt_of_cell? w _ hx103_1)).trans hx103_1;replace hx103_0:=(cell_far (p:=⟨gb102,0,none⟩) (by first|(rw[add_block];exact hn103_0)|(show(Addr.add _ _).block≠_;rw[add_block];exact hn103_0)|exact hn103_0) (.int .i64 ((ax l0 x9_1).f0))).trans hx103_0;replace hx103_1:=(cell_far (p:=⟨gb102,0,none⟩) (by first|(rw[add_block];exact hn103_0)|(show(Addr.add _ _).block≠_;rw[add_block];exact hn103_0)|exact hn103_0) (.int .i64 ((ax l0 x9_1).f0))).trans hx103_1;replace hx103_0:=(cell_far (p:=⟨gb102,1,none⟩) (by first|(rw[add_block];exact hn103_1)|(show(Addr.add _ _).block≠_;rw[add_block];exact hn103_1)|exact hn103_1) (.int .i64 ((ax l0 x9_1).f1))).trans hx103_0;replace hx103_1:=(cell_far (p:=⟨gb102,1,none⟩) (by first|(rw[add_block];exact hn103_1)|(show(Addr.add _ _).block≠_;rw[add_block];exact hn103_1)|exact hn103_1) (.int .i64 ((ax l0 x9_1).f1))).trans hx103_1;(try have hy103_0:=fun (n_:Nat)=>(show((((w25.drewN n_).setCell ⟨gb102,0,none⟩ (.int .i64 ((ax l0 x9_1).f0))).setCell ⟨gb102,1,none⟩ (.int .i64 ((ax l0 x9_1).f1)))).cell? _=some _ from hx103_0));(try have hy103_1:=fun (n_:Nat)=>(show((((w25.drewN n_).setCell ⟨gb102,0,none⟩ (.int .i64 ((ax l0 x9_1).f0))).setCell ⟨gb102,1,none⟩ (.int .i64 ((ax l0 x9_1).f1)))).cell? _=some _ from hx103_1));clear hn103_0;clear hn103_1;replace p103:=eq_true p103;replace q103:=eq_true q103;have p104:0≤((ji19):Int):=of_decide_eq_true (by assumption);have q104:(ji19) < (l0.length:Int):=of_decide_eq_true (by assumption);obtain⟨ad104,e104,hx104_0,hx104_1⟩:=bF HR0.out (ji19) p104 q104;obtain rfl:ad101=ad104:=(by injection e104);have hn104_0:ad101.block≠gb102:=Nat.ne_of_lt (Nat.lt_of_lt_of_le (by have:=World.block_lt_of_cell? _ _ hx104_0;first|rwa [add_block] at this|exact this) GW102.out);have hn104_1:ad101.block≠gb102:=Nat.ne_of_lt (Nat.lt_of_lt_of_le (by have:=World.block_lt_of_cell? _ _ hx104_0;first|rwa [add_block] at this|exact this) GW102.out);replace hx104_0:=(HB.out.cell (World.block_lt_of_cell? w _ hx104_0)).trans hx104_0;replace hx104_1:=(HB.out.cell (World.block_lt_of_cell? w _ hx104_1)).trans hx104_1;replace hx104_0:=(cell_far (p:=⟨gb102,0,none⟩) (by first|(rw[add_block];exact hn104_0)|(show(Addr.add _ _).block≠_;rw[add_block];exact hn104_0)|exact hn104_0) (.int .i64 ((ax l0 x9_1).f0))).trans hx104_0;replace hx104_1:=(cell_far (p:=⟨gb102,0,none⟩) (by first|(rw[add_block];exact hn104_0)|(show(Addr.add _ _).block≠_;rw[add_block];exact hn104_0)|exact hn104_0) (.int .i64 ((ax l0 x9_1).f0))).trans hx104_1;replace hx104_0:=(cell_far (p:=⟨gb102,1,none⟩) (by first|(rw[add_block];exact hn104_1)|(show(Addr.add _ _).block≠_;rw[add_block];exact hn104_1)|exact hn104_1) (.int .i64 ((ax l0 x9_1).f1))).trans hx104_0;replace hx104_1:=(cell_far (p:=⟨gb102,1,none⟩) (by first|(rw[add_block];exact hn104_1)|(show(Addr.add _ _).block≠_;rw[add_block];exact hn104_1)|exact hn104_1) (.int .i64 ((ax l0 x9_1).f1))).trans hx104_1;(try have hy104_0:=fun (n_:Nat)=>(show((((w25.drewN n_).setCell ⟨gb102,0,none⟩ (.int .i64 ((ax l0 x9_1).f0))).setCell ⟨gb102,1,none⟩ (.int .i64 ((ax l0 x9_1).f1)))).cell? _=some _ from hx104_0));(try have hy104_1:=fun (n_:Nat)=>(show((((w25.drewN n_).setCell ⟨gb102,0,none⟩ (.int .i64 ((ax l0 x9_1).f0))).setCell ⟨gb102,1,none⟩ (.int .i64 ((ax l0 x9_1).f1)))).cell? _=some _ from hx104_1));clear hn104_0;clear hn104_1;replace p104:=eq_true p104;replace q104:=eq_true q104))
              repeat(go_quiet (first|((with_reducible refine aM (N:=6) rfl ?_);(try(refine bW (by rfl) ?_;dsimp only));refine aJ ?hg (N:=6) ?hd (cs:=#[.int .i64 0,.int .i64 0]) (t:=35) ?hr ?_;(case hd=>rfl);(case hg=>rfl);(case hr=>first|(go_simp;done)|(go_simp;rfl));intro gb102 hg w25 hbox hb;have BK102:=au (hbox);have GW102:=au ((by rw[hg];exact(az (by with_reducible repeat(first|exact HB.out|apply ah|apply aa|apply ai))):w.heap.size≤gb102));have GE102:=au ((by rw[hg];exact(az (by with_reducible repeat(first|exact HB.out|apply ah|apply aa|apply ai))):w.heap.size≤gb102));replace HB:=au (aA (by with_reducible repeat(first|exact HB.out|apply ah|apply aa|apply ai)) hb);clear hb hbox hg;have hcz26_0:w25.cell? ⟨gb102,0,none⟩=some (.int .i64 0):=(ak BK102.out 0).trans rfl;have hcz26_1:w25.cell? ⟨gb102,1,none⟩=some (.int .i64 0):=(ak BK102.out 1).trans rfl;have hfz26_0:=av BK102.out 0;have hfz26_1:=av BK102.out 1;have p103:0≤((ji19):Int):=of_decide_eq_true (by assumption);have q103:(ji19) < (l0.length:Int):=of_decide_eq_true (by assumption);obtain⟨ad103,e103,hx103_0,hx103_1⟩:=bF HR0.out (ji19) p103 q103;obtain rfl:ad101=ad103:=(by injection e103);have hn103_0:ad101.block≠gb102:=Nat.ne_of_lt (Nat.lt_of_lt_of_le (by have:=World.block_lt_of_cell? _ _ hx103_0;first|rwa [add_block] at this|exact this) GW102.out);have hn103_1:ad101.block≠gb102:=Nat.ne_of_lt (Nat.lt_of_lt_of_le (by have:=World.block_lt_of_cell? _ _ hx103_0;first|rwa [add_block] at this|exact this) GW102.out);replace hx103_0:=(HB.out.cell (World.block_lt_of_cell? w _ hx103_0)).trans hx103_0;replace hx103_1:=(HB.out.cell (World.block_lt_of_cell? w _ hx103_1)).trans hx103_1;replace hx103_0:=(cell_far (p:=⟨gb102,0,none⟩) (by first|(rw[add_block];exact hn103_0)|(show(Addr.add _ _).block≠_;rw[add_block];exact hn103_0)|exact hn103_0) (.int .i64 ((ax l0 x9_1).f0))).trans hx103_0;replace hx103_1:=(cell_far (p:=⟨gb102,0,none⟩) (by first|(rw[add_block];exact hn103_0)|(show(Addr.add _ _).block≠_;rw[add_block];exact hn103_0)|exact hn103_0) (.int .i64 ((ax l0 x9_1).f0))).trans hx103_1;replace hx103_0:=(cell_far (p:=⟨gb102,1,none⟩) (by first|(rw[add_block];exact hn103_1)|(show(Addr.add _ _).block≠_;rw[add_block];exact hn103_1)|exact hn103_1) (.int .i64 ((ax l0 x9_1).f1))).trans hx103_0;replace hx103_1:=(cell_far (p:=⟨gb102,1,none⟩) (by first|(rw[add_block];exact hn103_1)|(show(Addr.add _ _).block≠_;rw[add_block];exact hn103_1)|exact hn103_1) (.int .i64 ((ax l0 x9_1).f1))).trans hx103_1;(try have hy103_0:=fun (n_:Nat)=>(show((((w25.drewN n_).setCell ⟨gb102,0,none⟩ (.int .i64 ((ax l0 x9_1).f0))).setCell ⟨gb102,1,none⟩ (.int .i64 ((ax l0 x9_1).f1)))).cell? _=some _ from hx103_0));(try have hy103_1:=fun (n_:Nat)=>(show((((w25.drewN n_).setCell ⟨gb102,0,none⟩ (.int .i64 ((ax l0 x9_1).f0))).setCell ⟨gb102,1,none⟩ (.int .i64 ((ax l0 x9_1).f1)))).cell? _=some _ from hx103_1));clear hn103_0;clear hn103_1;replace p103:=eq_true p103;replace q103:=eq_true q103;have p104:0≤((ji19):Int):=of_decide_eq_true (by assumption);have q104:(ji19) < (l0.length:Int):=of_decide_eq_true (by assumption);obtain⟨ad104,e104,hx104_0,hx104_1⟩:=bF HR0.out (ji19) p104 q104;obtain rfl:ad101=ad104:=(by injection e104);have hn104_0:ad101.block≠gb102:=Nat.ne_of_lt (Nat.lt_of_lt_of_le (by have:=World.block_lt_of_cell? _ _ hx104_0;first|rwa [add_block] at this|exact this) GW102.out);have hn104_1:ad101.block≠gb102:=Nat.ne_of_lt (Nat.lt_of_lt_of_le (by have:=World.block_lt_of_cell? _ _ hx104_0;first|rwa [add_block] at this|exact this) GW102.out);replace hx104_0:=(HB.out.cell (World.block_lt_of_cell? w _ hx104_0)).trans hx104_0;replace hx104_1:=(HB.out.cell (World.block_lt_of_cell? w _ hx104_1)).trans hx104_1;replace hx104_0:=(cell_far (p:=⟨gb102,0,none⟩) (by first|(rw[add_block];exact hn104_0)|(show(Addr.add _ _).block≠_;rw[add_block];exact hn104_0)|exact hn104_0) (.int .i64 ((ax l0 x9_1).f0))).trans hx104_0;replace hx104_1:=(cell_far (p:=⟨gb102,0,none⟩) (by first|(rw[add_block];exact hn104_0)|(show(Addr.add _ _).block≠_;rw[add_block];exact hn104_0)|exact hn104_0) (.int .i64 ((ax l0 x9_1).f0))).trans hx104_1;replace hx104_0:=(cell_far (p:=⟨gb102,1,none⟩) (by first|(rw[add_block];exact hn104_1)|(show(Addr.add _ _).block≠_;rw[add_block];exact hn104_1)|exact hn104_1) (.int .i64 ((ax l0 x9_1).f1))).trans hx104_0;replace hx104_1:=(cell_far (p:=⟨gb102,1,none⟩) (by first|(rw[add_block];exact hn104_1)|(show(Addr.add _ _).block≠_;rw[add_block];exact hn104_1)|exact hn104_1) (.int .i64 ((ax l0 x9_1).f1))).trans hx104_1;(try have hy104_0:=fun (n_:Nat)=>(show((((w25.drewN n_).setCell ⟨gb102,0,none⟩ (.int .i64 ((ax l0 x9_1).f0))).setCell ⟨gb102,1,none⟩ (.int .i64 ((ax l0 x9_1).f1)))).cell? _=some _ from hx104_0));(try have hy104_1:=fun (n_:Nat)=>(show((((w25.drewN n_).setCell ⟨gb102,0,none⟩ (.int .i64 ((ax l0 x9_1).f0))).setCell ⟨gb102,1,none⟩ (.int .i64 ((ax l0 x9_1).f1)))).cell? _=some _ from hx104_1));clear hn104_0;clear hn104_1;replace p104:=eq_true p104;replace q104:=eq_true q104));try go_wp2_with (first|((with_reducible refine aM (N:=6) rfl ?_);(try(refine bW (by rfl) ?_;dsimp only));refine aJ ?hg (N:=6) ?hd (cs:=#[.int .i64 0,.int .i64 0]) (t:=35) ?hr ?_;(case hd=>rfl);(case hg=>rfl);(case hr=>first|(go_simp;done)|(go_simp;rfl));intro gb102 hg w25 hbox hb;have BK102:=au (hbox);have GW102:=au ((by rw[hg];exact(az (by with_reducible repeat(first|exact HB.out|apply ah|apply aa|apply ai))):w.heap.size≤gb102));have GE102:=au ((by rw[hg];exact(az (by with_reducible repeat(first|exact HB.out|apply ah|apply aa|apply ai))):w.heap.size≤gb102));replace HB:=au (aA (by with_reducible repeat(first|exact HB.out|apply ah|apply aa|apply ai)) hb);clear hb hbox hg;have hcz26_0:w25.cell? ⟨gb102,0,none⟩=some (.int .i64 0):=(ak BK102.out 0).trans rfl;have hcz26_1:w25.cell? ⟨gb102,1,none⟩=some (.int .i64 0):=(ak BK102.out 1).trans rfl;have hfz26_0:=av BK102.out 0;have hfz26_1:=av BK102.out 1;have p103:0≤((ji19):Int):=of_decide_eq_true (by assumption);have q103:(ji19) < (l0.length:Int):=of_decide_eq_true (by assumption);obtain⟨ad103,e103,hx103_0,hx103_1⟩:=bF HR0.out (ji19) p103 q103;obtain rfl:ad101=ad103:=(by injection e103);have hn103_0:ad101.block≠gb102:=Nat.ne_of_lt (Nat.lt_of_lt_of_le (by have:=World.block_lt_of_cell? _ _ hx103_0;first|rwa [add_block] at this|exact this) GW102.out);have hn103_1:ad101.block≠gb102:=Nat.ne_of_lt (Nat.lt_of_lt_of_le (by have:=World.block_lt_of_cell? _ _ hx103_0;first|rwa [add_block] at this|exact this) GW102.out);replace hx103_0:=(HB.out.cell (World.block_lt_of_cell? w _ hx103_0)).trans hx103_0;replace hx103_1:=(HB.out.cell (World.block_lt_of_cell? w _ hx103_1)).trans hx103_1;replace hx103_0:=(cell_far (p:=⟨gb102,0,none⟩) (by first|(rw[add_block];exact hn103_0)|(show(Addr.add _ _).block≠_;rw[add_block];exact hn103_0)|exact hn103_0) (.int .i64 ((ax l0 x9_1).f0))).trans hx103_0;replace hx103_1:=(cell_far (p:=⟨gb102,0,none⟩) (by first|(rw[add_block];exact hn103_0)|(show(Addr.add _ _).block≠_;rw[add_block];exact hn103_0)|exact hn103_0) (.int .i64 ((ax l0 x9_1).f0))).trans hx103_1;replace hx103_0:=(cell_far (p:=⟨gb102,1,none⟩) (by first|(rw[add_block];exact hn103_1)|(show(Addr.add _ _).block≠_;rw[add_block];exact hn103_1)|exact hn103_1) (.int .i64 ((ax l0 x9_1).f1))).trans hx103_0;replace hx103_1:=(cell_far (p:=⟨gb102,1,none⟩) (by first|(rw[add_block];exact hn103_1)|(show(Addr.add _ _).block≠_;rw[add_block];exact hn103_1)|exact hn103_1) (.int .i64 ((ax l0 x9_1).f1))).trans hx103_1;(try have hy103_0:=fun (n_:Nat)=>(show((((w25.drewN n_).setCell ⟨gb102,0,none⟩ (.int .i64 ((ax l0 x9_1).f0))).setCell ⟨gb102,1,none⟩ (.int .i64 ((ax l0 x9_1).f1)))).cell? _=some _ from hx103_0));(try have hy103_1:=fun (n_:Nat)=>(show((((w25.drewN n_).setCell ⟨gb102,0,none⟩ (.int .i64 ((ax l0 x9_1).f0))).setCell ⟨gb102,1,none⟩ (.int .i64 ((ax l0 x9_1).f1)))).cell? _=some _ from hx103_1));clear hn103_0;clear hn103_1;replace p103:=eq_true p103;replace q103:=eq_true q103;have p104:0≤((ji19):Int):=of_decide_eq_true (by assumption);have q104:(ji19) < (l0.length:Int):=of_decide_eq_true (by assumption);obtain⟨ad104,e104,hx104_0,hx104_1⟩:=bF HR0.out (ji19) p104 q104;obtain rfl:ad101=ad104:=(by injection e104);have hn104_0:ad101.block≠gb102:=Nat.ne_of_lt (Nat.lt_of_lt_of_le (by have:=World.block_lt_of_cell? _ _ hx104_0;first|rwa [add_block] at this|exact this) GW102.out);have hn104_1:ad101.block≠gb102:=Nat.ne_of_lt (Nat.lt_of_lt_of_le (by have:=World.block_lt_of_cell? _ _ hx104_0;first|rwa [add_block] at this|exact this) GW102.out);replace hx104_0:=(HB.out.cell (World.block_lt_of_cell? w _ hx104_0)).trans hx104_0;replace hx104_1:=(HB.out.cell (World.block_lt_of_cell? w _ hx104_1)).trans hx104_1;replace hx104_0:=(cell_far (p:=⟨gb102,0,none⟩) (by first|(rw[add_block];exact hn104_0)|(show(Addr.add _ _).block≠_;rw[add_block];exact hn104_0)|exact hn104_0) (.int .i64 ((ax l0 x9_1).f0))).trans hx104_0;replace hx104_1:=(cell_far (p:=⟨gb102,0,none⟩) (by first|(rw[add_block];exact hn104_0)|(show(Addr.add _ _).block≠_;rw[add_block];exact hn104_0)|exact hn104_0) (.int .i64 ((ax l0 x9_1).f0))).trans hx104_1;replace hx104_0:=(cell_far (p:=⟨gb102,1,none⟩) (by first|(rw[add_block];exact hn104_1)|(show(Addr.add _ _).block≠_;rw[add_block];exact hn104_1)|exact hn104_1) (.int .i64 ((ax l0 x9_1).f1))).trans hx104_0;replace hx104_1:=(cell_far (p:=⟨gb102,1,none⟩) (by first|(rw[add_block];exact hn104_1)|(show(Addr.add _ _).block≠_;rw[add_block];exact hn104_1)|exact hn104_1) (.int .i64 ((ax l0 x9_1).f1))).trans hx104_1;(try have hy104_0:=fun (n_:Nat)=>(show((((w25.drewN n_).setCell ⟨gb102,0,none⟩ (.int .i64 ((ax l0 x9_1).f0))).setCell ⟨gb102,1,none⟩ (.int .i64 ((ax l0 x9_1).f1)))).cell? _=some _ from hx104_0));(try have hy104_1:=fun (n_:Nat)=>(show((((w25.drewN n_).setCell ⟨gb102,0,none⟩ (.int .i64 ((ax l0 x9_1).f0))).setCell ⟨gb102,1,none⟩ (.int .i64 ((ax l0 x9_1).f1)))).cell? _=some _ from hx104_1));clear hn104_0;clear hn104_1;replace p104:=eq_true p104;replace q104:=eq_true q104)))
              go_roundg k1
              case measure=>have:=HK1.out;omega
              case rel=>exact⟨(wrap64 (x9_1+1)),(by first|rfl|(simp;done)|(simp[*];done)),H',⟨by have:=HK1.out;omega⟩,⟨by with_reducible repeat(first|exact HB.out|apply ah|apply aa|apply ai|refine ae ?_ GE102.out)⟩⟩
            ·rw[if_neg c21] at H
             exact absurd H (by simp)
           ·rw[if_neg c20] at H
            exact absurd H (by simp)
          ·rw[if_neg c18] at H
           have c18b0:decide (0<x9_1)=false:=decide_eq_false c18
           clear c18
           have H':=au H
           clear H
           have p101:0≤(x9_1:Int):=of_decide_eq_true (by assumption)
           have q101:x9_1 < (l0.length:Int):=of_decide_eq_true (by assumption)
           obtain⟨ad101,e101,hx101_0,hx101_1⟩:=bF HR0.out x9_1 p101 q101
           cases e101
           replace hx101_0:=(HB.out.cell (World.block_lt_of_cell? w _ hx101_0)).trans hx101_0
           replace hx101_1:=(HB.out.cell (World.block_lt_of_cell? w _ hx101_1)).trans hx101_1
           replace p101:=eq_true p101
           replace q101:=eq_true q101
           go_wp2_with (first|((with_reducible refine aM (N:=6) rfl ?_);(try(refine bW (by rfl) ?_;dsimp only));refine aJ ?hg (N:=6) ?hd (cs:=#[.int .i64 0,.int .i64 0]) (t:=35) ?hr ?_;(case hd=>rfl);(case hg=>rfl);(case hr=>first|(go_simp;done)|(go_simp;rfl));intro gb102 hg w27 hbox hb;have BK102:=au (hbox);have GW102:=au ((by rw[hg];exact(az (by with_reducible repeat(first|exact HB.out|apply ah|apply aa|apply ai))):w.heap.size≤gb102));have GE102:=au ((by rw[hg];exact(az (by with_reducible repeat(first|exact HB.out|apply ah|apply aa|apply ai))):w.heap.size≤gb102));replace HB:=au (aA (by with_reducible repeat(first|exact HB.out|apply ah|apply aa|apply ai)) hb);clear hb hbox hg;have hcz28_0:w27.cell? ⟨gb102,0,none⟩=some (.int .i64 0):=(ak BK102.out 0).trans rfl;have hcz28_1:w27.cell? ⟨gb102,1,none⟩=some (.int .i64 0):=(ak BK102.out 1).trans rfl;have hfz28_0:=av BK102.out 0;have hfz28_1:=av BK102.out 1))
           repeat(go_quiet (first|((with_reducible refine aM (N:=6) rfl ?_);(try(refine bW (by rfl) ?_;dsimp only));refine aJ ?hg (N:=6) ?hd (cs:=#[.int .i64 0,.int .i64 0]) (t:=35) ?hr ?_;(case hd=>rfl);(case hg=>rfl);(case hr=>first|(go_simp;done)|(go_simp;rfl));intro gb102 hg w27 hbox hb;have BK102:=au (hbox);have GW102:=au ((by rw[hg];exact(az (by with_reducible repeat(first|exact HB.out|apply ah|apply aa|apply ai))):w.heap.size≤gb102));have GE102:=au ((by rw[hg];exact(az (by with_reducible repeat(first|exact HB.out|apply ah|apply aa|apply ai))):w.heap.size≤gb102));replace HB:=au (aA (by with_reducible repeat(first|exact HB.out|apply ah|apply aa|apply ai)) hb);clear hb hbox hg;have hcz28_0:w27.cell? ⟨gb102,0,none⟩=some (.int .i64 0):=(ak BK102.out 0).trans rfl;have hcz28_1:w27.cell? ⟨gb102,1,none⟩=some (.int .i64 0):=(ak BK102.out 1).trans rfl;have hfz28_0:=av BK102.out 0;have hfz28_1:=av BK102.out 1));try go_wp2_with (first|((with_reducible refine aM (N:=6) rfl ?_);(try(refine bW (by rfl) ?_;dsimp only));refine aJ ?hg (N:=6) ?hd (cs:=#[.int .i64 0,.int .i64 0]) (t:=35) ?hr ?_;(case hd=>rfl);(case hg=>rfl);(case hr=>first|(go_simp;done)|(go_simp;rfl));intro gb102 hg w27 hbox hb;have BK102:=au (hbox);have GW102:=au ((by rw[hg];exact(az (by with_reducible repeat(first|exact HB.out|apply ah|apply aa|apply ai))):w.heap.size≤gb102));have GE102:=au ((by rw[hg];exact(az (by with_reducible repeat(first|exact HB.out|apply ah|apply aa|apply ai))):w.heap.size≤gb102));replace HB:=au (aA (by with_reducible repeat(first|exact HB.out|apply ah|apply aa|apply ai)) hb);clear hb hbox hg;have hcz28_0:w27.cell? ⟨gb102,0,none⟩=some (.int .i64 0):=(ak BK102.out 0).trans rfl;have hcz28_1:w27.cell? ⟨gb102,1,none⟩=some (.int .i64 0):=(ak BK102.out 1).trans rfl;have hfz28_0:=av BK102.out 0;have hfz28_1:=av BK102.out 1)))
           go_roundg k1
           case measure=>have:=HK1.out;omega
           case rel=>exact⟨(wrap64 (x9_1+1)),(by first|rfl|(simp;done)|(simp[*];done)),H',⟨by have:=HK1.out;omega⟩,⟨by with_reducible repeat(first|exact HB.out|apply ah|apply aa|apply ai|refine ae ?_ GE102.out)⟩⟩
     ·rw[if_neg c5] at H
      exact absurd H (by simp)
    ·rw[if_neg c4] at H
     exact absurd H (by simp)
   ·rw[if_neg c3] at H
    have c3b0:decide (x9_1 < (l0.length:Int))=false:=decide_eq_false c3
    clear c3
    replace H:=Option.bind_eq_some_iff.mp H
    obtain⟨t105,A290,H⟩:=H
    replace H:(if t105=true then (some (decide ((l0.length:Int)≤60))) else (some false))=some r:=H
    have A29:=au A290
    clear A290
    by_cases c30:t105=true
    ·subst c30
     have H1:(some (decide ((l0.length:Int)≤60)))=some r:=by rw[if_pos rfl] at H;exact H
     clear H
     have H:=H1
     clear H1
     obtain rfl:=Option.some.inj H
     go_wp2_with (first|(go_at_call 32;(with_reducible refine(spec_l1In.calls a1 1 400 true _ A29.out).mono ?_);rintro e w' ⟨rfl,⟨nd,rfl⟩⟩;(try first|exact⟨rfl,_,World.drewN_drewN _ _ _⟩|exact⟨rfl,_,Eq.trans (World.drewN_drewN _ _ _) (congrArg (World.drewN _) (Nat.add_assoc _ _ _))⟩)))
     repeat(go_quiet (first|(go_at_call 32;(with_reducible refine(spec_l1In.calls a1 1 400 true _ A29.out).mono ?_);rintro e w' ⟨rfl,⟨nd,rfl⟩⟩;(try first|exact⟨rfl,_,World.drewN_drewN _ _ _⟩|exact⟨rfl,_,Eq.trans (World.drewN_drewN _ _ _) (congrArg (World.drewN _) (Nat.add_assoc _ _ _))⟩)));try go_wp2_with (first|(go_at_call 32;(with_reducible refine(spec_l1In.calls a1 1 400 true _ A29.out).mono ?_);rintro e w' ⟨rfl,⟨nd,rfl⟩⟩;(try first|exact⟨rfl,_,World.drewN_drewN _ _ _⟩|exact⟨rfl,_,Eq.trans (World.drewN_drewN _ _ _) (congrArg (World.drewN _) (Nat.add_assoc _ _ _))⟩))))
     go_ret
     exact⟨by first|rfl|(simp <;> rfl)|(simp[*] <;> rfl),by with_reducible repeat(first|exact HB.out|apply ah|apply aa|apply ai)⟩
    ·replace c30:=Bool.eq_false_iff.mpr c30
     subst c30
     have H1:(some false)=some r:=by rw[if_neg (show ¬ (false=true) by decide)] at H;exact H
     clear H
     have H:=H1
     clear H1
     obtain rfl:=Option.some.inj H
     go_wp2_with (first|(go_at_call 32;(with_reducible refine(spec_l1In.calls a1 1 400 false _ A29.out).mono ?_);rintro e w' ⟨rfl,⟨nd,rfl⟩⟩;(try first|exact⟨rfl,_,World.drewN_drewN _ _ _⟩|exact⟨rfl,_,Eq.trans (World.drewN_drewN _ _ _) (congrArg (World.drewN _) (Nat.add_assoc _ _ _))⟩)))
     repeat(go_quiet (first|(go_at_call 32;(with_reducible refine(spec_l1In.calls a1 1 400 false _ A29.out).mono ?_);rintro e w' ⟨rfl,⟨nd,rfl⟩⟩;(try first|exact⟨rfl,_,World.drewN_drewN _ _ _⟩|exact⟨rfl,_,Eq.trans (World.drewN_drewN _ _ _) (congrArg (World.drewN _) (Nat.add_assoc _ _ _))⟩)));try go_wp2_with (first|(go_at_call 32;(with_reducible refine(spec_l1In.calls a1 1 400 false _ A29.out).mono ?_);rintro e w' ⟨rfl,⟨nd,rfl⟩⟩;(try first|exact⟨rfl,_,World.drewN_drewN _ _ _⟩|exact⟨rfl,_,Eq.trans (World.drewN_drewN _ _ _) (congrArg (World.drewN _) (Nat.add_assoc _ _ _))⟩))))
     go_ret
     exact⟨by first|rfl|(simp <;> rfl)|(simp[*] <;> rfl),by with_reducible repeat(first|exact HB.out|apply ah|apply aa|apply ai)⟩
attribute [local go_sem] bG bH bS bT bB bA bJ bI
set_option linter.unusedVariables false
set_option linter.unusedSimpArgs false
attribute [local go_sem high] pF
def spec_l5Same.l0:Nat→List (S35)→List (S35)→Int→Int→Option (Bool)
 | 0,_,_,_,_=>none
 | k+1,x0,x1,x12,x13=>if x13<x12 then (if 0≤x13 then (if x13 < (x0.length:Int) then (if x13 < (x1.length:Int) then (if (!(((ax x0 x13).f0) == ((ax x1 x13).f0)) || (!(((ax x0 x13).f1) == ((ax x1 x13).f1))))=true then (some false) else (spec_l5Same.l0 k x0 x1 x12 (wrap64 (x13+1)))) else (none)) else (none)) else (none)) else (some true)
def spec_l5Same.f (k:Nat) (l0:List (S35)) (l1:List (S35)):Option (Bool):=if (l0.length:Int) = (l1.length:Int) then (spec_l5Same.l0 k l0 l1 (l0.length:Int) 0) else (some false)
set_option maxHeartbeats 8000000 in
set_option maxRecDepth 100000 in
theorem spec_l5Same.calls (k : Nat) (A0 : Option Addr) (c0 : Nat) (l0 : List (S35)) (A1 : Option Addr) (c1 : Nat) (l1 : List (S35)) (r : Bool) (w : World) (hr0 : Kd.C k35 w A0 l0.length l0) (hc0 : l0.length ≤ c0) (hr1 : Kd.C k35 w A1 l1.length l1) (hc1 : l1.length ≤ c1) (h : spec_l5Same.f k l0 l1 = some r) :
  Calls Try.prog 60 #[.slice A0 l0.length c0,.slice A1 l1.length c1] w fun e w'=>e = .returned (.bool r)∧Drawn0 w w':=by
 have hu35:=Try.underlying35
 have HR0:=au hr0
 have HC0:=au hc0
 clear hr0 hc0
 have HR1:=au hr1
 have HC1:=au hc1
 clear hr1 hc1
 have H:(if (l0.length:Int) = (l1.length:Int) then (spec_l5Same.l0 k l0 l1 (l0.length:Int) 0) else (some false))=some r:=h
 clear h
 by_cases c3:(l0.length:Int) = (l1.length:Int)
 ·rw [if_pos c3] at H
  have c3b0:((l0.length:Int) == (l1.length:Int))=true:=beq_iff_eq.mpr c3
  have c3b1:((l0.length:Int) != (l1.length:Int))=false:=bne_eq_false_iff_eq.mpr c3
  have c3b2:(l0.length == l1.length)=true:=by first|simpa using c3|(simp at c3 ⊢;omega)
  clear c3
  have H':=au H
  clear H
  go_enter Try.func60,Try.ntmps60
  go_wp2
  repeat(go_quiet (fail);try go_wp2)
  go_loopg [13] k (fun kq v13 w'=>∃ (x13_1:Int),v13 = .int .i64 x13_1∧Aside0 (spec_l5Same.l0 kq l0 l1 (l0.length:Int) x13_1=some r)∧Aside0 (kq≤k)∧Drawn0 w w')
  case atStart=>exact⟨(0),(by first|rfl|(simp;done)|(simp[*];done)),H',⟨Nat.le_refl _⟩,by repeat(first|exact Drawn0.refl _|apply Drawn0.step)⟩
  case round =>
   clear H'
   try clear c1
   try clear p2
   try clear c3
   try clear c3b0
   try clear c3b1
   try clear c3b2
   obtain⟨x13_1,rfl,HA,HK1,⟨m1,rfl⟩⟩:=hrel
   cases gk with
   | zero=>exact absurd HA.out (by simp[spec_l5Same.l0])
   | succ k1=>
    have H:=HA.out
    clear HA
    simp only[spec_l5Same.l0] at H
    by_cases c4:x13_1 < (l0.length:Int)
    ·rw [if_pos c4] at H
     have c4b0:decide (x13_1 < (l0.length:Int))=true:=decide_eq_true c4
     clear c4
     by_cases c5:0≤x13_1
     ·rw [if_pos c5] at H
      have c5b0:decide (0≤x13_1)=true:=decide_eq_true c5
      clear c5
      by_cases c6:x13_1 < (l0.length:Int)
      ·rw[if_pos c6] at H
       have c6b0:decide (x13_1 < (l0.length:Int))=true:=decide_eq_true c6
       clear c6
       by_cases c7:x13_1 < (l1.length:Int)
       ·rw[if_pos c7] at H
        have c7b0:decide (x13_1 < (l1.length:Int))=true:=decide_eq_true c7
        clear c7
        by_cases c8:(!(((ax l0 x13_1).f0) == ((ax l1 x13_1).f0)) || (!(((ax l0 x13_1).f1) == ((ax l1 x13_1).f1))))=true
        ·rw[if_pos c8] at H
         have c8b0:(!(((ax l0 x13_1).f0) == ((ax l1 x13_1).f0)) || (!(((ax l0 x13_1).f1) == ((ax l1 x13_1).f1))))=true:=c8
         clear c8
         obtain rfl:=Option.some.inj H
         have p106:0≤(x13_1:Int):=of_decide_eq_true (by assumption)
         have q106:x13_1 < (l0.length:Int):=of_decide_eq_true (by assumption)
         obtain⟨ad106,e106,hx106_0,hx106_1⟩:=bF HR0.out x13_1 p106 q106
         cases e106
         replace p106:=eq_true p106
         replace q106:=eq_true q106
         have p107:0≤(x13_1:Int):=of_decide_eq_true (by assumption)
         have q107:x13_1 < (l1.length:Int):=of_decide_eq_true (by assumption)
         obtain⟨ad107,e107,hx107_0,hx107_1⟩:=bF HR1.out x13_1 p107 q107
         cases e107
         replace p107:=eq_true p107
         replace q107:=eq_true q107
         go_wp2
         repeat(go_quiet (fail);try go_wp2)
         go_ret
         exact⟨by first|rfl|(simp;done)|(simp[*];done),by repeat(first|exact Drawn0.refl _|apply Drawn0.step)⟩
        ·rw[if_neg c8] at H
         have c8b0:(!(((ax l0 x13_1).f0) == ((ax l1 x13_1).f0)) || (!(((ax l0 x13_1).f1) == ((ax l1 x13_1).f1))))=false:=by simpa using c8
         clear c8
         have H':=au H
         clear H
         have p106:0≤(x13_1:Int):=of_decide_eq_true (by assumption)
         have q106:x13_1 < (l0.length:Int):=of_decide_eq_true (by assumption)
         obtain⟨ad106,e106,hx106_0,hx106_1⟩:=bF HR0.out x13_1 p106 q106
         cases e106
         replace p106:=eq_true p106
         replace q106:=eq_true q106
         have p107:0≤(x13_1:Int):=of_decide_eq_true (by assumption)
         have q107:x13_1 < (l1.length:Int):=of_decide_eq_true (by assumption)
         obtain⟨ad107,e107,hx107_0,hx107_1⟩:=bF HR1.out x13_1 p107 q107
         cases e107
         replace p107:=eq_true p107
         replace q107:=eq_true q107
         go_wp2
         repeat(go_quiet (fail);try go_wp2)
         go_roundg k1
         case measure=>have:=HK1.out;omega
         case rel=>exact⟨(wrap64 (x13_1+1)),(by first|rfl|(simp;done)|(simp[*];done)),H',⟨by have:=HK1.out;omega⟩,by repeat(first|exact Drawn0.refl _|apply Drawn0.step)⟩
       ·rw[if_neg c7] at H
        exact absurd H (by simp)
      ·rw[if_neg c6] at H
       exact absurd H (by simp)
     ·rw[if_neg c5] at H
      exact absurd H (by simp)
    ·rw[if_neg c4] at H
     have c4b0:decide (x13_1 < (l0.length:Int))=false:=decide_eq_false c4
     clear c4
     obtain rfl:=Option.some.inj H
     go_wp2
     repeat(go_quiet (fail);try go_wp2)
     go_ret
     exact⟨by first|rfl|(simp;done)|(simp[*];done),by repeat(first|exact Drawn0.refl _|apply Drawn0.step)⟩
 ·rw[if_neg c3] at H
  have c3b0:((l0.length:Int) == (l1.length:Int))=false:=beq_eq_false_iff_ne.mpr c3
  have c3b1:((l0.length:Int) != (l1.length:Int))=true:=bne_iff_ne.mpr c3
  have c3b2:(l0.length == l1.length)=false:=by first|simpa using c3|(simp at c3 ⊢;omega)
  obtain rfl:=Option.some.inj H
  go_enter Try.func60,Try.ntmps60
  go_wp2
  repeat(go_quiet (fail);try go_wp2)
  go_ret
  exact⟨by first|rfl|(simp;done)|(simp[*];done),by repeat(first|exact Drawn0.refl _|apply Drawn0.step)⟩
attribute [local go_sem] bG bH bS bT bB bA bJ bI
set_option linter.unusedVariables false
set_option linter.unusedSimpArgs false
def spec_GoodFree.f (k:Nat) (a0_0:Int) (l0_1:List (S35)) (l0_2:List (S35)):Option (Bool):=(spec_l5Place.f k l0_1 a0_0).bind fun t149=>(if t149=true then ((spec_l5BySize.f k l0_1).bind fun t150=>((spec_l5Same.f k t150 l0_2).bind fun t153=>(some t153))) else (some false))
def spec_GoodFree.T1:Bool×List (List Nat×List Nat):=(true,[([],[]),([0],[0]),([],[]),([2],[2]),([1,3],[1,3]),([4,4],[4]),([5],[5]),([6,5],[5,6]),([7,5,5],[5,7]),([5],[5]),([9,5],[5,9]),([8,10,8,5],[5,8,10]),([5,11],[5,11]),([12,11,0,1,2,3,4,5,6,7,8,9,10,11,12],[12])])
def spec_GoodFree.B1:List Nat:=[0,1,0,4,15,31,63,127,255,63,575,2047,4095,8191]
theorem spec_GoodFree.tab1:fK .any (opsOf Try.f25 1)=spec_GoodFree.T1:=by kernel_rfl
theorem spec_GoodFree.bits1:gH spec_GoodFree.T1.2 spec_GoodFree.B1=true:=by kernel_rfl
set_option maxHeartbeats 8000000 in
set_option maxRecDepth 100000 in
theorem spec_GoodFree.calls (k:Nat) (a0_0:Int) (A0_1:Option Addr) (c0_1:Nat) (l0_1:List (S35)) (A0_2:Option Addr) (c0_2:Nat) (l0_2:List (S35)) (r:Bool) (w:World) (hr0_1:Kd.C k35 w A0_1 l0_1.length l0_1) (hc0_1:l0_1.length≤c0_1) (hr0_2:Kd.C k35 w A0_2 l0_2.length l0_2) (hc0_2:l0_2.length≤c0_2) (h:spec_GoodFree.f k a0_0 l0_1 l0_2=some r) :
  Calls Try.prog 25 #[.agg #[.int .i64 a0_0,.slice A0_1 l0_1.length c0_1,.slice A0_2 l0_2.length c0_2]] w fun e w'=>e = .returned (.bool r)∧Below w.heap.size w w':=by
 have hu24:=Try.underlying24
 have HR0_1:=au hr0_1
 have HC0_1:=au hc0_1
 clear hr0_1 hc0_1
 have HR0_2:=au hr0_2
 have HC0_2:=au hc0_2
 clear hr0_2 hc0_2
 have HB:=au (Below.refl w.heap.size w)
 have H:((spec_l5Place.f k l0_1 a0_0).bind fun t149=>(if t149=true then ((spec_l5BySize.f k l0_1).bind fun t150=>((spec_l5Same.f k t150 l0_2).bind fun t153=>(some t153))) else (some false)))=some r:=h
 clear h
 replace H:=Option.bind_eq_some_iff.mp H
 obtain⟨t149,A20,H⟩:=H
 replace H:(if t149=true then ((spec_l5BySize.f k l0_1).bind fun t150=>((spec_l5Same.f k t150 l0_2).bind fun t153=>(some t153))) else (some false))=some r:=H
 have A2:=au A20
 clear A20
 by_cases c3:t149=true
 ·subst c3
  have H1:((spec_l5BySize.f k l0_1).bind fun t150=>((spec_l5Same.f k t150 l0_2).bind fun t153=>(some t153)))=some r:=by rw[if_pos rfl] at H;exact H
  clear H
  have H:=H1
  clear H1
  replace H:=Option.bind_eq_some_iff.mp H
  obtain⟨t150,A40,H⟩:=H
  replace H:((spec_l5Same.f k t150 l0_2).bind fun t153=>(some t153))=some r:=H
  have A4:=au A40
  clear A40
  replace H:=Option.bind_eq_some_iff.mp H
  obtain⟨t153,A50,H⟩:=H
  replace H:(some t153)=some r:=H
  have A5:=au A50
  clear A50
  obtain rfl:=Option.some.inj H
  go_enter Try.func25,Try.ntmps25
  try go_wp2_with (first|((with_reducible refine aM (N:=1) rfl ?_);refine aJ ?hg (N:=1) ?hd (cs:=#[.int .i64 a0_0,.slice A0_1 l0_1.length c0_1,.slice A0_2 l0_2.length c0_2]) (t:=24) ?hr ?_;(case hd=>rfl);(case hg=>rfl);(case hr=>first|(go_simp;done)|(go_simp;rfl));intro gb148 hg w6 hbox hb;have BK148:=au (hbox);have GW148:=au ((by rw[hg];exact(az (by with_reducible repeat(first|exact HB.out|apply ah|apply aa|apply ai))):w.heap.size≤gb148));have GE148:=au ((by rw[hg];exact(az (by with_reducible repeat(first|exact HB.out|apply ah|apply aa|apply ai))):w.heap.size≤gb148));replace HB:=au (aA (by with_reducible repeat(first|exact HB.out|apply ah|apply aa|apply ai)) hb);clear hb hbox hg))
  have n0_:=au (aj BK148.out)
  have n1_:=au (ai HB.out)
  clear BK148
  clear HB
  have BK148:=n0_
  have HB:=n1_
  clear n0_ n1_
  refine dZ (n:=14) (S:=fun w'=>w'.cell? ⟨gb148,0,none⟩=some (.int .i64 a0_0)∧w'.cell? ⟨gb148,1,none⟩=some (.slice A0_1 l0_1.length c0_1)∧w'.cell? ⟨gb148,2,none⟩=some (.slice A0_2 l0_2.length c0_2)) (ds:=[]) #[false,false,false,false,false,false,false,false,false,false,false,false,false,false] (by kernel_rfl) rfl rfl ⟨(ak BK148.out 0).trans rfl,(ak BK148.out 1).trans rfl,(ak BK148.out 2).trans rfl⟩ (fun hHeld=>?_);refine fB spec_GoodFree.tab1 spec_GoodFree.bits1 (fun HT_ HW_=>?_)
  generalize w6.drew=w7 at BK148 HB hHeld ⊢
  refine aQ (i:=0) (N:=some 3) (v:=?_) (a':=?_) #[true,false,false,false,false,false,false,false,false,false,false,false,false,false] rfl rfl (bM HT_.out (by kernel_rfl)) (fun _ _ _ h=>h) (Or.inl ⟨by rfl,?_⟩) ?_ ?_
  rotate_left
  ·intro w'
   go_simp
   with_reducible rfl
  rotate_left
  ·simp only[apu_]
   rfl
  refine aQ (i:=2) (N:=some 5) (v:=?_) (a':=?_) #[true,false,true,false,false,false,false,false,false,false,false,false,false,false] rfl rfl (bM HT_.out (by kernel_rfl)) (fun _ _ _ h=>h) (Or.inl ⟨by rfl,?_⟩) ?_ ?_
  rotate_left
  ·intro w'
   go_simp
   with_reducible rfl
  rotate_left
  ·simp only[apu_]
   rfl
  refine bN (i:=1) (N:=some 4) (v:=?_) (a':=?_) #[true,true,true,false,false,false,false,false,false,false,false,false,false,false] rfl rfl (dF HT_.out HW_.out (by kernel_rfl)) (fun _ _ _ h=>h) (Or.inl ⟨by rfl,?_⟩) hHeld ?_ ?_
  rotate_left
  ·rintro w' ⟨s0,s1,s2⟩
   go_simp
   with_reducible rfl
  rotate_left
  ·simp only[apu_]
   rfl
  refine bN (i:=3) (N:=some 6) (v:=?_) (a':=?_) #[true,true,true,true,false,false,false,false,false,false,false,false,false,false] rfl rfl (dF HT_.out HW_.out (by kernel_rfl)) (fun _ _ _ h=>h) (Or.inl ⟨by rfl,?_⟩) hHeld ?_ ?_
  rotate_left
  ·rintro w' ⟨s0,s1,s2⟩
   go_simp
   with_reducible rfl
  rotate_left
  ·simp only[apu_]
   rfl
  refine dN (i:=4) (N:=some 7) #[true,true,true,true,true,false,false,false,false,false,false,false,false,false] rfl rfl (ed HT_.out (by kernel_rfl)) (by decide) (fun K hK=>?_)
  refine dh Try.func59 (by kernel_rfl) rfl #[.slice A0_1 l0_1.length c0_1,.int .i64 a0_0] (by rfl) rfl rfl (by(try simp only[amp_]);first|done|rfl|(simp only[ald_];rfl)) ?_
  with_reducible refine(spec_l5Place.calls k _ _ l0_1 a0_0 true _ ?side1 ?side2 A2.out).mono ?_
  (case side1=>repeat(first|exact(Kd.aN HR0_1.out HB.out)|(with_reducible first|apply Kd.aY|apply Kd.aZ|apply Kd.bn)))
  (case side2=>exact HC0_1.out)
  rintro e w8 ⟨rfl,hb⟩
  refine⟨_,rfl,?_⟩
  have n0_:=au (ay (g:=gb148) (o:=.cells #[.int .i64 a0_0,.slice A0_1 l0_1.length c0_1,.slice A0_2 l0_2.length c0_2] 24 (0,0)) (by(with_reducible repeat(first|apply ag|apply aj|apply af));exact BK148.out) hb)
  have n1_:=au (aA (by with_reducible repeat(first|exact HB.out|apply ah|apply aa|apply ai|refine ae ?_ GE148.out)) hb)
  clear BK148
  clear HB
  have BK148:=n0_
  have HB:=n1_
  clear n0_ n1_
  (try clear hb)
  (try clear hb2)
  (try clear hk)
  (try clear hi)
  refine hK.out _ _ ⟨(ak BK148.out 0).trans rfl,(ak BK148.out 1).trans rfl,(ak BK148.out 2).trans rfl⟩ (fun hHeld=>?_)
  clear hK K
  refine bQ (a':=?_) ?_ ?_
  rotate_left
  ·show Act.put _ (some 7) _=_
   simp only[apu_]
   rfl
  refine aQ (i:=5) (N:=some 8) (v:=?_) (a':=?_) #[true,true,true,true,true,true,false,false,false,false,false,false,false,false] rfl rfl (bM HT_.out (by kernel_rfl)) (fun _ _ _ h=>h) (Or.inl ⟨by rfl,?_⟩) ?_ ?_
  rotate_left
  ·intro w'
   go_simp
   with_reducible rfl
  rotate_left
  ·simp only[apu_]
   rfl
  refine aQ (i:=6) (N:=some 9) (v:=?_) (a':=?_) #[true,true,true,true,true,true,true,false,false,false,false,false,false,false] rfl rfl (bM HT_.out (by kernel_rfl)) (fun _ _ _ h=>h) (Or.inl ⟨by rfl,?_⟩) ?_ ?_
  rotate_left
  ·intro w'
   go_simp
   with_reducible rfl
  rotate_left
  ·simp only[apu_]
   rfl
  refine aQ (i:=9) (N:=some 12) (v:=?_) (a':=?_) #[true,true,true,true,true,true,true,false,false,true,false,false,false,false] rfl rfl (bM HT_.out (by kernel_rfl)) (fun _ _ _ h=>h) (Or.inl ⟨by rfl,?_⟩) ?_ ?_
  rotate_left
  ·intro w'
   go_simp
   with_reducible rfl
  rotate_left
  ·simp only[apu_]
   rfl
  refine bN (i:=7) (N:=some 10) (v:=?_) (a':=?_) #[true,true,true,true,true,true,true,true,false,true,false,false,false,false] rfl rfl (dF HT_.out HW_.out (by kernel_rfl)) (fun _ _ _ h=>h) (Or.inl ⟨by rfl,?_⟩) hHeld ?_ ?_
  rotate_left
  ·rintro w' ⟨s0,s1,s2⟩
   go_simp
   with_reducible rfl
  rotate_left
  ·simp only[apu_]
   rfl
  refine bN (i:=10) (N:=some 13) (v:=?_) (a':=?_) #[true,true,true,true,true,true,true,true,false,true,true,false,false,false] rfl rfl (dF HT_.out HW_.out (by kernel_rfl)) (fun _ _ _ h=>h) (Or.inl ⟨by rfl,?_⟩) hHeld ?_ ?_
  rotate_left
  ·rintro w' ⟨s0,s1,s2⟩
   go_simp
   with_reducible rfl
  rotate_left
  ·simp only[apu_]
   rfl
  refine dN (i:=8) (N:=some 11) #[true,true,true,true,true,true,true,true,true,true,true,false,false,false] rfl rfl (ed HT_.out (by kernel_rfl)) (by decide) (fun K hK=>?_)
  refine dh Try.func61 (by kernel_rfl) rfl #[.slice A0_1 l0_1.length c0_1] (by rfl) rfl rfl (by(try simp only[amp_]);first|done|rfl|(simp only[ald_];rfl)) ?_
  with_reducible refine(spec_l5BySize.calls k _ _ l0_1 t150 _ ?side1 ?side2 A4.out).mono ?_
  (case side1=>repeat(first|exact(Kd.aN HR0_1.out HB.out)|(with_reducible first|apply Kd.aY|apply Kd.aZ|apply Kd.bn)))
  (case side2=>exact HC0_1.out)
  rintro e w9 ⟨v151,rfl,ho0,hb⟩
  refine⟨_,rfl,?_⟩
  have n0_:=au (Kd.bz ho0 (az (by with_reducible repeat(first|exact HB.out|apply ah|apply aa|apply ai|refine ae ?_ GE148.out))))
  have n1_:=au (ay (g:=gb148) (o:=.cells #[.int .i64 a0_0,.slice A0_1 l0_1.length c0_1,.slice A0_2 l0_2.length c0_2] 24 (0,0)) (by(with_reducible repeat(first|apply ag|apply aj|apply af));exact BK148.out) hb)
  have n2_:=au (aA (by with_reducible repeat(first|exact HB.out|apply ah|apply aa|apply ai|refine ae ?_ GE148.out)) hb)
  clear BK148
  clear HB
  have HO152:=n0_
  have BK148:=n1_
  have HB:=n2_
  clear n0_ n1_ n2_
  (try clear hb)
  (try clear hb2)
  (try clear hk)
  (try clear hi)
  (try clear ho0)
  obtain⟨Ao10,co10,eo10⟩:=Kd.bq HO152.out
  (first|subst eo10|(injection eo10 with f1_ f2_ f3_;have f4_:=f1_.symm;have f5_:=f3_.symm;clear f1_ f2_ f3_;subst f4_;subst f5_))
  refine hK.out _ _ ⟨(ak BK148.out 0).trans rfl,(ak BK148.out 1).trans rfl,(ak BK148.out 2).trans rfl⟩ (fun hHeld=>?_)
  clear hK K
  refine bQ (a':=?_) ?_ ?_
  rotate_left
  ·show Act.put _ (some 11) _=_
   simp only[apu_]
   rfl
  refine dN (i:=11) (N:=some 14) #[true,true,true,true,true,true,true,true,true,true,true,true,false,false] rfl rfl (ed HT_.out (by kernel_rfl)) (by decide) (fun K hK=>?_)
  refine dh Try.func60 (by kernel_rfl) rfl #[.slice Ao10 t150.length co10,.slice A0_2 l0_2.length c0_2] (by rfl) rfl rfl (by(try simp only[amp_]);first|done|rfl|(simp only[ald_];rfl)) ?_
  with_reducible refine(spec_l5Same.calls k _ _ t150 _ _ l0_2 t153 _ ?side1 ?side2 ?side3 ?side4 A5.out).mono ?_
  (case side1=>repeat(first|exact(Kd.R_reads' HO152.out).2.2|(with_reducible first|apply Kd.aY|apply Kd.aZ|apply Kd.bn)))
  (case side2=>exact(Kd.R_reads' HO152.out).2.1)
  (case side3=>repeat(first|exact(Kd.aN HR0_2.out HB.out)|(with_reducible first|apply Kd.aY|apply Kd.aZ|apply Kd.bn)))
  (case side4=>exact HC0_2.out)
  rintro e w' ⟨rfl,⟨nd,rfl⟩⟩
  refine⟨_,rfl,?_⟩
  refine hK.out _ _ ⟨(ak BK148.out 0).trans rfl,(ak BK148.out 1).trans rfl,(ak BK148.out 2).trans rfl⟩ (fun hHeld=>?_)
  clear hK K
  refine bQ (a':=?_) ?_ ?_
  rotate_left
  ·show Act.put _ (some 14) _=_
   simp only[apu_]
   rfl
  refine aQ (i:=12) (N:=some 15) (v:=?_) (a':=?_) #[true,true,true,true,true,true,true,true,true,true,true,true,true,false] rfl rfl (bM HT_.out (by kernel_rfl)) (fun _ _ _ h=>h) (Or.inl ⟨by rfl,?_⟩) ?_ ?_
  rotate_left
  ·intro w'
   go_simp
   with_reducible rfl
  rotate_left
  ·simp only[apu_]
   rfl
  refine aQ (i:=13) (N:=some 2) (v:=?_) (a':=?_) #[true,true,true,true,true,true,true,true,true,true,true,true,true,true] rfl rfl (bM HT_.out (by kernel_rfl)) (fun _ _ _ h=>h) (Or.inl ⟨by rfl,?_⟩) ?_ ?_
  rotate_left
  ·intro w'
   go_simp
   with_reducible rfl
  rotate_left
  ·simp only[apu_]
   rfl
  refine fo (gZ HT_.out (by kernel_rfl)) ?_
  try go_wp2
  go_ret
  exact⟨by first|rfl|(simp <;> rfl)|(simp[*] <;> rfl),by with_reducible repeat(first|exact HB.out|apply ah|apply aa|apply ai|refine ae ?_ GE148.out)⟩
 ·replace c3:=Bool.eq_false_iff.mpr c3
  subst c3
  have H1:(some false)=some r:=by rw[if_neg (show ¬ (false=true) by decide)] at H;exact H
  clear H
  have H:=H1
  clear H1
  obtain rfl:=Option.some.inj H
  go_enter Try.func25,Try.ntmps25
  try go_wp2_with (first|((with_reducible refine aM (N:=1) rfl ?_);refine aJ ?hg (N:=1) ?hd (cs:=#[.int .i64 a0_0,.slice A0_1 l0_1.length c0_1,.slice A0_2 l0_2.length c0_2]) (t:=24) ?hr ?_;(case hd=>rfl);(case hg=>rfl);(case hr=>first|(go_simp;done)|(go_simp;rfl));intro gb148 hg w11 hbox hb;have BK148:=au (hbox);have GW148:=au ((by rw[hg];exact(az (by with_reducible repeat(first|exact HB.out|apply ah|apply aa|apply ai))):w.heap.size≤gb148));have GE148:=au ((by rw[hg];exact(az (by with_reducible repeat(first|exact HB.out|apply ah|apply aa|apply ai))):w.heap.size≤gb148));replace HB:=au (aA (by with_reducible repeat(first|exact HB.out|apply ah|apply aa|apply ai)) hb);clear hb hbox hg))
  have n0_:=au (aj BK148.out)
  have n1_:=au (ai HB.out)
  clear BK148
  clear HB
  have BK148:=n0_
  have HB:=n1_
  clear n0_ n1_
  refine dZ (n:=14) (S:=fun w'=>w'.cell? ⟨gb148,0,none⟩=some (.int .i64 a0_0)∧w'.cell? ⟨gb148,1,none⟩=some (.slice A0_1 l0_1.length c0_1)∧w'.cell? ⟨gb148,2,none⟩=some (.slice A0_2 l0_2.length c0_2)) (ds:=[]) #[false,false,false,false,false,false,false,false,false,false,false,false,false,false] (by kernel_rfl) rfl rfl ⟨(ak BK148.out 0).trans rfl,(ak BK148.out 1).trans rfl,(ak BK148.out 2).trans rfl⟩ (fun hHeld=>?_);refine fB spec_GoodFree.tab1 spec_GoodFree.bits1 (fun HT_ HW_=>?_)
  generalize w11.drew=w12 at BK148 HB hHeld ⊢
  refine aQ (i:=0) (N:=some 3) (v:=?_) (a':=?_) #[true,false,false,false,false,false,false,false,false,false,false,false,false,false] rfl rfl (bM HT_.out (by kernel_rfl)) (fun _ _ _ h=>h) (Or.inl ⟨by rfl,?_⟩) ?_ ?_
  rotate_left
  ·intro w'
   go_simp
   with_reducible rfl
  rotate_left
  ·simp only[apu_]
   rfl
  refine aQ (i:=2) (N:=some 5) (v:=?_) (a':=?_) #[true,false,true,false,false,false,false,false,false,false,false,false,false,false] rfl rfl (bM HT_.out (by kernel_rfl)) (fun _ _ _ h=>h) (Or.inl ⟨by rfl,?_⟩) ?_ ?_
  rotate_left
  ·intro w'
   go_simp
   with_reducible rfl
  rotate_left
  ·simp only[apu_]
   rfl
  refine bN (i:=1) (N:=some 4) (v:=?_) (a':=?_) #[true,true,true,false,false,false,false,false,false,false,false,false,false,false] rfl rfl (dF HT_.out HW_.out (by kernel_rfl)) (fun _ _ _ h=>h) (Or.inl ⟨by rfl,?_⟩) hHeld ?_ ?_
  rotate_left
  ·rintro w' ⟨s0,s1,s2⟩
   go_simp
   with_reducible rfl
  rotate_left
  ·simp only[apu_]
   rfl
  refine bN (i:=3) (N:=some 6) (v:=?_) (a':=?_) #[true,true,true,true,false,false,false,false,false,false,false,false,false,false] rfl rfl (dF HT_.out HW_.out (by kernel_rfl)) (fun _ _ _ h=>h) (Or.inl ⟨by rfl,?_⟩) hHeld ?_ ?_
  rotate_left
  ·rintro w' ⟨s0,s1,s2⟩
   go_simp
   with_reducible rfl
  rotate_left
  ·simp only[apu_]
   rfl
  refine dN (i:=4) (N:=some 7) #[true,true,true,true,true,false,false,false,false,false,false,false,false,false] rfl rfl (ed HT_.out (by kernel_rfl)) (by decide) (fun K hK=>?_)
  refine dh Try.func59 (by kernel_rfl) rfl #[.slice A0_1 l0_1.length c0_1,.int .i64 a0_0] (by rfl) rfl rfl (by(try simp only[amp_]);first|done|rfl|(simp only[ald_];rfl)) ?_
  with_reducible refine(spec_l5Place.calls k _ _ l0_1 a0_0 false _ ?side1 ?side2 A2.out).mono ?_
  (case side1=>repeat(first|exact(Kd.aN HR0_1.out HB.out)|(with_reducible first|apply Kd.aY|apply Kd.aZ|apply Kd.bn)))
  (case side2=>exact HC0_1.out)
  rintro e w13 ⟨rfl,hb⟩
  refine⟨_,rfl,?_⟩
  have n0_:=au (ay (g:=gb148) (o:=.cells #[.int .i64 a0_0,.slice A0_1 l0_1.length c0_1,.slice A0_2 l0_2.length c0_2] 24 (0,0)) (by(with_reducible repeat(first|apply ag|apply aj|apply af));exact BK148.out) hb)
  have n1_:=au (aA (by with_reducible repeat(first|exact HB.out|apply ah|apply aa|apply ai|refine ae ?_ GE148.out)) hb)
  clear BK148
  clear HB
  have BK148:=n0_
  have HB:=n1_
  clear n0_ n1_
  (try clear hb)
  (try clear hb2)
  (try clear hk)
  (try clear hi)
  refine hK.out _ _ ⟨(ak BK148.out 0).trans rfl,(ak BK148.out 1).trans rfl,(ak BK148.out 2).trans rfl⟩ (fun hHeld=>?_)
  clear hK K
  refine bQ (a':=?_) ?_ ?_
  rotate_left
  ·show Act.put _ (some 7) _=_
   simp only[apu_]
   rfl
  refine aQ (i:=5) (N:=some 8) (v:=?_) (a':=?_) #[true,true,true,true,true,true,false,false,false,false,false,false,false,false] rfl rfl (bM HT_.out (by kernel_rfl)) (fun _ _ _ h=>h) (Or.inl ⟨by rfl,?_⟩) ?_ ?_
  rotate_left
  ·intro w'
   go_simp
   with_reducible rfl
  rotate_left
  ·simp only[apu_]
   rfl
  refine aQ (i:=6) (N:=some 9) (v:=undef) (a':=?_) #[true,true,true,true,true,true,true,false,false,false,false,false,false,false] rfl rfl (bM HT_.out (by kernel_rfl)) (fun _ _ _ h=>h) (Or.inr ⟨by rfl,rfl⟩) ?_ ?_
  rotate_left
  ·simp only[apu_]
   rfl
  refine aQ (i:=7) (N:=some 10) (v:=undef) (a':=?_) #[true,true,true,true,true,true,true,true,false,false,false,false,false,false] rfl rfl (bM HT_.out (by kernel_rfl)) (fun _ _ _ h=>h) (Or.inr ⟨by rfl,rfl⟩) ?_ ?_
  rotate_left
  ·simp only[apu_]
   rfl
  refine aQ (i:=8) (N:=some 11) (v:=undef) (a':=?_) #[true,true,true,true,true,true,true,true,true,false,false,false,false,false] rfl rfl (bM HT_.out (by kernel_rfl)) (fun _ _ _ h=>h) (Or.inr ⟨by rfl,rfl⟩) ?_ ?_
  rotate_left
  ·simp only[apu_]
   rfl
  refine aQ (i:=9) (N:=some 12) (v:=undef) (a':=?_) #[true,true,true,true,true,true,true,true,true,true,false,false,false,false] rfl rfl (bM HT_.out (by kernel_rfl)) (fun _ _ _ h=>h) (Or.inr ⟨by rfl,rfl⟩) ?_ ?_
  rotate_left
  ·simp only[apu_]
   rfl
  refine aQ (i:=10) (N:=some 13) (v:=undef) (a':=?_) #[true,true,true,true,true,true,true,true,true,true,true,false,false,false] rfl rfl (bM HT_.out (by kernel_rfl)) (fun _ _ _ h=>h) (Or.inr ⟨by rfl,rfl⟩) ?_ ?_
  rotate_left
  ·simp only[apu_]
   rfl
  refine aQ (i:=11) (N:=some 14) (v:=undef) (a':=?_) #[true,true,true,true,true,true,true,true,true,true,true,true,false,false] rfl rfl (bM HT_.out (by kernel_rfl)) (fun _ _ _ h=>h) (Or.inr ⟨by rfl,rfl⟩) ?_ ?_
  rotate_left
  ·simp only[apu_]
   rfl
  refine aQ (i:=12) (N:=some 15) (v:=?_) (a':=?_) #[true,true,true,true,true,true,true,true,true,true,true,true,true,false] rfl rfl (bM HT_.out (by kernel_rfl)) (fun _ _ _ h=>h) (Or.inl ⟨by rfl,?_⟩) ?_ ?_
  rotate_left
  ·intro w'
   go_simp
   with_reducible rfl
  rotate_left
  ·simp only[apu_]
   rfl
  refine aQ (i:=13) (N:=some 2) (v:=?_) (a':=?_) #[true,true,true,true,true,true,true,true,true,true,true,true,true,true] rfl rfl (bM HT_.out (by kernel_rfl)) (fun _ _ _ h=>h) (Or.inl ⟨by rfl,?_⟩) ?_ ?_
  rotate_left
  ·intro w'
   go_simp
   with_reducible rfl
  rotate_left
  ·simp only[apu_]
   rfl
  refine fo (gZ HT_.out (by kernel_rfl)) ?_
  try go_wp2
  go_ret
  exact⟨by first|rfl|(simp <;> rfl)|(simp[*] <;> rfl),by with_reducible repeat(first|exact HB.out|apply ah|apply aa|apply ai|refine ae ?_ GE148.out)⟩
open Go.RowKit Go.Proofs.YtelblhkbogljnaaW.PrintWords Go.Proofs.YtelblhkbogljnaaW.PrintLast Go.Proofs.YtelblhkbogljnaaW.PrintMore Go.Proofs.Ytelblhkbogljnaa.E
theorem gQ {P:List EX} {i:Nat} (h:i<P.length):ax P (i:Int)=P[i]:=by
  rw[ic,Int.toNat_natCast,List.getD_eq_getElem?_getD,List.getElem?_eq_getElem h];rfl
theorem eP (a b c:Int):spec_l1In.f a b c=some (decide (b≤a∧a≤c)):=by
  unfold spec_l1In.f
  by_cases h:a≥b
  · by_cases h2:a≤c
    · simp[h,h2] <;> omega
    · simp[h,h2]
  · simp[h] <;> omega
section
variable {B:Int} {P:List EX}
theorem om {i:Nat} (hi:i+1<P.length+1):fe P (i+1)=some (ax P (i:Int)):=by
  unfold fe
  rw[if_neg (by omega),show((i+1:Nat):Int) - 1 = (i:Int) by omega]
theorem nD (hB : -4611686018427387904 ≤ B ∧ B ≤ 4611686018427387904) (hP : P.length ≤ 1000000) : ∀ (f i : Nat), i + f = P.length → (∀ m : Nat, i = m + 1 → okX B (ax P (m : Int)) = true) →
    Ev (fun k=>spec_l5Place.l0 k P B P (P.length:Int) (i:Int)) (dG B (fe P i) (P.drop i) && (decide (1≤B∧B≤400)&&decide (P.length≤60))):=by
  intro f
  induction f with
  | zero=>
    intro i hi _
    refine Ev.step (fun _=>spec_l5Place.l0.eq_2 ..) (bE (by omega) (bL (eP B 1 400) ?_))
    rw[List.drop_of_length_le (by omega)]
    show Ev _ (true&&_)
    rw[Bool.true_and]
    by_cases h:1≤B∧B≤400
    · rw[decide_eq_true h,Bool.true_and]
      refine bR rfl (bP ?_)
      rw[decide_eq_decide];omega
    · rw[decide_eq_false h,Bool.false_and]
      exact dB rfl (bP rfl)
  | succ f ih =>
    intro i hi hpv
    have hil:i<P.length:=by omega
    have hd:=kF (B:=B) hil
    obtain⟨x,hx⟩:∃ x,ax P (i:Int)=x:=⟨_,rfl⟩
    have key:∀ (b:Bool),okX B x=b→(b=true→pQ (fe P i) x=true→Ev (fun k=>spec_l5Place.l0 k P B P (P.length:Int) (i:Int)) (dG B (fe P (i+1)) (P.drop (i+1)) && (decide (1≤B∧B≤400)&&decide (P.length≤60))))→((b=false∨pQ (fe P i) x=false)→Ev (fun k=>spec_l5Place.l0 k P B P (P.length:Int) (i:Int)) false)→Ev (fun k=>spec_l5Place.l0 k P B P (P.length:Int) (i:Int)) (dG B (fe P i) (P.drop i) && (decide (1≤B∧B≤400)&&decide (P.length≤60))):=by
      intro b hb h1 h2
      rw[hd,hx,hb]
      cases b with
      | false=>rw[Bool.false_and,Bool.false_and,Bool.false_and];exact h2 (.inl rfl)
      | true=>
        cases hg:pQ (fe P i) x with
        | false=>rw[Bool.true_and,Bool.false_and,Bool.false_and];exact h2 (.inr hg)
        | true=>rw[Bool.true_and,Bool.true_and];exact h1 rfl hg
    have hnext:okX B x=true→Ev (fun k=>spec_l5Place.l0 k P B P (P.length:Int) (wrap64 ((i:Int)+1))) (dG B (fe P (i+1)) (P.drop (i+1)) && (decide (1≤B∧B≤400)&&decide (P.length≤60))):=fun hok=>by
      rw[w64 (x:=(i:Int)+1) (by omega) (by omega),show(i:Int)+1 = ((i+1:Nat):Int) by omega]
      exact ih (i+1) (by omega) (fun m hm=>by obtain rfl:m=i:=(by omega);rw[hx];exact hok)
    have step:∀ {r:Bool},Ev (fun k=>if (ax P (i:Int)).f0<0 then some false else if (ax P (i:Int)).f1<1 then some false else if (ax P (i:Int)).f1 > B then some false else if (ax P (i:Int)).f0 > wrap64 (B - (ax P (i:Int)).f1) then some false else if (i:Int) > 0 then (if 0≤wrap64 ((i:Int) - 1) then (if wrap64 ((i:Int) - 1) < (P.length:Int) then (if wrap64 ((ax P (wrap64 ((i:Int) - 1))).f0 + (ax P (wrap64 ((i:Int) - 1))).f1)≥(ax P (i:Int)).f0 then some false else spec_l5Place.l0 k P B P (P.length:Int) (wrap64 ((i:Int)+1))) else none) else none) else spec_l5Place.l0 k P B P (P.length:Int) (wrap64 ((i:Int)+1))) r→Ev (fun k=>spec_l5Place.l0 k P B P (P.length:Int) (i:Int)) r:=fun h=>
      Ev.step (fun _=>spec_l5Place.l0.eq_2 ..) (aX (by omega) (aX (by omega) (aX (by omega) h)))
    rw[hx] at step
    refine key _ rfl (fun hok hg=>step ?_) (fun hno=>step ?_)
    · have h:=eQ.1 hok
      refine bE (by omega) (bE (by omega) (bE (by omega) ?_))
      rw[w64 (x:=B - x.f1) (by omega) (by omega)]
      refine bE (by omega) ?_
      cases i with
      | zero=>exact bE (by omega) (hnext hok)
      | succ m=>
        have hp:=eQ.1 (hpv m rfl)
        rw[om (by omega)] at hg
        have hg2:(ax P (m:Int)).f0 + (ax P (m:Int)).f1<x.f0:=of_decide_eq_true hg
        have em:wrap64 (((m+1:Nat):Int) - 1) = (m:Int):=by rw[w64 (by omega) (by omega)];omega
        refine aX (by omega) ?_
        rw[em,w64 (x:=(ax P (m:Int)).f0 + (ax P (m:Int)).f1) (by omega) (by omega)]
        exact aX (by omega) (aX (by omega) (bE (by omega) (hnext hok)))
    · by_cases c0 : x.f0 < 0
      · exact aX c0 (bP rfl)
      · refine bE c0 ?_
        by_cases c1:x.f1<1
        · exact aX c1 (bP rfl)
        · refine bE c1 ?_
          by_cases c2:x.f1 > B
          · exact aX c2 (bP rfl)
          · refine bE c2 ?_
            rw[w64 (x:=B - x.f1) (by omega) (by omega)]
            by_cases c3:x.f0 > B - x.f1
            · exact aX c3 (bP rfl)
            · refine bE c3 ?_
              have hok:okX B x=true:=eQ.2 (by omega)
              cases i with
              | zero=>
                rcases hno with e|e
                · rw[hok] at e;cases e
                · cases e
              | succ m=>
                have hp:=eQ.1 (hpv m rfl)
                rcases hno with e|e
                · rw[hok] at e;cases e
                · rw[om (by omega)] at e
                  have e2:¬ (ax P (m:Int)).f0 + (ax P (m:Int)).f1<x.f0:=of_decide_eq_false e
                  have em:wrap64 (((m+1:Nat):Int) - 1) = (m:Int):=by rw[w64 (by omega) (by omega)];omega
                  refine aX (by omega) ?_
                  rw[em,w64 (x:=(ax P (m:Int)).f0 + (ax P (m:Int)).f1) (by omega) (by omega)]
                  exact aX (by omega) (aX (by omega) (aX (by omega) (bP rfl)))
end
theorem lX (x:EX):∀ (l:List EX) (k:Nat),k≤l.length→(∀ (i:Nat) (hi:i<l.length),i<k→ltE l[i] x=true)→(∀ (hi:k<l.length),ltE l[k] x=false)→jd x l=l.take k++x::l.drop k
  | [],k,hk,_,_=>by
    obtain rfl:k=0:=by simpa using hk
    rfl
  | y::r,0,_,_,h=>by
    have:=h (by simp)
    unfold jd
    rw[if_neg (by simpa using this)]
    rfl
  | y::r,k+1,hk,h1,h2=>by
    have h0:=h1 0 (by simp) (by omega)
    unfold jd
    rw[if_pos (by simpa using h0),lX x r k (by simpa using hk) (fun i hi hik=>by have:=h1 (i+1) (by simp;omega) (by omega);simpa using this) (fun hi=>by have:=h2 (by simp;omega);simpa using this)]
    rfl
theorem qx (a b:EX):spec_l5Less.f a.f0 a.f1 b.f0 b.f1=some (ltE a b):=by
  unfold spec_l5Less.f ltE
  by_cases h1:a.f1<b.f1
  · rw[if_pos h1,decide_eq_true (by omega)]
  · rw[if_neg h1]
    by_cases h2:a.f1=b.f1
    · rw[if_pos h2]
      congr 1
      rw[decide_eq_decide]
      omega
    · rw[if_neg h2,decide_eq_false (by omega)]
theorem qj {P : List EX} {j : Nat} (hj : j < P.length) (hP : P.length ≤ 100000) {r : List EX} (out : List EX) (ho : out.length ≤ 100000) (hn : Ev (fun k => spec_l5BySize.l0 k (jd P[j] out) P (P.length : Int) (((j + 1 : Nat)) : Int)) r) :
    ∀ (f k:Nat),k+f=out.length→(∀ (i:Nat) (hi:i<out.length),i<k→ltE out[i] P[j]=true)→Ev (fun n=>spec_l5BySize.l1 n out (k:Int) P (P.length:Int) (j:Int) P[j].f0 P[j].f1) r:=by
  have fin:∀ k:Nat,k≤out.length→jd P[j] out=out.take k++P[j]::out.drop k→Ev (fun n=>if 0≤(k:Int) then (if (k:Int)≤(out.length:Int) then ((some (out.take (k:Int).toNat:List EX)).bind fun y114=>(if ([]:List EX).length+y114.length<8796093022208 then ((some (([]:List EX)++y114:List EX)).bind fun y118=>(if y118.length<8796093022208 then ((some (y118++[(⟨P[j].f0,P[j].f1⟩:EX)]:List EX)).bind fun y121=>((some (out.drop (k:Int).toNat:List EX)).bind fun y124=>(if y121.length+y124.length<8796093022208 then (spec_l5BySize.l0 n (y121++y124) P (P.length:Int) (wrap64 ((j:Int)+1))) else none))) else none)) else none)) else none) else none) r:=fun k hk he=>by
    refine aX (by omega) (aX (by omega) ?_)
    rw[Int.toNat_natCast]
    simp only[Option.bind_some,List.nil_append]
    refine aX (by simp;omega) (aX (by simp;omega) (aX (by simp;omega) ?_))
    rw[w64 (x:=(j:Int)+1) (by omega) (by omega),show(j:Int)+1 = ((j+1:Nat):Int) by omega,List.append_assoc]
    show Ev (fun n=>spec_l5BySize.l0 n (out.take k ++ (P[j]::out.drop k)) P _ _) r
    rw[← he]
    exact hn
  intro f
  induction f with
  | zero=>
    intro k hk hlt
    have h:=fin k (by omega) (lX P[j] out k (by omega) hlt (fun hi=>by omega))
    refine Ev.step (fun _=>spec_l5BySize.l1.eq_2 ..) (bE (by omega) ?_)
    exact h
  | succ f ih=>
    intro k hk hlt
    have hkl:k<out.length:=by omega
    refine Ev.step (fun _=>spec_l5BySize.l1.eq_2 ..) (aX (by omega) (aX (by omega) ?_))
    rw[gQ hkl]
    refine bL (qx _ _) ?_
    cases hb:ltE out[k] P[j] with
    | true=>
      refine bR rfl ?_
      rw[w64 (x:=(k:Int)+1) (by omega) (by omega),show(k:Int)+1 = ((k+1:Nat):Int) by omega]
      exact ih (k+1) (by omega) (fun i hi hik=>by
        by_cases e:i=k
        · subst e;exact hb
        · exact hlt i hi (by omega))
    | false=>
      have h:=fin k (by omega) (lX P[j] out k (by omega) hlt (fun hi=>hb))
      refine dB rfl ?_
      obtain⟨k0,hk0⟩:=h
      exact⟨k0,fun n hn=>by
        have h_:=hk0 n hn
        dsimp only at h_ ⊢
        rw[if_pos (show(0:Int)≤(k:Int) by omega)] at h_
        exact h_⟩
theorem jJ:∀ (l out:List EX) (x:EX),gX out (l++[x])=jd x (gX out l)
  | [],out,x=>rfl
  | y::r,out,x=>by
    show gX (jd y out) (r++[x])=_
    rw[jJ r]
    rfl
theorem oI {P:List EX} (hP:P.length≤100000):∀ (f i:Nat),i+f=P.length→Ev (fun k=>spec_l5BySize.l0 k (bD (P.take i)) P (P.length:Int) (i:Int)) (bD P):=by
  intro f
  induction f with
  | zero=>
    intro i hi
    refine Ev.step (fun _=>spec_l5BySize.l0.eq_2 ..) (bE (by omega) (bP ?_))
    rw[List.take_of_length_le (by omega)]
  | succ f ih=>
    intro i hi
    have hil:i<P.length:=by omega
    refine Ev.step (fun _=>spec_l5BySize.l0.eq_2 ..) (aX (by omega) (aX (by omega) (aX (by omega) ?_)))
    rw[gQ hil]
    have hn:=ih (i+1) (by omega)
    rw[List.take_succ_eq_append_getElem hil] at hn
    have e:bD (P.take i++[P[i]])=jd P[i] (bD (P.take i)):=jJ _ _ _
    rw[e] at hn
    exact qj hil hP (bD (P.take i)) (by rw[fu];simp;omega) hn (bD (P.take i)).length 0 (by omega) (fun _ _ h=>by omega)
theorem jD (P:List EX) (hP:P.length≤100000):Ev (fun k=>spec_l5BySize.f k P) (bD P):=by
  unfold spec_l5BySize.f
  exact oI hP P.length 0 (by omega)
theorem qy (a b : List EX) (hl : a.length ≤ 1048576) : Ev (fun k => spec_l5Same.f k a b) (decide (a = b)) := by
  unfold spec_l5Same.f
  by_cases h:(a.length:Int) = (b.length:Int)
  · refine aX h ?_
    have key:∀ (f i:Nat),i+f=a.length→a.take i=b.take i→Ev (fun k=>spec_l5Same.l0 k a b (a.length:Int) (i:Int)) (decide (a=b)):=by
      intro f
      induction f with
      | zero=>
        intro i hi ht
        refine Ev.step (fun _=>spec_l5Same.l0.eq_2 ..) (bE (by omega) (bP ?_))
        rw[List.take_of_length_le (by omega),List.take_of_length_le (by omega)] at ht
        rw[decide_eq_true ht]
      | succ f ih=>
        intro i hi ht
        have ha:i<a.length:=by omega
        have hb:i<b.length:=by omega
        have ea:=gQ ha
        have eb:=gQ hb
        have e1:wrap64 ((i:Int)+1) = ((i+1:Nat):Int):=by rw[w64 (by omega) (by omega)];omega
        by_cases hx:a[i]=b[i]
        · refine Ev.step (fun _=>spec_l5Same.l0.eq_2 ..) (aX (by omega) (aX (by omega) (aX (by omega) (aX (by omega) (bE (by rw[ea,eb,hx];simp) ?_)))))
          rw[e1]
          exact ih (i+1) (by omega) (by rw[List.take_succ_eq_append_getElem ha,List.take_succ_eq_append_getElem hb,ht,hx])
        · refine Ev.step (fun _=>spec_l5Same.l0.eq_2 ..) (aX (by omega) (aX (by omega) (aX (by omega) (aX (by omega) (aX ?_ (bP ?_))))))
          · rw[ea,eb]
            by_cases e0:a[i].f0=b[i].f0
            · have e1:a[i].f1≠b[i].f1:=fun e1=>hx (qX e0 e1)
              simp[e0,e1]
            · simp[e0]
          · rw[decide_eq_false (fun h=>hx (List.getElem_of_eq h ha))]
    have:=key a.length 0 (by omega) (by simp)
    simpa using this
  · exact bE h (bP (by rw[decide_eq_false (fun e=>h (by rw[e]))]))
theorem eD (B:Int) (P S:List EX) (hB : -4611686018427387904≤B∧B≤4611686018427387904) (hP:P.length≤100000):Ev (fun k=>spec_GoodFree.f k B P S) (cK B P S):=by
  unfold spec_GoodFree.f
  have h:=nD (P:=P) hB (by omega) P.length 0 (by omega) (fun m hm=>by omega)
  have h2:Ev (fun k=>spec_l5Place.f k P B) (dG B none P && (decide (1≤B∧B≤400)&&decide (P.length≤60))):=h
  have hg:cK B P S = ((dG B none P && (decide (1≤B∧B≤400)&&decide (P.length≤60)))&&decide (bD P=S)):=by
    unfold cK
    cases dG B none P <;> cases decide (1≤B∧B≤400) <;> cases decide (P.length≤60) <;> rfl
  rw[hg]
  refine Ev.bind h2 ?_
  cases hb:(dG B none P && (decide (1≤B∧B≤400)&&decide (P.length≤60))) with
  | false=>exact dB rfl (bP rfl)
  | true=>exact bR rfl (Ev.bind (jD P hP) (Ev.bind (qy (bD P) S (by rw[fu];omega)) (bP rfl)))
end Go.Proofs.Ytelblhkbogljnaa.PFre
namespace Go.Proofs.Ytelblhkbogljnaa.PFre
open Go.RowKit Go.Proofs.YtelblhkbogljnaaW.PrintWords Go.Proofs.YtelblhkbogljnaaW.PrintLast Go.Proofs.YtelblhkbogljnaaW.PrintMore Go.Proofs.Ytelblhkbogljnaa.E
set_option linter.unusedSimpArgs false
set_option linter.unusedVariables false
theorem oh (free:Bool) (B a:Nat):∀ (n k:Nat) (h:Int→Bool),a+k+n≤B→(∀ j:Int,((a+k:Nat):Int)≤j→j < ((a+k+n:Nat):Int)→h j = !free)→
    il free a n k (Bits B h)=some (Bits B (fun i=>if ((a+k:Nat):Int)≤i∧i < ((a+k+n:Nat):Int) then free else h i))
  | 0,k,h,_,_=>by
    rw[il]
    congr 1
    exact fV (fun i _ _=>by rw[if_neg (by omega)])
  | n + 1, k, h, hB, hh => by
    rw[il,ji _ _ (by omega) (by omega),hh _ (by omega) (by omega),if_neg (by cases free <;> decide)]
    have e:=kD (n:=B) (h:=h) (j:=((a+k:Nat):Int)) (by omega) free
    rw[Int.toNat_natCast] at e
    rw[e,oh free B a n (k+1) _ (by omega) (fun j h0 h1=>by rw[if_neg (by omega)];exact hh j (by omega) (by omega))]
    congr 1
    refine fV (fun i _ _=>?_)
    by_cases e1:i = ((a+k:Nat):Int)
    · rw[if_neg (by omega),if_pos e1,if_pos (by omega)]
    · by_cases e2:((a + (k+1):Nat):Int)≤i∧i < ((a + (k+1)+n:Nat):Int)
      · rw[if_pos e2,if_pos (by omega)]
      · rw[if_neg e2,if_neg e1,if_neg (by omega)]
theorem nT (free : Bool) (B a : Nat) : ∀ (n k : Nat) (h : Int → Bool), a + k + n ≤ B → (∃ j : Int, ((a + k : Nat) : Int) ≤ j ∧ j < ((a + k + n : Nat) : Int) ∧ h j = free) → il free a n k (Bits B h) = none
  | 0,k,h,_,⟨j,h0,h1,_⟩=>by omega
  | n + 1, k, h, hB, ⟨j, h0, h1, h2⟩ => by
    rw[il,ji _ _ (by omega) (by omega)]
    by_cases e:h ((a+k:Nat):Int)=free
    · rw[if_pos e]
    · rw[if_neg e]
      have es:=kD (n:=B) (h:=h) (j:=((a+k:Nat):Int)) (by omega) free
      rw[Int.toNat_natCast] at es
      rw[es]
      refine nT free B a n (k+1) _ (by omega) ⟨j,?_,by omega,?_⟩
      · refine Classical.byContradiction fun hn=>e ?_
        rw[show((a+k:Nat):Int)=j by omega];exact h2
      · rw[if_neg]
        · exact h2
        · intro e1;exact e (by rw[← e1];exact h2)
def inX (x:EX) (k:Int):Bool:=decide (x.f0≤k∧k<x.f0+x.f1)
theorem dw {x:EX} {k:Int}:inX x k=true↔x.f0≤k∧k<x.f0+x.f1:=decide_eq_true_iff
def nQ (P:List EX) (x:EX) (free:Bool) (k:Int):Bool:=if inX x k=true then free else cov P k
def mf (B:Int) (Q:List EX):Int×List EX×List EX×Bool:=if Q.length≤60 then (B,Q,bD Q,true) else (0,[],[],false)
section
variable {B:Int} {P:List EX} {x:EX}
theorem fQ (hB:1≤B∧B≤400) {Q:List EX} (h:Sep B Q):cK B Q (bD Q)=decide (Q.length≤60):=by
  unfold cK
  rw[decide_eq_true hB,jo.2 h,decide_eq_true (rfl:bD Q=bD Q),Bool.true_and,Bool.true_and,Bool.and_true]
theorem jN (hB:1≤B∧B≤400) (hP:P.length≤60) (hS:Sep B P) (S:List EX) (hx:0≤x.f0∧1≤x.f1∧x.f0+x.f1≤B) (free:Bool) (hh:∀ k:Int,inX x k=true→cov P k = !free) {Q:List EX} (hQ:Sep B Q) (hc:∀ k:Int,0≤k→k<B→cov Q k=nQ P x free k) :
    impl_Free_changed.f B P S x.f0 x.f1 free=some (mf B Q):=by
  unfold impl_Free_changed.f
  rw[if_pos (jy.2 ⟨hB,hP,hS,hx.1,by omega,hx.2.2⟩)]
  have hb:((B.toNat:Nat):Int)=B:=by omega
  have h1:=oh free B.toNat x.f0.toNat x.f1.toNat 0 (cov P) (by omega) (fun j h0 h1=>hh j (dw.2 (by omega)))
  rw[h1]
  have e:lg B (Bits B.toNat (fun i=>if ((x.f0.toNat+0:Nat):Int)≤i∧i < ((x.f0.toNat+0+x.f1.toNat:Nat):Int) then free else cov P i))=Q:=by
    unfold lg
    refine nY (by rw[hb];exact hQ) (fun k h0 hk=>?_)
    rw[ji _ _ h0 hk,hc k h0 (by omega)]
    unfold nQ
    by_cases e:inX x k=true
    · rw[if_pos e,if_pos (by rw[dw] at e;omega)]
    · rw[if_neg e,if_neg (by rw[dw] at e;omega)]
  unfold kY mf
  simp only[e]
  rw[fQ hB hQ]
  simp only[decide_eq_true_eq]
theorem kr (hB:1≤B∧B≤400) (hP:P.length≤60) (hS:Sep B P) (S:List EX) (hx:0≤x.f0∧1≤x.f1∧x.f0+x.f1≤B) (free:Bool) (hh:∃ k:Int,inX x k=true∧cov P k=free) :
    impl_Free_changed.f B P S x.f0 x.f1 free=some (0,[],[],false):=by
  obtain⟨k,h1,h2⟩:=hh
  rw[dw] at h1
  unfold impl_Free_changed.f
  rw[if_pos (jy.2 ⟨hB,hP,hS,hx.1,by omega,hx.2.2⟩),nT free B.toNat x.f0.toNat x.f1.toNat 0 (cov P) (by omega) ⟨k,by omega,by omega,h2⟩]
  rfl
end
def eU (l : List EX) (put : Bool) (x : EX) : List EX → Option (List EX)
  | []=>some (if put=true then l else l++[x])
  | o::r=>if o.f0+o.f1<x.f0 then eU (l++[o]) put x r
    else if o.f0 > x.f0+x.f1 then (if put=true then eU (l++[o]) put x r else eU (l++[x]++[o]) true x r)
    else if o.f0+o.f1=x.f0 then eU l put ⟨o.f0,o.f1+x.f1⟩ r
    else if o.f0=x.f0+x.f1 then eU l put ⟨x.f0,x.f1+o.f1⟩ r
    else none
section
variable {B:Int}
theorem mG {x:EX} (hx:1≤x.f1):∀ (r l:List EX),(∀ o∈r,x.f0+x.f1<o.f0∧1≤o.f1)→eU l true x r=some (l++r)
  | [],l,_=>by rw[eU,if_pos rfl,List.append_nil]
  | o::r,l,h=>by
    have ho:=h o (List.mem_cons_self ..)
    rw[eU,if_neg (by omega),if_pos (by omega),if_pos rfl,mG hx r _ (fun y hy=>h y (List.mem_cons_of_mem _ hy)),List.append_assoc]
    rfl
theorem gF (x:EX) (k:Int):cov [x] k=inX x k:=Bool.or_false _
theorem jV : ∀ (r l : List EX) (x : EX), Sep B (l ++ r) → (0 ≤ x.f0 ∧ 1 ≤ x.f1 ∧ x.f0 + x.f1 ≤ B) → (∀ y ∈ l, y.f0 + y.f1 < x.f0) → (∀ k, ¬ (cov r k = true ∧ inX x k = true)) → ∃ m, eU l false x r = some m ∧ Sep B m ∧ ∀ k, cov m k = (cov l k || inX x k || cov r k)
  | [],l,x,hs,hx,hl,_=>by
    refine⟨l++[x],by rw[eU,if_neg (by decide)],?_,fun k=>by rw[dC,gF,eO,Bool.or_false]⟩
    rw[List.append_nil] at hs
    exact hs.append ⟨fun y hy=>by obtain rfl:=List.mem_singleton.1 hy;exact hx,List.pairwise_singleton ..⟩ (fun y hy z hz=>by obtain rfl:=List.mem_singleton.1 hz;exact hl y hy)
  | o :: r, l, x, hs, hx, hl, hd => by
    have ho:=hs.a o (by simp)
    have hor:∀ y∈r,o.f0+o.f1<y.f0:=(List.pairwise_cons.1 hs.right.p).1
    have hlo:∀ y∈l,y.f0+y.f1<o.f0:=fun y hy=>hs.between y hy o (List.mem_cons_self ..)
    have hlr:∀ y∈l,∀ z∈r,y.f0+y.f1<z.f0:=fun y hy z hz=>hs.between y hy z (List.mem_cons_of_mem _ hz)
    have ec:∀ k,cov (o::r) k = (inX o k || cov r k):=fun k=>rfl
    have no:∀ k,¬ ((o.f0≤k∧k<o.f0+o.f1)∧(x.f0≤k∧k<x.f0+x.f1)):=fun k h=>hd k ⟨by rw[ec,dw.2 h.1,Bool.true_or],dw.2 h.2⟩
    have nr:∀ k,¬ (cov r k=true∧inX x k=true):=fun k h=>hd k ⟨by rw[ec,h.1,Bool.or_true],h.2⟩
    have hsr:Sep B r:=hs.right.tail
    have hsl:Sep B l:=hs.left
    have rfar:∀ k,cov r k=true→o.f0+o.f1<k:=fun k hk=>hs.right.far hk
    rw[eU]
    by_cases c1:o.f0+o.f1<x.f0
    · rw[if_pos c1]
      obtain⟨m,e,sm,cm⟩:=jV r (l++[o]) x (by rw[List.append_assoc];exact hs) hx (fun y hy=>by rcases List.mem_append.1 hy with h|h;exact hl y h;obtain rfl:=List.mem_singleton.1 h;exact c1) nr
      refine⟨m,e,sm,fun k=>?_⟩
      rw[cm,dC,gF,ec]
      cases cov l k <;> cases inX o k <;> cases inX x k <;> cases cov r k <;> rfl
    · rw [if_neg c1]
      by_cases c2:o.f0 > x.f0+x.f1
      · rw [if_pos c2, if_neg (by decide), mG hx.2.1 r _ (fun y hy => ⟨by have := hor y hy; omega, by have := hsr.a y hy; omega⟩)]
        refine⟨_,rfl,?_,fun k=>?_⟩
        · rw[List.append_assoc,List.append_assoc]
          refine hsl.append (Sep.cons hx (by exact hs.right) (fun y hy=>?_)) (fun y hy z hz=>?_)
          · rcases List.mem_cons.1 hy with h|h
            · subst h;omega
            · have:=hor y h;omega
          · rcases List.mem_cons.1 hz with h|h
            · subst h;exact hl y hy
            · exact hs.between y hy z h
        · rw[dC,dC,dC,gF,gF,ec]
          cases cov l k <;> cases inX o k <;> cases inX x k <;> cases cov r k <;> rfl
      · rw [if_neg c2]
        by_cases c3:o.f0+o.f1=x.f0
        · rw[if_pos c3]
          obtain⟨m,e,sm,cm⟩:=jV r l ⟨o.f0,o.f1+x.f1⟩ (hsl.append hsr hlr) ⟨ho.1,by show 1≤o.f1+x.f1;omega,by show o.f0 + (o.f1+x.f1)≤B;omega⟩ hlo (fun k h=>by
            have h1:=rfar k h.1
            have h2:=dw.1 h.2
            simp only at h2
            exact nr k ⟨h.1,dw.2 (by omega)⟩)
          refine⟨m,e,sm,fun k=>?_⟩
          rw[cm,ec]
          have:inX (⟨o.f0,o.f1+x.f1⟩:EX) k = (inX x k || inX o k):=by
            rw[Bool.eq_iff_iff,Bool.or_eq_true,dw,dw,dw]
            simp only
            omega
          rw[this]
          cases cov l k <;> cases inX o k <;> cases inX x k <;> cases cov r k <;> rfl
        · rw [if_neg c3]
          by_cases c4:o.f0=x.f0+x.f1
          · rw[if_pos c4]
            obtain⟨m,e,sm,cm⟩:=jV r l ⟨x.f0,x.f1+o.f1⟩ (hsl.append hsr hlr) ⟨hx.1,by show 1≤x.f1+o.f1;omega,by show x.f0 + (x.f1+o.f1)≤B;omega⟩ hl (fun k h=>by
              have h1:=rfar k h.1
              have h2:=dw.1 h.2
              simp only at h2
              omega)
            refine⟨m,e,sm,fun k=>?_⟩
            rw[cm,ec]
            have:inX (⟨x.f0,x.f1+o.f1⟩:EX) k = (inX x k || inX o k):=by
              rw[Bool.eq_iff_iff,Bool.or_eq_true,dw,dw,dw]
              simp only
              omega
            rw[this]
            cases cov l k <;> cases inX o k <;> cases inX x k <;> cases cov r k <;> rfl
          · exfalso
            by_cases c5:o.f0≤x.f0
            · exact no x.f0 (by omega)
            · exact no o.f0 (by omega)
theorem ma : ∀ (r l : List EX) (x : EX), Sep B r → (1 ≤ x.f1) → (∃ k, cov r k = true ∧ inX x k = true) → eU l false x r = none
  | [],_,_,_,_,⟨k,h,_⟩=>by cases h
  | o :: r, l, x, hs, hx, ⟨k, h1, h2⟩ => by
    have ho:=hs.head
    have hk:=dw.1 h2
    rw[eU]
    have ec:cov (o::r) k = (inX o k || cov r k):=rfl
    rw[ec,Bool.or_eq_true,dw] at h1
    by_cases c1:o.f0+o.f1<x.f0
    · rw[if_pos c1]
      exact ma r _ x hs.tail hx ⟨k,h1.resolve_left (by omega),h2⟩
    · rw [if_neg c1]
      by_cases c2:o.f0 > x.f0+x.f1
      · exfalso
        rcases h1 with h|h
        · omega
        · have:=hs.far h;omega
      · rw [if_neg c2]
        by_cases c3:o.f0+o.f1=x.f0
        · rw[if_pos c3]
          exact ma r _ _ hs.tail (by show 1≤o.f1+x.f1;omega) ⟨k,h1.resolve_left (by omega),dw.2 (by show o.f0≤k∧k<o.f0 + (o.f1+x.f1);omega)⟩
        · rw[if_neg c3]
          by_cases c4:o.f0=x.f0+x.f1
          · exfalso
            rcases h1 with h|h
            · omega
            · have:=hs.far h;omega
          · rw[if_neg c4]
end
open Go.RowKit Go.Proofs.YtelblhkbogljnaaW.PrintWords Go.Proofs.YtelblhkbogljnaaW.PrintLast Go.Proofs.YtelblhkbogljnaaW.PrintMore
attribute [local go_sem] bG bH bS bT bB bA bJ bI
set_option linter.unusedVariables false
set_option linter.unusedSimpArgs false
def impl_GiveRoom.f (a0_0:Int) (l0_1:List (S35)) (l0_2:List (S35)) (a1_0:Int) (a1_1:Int):Option (Int×(List (S35))×(List (S35))×Bool):=(impl_GoodFree.f a0_0 l0_1 l0_2).bind fun t457=>(if t457=true then ((impl_isExtent.f a1_0 a1_1 a0_0).bind fun t458=>(if t458=true then ((impl_Free_changed.f a0_0 l0_1 l0_2 a1_0 a1_1 true).bind fun bt459=>(some (bt459.1,bt459.2.1,bt459.2.2.1,bt459.2.2.2))) else (some (0,([]:List (S35)),([]:List (S35)),false)))) else (some (0,([]:List (S35)),([]:List (S35)),false)))
set_option maxHeartbeats 8000000 in
set_option maxRecDepth 100000 in
theorem impl_GiveRoom.calls (a0_0:Int) (A0_1:Option Addr) (c0_1:Nat) (l0_1:List (S35)) (A0_2:Option Addr) (c0_2:Nat) (l0_2:List (S35)) (a1_0:Int) (a1_1:Int) (r1:Int) (r2:List (S35)) (r3:List (S35)) (r4:Bool) (w:World) (hr0_1:Kd.C k35 w A0_1 l0_1.length l0_1) (hc0_1:l0_1.length≤c0_1) (hr0_2:Kd.C k35 w A0_2 l0_2.length l0_2) (hc0_2:l0_2.length≤c0_2) (h:impl_GiveRoom.f a0_0 l0_1 l0_2 a1_0 a1_1=some (r1,r2,r3,r4)) :
  Calls Try.prog 13 #[.agg #[.int .i64 a0_0,.slice A0_1 l0_1.length c0_1,.slice A0_2 l0_2.length c0_2],.agg #[.int .i64 a1_0,.int .i64 a1_1]] w fun e w'=>∃ v1_ v2_:Value,e = .returned (.tuple #[.agg #[.int .i64 r1,v1_,v2_],.bool r4])∧Kd.R k35 35 w' w.heap.size (fun k_=>some k_≠(v2_:Value).ownBlock) v1_ r2∧Kd.R k35 35 w' w.heap.size (fun k_=>some k_≠(v1_:Value).ownBlock) v2_ r3∧Below w.heap.size w w':=by
 have hu24:=Try.underlying24
 have hu35:=Try.underlying35
 have HR0_1:=au hr0_1
 have HC0_1:=au hc0_1
 clear hr0_1 hc0_1
 have HR0_2:=au hr0_2
 have HC0_2:=au hc0_2
 clear hr0_2 hc0_2
 have HB:=au (Below.refl w.heap.size w)
 have H:((impl_GoodFree.f a0_0 l0_1 l0_2).bind fun t457=>(if t457=true then ((impl_isExtent.f a1_0 a1_1 a0_0).bind fun t458=>(if t458=true then ((impl_Free_changed.f a0_0 l0_1 l0_2 a1_0 a1_1 true).bind fun bt459=>(some (bt459.1,bt459.2.1,bt459.2.2.1,bt459.2.2.2))) else (some (0,([]:List (S35)),([]:List (S35)),false)))) else (some (0,([]:List (S35)),([]:List (S35)),false))))=some (r1,r2,r3,r4):=h
 clear h
 replace H:=Option.bind_eq_some_iff.mp H
 obtain⟨t457,A30,H⟩:=H
 replace H:(if t457=true then ((impl_isExtent.f a1_0 a1_1 a0_0).bind fun t458=>(if t458=true then ((impl_Free_changed.f a0_0 l0_1 l0_2 a1_0 a1_1 true).bind fun bt459=>(some (bt459.1,bt459.2.1,bt459.2.2.1,bt459.2.2.2))) else (some (0,([]:List (S35)),([]:List (S35)),false)))) else (some (0,([]:List (S35)),([]:List (S35)),false)))=some (r1,r2,r3,r4):=H
 have A3:=au A30
 clear A30
 by_cases c4:t457=true
 ·subst c4
  have H1:((impl_isExtent.f a1_0 a1_1 a0_0).bind fun t458=>(if t458=true then ((impl_Free_changed.f a0_0 l0_1 l0_2 a1_0 a1_1 true).bind fun bt459=>(some (bt459.1,bt459.2.1,bt459.2.2.1,bt459.2.2.2))) else (some (0,([]:List (S35)),([]:List (S35)),false))))=some (r1,r2,r3,r4):=by rw[if_pos rfl] at H;exact H
  clear H
  have H:=H1
  clear H1
  replace H:=Option.bind_eq_some_iff.mp H
  obtain⟨t458,A50,H⟩:=H
  replace H:(if t458=true then ((impl_Free_changed.f a0_0 l0_1 l0_2 a1_0 a1_1 true).bind fun bt459=>(some (bt459.1,bt459.2.1,bt459.2.2.1,bt459.2.2.2))) else (some (0,([]:List (S35)),([]:List (S35)),false)))=some (r1,r2,r3,r4):=H
  have A5:=au A50
  clear A50
  by_cases c6:t458=true
  ·subst c6
   have H1:((impl_Free_changed.f a0_0 l0_1 l0_2 a1_0 a1_1 true).bind fun bt459=>(some (bt459.1,bt459.2.1,bt459.2.2.1,bt459.2.2.2)))=some (r1,r2,r3,r4):=by rw[if_pos rfl] at H;exact H
   clear H
   have H:=H1
   clear H1
   replace H:=Option.bind_eq_some_iff.mp H
   obtain⟨⟨t459,t460,t463,t466⟩,A70,H⟩:=H
   replace H:(some (t459,t460,t463,t466))=some (r1,r2,r3,r4):=H
   have A7:=au A70
   clear A70
   simp only[Option.some.injEq,Prod.mk.injEq] at H
   obtain⟨rfl,rfl,rfl,rfl⟩:=H
   go_enter Try.func13,Try.ntmps13
   go_wp2_with (first|((with_reducible refine aM (N:=2) rfl ?_);refine aJ ?hg (N:=2) ?hd (cs:=#[.int .i64 a0_0,.slice A0_1 l0_1.length c0_1,.slice A0_2 l0_2.length c0_2]) (t:=24) ?hr ?_;(case hd=>rfl);(case hg=>rfl);(case hr=>first|(go_simp;done)|(go_simp;rfl));intro gb454 hg w8 hbox hb;have BK454:=au (hbox);have GW454:=au ((by rw[hg];exact(az (by with_reducible repeat(first|exact HB.out|apply ah|apply aa|apply ai))):w.heap.size≤gb454));have GE454:=au ((by rw[hg];exact(az (by with_reducible repeat(first|exact HB.out|apply ah|apply aa|apply ai))):w.heap.size≤gb454));replace HB:=au (aA (by with_reducible repeat(first|exact HB.out|apply ah|apply aa|apply ai)) hb);clear hb hbox hg)|((with_reducible refine aM (N:=3) rfl ?_);refine aJ ?hg (N:=3) ?hd (cs:=#[.int .i64 a1_0,.int .i64 a1_1]) (t:=35) ?hr ?_;(case hd=>rfl);(case hg=>rfl);(case hr=>first|(go_simp;done)|(go_simp;rfl));intro gb455 hg w9 hbox hb;have BK455:=au (hbox);have GW455:=au ((by rw[hg];exact(az (by with_reducible repeat(first|exact HB.out|apply ah|apply aa|apply ai|refine ae ?_ GE454.out))):w.heap.size≤gb455));have GE455:=au ((by rw[hg];exact(az (by with_reducible repeat(first|exact HB.out|apply ah|apply aa|apply ai|refine ae ?_ GE454.out))):w.heap.size≤gb455));replace HB:=au (aA (by with_reducible repeat(first|exact HB.out|apply ah|apply aa|apply ai|refine ae ?_ GE454.out)) hb);have NB454_455:=au ((by rw[hg];exact Nat.ne_of_lt (aH (g:=gb454) (o:=.cells #[.int .i64 a0_0,.slice A0_1 l0_1.length c0_1,.slice A0_2 l0_2.length c0_2] 24 (0,0)) (by(with_reducible repeat(first|apply ag|apply aj|apply af));exact BK454.out)):gb454≠gb455));have NB455_454:=au ((by rw[hg];exact Nat.ne_of_gt (aH (g:=gb454) (o:=.cells #[.int .i64 a0_0,.slice A0_1 l0_1.length c0_1,.slice A0_2 l0_2.length c0_2] 24 (0,0)) (by(with_reducible repeat(first|apply ag|apply aj|apply af));exact BK454.out)):gb455≠gb454));replace BK454:=au (ay (g:=gb454) (o:=.cells #[.int .i64 a0_0,.slice A0_1 l0_1.length c0_1,.slice A0_2 l0_2.length c0_2] 24 (0,0)) (by(with_reducible repeat(first|apply ag|apply aj|apply af));exact BK454.out) hb);clear hb hbox hg)|((with_reducible refine aM (N:=4) rfl ?_);refine aJ ?hg (N:=4) ?hd (cs:=#[.int .i64 0,.slice none 0 0,.slice none 0 0]) (t:=24) ?hr ?_;(case hd=>rfl);(case hg=>rfl);(case hr=>first|(go_simp;done)|(go_simp;rfl));intro gb456 hg w10 hbox hb;have BK456:=au (hbox);have GW456:=au ((by rw[hg];exact(az (by with_reducible repeat(first|exact HB.out|apply ah|apply aa|apply ai|refine ae ?_ GE454.out|refine ae ?_ GE455.out))):w.heap.size≤gb456));have GE456:=au ((by rw[hg];exact(az (by with_reducible repeat(first|exact HB.out|apply ah|apply aa|apply ai|refine ae ?_ GE454.out|refine ae ?_ GE455.out))):w.heap.size≤gb456));replace HB:=au (aA (by with_reducible repeat(first|exact HB.out|apply ah|apply aa|apply ai|refine ae ?_ GE454.out|refine ae ?_ GE455.out)) hb);have NB454_456:=au ((by rw[hg];exact Nat.ne_of_lt (aH (g:=gb454) (o:=.cells #[.int .i64 a0_0,.slice A0_1 l0_1.length c0_1,.slice A0_2 l0_2.length c0_2] 24 (0,0)) (by(with_reducible repeat(first|apply ag|apply aj|apply af));exact BK454.out)):gb454≠gb456));have NB456_454:=au ((by rw[hg];exact Nat.ne_of_gt (aH (g:=gb454) (o:=.cells #[.int .i64 a0_0,.slice A0_1 l0_1.length c0_1,.slice A0_2 l0_2.length c0_2] 24 (0,0)) (by(with_reducible repeat(first|apply ag|apply aj|apply af));exact BK454.out)):gb456≠gb454));replace BK454:=au (ay (g:=gb454) (o:=.cells #[.int .i64 a0_0,.slice A0_1 l0_1.length c0_1,.slice A0_2 l0_2.length c0_2] 24 (0,0)) (by(with_reducible repeat(first|apply ag|apply aj|apply af));exact BK454.out) hb);have NB455_456:=au ((by rw[hg];exact Nat.ne_of_lt (aH (g:=gb455) (o:=.cells #[.int .i64 a1_0,.int .i64 a1_1] 35 (0,0)) (by(with_reducible repeat(first|apply ag|apply aj|apply af));exact BK455.out)):gb455≠gb456));have NB456_455:=au ((by rw[hg];exact Nat.ne_of_gt (aH (g:=gb455) (o:=.cells #[.int .i64 a1_0,.int .i64 a1_1] 35 (0,0)) (by(with_reducible repeat(first|apply ag|apply aj|apply af));exact BK455.out)):gb456≠gb455));replace BK455:=au (ay (g:=gb455) (o:=.cells #[.int .i64 a1_0,.int .i64 a1_1] 35 (0,0)) (by(with_reducible repeat(first|apply ag|apply aj|apply af));exact BK455.out) hb);clear hb hbox hg;have hnb11:=NB454_455.out;have hnc11:=NB455_454.out;have hnb12:=NB454_456.out;have hnc12:=NB456_454.out;have hcz13_0:w10.cell? ⟨gb454,0,none⟩=some (.int .i64 a0_0):=(ak BK454.out 0).trans rfl;have hcz13_1:w10.cell? ⟨gb454,1,none⟩=some (.slice A0_1 l0_1.length c0_1):=(ak BK454.out 1).trans rfl;have hcz13_2:w10.cell? ⟨gb454,2,none⟩=some (.slice A0_2 l0_2.length c0_2):=(ak BK454.out 2).trans rfl;have hfz13_0:=av BK454.out 0;have hfz13_1:=av BK454.out 1;have hfz13_2:=av BK454.out 2)|((with_reducible refine aW (f:=17) rfl ?_);refine bO (some 7) rfl rfl Try.func17 (by kernel_rfl) rfl #[.agg #[.int .i64 a0_0,.slice A0_1 l0_1.length c0_1,.slice A0_2 l0_2.length c0_2]] rfl (by(try simp only[amp_]);first|done|rfl|(simp only[ald_];rfl)) ?_;(with_reducible refine(impl_GoodFree.calls a0_0 _ _ l0_1 _ _ l0_2 true _ ?side1 ?side2 ?side3 ?side4 A3.out).mono ?_);(case side1=>repeat(first|exact(Kd.aN HR0_1.out HB.out)|(with_reducible first|apply Kd.aY|apply Kd.aZ|apply Kd.bn)));(case side2=>exact HC0_1.out);(case side3=>repeat(first|exact(Kd.aN HR0_2.out HB.out)|(with_reducible first|apply Kd.aY|apply Kd.aZ|apply Kd.bn)));(case side4=>exact HC0_2.out);rintro e w14 ⟨rfl,hb⟩;refine⟨_,rfl,?_⟩;replace BK454:=au (ay (g:=gb454) (o:=.cells #[.int .i64 a0_0,.slice A0_1 l0_1.length c0_1,.slice A0_2 l0_2.length c0_2] 24 (0,0)) (by(with_reducible repeat(first|apply ag|apply aj|apply af));exact BK454.out) hb);replace BK455:=au (ay (g:=gb455) (o:=.cells #[.int .i64 a1_0,.int .i64 a1_1] 35 (0,0)) (by(with_reducible repeat(first|apply ag|apply aj|apply af));exact BK455.out) hb);replace BK456:=au (ay (g:=gb456) (o:=.cells #[.int .i64 0,.slice none 0 0,.slice none 0 0] 24 (0,0)) (by(with_reducible repeat(first|apply ag|apply aj|apply af));exact BK456.out) hb);replace HB:=au (aA (by with_reducible repeat(first|exact HB.out|apply ah|apply aa|apply ai|refine ae ?_ GE454.out|refine ae ?_ GE455.out|refine ae ?_ GE456.out)) hb);(try clear hb);(try clear hb2);(try clear hk);(try clear hi);have hnb15:=NB455_456.out;have hnc15:=NB456_455.out;have hcz16_0:w14.cell? ⟨gb455,0,none⟩=some (.int .i64 a1_0):=(ak BK455.out 0).trans rfl;have hcz16_1:w14.cell? ⟨gb455,1,none⟩=some (.int .i64 a1_1):=(ak BK455.out 1).trans rfl;have hfz16_0:=av BK455.out 0;have hfz16_1:=av BK455.out 1;have hcz17_0:w14.cell? ⟨gb454,0,none⟩=some (.int .i64 a0_0):=(ak BK454.out 0).trans rfl;have hcz17_1:w14.cell? ⟨gb454,1,none⟩=some (.slice A0_1 l0_1.length c0_1):=(ak BK454.out 1).trans rfl;have hcz17_2:w14.cell? ⟨gb454,2,none⟩=some (.slice A0_2 l0_2.length c0_2):=(ak BK454.out 2).trans rfl;have hfz17_0:=av BK454.out 0;have hfz17_1:=av BK454.out 1;have hfz17_2:=av BK454.out 2)|(go_at_call 48;(with_reducible refine(impl_isExtent.calls a1_0 a1_1 a0_0 true _ A5.out).mono ?_);rintro e w18 ⟨rfl,hb⟩;replace BK454:=au (ay (g:=gb454) (o:=.cells #[.int .i64 a0_0,.slice A0_1 l0_1.length c0_1,.slice A0_2 l0_2.length c0_2] 24 (0,0)) (by(with_reducible repeat(first|apply ag|apply aj|apply af));exact BK454.out) hb);replace BK455:=au (ay (g:=gb455) (o:=.cells #[.int .i64 a1_0,.int .i64 a1_1] 35 (0,0)) (by(with_reducible repeat(first|apply ag|apply aj|apply af));exact BK455.out) hb);replace BK456:=au (ay (g:=gb456) (o:=.cells #[.int .i64 0,.slice none 0 0,.slice none 0 0] 24 (0,0)) (by(with_reducible repeat(first|apply ag|apply aj|apply af));exact BK456.out) hb);replace HB:=au (aA (by with_reducible repeat(first|exact HB.out|apply ah|apply aa|apply ai|refine ae ?_ GE454.out|refine ae ?_ GE455.out|refine ae ?_ GE456.out)) hb);(try clear hb);(try clear hb2);(try clear hk);(try clear hi);have hcz19_0:w18.cell? ⟨gb454,0,none⟩=some (.int .i64 a0_0):=(ak BK454.out 0).trans rfl;have hcz19_1:w18.cell? ⟨gb454,1,none⟩=some (.slice A0_1 l0_1.length c0_1):=(ak BK454.out 1).trans rfl;have hcz19_2:w18.cell? ⟨gb454,2,none⟩=some (.slice A0_2 l0_2.length c0_2):=(ak BK454.out 2).trans rfl;have hfz19_0:=av BK454.out 0;have hfz19_1:=av BK454.out 1;have hfz19_2:=av BK454.out 2;have hcz20_0:w18.cell? ⟨gb455,0,none⟩=some (.int .i64 a1_0):=(ak BK455.out 0).trans rfl;have hcz20_1:w18.cell? ⟨gb455,1,none⟩=some (.int .i64 a1_1):=(ak BK455.out 1).trans rfl;have hfz20_0:=av BK455.out 0;have hfz20_1:=av BK455.out 1)|((with_reducible refine aW (f:=49) rfl ?_);refine bO (some 19) rfl rfl Try.func49 (by kernel_rfl) rfl #[.agg #[.int .i64 a0_0,.slice A0_1 l0_1.length c0_1,.slice A0_2 l0_2.length c0_2],.agg #[.int .i64 a1_0,.int .i64 a1_1],.bool true] rfl (by(try simp only[amp_]);first|done|rfl|(simp only[ald_];rfl)) ?_;(with_reducible refine(impl_Free_changed.calls a0_0 _ _ l0_1 _ _ l0_2 a1_0 a1_1 true t459 t460 t463 t466 _ ?side1 ?side2 ?side3 ?side4 A7.out).mono ?_);(case side1=>repeat(first|exact(Kd.aN HR0_1.out HB.out)|(with_reducible first|apply Kd.aY|apply Kd.aZ|apply Kd.bn)));(case side2=>exact HC0_1.out);(case side3=>repeat(first|exact(Kd.aN HR0_2.out HB.out)|(with_reducible first|apply Kd.aY|apply Kd.aZ|apply Kd.bn)));(case side4=>exact HC0_2.out);rintro e w21 ⟨v461,v464,rfl,ho0,ho1,hb⟩;refine⟨_,rfl,?_⟩;have HO462:=au (Kd.bz (Kd.dK ho0 (g:=gb455) (o:=.cells #[.int .i64 a1_0,.int .i64 a1_1] 35 (0,0)) (by(with_reducible repeat(first|apply ag|apply aj|apply af));exact BK455.out)) (az (by with_reducible repeat(first|exact HB.out|apply ah|apply aa|apply ai|refine ae ?_ GE454.out|refine ae ?_ GE455.out|refine ae ?_ GE456.out))));have HO465:=au (Kd.bz (Kd.dK ho1 (g:=gb455) (o:=.cells #[.int .i64 a1_0,.int .i64 a1_1] 35 (0,0)) (by(with_reducible repeat(first|apply ag|apply aj|apply af));exact BK455.out)) (az (by with_reducible repeat(first|exact HB.out|apply ah|apply aa|apply ai|refine ae ?_ GE454.out|refine ae ?_ GE455.out|refine ae ?_ GE456.out))));replace BK454:=au (ay (g:=gb454) (o:=.cells #[.int .i64 a0_0,.slice A0_1 l0_1.length c0_1,.slice A0_2 l0_2.length c0_2] 24 (0,0)) (by(with_reducible repeat(first|apply ag|apply aj|apply af));exact BK454.out) hb);replace BK455:=au (ay (g:=gb455) (o:=.cells #[.int .i64 a1_0,.int .i64 a1_1] 35 (0,0)) (by(with_reducible repeat(first|apply ag|apply aj|apply af));exact BK455.out) hb);replace BK456:=au (ay (g:=gb456) (o:=.cells #[.int .i64 0,.slice none 0 0,.slice none 0 0] 24 (0,0)) (by(with_reducible repeat(first|apply ag|apply aj|apply af));exact BK456.out) hb);replace HB:=au (aA (by with_reducible repeat(first|exact HB.out|apply ah|apply aa|apply ai|refine ae ?_ GE454.out|refine ae ?_ GE455.out|refine ae ?_ GE456.out)) hb);(try clear hb);(try clear hb2);(try clear hk);(try clear hi);(try clear ho0);(try clear ho1);have hcz22_0:w21.cell? ⟨gb456,0,none⟩=some (.int .i64 0):=(ak BK456.out 0).trans rfl;have hcz22_1:w21.cell? ⟨gb456,1,none⟩=some (.slice none 0 0):=(ak BK456.out 1).trans rfl;have hcz22_2:w21.cell? ⟨gb456,2,none⟩=some (.slice none 0 0):=(ak BK456.out 2).trans rfl;have hfz22_0:=av BK456.out 0;have hfz22_1:=av BK456.out 1;have hfz22_2:=av BK456.out 2;obtain⟨Ao23,co23,eo23⟩:=Kd.bq HO462.out;subst eo23;obtain⟨Ao24,co24,eo24⟩:=Kd.bq HO465.out;subst eo24))
   refine bodyPost_ret (di rfl _ _ gb456 24 #[.int .i64 t459,.slice Ao23 t460.length co23,.slice Ao24 t463.length co24] (0,0) _ rfl (by(with_reducible repeat(first|apply ag|apply aj|apply af));refine aK (cs:=#[.int .i64 t459,.slice Ao23 t460.length co23,.slice none 0 0]) ?_ 2 _ rfl;(with_reducible repeat(first|apply ag|apply aj|apply af));refine aK (cs:=#[.int .i64 t459,.slice none 0 0,.slice none 0 0]) ?_ 1 _ rfl;(with_reducible repeat(first|apply ag|apply aj|apply af));refine aK (cs:=#[.int .i64 0,.slice none 0 0,.slice none 0 0]) ?_ 0 _ rfl;(with_reducible repeat(first|apply ag|apply aj|apply af));exact BK456.out) Try.underlying24 rfl (by kernel_rfl)) rfl ?_
   exact⟨_,_,by first|rfl|(simp <;> rfl)|(simp[*] <;> rfl),by(with_reducible repeat(first|apply Kd.aD|apply Kd.aC|apply Kd.aI));exact Kd.aT (Kd.aV (p:=⟨gb456,2,none⟩) (Kd.aV (p:=⟨gb456,1,none⟩) (Kd.aV (p:=⟨gb456,0,none⟩) (Kd.bK HO462.out BK456.out (by decide)) (fun _ hk=>hk.2) (.int .i64 t459)) (fun _ hk=>hk.2) (.slice Ao23 t460.length co23)) (fun _ hk=>hk.2) (.slice Ao24 t463.length co24)) (fun _ hk=>hk.1.1),by(with_reducible repeat(first|apply Kd.aD|apply Kd.aC|apply Kd.aI));exact Kd.aT (Kd.aV (p:=⟨gb456,2,none⟩) (Kd.aV (p:=⟨gb456,1,none⟩) (Kd.aV (p:=⟨gb456,0,none⟩) (Kd.bK HO465.out BK456.out (by decide)) (fun _ hk=>hk.2) (.int .i64 t459)) (fun _ hk=>hk.2) (.slice Ao23 t460.length co23)) (fun _ hk=>hk.2) (.slice Ao24 t463.length co24)) (fun _ hk=>hk.1.1),by with_reducible repeat(first|exact HB.out|apply ah|apply aa|apply ai|refine ae ?_ GE454.out|refine ae ?_ GE455.out|refine ae ?_ GE456.out)⟩
  ·replace c6:=Bool.eq_false_iff.mpr c6
   subst c6
   have H1:(some (0,([]:List (S35)),([]:List (S35)),false))=some (r1,r2,r3,r4):=by rw[if_neg (show ¬ (false=true) by decide)] at H;exact H
   clear H
   have H:=H1
   clear H1
   simp only[Option.some.injEq,Prod.mk.injEq] at H
   obtain⟨rfl,rfl,rfl,rfl⟩:=H
   go_enter Try.func13,Try.ntmps13
   go_wp2_with (first|((with_reducible refine aM (N:=2) rfl ?_);refine aJ ?hg (N:=2) ?hd (cs:=#[.int .i64 a0_0,.slice A0_1 l0_1.length c0_1,.slice A0_2 l0_2.length c0_2]) (t:=24) ?hr ?_;(case hd=>rfl);(case hg=>rfl);(case hr=>first|(go_simp;done)|(go_simp;rfl));intro gb454 hg w25 hbox hb;have BK454:=au (hbox);have GW454:=au ((by rw[hg];exact(az (by with_reducible repeat(first|exact HB.out|apply ah|apply aa|apply ai))):w.heap.size≤gb454));have GE454:=au ((by rw[hg];exact(az (by with_reducible repeat(first|exact HB.out|apply ah|apply aa|apply ai))):w.heap.size≤gb454));replace HB:=au (aA (by with_reducible repeat(first|exact HB.out|apply ah|apply aa|apply ai)) hb);clear hb hbox hg)|((with_reducible refine aM (N:=3) rfl ?_);refine aJ ?hg (N:=3) ?hd (cs:=#[.int .i64 a1_0,.int .i64 a1_1]) (t:=35) ?hr ?_;(case hd=>rfl);(case hg=>rfl);(case hr=>first|(go_simp;done)|(go_simp;rfl));intro gb455 hg w26 hbox hb;have BK455:=au (hbox);have GW455:=au ((by rw[hg];exact(az (by with_reducible repeat(first|exact HB.out|apply ah|apply aa|apply ai|refine ae ?_ GE454.out))):w.heap.size≤gb455));have GE455:=au ((by rw[hg];exact(az (by with_reducible repeat(first|exact HB.out|apply ah|apply aa|apply ai|refine ae ?_ GE454.out))):w.heap.size≤gb455));replace HB:=au (aA (by with_reducible repeat(first|exact HB.out|apply ah|apply aa|apply ai|refine ae ?_ GE454.out)) hb);have NB454_455:=au ((by rw[hg];exact Nat.ne_of_lt (aH (g:=gb454) (o:=.cells #[.int .i64 a0_0,.slice A0_1 l0_1.length c0_1,.slice A0_2 l0_2.length c0_2] 24 (0,0)) (by(with_reducible repeat(first|apply ag|apply aj|apply af));exact BK454.out)):gb454≠gb455));have NB455_454:=au ((by rw[hg];exact Nat.ne_of_gt (aH (g:=gb454) (o:=.cells #[.int .i64 a0_0,.slice A0_1 l0_1.length c0_1,.slice A0_2 l0_2.length c0_2] 24 (0,0)) (by(with_reducible repeat(first|apply ag|apply aj|apply af));exact BK454.out)):gb455≠gb454));replace BK454:=au (ay (g:=gb454) (o:=.cells #[.int .i64 a0_0,.slice A0_1 l0_1.length c0_1,.slice A0_2 l0_2.length c0_2] 24 (0,0)) (by(with_reducible repeat(first|apply ag|apply aj|apply af));exact BK454.out) hb);clear hb hbox hg)|((with_reducible refine aM (N:=4) rfl ?_);refine aJ ?hg (N:=4) ?hd (cs:=#[.int .i64 0,.slice none 0 0,.slice none 0 0]) (t:=24) ?hr ?_;(case hd=>rfl);(case hg=>rfl);(case hr=>first|(go_simp;done)|(go_simp;rfl));intro gb456 hg w27 hbox hb;have BK456:=au (hbox);have GW456:=au ((by rw[hg];exact(az (by with_reducible repeat(first|exact HB.out|apply ah|apply aa|apply ai|refine ae ?_ GE454.out|refine ae ?_ GE455.out))):w.heap.size≤gb456));have GE456:=au ((by rw[hg];exact(az (by with_reducible repeat(first|exact HB.out|apply ah|apply aa|apply ai|refine ae ?_ GE454.out|refine ae ?_ GE455.out))):w.heap.size≤gb456));replace HB:=au (aA (by with_reducible repeat(first|exact HB.out|apply ah|apply aa|apply ai|refine ae ?_ GE454.out|refine ae ?_ GE455.out)) hb);have NB454_456:=au ((by rw[hg];exact Nat.ne_of_lt (aH (g:=gb454) (o:=.cells #[.int .i64 a0_0,.slice A0_1 l0_1.length c0_1,.slice A0_2 l0_2.length c0_2] 24 (0,0)) (by(with_reducible repeat(first|apply ag|apply aj|apply af));exact BK454.out)):gb454≠gb456));have NB456_454:=au ((by rw[hg];exact Nat.ne_of_gt (aH (g:=gb454) (o:=.cells #[.int .i64 a0_0,.slice A0_1 l0_1.length c0_1,.slice A0_2 l0_2.length c0_2] 24 (0,0)) (by(with_reducible repeat(first|apply ag|apply aj|apply af));exact BK454.out)):gb456≠gb454));replace BK454:=au (ay (g:=gb454) (o:=.cells #[.int .i64 a0_0,.slice A0_1 l0_1.length c0_1,.slice A0_2 l0_2.length c0_2] 24 (0,0)) (by(with_reducible repeat(first|apply ag|apply aj|apply af));exact BK454.out) hb);have NB455_456:=au ((by rw[hg];exact Nat.ne_of_lt (aH (g:=gb455) (o:=.cells #[.int .i64 a1_0,.int .i64 a1_1] 35 (0,0)) (by(with_reducible repeat(first|apply ag|apply aj|apply af));exact BK455.out)):gb455≠gb456));have NB456_455:=au ((by rw[hg];exact Nat.ne_of_gt (aH (g:=gb455) (o:=.cells #[.int .i64 a1_0,.int .i64 a1_1] 35 (0,0)) (by(with_reducible repeat(first|apply ag|apply aj|apply af));exact BK455.out)):gb456≠gb455));replace BK455:=au (ay (g:=gb455) (o:=.cells #[.int .i64 a1_0,.int .i64 a1_1] 35 (0,0)) (by(with_reducible repeat(first|apply ag|apply aj|apply af));exact BK455.out) hb);clear hb hbox hg;have hnb28:=NB454_455.out;have hnc28:=NB455_454.out;have hnb29:=NB454_456.out;have hnc29:=NB456_454.out;have hcz30_0:w27.cell? ⟨gb454,0,none⟩=some (.int .i64 a0_0):=(ak BK454.out 0).trans rfl;have hcz30_1:w27.cell? ⟨gb454,1,none⟩=some (.slice A0_1 l0_1.length c0_1):=(ak BK454.out 1).trans rfl;have hcz30_2:w27.cell? ⟨gb454,2,none⟩=some (.slice A0_2 l0_2.length c0_2):=(ak BK454.out 2).trans rfl;have hfz30_0:=av BK454.out 0;have hfz30_1:=av BK454.out 1;have hfz30_2:=av BK454.out 2)|((with_reducible refine aW (f:=17) rfl ?_);refine bO (some 7) rfl rfl Try.func17 (by kernel_rfl) rfl #[.agg #[.int .i64 a0_0,.slice A0_1 l0_1.length c0_1,.slice A0_2 l0_2.length c0_2]] rfl (by(try simp only[amp_]);first|done|rfl|(simp only[ald_];rfl)) ?_;(with_reducible refine(impl_GoodFree.calls a0_0 _ _ l0_1 _ _ l0_2 true _ ?side1 ?side2 ?side3 ?side4 A3.out).mono ?_);(case side1=>repeat(first|exact(Kd.aN HR0_1.out HB.out)|(with_reducible first|apply Kd.aY|apply Kd.aZ|apply Kd.bn)));(case side2=>exact HC0_1.out);(case side3=>repeat(first|exact(Kd.aN HR0_2.out HB.out)|(with_reducible first|apply Kd.aY|apply Kd.aZ|apply Kd.bn)));(case side4=>exact HC0_2.out);rintro e w31 ⟨rfl,hb⟩;refine⟨_,rfl,?_⟩;replace BK454:=au (ay (g:=gb454) (o:=.cells #[.int .i64 a0_0,.slice A0_1 l0_1.length c0_1,.slice A0_2 l0_2.length c0_2] 24 (0,0)) (by(with_reducible repeat(first|apply ag|apply aj|apply af));exact BK454.out) hb);replace BK455:=au (ay (g:=gb455) (o:=.cells #[.int .i64 a1_0,.int .i64 a1_1] 35 (0,0)) (by(with_reducible repeat(first|apply ag|apply aj|apply af));exact BK455.out) hb);replace BK456:=au (ay (g:=gb456) (o:=.cells #[.int .i64 0,.slice none 0 0,.slice none 0 0] 24 (0,0)) (by(with_reducible repeat(first|apply ag|apply aj|apply af));exact BK456.out) hb);replace HB:=au (aA (by with_reducible repeat(first|exact HB.out|apply ah|apply aa|apply ai|refine ae ?_ GE454.out|refine ae ?_ GE455.out|refine ae ?_ GE456.out)) hb);(try clear hb);(try clear hb2);(try clear hk);(try clear hi);have hnb32:=NB455_456.out;have hnc32:=NB456_455.out;have hcz33_0:w31.cell? ⟨gb455,0,none⟩=some (.int .i64 a1_0):=(ak BK455.out 0).trans rfl;have hcz33_1:w31.cell? ⟨gb455,1,none⟩=some (.int .i64 a1_1):=(ak BK455.out 1).trans rfl;have hfz33_0:=av BK455.out 0;have hfz33_1:=av BK455.out 1;have hcz34_0:w31.cell? ⟨gb454,0,none⟩=some (.int .i64 a0_0):=(ak BK454.out 0).trans rfl;have hcz34_1:w31.cell? ⟨gb454,1,none⟩=some (.slice A0_1 l0_1.length c0_1):=(ak BK454.out 1).trans rfl;have hcz34_2:w31.cell? ⟨gb454,2,none⟩=some (.slice A0_2 l0_2.length c0_2):=(ak BK454.out 2).trans rfl;have hfz34_0:=av BK454.out 0;have hfz34_1:=av BK454.out 1;have hfz34_2:=av BK454.out 2)|(go_at_call 48;(with_reducible refine(impl_isExtent.calls a1_0 a1_1 a0_0 false _ A5.out).mono ?_);rintro e w35 ⟨rfl,hb⟩;replace BK454:=au (ay (g:=gb454) (o:=.cells #[.int .i64 a0_0,.slice A0_1 l0_1.length c0_1,.slice A0_2 l0_2.length c0_2] 24 (0,0)) (by(with_reducible repeat(first|apply ag|apply aj|apply af));exact BK454.out) hb);replace BK455:=au (ay (g:=gb455) (o:=.cells #[.int .i64 a1_0,.int .i64 a1_1] 35 (0,0)) (by(with_reducible repeat(first|apply ag|apply aj|apply af));exact BK455.out) hb);replace BK456:=au (ay (g:=gb456) (o:=.cells #[.int .i64 0,.slice none 0 0,.slice none 0 0] 24 (0,0)) (by(with_reducible repeat(first|apply ag|apply aj|apply af));exact BK456.out) hb);replace HB:=au (aA (by with_reducible repeat(first|exact HB.out|apply ah|apply aa|apply ai|refine ae ?_ GE454.out|refine ae ?_ GE455.out|refine ae ?_ GE456.out)) hb);(try clear hb);(try clear hb2);(try clear hk);(try clear hi);have hcz36_0:w35.cell? ⟨gb456,0,none⟩=some (.int .i64 0):=(ak BK456.out 0).trans rfl;have hcz36_1:w35.cell? ⟨gb456,1,none⟩=some (.slice none 0 0):=(ak BK456.out 1).trans rfl;have hcz36_2:w35.cell? ⟨gb456,2,none⟩=some (.slice none 0 0):=(ak BK456.out 2).trans rfl;have hfz36_0:=av BK456.out 0;have hfz36_1:=av BK456.out 1;have hfz36_2:=av BK456.out 2))
   refine bodyPost_ret (di rfl _ _ gb456 24 #[.int .i64 0,.slice none 0 0,.slice none 0 0] (0,0) _ rfl (by(with_reducible repeat(first|apply ag|apply aj|apply af));refine aK (cs:=#[.int .i64 0,.slice none 0 0,.slice none 0 0]) ?_ 2 _ rfl;(with_reducible repeat(first|apply ag|apply aj|apply af));refine aK (cs:=#[.int .i64 0,.slice none 0 0,.slice none 0 0]) ?_ 1 _ rfl;(with_reducible repeat(first|apply ag|apply aj|apply af));refine aK (cs:=#[.int .i64 0,.slice none 0 0,.slice none 0 0]) ?_ 0 _ rfl;(with_reducible repeat(first|apply ag|apply aj|apply af));exact BK456.out) Try.underlying24 rfl (by kernel_rfl)) rfl ?_
   exact⟨_,_,by first|rfl|(simp <;> rfl)|(simp[*] <;> rfl),by first|exact Kd.dn _ _ _ _ _|exact Kd.dU _ _ _ _ _|exact Kd.dQ _ _ _ _ _|exact Kd.dR _ _ _ _ _|exact Kd.dS _ _ _ _ _,by first|exact Kd.dn _ _ _ _ _|exact Kd.dU _ _ _ _ _|exact Kd.dQ _ _ _ _ _|exact Kd.dR _ _ _ _ _|exact Kd.dS _ _ _ _ _,by with_reducible repeat(first|exact HB.out|apply ah|apply aa|apply ai|refine ae ?_ GE454.out|refine ae ?_ GE455.out|refine ae ?_ GE456.out)⟩
 ·replace c4:=Bool.eq_false_iff.mpr c4
  subst c4
  have H1:(some (0,([]:List (S35)),([]:List (S35)),false))=some (r1,r2,r3,r4):=by rw[if_neg (show ¬ (false=true) by decide)] at H;exact H
  clear H
  have H:=H1
  clear H1
  simp only[Option.some.injEq,Prod.mk.injEq] at H
  obtain⟨rfl,rfl,rfl,rfl⟩:=H
  go_enter Try.func13,Try.ntmps13
  go_wp2_with (first|((with_reducible refine aM (N:=2) rfl ?_);refine aJ ?hg (N:=2) ?hd (cs:=#[.int .i64 a0_0,.slice A0_1 l0_1.length c0_1,.slice A0_2 l0_2.length c0_2]) (t:=24) ?hr ?_;(case hd=>rfl);(case hg=>rfl);(case hr=>first|(go_simp;done)|(go_simp;rfl));intro gb454 hg w37 hbox hb;have BK454:=au (hbox);have GW454:=au ((by rw[hg];exact(az (by with_reducible repeat(first|exact HB.out|apply ah|apply aa|apply ai))):w.heap.size≤gb454));have GE454:=au ((by rw[hg];exact(az (by with_reducible repeat(first|exact HB.out|apply ah|apply aa|apply ai))):w.heap.size≤gb454));replace HB:=au (aA (by with_reducible repeat(first|exact HB.out|apply ah|apply aa|apply ai)) hb);clear hb hbox hg)|((with_reducible refine aM (N:=3) rfl ?_);refine aJ ?hg (N:=3) ?hd (cs:=#[.int .i64 a1_0,.int .i64 a1_1]) (t:=35) ?hr ?_;(case hd=>rfl);(case hg=>rfl);(case hr=>first|(go_simp;done)|(go_simp;rfl));intro gb455 hg w38 hbox hb;have BK455:=au (hbox);have GW455:=au ((by rw[hg];exact(az (by with_reducible repeat(first|exact HB.out|apply ah|apply aa|apply ai|refine ae ?_ GE454.out))):w.heap.size≤gb455));have GE455:=au ((by rw[hg];exact(az (by with_reducible repeat(first|exact HB.out|apply ah|apply aa|apply ai|refine ae ?_ GE454.out))):w.heap.size≤gb455));replace HB:=au (aA (by with_reducible repeat(first|exact HB.out|apply ah|apply aa|apply ai|refine ae ?_ GE454.out)) hb);have NB454_455:=au ((by rw[hg];exact Nat.ne_of_lt (aH (g:=gb454) (o:=.cells #[.int .i64 a0_0,.slice A0_1 l0_1.length c0_1,.slice A0_2 l0_2.length c0_2] 24 (0,0)) (by(with_reducible repeat(first|apply ag|apply aj|apply af));exact BK454.out)):gb454≠gb455));have NB455_454:=au ((by rw[hg];exact Nat.ne_of_gt (aH (g:=gb454) (o:=.cells #[.int .i64 a0_0,.slice A0_1 l0_1.length c0_1,.slice A0_2 l0_2.length c0_2] 24 (0,0)) (by(with_reducible repeat(first|apply ag|apply aj|apply af));exact BK454.out)):gb455≠gb454));replace BK454:=au (ay (g:=gb454) (o:=.cells #[.int .i64 a0_0,.slice A0_1 l0_1.length c0_1,.slice A0_2 l0_2.length c0_2] 24 (0,0)) (by(with_reducible repeat(first|apply ag|apply aj|apply af));exact BK454.out) hb);clear hb hbox hg)|((with_reducible refine aM (N:=4) rfl ?_);refine aJ ?hg (N:=4) ?hd (cs:=#[.int .i64 0,.slice none 0 0,.slice none 0 0]) (t:=24) ?hr ?_;(case hd=>rfl);(case hg=>rfl);(case hr=>first|(go_simp;done)|(go_simp;rfl));intro gb456 hg w39 hbox hb;have BK456:=au (hbox);have GW456:=au ((by rw[hg];exact(az (by with_reducible repeat(first|exact HB.out|apply ah|apply aa|apply ai|refine ae ?_ GE454.out|refine ae ?_ GE455.out))):w.heap.size≤gb456));have GE456:=au ((by rw[hg];exact(az (by with_reducible repeat(first|exact HB.out|apply ah|apply aa|apply ai|refine ae ?_ GE454.out|refine ae ?_ GE455.out))):w.heap.size≤gb456));replace HB:=au (aA (by with_reducible repeat(first|exact HB.out|apply ah|apply aa|apply ai|refine ae ?_ GE454.out|refine ae ?_ GE455.out)) hb);have NB454_456:=au ((by rw[hg];exact Nat.ne_of_lt (aH (g:=gb454) (o:=.cells #[.int .i64 a0_0,.slice A0_1 l0_1.length c0_1,.slice A0_2 l0_2.length c0_2] 24 (0,0)) (by(with_reducible repeat(first|apply ag|apply aj|apply af));exact BK454.out)):gb454≠gb456));have NB456_454:=au ((by rw[hg];exact Nat.ne_of_gt (aH (g:=gb454) (o:=.cells #[.int .i64 a0_0,.slice A0_1 l0_1.length c0_1,.slice A0_2 l0_2.length c0_2] 24 (0,0)) (by(with_reducible repeat(first|apply ag|apply aj|apply af));exact BK454.out)):gb456≠gb454));replace BK454:=au (ay (g:=gb454) (o:=.cells #[.int .i64 a0_0,.slice A0_1 l0_1.length c0_1,.slice A0_2 l0_2.length c0_2] 24 (0,0)) (by(with_reducible repeat(first|apply ag|apply aj|apply af));exact BK454.out) hb);have NB455_456:=au ((by rw[hg];exact Nat.ne_of_lt (aH (g:=gb455) (o:=.cells #[.int .i64 a1_0,.int .i64 a1_1] 35 (0,0)) (by(with_reducible repeat(first|apply ag|apply aj|apply af));exact BK455.out)):gb455≠gb456));have NB456_455:=au ((by rw[hg];exact Nat.ne_of_gt (aH (g:=gb455) (o:=.cells #[.int .i64 a1_0,.int .i64 a1_1] 35 (0,0)) (by(with_reducible repeat(first|apply ag|apply aj|apply af));exact BK455.out)):gb456≠gb455));replace BK455:=au (ay (g:=gb455) (o:=.cells #[.int .i64 a1_0,.int .i64 a1_1] 35 (0,0)) (by(with_reducible repeat(first|apply ag|apply aj|apply af));exact BK455.out) hb);clear hb hbox hg;have hnb40:=NB454_455.out;have hnc40:=NB455_454.out;have hnb41:=NB454_456.out;have hnc41:=NB456_454.out;have hcz42_0:w39.cell? ⟨gb454,0,none⟩=some (.int .i64 a0_0):=(ak BK454.out 0).trans rfl;have hcz42_1:w39.cell? ⟨gb454,1,none⟩=some (.slice A0_1 l0_1.length c0_1):=(ak BK454.out 1).trans rfl;have hcz42_2:w39.cell? ⟨gb454,2,none⟩=some (.slice A0_2 l0_2.length c0_2):=(ak BK454.out 2).trans rfl;have hfz42_0:=av BK454.out 0;have hfz42_1:=av BK454.out 1;have hfz42_2:=av BK454.out 2)|((with_reducible refine aW (f:=17) rfl ?_);refine bO (some 7) rfl rfl Try.func17 (by kernel_rfl) rfl #[.agg #[.int .i64 a0_0,.slice A0_1 l0_1.length c0_1,.slice A0_2 l0_2.length c0_2]] rfl (by(try simp only[amp_]);first|done|rfl|(simp only[ald_];rfl)) ?_;(with_reducible refine(impl_GoodFree.calls a0_0 _ _ l0_1 _ _ l0_2 false _ ?side1 ?side2 ?side3 ?side4 A3.out).mono ?_);(case side1=>repeat(first|exact(Kd.aN HR0_1.out HB.out)|(with_reducible first|apply Kd.aY|apply Kd.aZ|apply Kd.bn)));(case side2=>exact HC0_1.out);(case side3=>repeat(first|exact(Kd.aN HR0_2.out HB.out)|(with_reducible first|apply Kd.aY|apply Kd.aZ|apply Kd.bn)));(case side4=>exact HC0_2.out);rintro e w43 ⟨rfl,hb⟩;refine⟨_,rfl,?_⟩;replace BK454:=au (ay (g:=gb454) (o:=.cells #[.int .i64 a0_0,.slice A0_1 l0_1.length c0_1,.slice A0_2 l0_2.length c0_2] 24 (0,0)) (by(with_reducible repeat(first|apply ag|apply aj|apply af));exact BK454.out) hb);replace BK455:=au (ay (g:=gb455) (o:=.cells #[.int .i64 a1_0,.int .i64 a1_1] 35 (0,0)) (by(with_reducible repeat(first|apply ag|apply aj|apply af));exact BK455.out) hb);replace BK456:=au (ay (g:=gb456) (o:=.cells #[.int .i64 0,.slice none 0 0,.slice none 0 0] 24 (0,0)) (by(with_reducible repeat(first|apply ag|apply aj|apply af));exact BK456.out) hb);replace HB:=au (aA (by with_reducible repeat(first|exact HB.out|apply ah|apply aa|apply ai|refine ae ?_ GE454.out|refine ae ?_ GE455.out|refine ae ?_ GE456.out)) hb);(try clear hb);(try clear hb2);(try clear hk);(try clear hi);have hnb44:=NB456_455.out;have hnc44:=NB455_456.out;have hcz45_0:w43.cell? ⟨gb456,0,none⟩=some (.int .i64 0):=(ak BK456.out 0).trans rfl;have hcz45_1:w43.cell? ⟨gb456,1,none⟩=some (.slice none 0 0):=(ak BK456.out 1).trans rfl;have hcz45_2:w43.cell? ⟨gb456,2,none⟩=some (.slice none 0 0):=(ak BK456.out 2).trans rfl;have hfz45_0:=av BK456.out 0;have hfz45_1:=av BK456.out 1;have hfz45_2:=av BK456.out 2))
  refine bodyPost_ret (di rfl _ _ gb456 24 #[.int .i64 0,.slice none 0 0,.slice none 0 0] (0,0) _ rfl (by(with_reducible repeat(first|apply ag|apply aj|apply af));refine aK (cs:=#[.int .i64 0,.slice none 0 0,.slice none 0 0]) ?_ 2 _ rfl;(with_reducible repeat(first|apply ag|apply aj|apply af));refine aK (cs:=#[.int .i64 0,.slice none 0 0,.slice none 0 0]) ?_ 1 _ rfl;(with_reducible repeat(first|apply ag|apply aj|apply af));refine aK (cs:=#[.int .i64 0,.slice none 0 0,.slice none 0 0]) ?_ 0 _ rfl;(with_reducible repeat(first|apply ag|apply aj|apply af));exact BK456.out) Try.underlying24 rfl (by kernel_rfl)) rfl ?_
  exact⟨_,_,by first|rfl|(simp <;> rfl)|(simp[*] <;> rfl),by first|exact Kd.dn _ _ _ _ _|exact Kd.dU _ _ _ _ _|exact Kd.dQ _ _ _ _ _|exact Kd.dR _ _ _ _ _|exact Kd.dS _ _ _ _ _,by first|exact Kd.dn _ _ _ _ _|exact Kd.dU _ _ _ _ _|exact Kd.dQ _ _ _ _ _|exact Kd.dR _ _ _ _ _|exact Kd.dS _ _ _ _ _,by with_reducible repeat(first|exact HB.out|apply ah|apply aa|apply ai|refine ae ?_ GE454.out|refine ae ?_ GE455.out|refine ae ?_ GE456.out)⟩
attribute [local go_sem] bG bH bS bT bB bA bJ bI
set_option linter.unusedVariables false
set_option linter.unusedSimpArgs false
def spec_l5Extent.f (a0_0:Int) (a0_1:Int) (a1:Int):Option (Bool):=if a0_0≥0 then ((spec_l1In.f a0_1 1 a1).bind fun t175=>(if t175=true then (some (decide (a0_0≤(wrap64 (a1 - a0_1))))) else (some false))) else (some false)
set_option maxHeartbeats 8000000 in
set_option maxRecDepth 100000 in
theorem spec_l5Extent.calls (a0_0:Int) (a0_1:Int) (a1:Int) (r:Bool) (w:World) (h:spec_l5Extent.f a0_0 a0_1 a1=some r) :
  Calls Try.prog 50 #[.agg #[.int .i64 a0_0,.int .i64 a0_1],.int .i64 a1] w fun e w'=>e = .returned (.bool r)∧Below w.heap.size w w':=by
 have hu35:=Try.underlying35
 have HB:=au (Below.refl w.heap.size w)
 have H:(if a0_0≥0 then ((spec_l1In.f a0_1 1 a1).bind fun t175=>(if t175=true then (some (decide (a0_0≤(wrap64 (a1 - a0_1))))) else (some false))) else (some false))=some r:=h
 clear h
 by_cases c3:a0_0≥0
 ·rw[if_pos c3] at H
  have c3b0:decide (0≤a0_0)=true:=decide_eq_true c3
  clear c3
  replace H:=Option.bind_eq_some_iff.mp H
  obtain⟨t175,A40,H⟩:=H
  replace H:(if t175=true then (some (decide (a0_0≤(wrap64 (a1 - a0_1))))) else (some false))=some r:=H
  have A4:=au A40
  clear A40
  by_cases c5:t175=true
  ·subst c5
   have H1:(some (decide (a0_0≤(wrap64 (a1 - a0_1)))))=some r:=by rw[if_pos rfl] at H;exact H
   clear H
   have H:=H1
   clear H1
   obtain rfl:=Option.some.inj H
   go_enter Try.func50,Try.ntmps50
   go_wp2_with (first|((with_reducible refine aM (N:=2) rfl ?_);refine aJ ?hg (N:=2) ?hd (cs:=#[.int .i64 a0_0,.int .i64 a0_1]) (t:=35) ?hr ?_;(case hd=>rfl);(case hg=>rfl);(case hr=>first|(go_simp;done)|(go_simp;rfl));intro gb174 hg w6 hbox hb;have BK174:=au (hbox);have GW174:=au ((by rw[hg];exact(az (by with_reducible repeat(first|exact HB.out|apply ah|apply aa|apply ai))):w.heap.size≤gb174));have GE174:=au ((by rw[hg];exact(az (by with_reducible repeat(first|exact HB.out|apply ah|apply aa|apply ai))):w.heap.size≤gb174));replace HB:=au (aA (by with_reducible repeat(first|exact HB.out|apply ah|apply aa|apply ai)) hb);clear hb hbox hg;have hcz7_0:w6.cell? ⟨gb174,0,none⟩=some (.int .i64 a0_0):=(ak BK174.out 0).trans rfl;have hcz7_1:w6.cell? ⟨gb174,1,none⟩=some (.int .i64 a0_1):=(ak BK174.out 1).trans rfl;have hfz7_0:=av BK174.out 0;have hfz7_1:=av BK174.out 1)|(go_at_call 32;(with_reducible refine(spec_l1In.calls a0_1 1 a1 true _ A4.out).mono ?_);rintro e w' ⟨rfl,⟨nd,rfl⟩⟩))
   go_ret
   exact⟨by first|rfl|(simp <;> rfl)|(simp[*] <;> rfl),by with_reducible repeat(first|exact HB.out|apply ah|apply aa|apply ai|refine ae ?_ GE174.out)⟩
  ·replace c5:=Bool.eq_false_iff.mpr c5
   subst c5
   have H1:(some false)=some r:=by rw[if_neg (show ¬ (false=true) by decide)] at H;exact H
   clear H
   have H:=H1
   clear H1
   obtain rfl:=Option.some.inj H
   go_enter Try.func50,Try.ntmps50
   go_wp2_with (first|((with_reducible refine aM (N:=2) rfl ?_);refine aJ ?hg (N:=2) ?hd (cs:=#[.int .i64 a0_0,.int .i64 a0_1]) (t:=35) ?hr ?_;(case hd=>rfl);(case hg=>rfl);(case hr=>first|(go_simp;done)|(go_simp;rfl));intro gb174 hg w8 hbox hb;have BK174:=au (hbox);have GW174:=au ((by rw[hg];exact(az (by with_reducible repeat(first|exact HB.out|apply ah|apply aa|apply ai))):w.heap.size≤gb174));have GE174:=au ((by rw[hg];exact(az (by with_reducible repeat(first|exact HB.out|apply ah|apply aa|apply ai))):w.heap.size≤gb174));replace HB:=au (aA (by with_reducible repeat(first|exact HB.out|apply ah|apply aa|apply ai)) hb);clear hb hbox hg;have hcz9_0:w8.cell? ⟨gb174,0,none⟩=some (.int .i64 a0_0):=(ak BK174.out 0).trans rfl;have hcz9_1:w8.cell? ⟨gb174,1,none⟩=some (.int .i64 a0_1):=(ak BK174.out 1).trans rfl;have hfz9_0:=av BK174.out 0;have hfz9_1:=av BK174.out 1)|(go_at_call 32;(with_reducible refine(spec_l1In.calls a0_1 1 a1 false _ A4.out).mono ?_);rintro e w' ⟨rfl,⟨nd,rfl⟩⟩))
   go_ret
   exact⟨by first|rfl|(simp <;> rfl)|(simp[*] <;> rfl),by with_reducible repeat(first|exact HB.out|apply ah|apply aa|apply ai|refine ae ?_ GE174.out)⟩
 ·rw[if_neg c3] at H
  have c3b0:decide (0≤a0_0)=false:=decide_eq_false c3
  clear c3
  obtain rfl:=Option.some.inj H
  go_enter Try.func50,Try.ntmps50
  go_wp2_with (first|((with_reducible refine aM (N:=2) rfl ?_);refine aJ ?hg (N:=2) ?hd (cs:=#[.int .i64 a0_0,.int .i64 a0_1]) (t:=35) ?hr ?_;(case hd=>rfl);(case hg=>rfl);(case hr=>first|(go_simp;done)|(go_simp;rfl));intro gb174 hg w10 hbox hb;have BK174:=au (hbox);have GW174:=au ((by rw[hg];exact(az (by with_reducible repeat(first|exact HB.out|apply ah|apply aa|apply ai))):w.heap.size≤gb174));have GE174:=au ((by rw[hg];exact(az (by with_reducible repeat(first|exact HB.out|apply ah|apply aa|apply ai))):w.heap.size≤gb174));replace HB:=au (aA (by with_reducible repeat(first|exact HB.out|apply ah|apply aa|apply ai)) hb);clear hb hbox hg;have hcz11_0:w10.cell? ⟨gb174,0,none⟩=some (.int .i64 a0_0):=(ak BK174.out 0).trans rfl;have hcz11_1:w10.cell? ⟨gb174,1,none⟩=some (.int .i64 a0_1):=(ak BK174.out 1).trans rfl;have hfz11_0:=av BK174.out 0;have hfz11_1:=av BK174.out 1))
  go_ret
  exact⟨by first|rfl|(simp <;> rfl)|(simp[*] <;> rfl),by with_reducible repeat(first|exact HB.out|apply ah|apply aa|apply ai|refine ae ?_ GE174.out)⟩
attribute [local go_sem] bG bH bS bT bB bA bJ bI
set_option linter.unusedVariables false
set_option linter.unusedSimpArgs false
def spec_l5Of.f (k:Nat) (a0:Int) (l1:List (S35)):Option (Int×(List (S35))×(List (S35))):=(some (([]:List (S35)):List (S35))).bind fun y165=>(if y165.length+l1.length<8796093022208 then ((spec_l5BySize.f k l1).bind fun t171=>(some (a0,(y165++l1),t171))) else (none))
set_option maxHeartbeats 8000000 in
set_option maxRecDepth 100000 in
theorem spec_l5Of.calls (k:Nat) (a0:Int) (A1:Option Addr) (c1:Nat) (l1:List (S35)) (r1:Int) (r2:List (S35)) (r3:List (S35)) (w:World) (hr1:Kd.C k35 w A1 l1.length l1) (hc1:l1.length≤c1) (h:spec_l5Of.f k a0 l1=some (r1,r2,r3)) :
  Calls Try.prog 33 #[.int .i64 a0,.slice A1 l1.length c1] w fun e w'=>∃ v1_ v2_:Value,e = .returned (.agg #[.int .i64 r1,v1_,v2_])∧Kd.R k35 35 w' w.heap.size (fun k_=>some k_≠(v2_:Value).ownBlock) v1_ r2∧Kd.R k35 35 w' w.heap.size (fun k_=>some k_≠(v1_:Value).ownBlock) v2_ r3∧Below w.heap.size w w':=by
 have hu24:=Try.underlying24
 have HR1:=au hr1
 have HC1:=au hc1
 clear hr1 hc1
 have HB:=au (Below.refl w.heap.size w)
 have H:((some (([]:List (S35)):List (S35))).bind fun y165=>(if y165.length+l1.length<8796093022208 then ((spec_l5BySize.f k l1).bind fun t171=>(some (a0,(y165++l1),t171))) else (none)))=some (r1,r2,r3):=h
 clear h
 obtain⟨y165,hy165⟩:∃ y_:List (S35),y_ = (([]:List (S35))):=⟨_,rfl⟩
 replace H:(if y165.length+l1.length<8796093022208 then ((spec_l5BySize.f k l1).bind fun t171=>(some (a0,(y165++l1),t171))) else (none))=some (r1,r2,r3):=by first|(rw[hy165];with_reducible exact H)|(have H2_:=(Option.bind_some _ _).symm.trans H;rw[hy165];with_reducible exact H2_)|(have H2_:=(Option.bind_some _ _).symm.trans H;with_reducible exact H2_)|with_reducible exact H|(rw[hy165];exact H)|exact H
 have Ny165:=au hy165
 clear hy165
 by_cases c3:y165.length+l1.length<8796093022208
 ·rw[if_pos c3] at H
  have LMc3:=au c3
  clear c3
  obtain⟨y168,hy168⟩:∃ y_:List (S35),y_ = (y165++l1):=⟨_,rfl⟩
  replace H:((spec_l5BySize.f k l1).bind fun t171=>(some (a0,y168,t171)))=some (r1,r2,r3):=by first|(rw[hy168];with_reducible exact H)|(have H2_:=(Option.bind_some _ _).symm.trans H;rw[hy168];with_reducible exact H2_)|(have H2_:=(Option.bind_some _ _).symm.trans H;with_reducible exact H2_)|with_reducible exact H|(rw[hy168];exact H)|exact H
  have Ny168:=au hy168
  clear hy168
  replace H:=Option.bind_eq_some_iff.mp H
  obtain⟨t171,A40,H⟩:=H
  replace H:(some (a0,y168,t171))=some (r1,r2,r3):=H
  have A4:=au A40
  clear A40
  simp only[Option.some.injEq,Prod.mk.injEq] at H
  obtain⟨rfl,rfl,rfl⟩:=H
  go_enter Try.func33,Try.ntmps33
  go_wp2_with (first|((with_reducible refine aM (N:=4) rfl ?_);refine aJ ?hg (N:=4) ?hd (cs:=#[.int .i64 0,.slice none 0 0,.slice none 0 0]) (t:=24) ?hr ?_;(case hd=>rfl);(case hg=>rfl);(case hr=>first|(go_simp;done)|(go_simp;rfl));intro gb164 hg w5 hbox hb;have BK164:=au (hbox);have GW164:=au ((by rw[hg];exact(az (by with_reducible repeat(first|exact HB.out|apply ah|apply aa|apply ai))):w.heap.size≤gb164));have GE164:=au ((by rw[hg];exact(az (by with_reducible repeat(first|exact HB.out|apply ah|apply aa|apply ai))):w.heap.size≤gb164));replace HB:=au (aA (by with_reducible repeat(first|exact HB.out|apply ah|apply aa|apply ai)) hb);clear hb hbox hg)|((with_reducible refine aM (N:=6) rfl ?_);refine Kd.lC k35 _ 35 ?hg (N:=6) ?hd (xs:=([]:List (S35))) (inner:=[]) (ok:=fun _=>True) (okp:=fun _=>True) ?hr ?hp (fun _ hk=>hk) trivial (Below.refl _ _) (Nat.le_refl _) (by simp) ?_;(case hd=>rfl);(case hg=>rfl);(case hr=>first|(go_simp;done)|(go_simp;rfl));(case hp=>exact(cz.none _ _));intro v166 w6 ho7 hb hg_ hnew_;clear hg_ hnew_;(first|rw[← Ny165.out] at ho7|(simp only[Int.reduceToNat] at ho7;rw[← Ny165.out] at ho7));have HO167:=au (Kd.bz ho7 (az (by with_reducible repeat(first|exact HB.out|apply ah|apply aa|apply ai|refine ae ?_ GE164.out))));replace BK164:=au (ay (g:=gb164) (o:=.cells #[.int .i64 0,.slice none 0 0,.slice none 0 0] 24 (0,0)) (by(with_reducible repeat(first|apply ag|apply aj|apply af));exact BK164.out) hb);replace HB:=au (aA (by with_reducible repeat(first|exact HB.out|apply ah|apply aa|apply ai|refine ae ?_ GE164.out)) hb);clear hb ho7)|((with_reducible refine bu (b:=.append) (xs:=#[.tmp 6,.tmp 7]) rfl ?_);at_builtin;refine Kd.bY k35 (w0:=w) w.heap.size rfl (.tmp 6) (.tmp 7) 22 35 (.agg #[(.int .i64 0),(.int .i64 0)]) 16 rfl Try.underlying22 bV rfl (by decide) (by omega) v166 y165 l1 _ _ _ (fun _=>True) (fun _=>False) rfl rfl ?aO ?aR (fun _ _ h=>h) (fun _ h=>h.elim) ?aF ?aB ?aS ?aL ?_;(case aR=>repeat(first|exact(Kd.aN HR1.out HB.out)|(with_reducible first|apply Kd.aY|apply Kd.aZ|apply Kd.bn)));(case aB=>exact(by with_reducible repeat(first|exact HB.out|apply ah|apply aa|apply ai|refine ae ?_ GE164.out)));(case aF=>exact(fun _ _=>trivial));(case aO=>exact(by(with_reducible repeat(first|apply Kd.aD|apply Kd.aC|apply Kd.aI));exact HO167.out));(case aS=>exact(az (by with_reducible repeat(first|exact HB.out|apply ah|apply aa|apply ai|refine ae ?_ GE164.out))));(case aL=>have:=LMc3.out;omega);intro v169 w8 ho hb hg hat;rw[← Ny168.out] at ho;replace BK164:=au (bf (g:=gb164) (o:=.cells #[.int .i64 0,.slice none 0 0,.slice none 0 0] 24 (0,0)) (by(with_reducible repeat(first|apply ag|apply aj|apply af));exact BK164.out) hg (Kd.gN HO167.out BK164.out (by decide)));replace HB:=au (hb);have HO170:=au (ho);clear HO167;clear ho hb hg hat)|((with_reducible refine aW (f:=61) rfl ?_);refine bO (some 10) rfl rfl Try.func61 (by kernel_rfl) rfl #[.slice A1 l1.length c1] rfl (by(try simp only[amp_]);first|done|rfl|(simp only[ald_];rfl)) ?_;(with_reducible refine(spec_l5BySize.calls k _ _ l1 t171 _ ?side1 ?side2 A4.out).mono ?_);(case side1=>repeat(first|exact(Kd.aN HR1.out HB.out)|(with_reducible first|apply Kd.aY|apply Kd.aZ|apply Kd.bn)));(case side2=>exact HC1.out);rintro e w9 ⟨v172,rfl,ho0,hb⟩;refine⟨_,rfl,?_⟩;have HO173:=au (Kd.bz (Kd.R_new' ho0 (Kd.fq (by(with_reducible repeat(first|apply Kd.aD|apply Kd.aC|apply Kd.aI));exact HO170.out))) (az (by with_reducible repeat(first|exact HB.out|apply ah|apply aa|apply ai|refine ae ?_ GE164.out))));replace HO170:=au (Kd.R_elder' (by(with_reducible repeat(first|apply Kd.aD|apply Kd.aC|apply Kd.aI));exact HO170.out) (Kd.dI ho0) hb);replace BK164:=au (ay (g:=gb164) (o:=.cells #[.int .i64 0,.slice none 0 0,.slice none 0 0] 24 (0,0)) (by(with_reducible repeat(first|apply ag|apply aj|apply af));exact BK164.out) hb);replace HB:=au (aA (by with_reducible repeat(first|exact HB.out|apply ah|apply aa|apply ai|refine ae ?_ GE164.out)) hb);(try clear hb);(try clear hb2);(try clear hk);(try clear hi);(try clear ho0);obtain⟨Ao10,co10,eo10⟩:=Kd.bq HO173.out;subst eo10;obtain⟨Ao11,co11,eo11⟩:=Kd.bq HO170.out;subst eo11;have hcz12_0:w9.cell? ⟨gb164,0,none⟩=some (.int .i64 0):=(ak BK164.out 0).trans rfl;have hcz12_1:w9.cell? ⟨gb164,1,none⟩=some (.slice none 0 0):=(ak BK164.out 1).trans rfl;have hcz12_2:w9.cell? ⟨gb164,2,none⟩=some (.slice none 0 0):=(ak BK164.out 2).trans rfl;have hfz12_0:=av BK164.out 0;have hfz12_1:=av BK164.out 1;have hfz12_2:=av BK164.out 2))
  refine bodyPost_ret (results_cell_row rfl _ _ gb164 24 #[.int .i64 a0,.slice Ao11 y168.length co11,.slice Ao10 t171.length co10] (0,0) _ rfl (by(with_reducible repeat(first|apply ag|apply aj|apply af));refine aK (cs:=#[.int .i64 a0,.slice Ao11 y168.length co11,.slice none 0 0]) ?_ 2 _ rfl;(with_reducible repeat(first|apply ag|apply aj|apply af));refine aK (cs:=#[.int .i64 a0,.slice none 0 0,.slice none 0 0]) ?_ 1 _ rfl;(with_reducible repeat(first|apply ag|apply aj|apply af));refine aK (cs:=#[.int .i64 0,.slice none 0 0,.slice none 0 0]) ?_ 0 _ rfl;(with_reducible repeat(first|apply ag|apply aj|apply af));exact BK164.out) Try.underlying24 rfl (by kernel_rfl)) rfl ?_
  exact⟨_,_,by first|rfl|(simp <;> rfl)|(simp[*] <;> rfl),by(with_reducible repeat(first|apply Kd.aD|apply Kd.aC|apply Kd.aI));exact Kd.aT (Kd.aV (p:=⟨gb164,2,none⟩) (Kd.aV (p:=⟨gb164,1,none⟩) (Kd.aV (p:=⟨gb164,0,none⟩) (Kd.bK HO170.out BK164.out (by decide)) (fun _ hk=>hk.2) (.int .i64 a0)) (fun _ hk=>hk.2) (.slice Ao11 y168.length co11)) (fun _ hk=>hk.2) (.slice Ao10 t171.length co10)) (fun _ hk=>hk.1.2),by(with_reducible repeat(first|apply Kd.aD|apply Kd.aC|apply Kd.aI));exact Kd.aT (Kd.aV (p:=⟨gb164,2,none⟩) (Kd.aV (p:=⟨gb164,1,none⟩) (Kd.aV (p:=⟨gb164,0,none⟩) (Kd.bK HO173.out BK164.out (by decide)) (fun _ hk=>hk.2) (.int .i64 a0)) (fun _ hk=>hk.2) (.slice Ao11 y168.length co11)) (fun _ hk=>hk.2) (.slice Ao10 t171.length co10)) (fun _ hk=>hk.1.2),by with_reducible repeat(first|exact HB.out|apply ah|apply aa|apply ai|refine ae ?_ GE164.out)⟩
 ·rw[if_neg c3] at H
  exact absurd H (by simp)
end Go.Proofs.Ytelblhkbogljnaa.PFre
