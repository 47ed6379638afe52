import Derived.Test.YtjepecinpgjgdaaXVauSmall
import Derived.Test.YtjepecinpgjgdaaYVausmall
import Derived.Test.YtjepecinpgjgdaaLoops
/-! GoodVault of the reference; walked by hand. -/
namespace Go.Proofs.Ytjepecinpgjgdaa.PVau
open Go.RowKit Go.Proofs.YtjepecinpgjgdaaW.PrintWords Go.Proofs.YtjepecinpgjgdaaW.PrintLast Go.Proofs.YtjepecinpgjgdaaW.PrintMore Go.Proofs.Ytjepecinpgjgdaa.E
set_option linter.unusedSimpArgs false
set_option linter.unusedVariables false
def fl (n m : Nat) : Array Bool := ((List.range n).map m.testBit).toArray
theorem l15At_ev (ps : List S89) (t : ByteArray) (hl : (ps.length : Int) ≤ 100000000000) (n : Nat) (hn : n ≤ ps.length) :
  ∃ r : Int, Ev (fun k => spec_l15At.f k (ps.take n) t) r ∧ ((r ≥ 0) ↔ seenB ps n t = true) := by
 unfold spec_l15At.f
 obtain ⟨r, hp, hr⟩ := ex_loop (fun k (_ : Unit) i => spec_l15At.l0 k t (ps.take n) ((ps.take n).length : Int) i) (ps.take n).length (fun i _ => ∀ j : Nat, (j : Int) < i → ∀ x, (ps.take n)[j]? = some x → x.f0 ≠ t) (fun r => (r ≥ 0) ↔ seenB ps n t = true)
  (fun _ hs => ⟨-1, by
   refine ⟨fun h => by omega, fun h => ?_⟩
   unfold seenB at h
   obtain ⟨x, hx, hd⟩ := List.any_eq_true.1 h
   obtain ⟨j, hj, rfl⟩ := List.getElem_of_mem hx
   exact absurd (of_decide_eq_true hd) (hs j (by omega) _ (List.getElem?_eq_getElem hj)), Ev.step (fun _ => spec_l15At.l0.eq_2 ..) (ev_neg (by omega) (ev_ret rfl))⟩)
  (fun _ i h0 h1 hs => by
   have hi : i.toNat < (ps.take n).length := by omega
   have er : rd_T89 (ps.take n) i = (ps.take n)[i.toNat] := getD_at _ _ i hi
   have hlt : ((ps.take n).length : Int) ≤ 100000000000 := by rw [List.length_take]; omega
   by_cases he : (rd_T89 (ps.take n) i).f0 = t
   ·refine .inl ⟨i, ⟨fun _ => ?_, fun _ => h0⟩, Ev.step (fun _ => spec_l15At.l0.eq_2 ..) (ev_pos (by omega) (ev_pos h0 (ev_pos (by omega) (ev_pos (ba_eq.2 he) (ev_ret rfl)))))⟩
    unfold seenB
    exact List.any_eq_true.2 ⟨_, List.getElem_mem hi, decide_eq_true (by rw [← er]; exact he)⟩
   ·refine .inr ⟨(), fun j hj x hx => ?_, fun r hr => Ev.step (fun _ => spec_l15At.l0.eq_2 ..) (ev_pos (by omega) (ev_pos h0 (ev_pos (by omega) (ev_neg (fun h => he (ba_eq.1 h)) ?_))))⟩
    ·by_cases hji : j = i.toNat
     ·subst hji
      rw [List.getElem?_eq_getElem hi] at hx
      obtain rfl := Option.some.inj hx
      rw [← er]; exact he
     ·exact hs j (by omega) x hx
    ·rw [w64 (x := i + 1) (by omega) (by omega)]
     exact hr) () (fun j hj => by omega)
 exact ⟨r, hr, hp⟩
theorem at_ex (ps : List S89) (t : ByteArray) (hl : ps.length ≤ 1048576) (n : Nat) (hn : n ≤ ps.length) : ∃ (r : Int) (k : Nat), spec_l15At.f k (ps.take n) t = some r ∧ ((0 ≤ r) ↔ seenB ps n t = true) := by
 obtain ⟨r, ⟨K, hK⟩, h⟩ := l15At_ev ps t (by omega) n hn
 exact ⟨r, K, hK _ (Nat.le_refl _), h⟩
theorem good_none {ps : List S89} {fs : List S87} (h : gV ps.length (List.replicate ps.length 0) fs = none) : good ps fs = false := by
 unfold good
 split
 ·rfl
 ·rw [h]
theorem good_bad {ps : List S89} {fs : List S87} {U : List Int} (h : gV ps.length (List.replicate ps.length 0) fs = some U) (hp : goodP ps U ps.length 0 = false) : good ps fs = false := by
 unfold good
 split
 ·rfl
 ·rw [h]; exact hp
theorem good_yes {ps : List S89} {fs : List S87} {U : List Int} (h : gV ps.length (List.replicate ps.length 0) fs = some U) (hp : goodP ps U ps.length 0 = true) : good ps fs = (decide ((ps.length : Int) ≤ 100) && decide ((fs.length : Int) ≤ 20)) := by
 unfold good
 by_cases h1 : (ps.length : Int) > 100
 ·rw [if_pos (.inl h1), decide_eq_false (show ¬ (ps.length : Int) ≤ 100 by omega)]; rfl
 ·by_cases h2 : (fs.length : Int) > 20
  ·rw [if_pos (.inr h2), decide_eq_false (show ¬ (fs.length : Int) ≤ 20 by omega)]; simp
  ·rw [if_neg (by omega), h, decide_eq_true (show (ps.length : Int) ≤ 100 by omega), decide_eq_true (show (fs.length : Int) ≤ 20 by omega)]
   exact hp
def spec_GoodVault.f (k : Nat) (l0_0 : List S89) (l0_1 : List S87) : Option Bool := if l0_0.length ≤ 1048576 then some (good l0_0 l0_1) else none
theorem spec_GoodVault.mono : ∀ a0 a1 k, LeO (spec_GoodVault.f k a0 a1) (spec_GoodVault.f (k + 1) a0 a1) := fun _ _ _ => LeO.refl _
/-- What stands between the steps. -/
structure GS (w W : World) (A0 : Option Addr) (n0 c0 : Nat) (A1 : Option Addr) (n1 c1 : Nat) (v : Value) (U : List Int) : Prop where
 u : Kd.R (Kd.int .i64) 3 W w.heap.size (fun _ => True) v U
 x : W.heap[w.heap.size]? = some (.cells #[.slice A0 n0 c0, .slice A1 n1 c1] 51 (0, 0))
 b : Below w.heap.size w W
section
variable {w W W1 : World} {A0 : Option Addr} {n0 c0 : Nat} {A1 : Option Addr} {n1 c1 : Nat} {v : Value} {U : List Int}
theorem GS.below (h : GS w W A0 n0 c0 A1 n1 c1 v U) (hb : Below W.heap.size W W1) : GS w W1 A0 n0 c0 A1 n1 c1 v U := ⟨Kd.R_below h.u hb, blk_below h.x hb, below_step h.b hb⟩
theorem GS.drewN (h : GS w W A0 n0 c0 A1 n1 c1 v U) (n : Nat) : GS w (W.drewN n) A0 n0 c0 A1 n1 c1 v U := ⟨Kd.R_drewN h.u n, blk_drewN h.x n, pw_below_drewN h.b n⟩
theorem GS.alloc (h : GS w W A0 n0 c0 A1 n1 c1 v U) (o : Obj) : GS w (W.alloc o) A0 n0 c0 A1 n1 c1 v U := h.below (below_alloc (Below.refl _ _) o)
/-- uses[q] = y -/
theorem GS.put (h : GS w W A0 n0 c0 A1 n1 c1 v U) {q : Int} (h0 : 0 ≤ q) (h1 : q < (U.length : Int)) (y : Int) :
  ∃ g cap w6, v = .slice (some ⟨g, 0, none⟩) U.length cap ∧ W.cell? ⟨g, q.toNat, none⟩ = some (.int .i64 (rd U q)) ∧ W.frozen? ⟨g, q.toNat, none⟩ = false ∧ W.setCell ⟨g, q.toNat, none⟩ (.int .i64 y) = w6 ∧ GS w w6 A0 n0 c0 A1 n1 c1 v (U.set q.toNat y) := by
 obtain ⟨g, cap, hv, hg1, hg2, cs, hgc⟩ := Kd.R_form h.u (by omega : 0 < U.length)
 subst hv
 obtain ⟨hcl, hfr⟩ := Kd.R_celln (d := (0 : Int)) h.u q h0 h1
 exact ⟨g, cap, _, rfl, hcl, hfr, rfl, Kd.R_putn h.u q y, blk_far (p := ⟨g, q.toNat, none⟩) h.x (blk_ne h.x hgc (by decide)) _, below_set h.b hg1⟩
end
theorem l15At_take (k : Nat) (A : Option Addr) (c : Nat) (l : List S89) (i : Nat) (t : ByteArray) (r : Int) (W : World) (hr : Kd.C k89 W A l.length l) (hc : l.length ≤ c) (hi : i ≤ l.length) (h : spec_l15At.f k (l.take i) t = some r) :
  Calls Try.prog 68 #[.slice A i c, .string t] W fun e w' => e = .returned (.int .i64 r) ∧ Below W.heap.size W w' := by
 have hl : (l.take i).length = i := by rw [List.length_take]; omega
 have h1 := Kd.C_take (m := i) hr hi
 have h2 := spec_l15At.calls k A c (l.take i) t r W (by rw [hl] at h1 ⊢; exact h1) (by omega) h
 rw [hl] at h2
 exact h2
set_option maxHeartbeats 8000000 in
set_option maxRecDepth 100000 in
theorem spec_GoodVault.calls (k_ : Nat) (A0 : Option Addr) (c0 : Nat) (l0 : List S89) (A1 : Option Addr) (c1 : Nat) (l1 : List S87) (r : Bool) (w : World) (hr0 : Kd.C k89 w A0 l0.length l0) (hc0 : l0.length ≤ c0) (hr1 : Kd.C k87 w A1 l1.length l1) (hc1 : l1.length ≤ c1) (h : spec_GoodVault.f k_ l0 l1 = some r) :
  Calls Try.prog 34 #[.agg #[.slice A0 l0.length c0, .slice A1 l1.length c1]] w fun e w' => e = .returned (.bool r) ∧ Below w.heap.size w w' := by
 have hu51 := Try.underlying51
 have hu87 := Try.underlying87
 have hu89 := Try.underlying89
 unfold spec_GoodVault.f at h
 by_cases hN : l0.length ≤ 1048576
 ·rw [if_pos hN] at h
  have hr := Aside0.mk (Option.some.inj h)
  have HR0 := Aside0.mk hr0
  have HR1 := Aside0.mk hr1
  have HC0 := Aside0.mk hc0
  have HNN := Aside0.mk hN
  have hn0 : l0.length ≤ 9223372036854775807 := hr0.2.1
  have hn1 : l1.length ≤ 9223372036854775807 := hr1.2.1
  clear hr0 hr1 h hc0 hc1 hN
  have X0 := Aside0.mk (heap_alloc_new w (.cells #[.slice A0 l0.length c0, .slice A1 l1.length c1] 51))
  go_enter Try.func34, Try.ntmps34
  go_wp2_with ((with_reducible refine gate_dst (N := 13) rfl ?_); (try (refine gate_guard (by rfl) ?_; dsimp only)); refine Kd.R_make (Kd.int .i64) _ 3 rfl (N := 13) rfl 22 _ _ rfl (l0.length : Int) rfl rfl Try.underlying22 (.int .i64 0) 8 info3 rfl (by decide) (by omega) 0 (ok := fun _ => True) (okp := fun _ => True) rfl (fun _ hk => hk) trivial (by omega) (by have := HNN.out; omega) (Below.refl _ _) (Nat.le_refl _) ?_)
  intro v w1 ho hb hg_ hnew_ hq1_ hq2_
  clear hg_ hq1_ hq2_ hnew_
  have G := Aside0.mk (show GS w w1 A0 l0.length c0 A1 l1.length c1 v (List.replicate l0.length 0) from ⟨Kd.R_lower ho (base' := w.heap.size) (by simp), (hb.block w.heap.size (by simp)).trans (heap_alloc_new w _), ((Below.refl _ _).alloc (Nat.le_refl _) _).trans (hb.mono (by simp))⟩)
  clear hb ho X0
  have d0 : w1.cell? ⟨w.heap.size, 0, none⟩ = some (.slice A0 l0.length c0) := (blk_cell G.out.x _).trans rfl
  have d1 : w1.cell? ⟨w.heap.size, 1, none⟩ = some (.slice A1 l1.length c1) := (blk_cell G.out.x _).trans rfl
  go_wp2
  go_loopw [17] (fun i wr => ∃ (j : Nat) (U : List Int), j ≤ l1.length ∧ i = .int .i64 j ∧ Aside0 (U.length = l0.length) ∧ Aside0 (gV l0.length U (l1.drop j) = gV l0.length (List.replicate l0.length 0) l1) ∧ Aside0 (GS w wr A0 l0.length c0 A1 l1.length c1 v U)) (fun i _ => l1.length - (intOf i).toNat)
  case atStart => exact ⟨0, _, Nat.zero_le _, rfl, ⟨by simp⟩, ⟨by simp⟩, G⟩
  case round =>
   clear G d0 d1
   obtain ⟨j, U, hj, rfl, hU, hG, G⟩ := hrel
   by_cases hlt : j < l1.length
   ·obtain ⟨ad, A, c, e, hx0, hx1, hx2⟩ := at_T87 HR1.out (j : Int) (by omega) (by omega)
    cases e
    simp only [Int.toNat_natCast] at hx0
    replace hx0 := (G.out.b.cell (World.block_lt_of_cell? w _ hx0)).trans hx0
    have hjl : ((j : Int) < (l1.length : Int)) = True := eq_true (by omega)
    have hd : l1.drop j = rd_T87 l1 j :: l1.drop (j + 1) := by
     rw [List.drop_eq_getElem_cons hlt]
     congr 1
     unfold rd_T87
     rw [List.getD_eq_getElem?_getD, Int.toNat_natCast, List.getElem?_eq_getElem hlt]
     rfl
    obtain ⟨ps, hps⟩ : ∃ ps, (rd_T87 l1 j).f0 = ps := ⟨_, rfl⟩
    rw [hps] at hx0 hx1 hx2
    have hpl : ps.length ≤ 9223372036854775807 := hx2.2.1
    have hG2 := Aside0.mk (show (if (ps.length : Int) > 200 then none else (incs l0.length U ps).bind fun V => gV l0.length V (l1.drop (j + 1))) = gV l0.length (List.replicate l0.length 0) l1 by
     have h1 := hG.out
     rw [hd] at h1
     simp only [gV] at h1
     rwa [hps] at h1)
    obtain ⟨V1, hV1⟩ : ∃ V, wr.alloc (.cells #[.slice A ps.length c] 87) = V := ⟨_, rfl⟩
    have hb1 : Below wr.heap.size wr V1 := by rw [← hV1]; exact below_alloc (Below.refl _ _) _
    have Y := Aside0.mk (show V1.heap[wr.heap.size]? = some (.cells #[.slice A ps.length c] 87 (0, 0)) by rw [← hV1]; exact heap_alloc_new wr _)
    have HX := Aside0.mk hx2
    have G1 := Aside0.mk (G.out.below hb1)
    have HB1 := Aside0.mk hb1
    have y0 : V1.cell? ⟨wr.heap.size, 0, none⟩ = some (.slice A ps.length c) := (blk_cell Y.out 0).trans rfl
    have HJ := Aside0.mk hlt
    clear hG hd hps hx1 hx2 hb1 G
    go_wp2
    clear y0 hx0 hV1
    generalize hgy : wr.heap.size = gy at *
    clear hgy HB1
    go_loopw [24] (fun i w2 => ∃ (k : Nat) (V : List Int), k ≤ ps.length ∧ i = .int .i64 k ∧ Aside0 (V.length = l0.length) ∧ Aside0 (incs l0.length V (ps.drop k) = incs l0.length U ps) ∧ Aside0 (GS w w2 A0 l0.length c0 (some ad) l1.length c1 v V) ∧ Aside0 (w2.heap[gy]? = some (.cells #[.slice A ps.length c] 87 (0, 0)))) (fun i _ => ps.length - (intOf i).toNat)
    case atStart => exact ⟨0, U, Nat.zero_le _, rfl, hU, ⟨by simp⟩, G1, Y⟩
    case round =>
     clear G1 Y
     obtain ⟨k, V, hk, rfl, hV, hI, G, Y⟩ := hrel
     by_cases hkl : k < ps.length
     ·obtain ⟨ad2, e2', hy0⟩ := Kd.at_int HX.out (k : Int) (by omega) (by omega)
      cases e2'
      simp only [Int.toNat_natCast] at hy0
      replace hy0 := (G.out.b.cell (World.block_lt_of_cell? w _ hy0)).trans hy0
      have d0 : wr.cell? ⟨w.heap.size, 0, none⟩ = some (.slice A0 l0.length c0) := (blk_cell G.out.x _).trans rfl
      have hkk : ((k : Int) < (ps.length : Int)) = True := eq_true (by omega)
      obtain ⟨q, hq⟩ : ∃ q, rd ps (k : Int) = q := ⟨_, rfl⟩
      rw [hq] at hy0
      have hd2 : ps.drop k = q :: ps.drop (k + 1) := by
       rw [List.drop_eq_getElem_cons hkl]
       congr 1
       rw [← hq]
       unfold rd
       rw [List.getD_eq_getElem?_getD, Int.toNat_natCast, List.getElem?_eq_getElem hkl]
       rfl
      have HKL := Aside0.mk hkl
      by_cases hin : 0 ≤ q ∧ q ≤ (l0.length : Int) - 1
      ·have hw := Aside0.mk (show spec_l1In.f q 0 ((l0.length : Int) - 1) = some true by
        unfold spec_l1In.f
        rw [if_pos (by omega)]
        simp; omega)
       have hI2 := Aside0.mk (show incs l0.length (V.set q.toNat (wrap64 (rd V q + 1))) (ps.drop (k + 1)) = incs l0.length U ps by
        have := hI.out
        rw [hd2] at this
        simp only [incs] at this
        rwa [if_pos hin] at this)
       have p1 : (0 ≤ q) = True := eq_true hin.1
       have p2 : (q < (V.length : Int)) = True := eq_true (by have := hV.out; omega)
       have HQ := Aside0.mk (show 0 ≤ q ∧ q < (V.length : Int) from ⟨hin.1, by have := hV.out; omega⟩)
       obtain ⟨g0, cap0, _, hv0, _⟩ := G.out.put HQ.out.1 HQ.out.2 0
       subst hv0
       clear hq hd2 hI hin
       go_wp2_with (go_at_call 65; refine (spec_l1In.calls q 0 ((l0.length : Int) - 1) true _ hw.out).mono ?_)
       rintro e w2 ⟨rfl, nd, rfl⟩
       have G2 := G.out.drewN nd
       have Y2 := blk_drewN Y.out nd
       obtain ⟨g, cap, w6, hv, m1, m2, m3, G6⟩ := G2.put HQ.out.1 HQ.out.2 (wrap64 (rd V q + 1))
       injection hv with hv1 hv2 hv3
       injection hv1 with hv1
       injection hv1 with hv1
       subst hv1
       have Y6 := Aside0.mk (show w6.heap[gy]? = some (.cells #[.slice (some ad2) ps.length c] 87 (0, 0)) by
        obtain ⟨g_, cap_, hv_, _, _, cs_, hgc_⟩ := Kd.R_form G2.u (by have := HQ.out; omega : 0 < V.length)
        injection hv_ with hv_ _ _
        injection hv_ with hv_
        injection hv_ with hv_
        subst hv_
        rw [← m3]
        exact blk_far (p := ⟨g0, q.toNat, none⟩) Y2 (blk_ne Y2 hgc_ (by decide)) _)
       have G6 := Aside0.mk G6
       clear hv2 hv3 d0 G2 Y2 G Y
       go_wp2
       go_roundw
       case rel => exact ⟨k + 1, _, HKL.out, by go_num, ⟨by rw [List.length_set]; exact hV.out⟩, hI2, G6, Y6⟩
       case measure => simp [intOf]; omega
      ·have hw := Aside0.mk (show spec_l1In.f q 0 ((l0.length : Int) - 1) = some false by
        unfold spec_l1In.f
        split
        ·simp; omega
        ·rfl)
       have hrf : r = false := by
        have h2 := hI.out
        rw [hd2] at h2
        simp only [incs] at h2
        rw [if_neg hin] at h2
        have h3 := hG2.out
        rw [← h2] at h3
        rw [← hr.out]
        refine good_none ?_
        rw [← h3]
        split <;> rfl
       clear hq hd2 hkl hk hI hin hr hG2
       subst hrf
       go_wp2_with (go_at_call 65; refine (spec_l1In.calls q 0 ((l0.length : Int) - 1) false _ hw.out).mono ?_; rintro e w2 ⟨rfl, nd, rfl⟩)
       go_ret
       exact ⟨rfl, pw_below_drewN G.out.b nd⟩
     ·have hkk : ((k : Int) < (ps.length : Int)) = False := eq_false (by omega)
      have hIV := Aside0.mk (show incs l0.length U ps = some V by
       have h1 := hI.out
       rw [List.drop_of_length_le (by omega)] at h1
       simp only [incs] at h1
       exact h1.symm)
      have y0 : wr.cell? ⟨gy, 0, none⟩ = some (.slice A ps.length c) := (blk_cell Y.out 0).trans rfl
      by_cases h200 : (ps.length : Int) > 200
      ·have e200 : decide ((200 : Int) < ps.length) = true := decide_eq_true h200
       have hrf : r = false := by
        rw [← hr.out]
        refine good_none ?_
        rw [← hG2.out, if_pos h200]
       clear hI hr hG2 h200 hkl hk
       subst hrf
       go_wp2
       go_ret
       exact ⟨rfl, G.out.b⟩
      ·have e200 : decide ((200 : Int) < ps.length) = false := decide_eq_false h200
       have hG4 := Aside0.mk (show gV l0.length V (l1.drop (j + 1)) = gV l0.length (List.replicate l0.length 0) l1 by
        rw [← hG2.out, if_neg h200, hIV.out]; rfl)
       clear hI hG2 h200 hkl hk
       go_wp2
       go_roundw
       case rel => exact ⟨j + 1, V, HJ.out, by go_num, hV, hG4, G⟩
       case measure => simp [intOf]; omega
   ·have hjl : ((j : Int) < (l1.length : Int)) = False := eq_false (by omega)
    have hGU := Aside0.mk (show gV l0.length (List.replicate l0.length 0) l1 = some U by
     have h1 := hG.out
     rw [List.drop_of_length_le (by omega)] at h1
     simp only [gV] at h1
     exact h1.symm)
    have d0 : wr.cell? ⟨w.heap.size, 0, none⟩ = some (.slice A0 l0.length c0) := (blk_cell G.out.x _).trans rfl
    clear hj hG hlt
    go_wp2
    clear d0
    go_loopw [50] (fun i w2 => ∃ j : Nat, j ≤ l0.length ∧ i = .int .i64 j ∧ Aside0 (goodP l0 U (l0.length - j) j = goodP l0 U l0.length 0) ∧ Aside0 (GS w w2 A0 l0.length c0 A1 l1.length c1 v U)) (fun i _ => l0.length - (intOf i).toNat)
    case atStart => exact ⟨0, Nat.zero_le _, rfl, ⟨rfl⟩, G⟩
    case round =>
     clear G
     obtain ⟨i, hi, rfl, hP, G⟩ := hrel
     by_cases hil : i < l0.length
     ·obtain ⟨ad, e, hx0, hx1⟩ := at_T89 HR0.out (i : Int) (by omega) (by omega)
      subst e
      simp only [Int.toNat_natCast] at hx0 hx1
      replace hx0 := (G.out.b.cell (World.block_lt_of_cell? w _ hx0)).trans hx0
      replace hx1 := (G.out.b.cell (World.block_lt_of_cell? w _ hx1)).trans hx1
      have hii : ((i : Int) < (l0.length : Int)) = True := eq_true (by omega)
      obtain ⟨t, ht⟩ : ∃ t, (rd_T89 l0 i).f0 = t := ⟨_, rfl⟩
      obtain ⟨u, hu⟩ : ∃ u, (rd_T89 l0 i).f1 = u := ⟨_, rfl⟩
      rw [ht] at hx0
      rw [hu] at hx1
      obtain ⟨W1, hW1⟩ : ∃ V, wr.alloc (.cells #[.string t, .int .i64 u] 89) = V := ⟨_, rfl⟩
      have hb1 : Below wr.heap.size wr W1 := by rw [← hW1]; exact below_alloc (Below.refl _ _) _
      have Y := Aside0.mk (show W1.heap[wr.heap.size]? = some (.cells #[.string t, .int .i64 u] 89 (0, 0)) by rw [← hW1]; exact heap_alloc_new wr _)
      have G1 := Aside0.mk (G.out.below hb1)
      have HUL := Aside0.mk (show U.length = l0.length from hU.out)
      obtain ⟨g, cap, hv, hg1, hg2, cs, hgc⟩ := Kd.R_form G1.out.u (by have := hU.out; omega : 0 < U.length)
      obtain ⟨x, hx⟩ : ∃ x, rd U (i : Int) = x := ⟨_, rfl⟩
      have HK := Aside0.mk (show ∀ W, GS w W (some ad) l0.length c0 A1 l1.length c1 v U → W.heap[wr.heap.size]? = some (.cells #[.string t, .int .i64 u] 89 (0, 0)) → W.cell? ⟨wr.heap.size, 0, none⟩ = some (.string t) ∧ W.cell? ⟨wr.heap.size, 1, none⟩ = some (.int .i64 u) ∧ W.cell? ⟨w.heap.size, 0, none⟩ = some (.slice (some ad) l0.length c0) ∧ W.cell? ⟨g, i, none⟩ = some (.int .i64 x) from fun W hG hY => ⟨(blk_cell hY 0).trans rfl, (blk_cell hY 1).trans rfl, (blk_cell hG.x 0).trans rfl, by
       subst hv
       have := (Kd.R_celln (d := (0 : Int)) hG.u (i : Int) (by omega) (by have := hU.out; omega)).1
       rw [Int.toNat_natCast] at this
       rw [← hx]
       exact this⟩)
      have hP1 := Aside0.mk (show (if okP l0 U i = true then goodP l0 U (l0.length - (i + 1)) (i + 1) else false) = goodP l0 U l0.length 0 by
       have h1 := hP.out
       rw [show l0.length - i = (l0.length - (i + 1)) + 1 by omega] at h1
       exact h1)
      have hok : okP l0 U i = (if 1 ≤ t.size ∧ t.size ≤ 24 then (if seenB l0 i t = true then false else if u = x then decide (1 ≤ u) else false) else false) := by
       unfold okP
       rw [ht, hu, hx]
      have HOK := Aside0.mk hok
      have HIL := Aside0.mk hil
      subst hv
      have p2 : ((i : Int) < (U.length : Int)) = True := eq_true (by have := hU.out; omega)
      clear hP ht hu hg1 hg2 hgc hx hok hb1 G
      go_wp2
      clear hx0 hx1 hW1
      generalize wr.heap.size = gx at HK Y ⊢
      by_cases hsz : 1 ≤ t.size ∧ t.size ≤ 24
      ·have hw := Aside0.mk (show spec_l1In.f (t.size : Int) 1 24 = some true by
        unfold spec_l1In.f
        rw [if_pos (by omega)]
        simp; omega)
       obtain ⟨rr, kk, hat, hrr⟩ := at_ex l0 t HNN.out i (Nat.le_of_lt HIL.out)
       have HAT := Aside0.mk hat
       have hts : t.size ≤ 24 := hsz.2
       have hin : (i : Int) ≤ (l0.length : Int) := by omega
       have hi0 : (i ≤ c0) = True := eq_true (by have := HC0.out; omega)
       have hi1 : ((i : Int) ≤ (l0.length : Int)) = True := eq_true hin
       cases hsn : seenB l0 i t with
       | true =>
        have hr1 : decide (0 ≤ rr) = true := decide_eq_true (hrr.2 hsn)
        have hr2 : (0 ≤ rr) = True := eq_true (hrr.2 hsn)
        have hrf : r = false := by
         rw [← hr.out]
         refine good_bad hGU.out ?_
         rw [← hP1.out, HOK.out, if_pos hsz, if_pos hsn]
         rfl
        clear hsz hrr hsn hP1 HOK hr hat
        subst hrf
        refine start_ (n := 29) (S := fun w' => w'.cell? ⟨gx, 0, none⟩ = some (.string t) ∧ w'.cell? ⟨gx, 1, none⟩ = some (.int .i64 u) ∧ w'.cell? ⟨w.heap.size, 0, none⟩ = some (.slice (some ad) l0.length c0) ∧ w'.cell? ⟨g, i, none⟩ = some (.int .i64 x)) (ds := []) (fl 29 0) (by kernel_rfl) rfl (by kernel_rfl) ⟨(HK.out _ G1.out Y.out).1, (HK.out _ G1.out Y.out).2.1, (HK.out _ G1.out Y.out).2.2.1, (HK.out _ G1.out Y.out).2.2.2⟩ (fun hHeld => ?_)
        replace G1 := Aside0.mk (G1.out.below (below_drew1 (Below.refl _ _)))
        replace Y := Aside0.mk (blk_drew Y.out)
        generalize W1.drew = W2 at G1 Y hHeld ⊢
        refine pure_ (i := 0) (N := some 55) (v := ?_) (a' := ?_) (fl 29 1) rfl rfl (by kernel_rfl) (fun _ _ _ h => h) (Or.inl ⟨by rfl, ?_⟩) ?_ ?_
        rotate_left
        ·intro w'
         go_simp
         with_reducible rfl
        rotate_left
        ·simp only [Act.put, List.setIfInBounds_toArray, List.set_cons_zero, List.set_cons_succ, i64_w, i32_w]
         rfl
        refine take_ (i := 1) (N := some 56) (v := ?_) (a' := ?_) (fl 29 3) rfl rfl (by kernel_rfl) (fun _ _ _ h => h) (Or.inl ⟨by rfl, ?_⟩) hHeld ?_ ?_
        rotate_left
        ·rintro w' ⟨s0, s1, s2, s3⟩
         go_simp
         with_reducible rfl
        rotate_left
        ·simp only [Act.put, List.setIfInBounds_toArray, List.set_cons_zero, List.set_cons_succ, i64_w, i32_w]
         rfl
        refine pure_ (i := 2) (N := some 57) (v := ?_) (a' := ?_) (fl 29 7) rfl rfl (by kernel_rfl) (fun _ _ _ h => h) (Or.inl ⟨by rfl, ?_⟩) ?_ ?_
        rotate_left
        ·intro w'
         go_simp
         with_reducible rfl
        rotate_left
        ·simp only [Act.put, List.setIfInBounds_toArray, List.set_cons_zero, List.set_cons_succ, i64_w, i32_w]
         rfl
        refine one_ (i := 3) (N := some 58) (fl 29 15) rfl rfl (by kernel_rfl) (by decide) (fun K hK => ?_)
        refine goes_ Try.func65 (by kernel_rfl) rfl #[.int .i64 (t.size : Int), .int .i64 1, .int .i64 24] (by rfl) rfl rfl (by (try simp only [List.map_toArray, List.map_cons, List.map_nil]); first | done | rfl | (simp only [List.length_drop, List.length_take]; rfl)) ?_
        refine (spec_l1In.calls (t.size : Int) 1 24 true _ hw.out).mono ?_
        rintro e w' ⟨rfl, nd, rfl⟩
        refine ⟨_, rfl, ?_⟩
        replace G1 := Aside0.mk (G1.out.drewN nd)
        replace Y := Aside0.mk (blk_drewN Y.out nd)
        refine hK.out _ _ ⟨(HK.out _ G1.out Y.out).1, (HK.out _ G1.out Y.out).2.1, (HK.out _ G1.out Y.out).2.2.1, (HK.out _ G1.out Y.out).2.2.2⟩ (fun hHeld => ?_)
        clear hK K
        refine norm_ (a' := ?_) ?_ ?_
        rotate_left
        ·show Act.put _ (some 58) _ = _
         simp only [Act.put, List.setIfInBounds_toArray, List.set_cons_zero, List.set_cons_succ, i64_w, i32_w]
         rfl
        generalize W2.drewN nd = W3 at G1 Y hHeld ⊢
        refine pure_ (i := 4) (N := some 59) (v := ?_) (a' := ?_) (fl 29 31) rfl rfl (by kernel_rfl) (fun _ _ _ h => h) (Or.inl ⟨by rfl, ?_⟩) ?_ ?_
        rotate_left
        ·intro w'
         go_simp
         with_reducible rfl
        rotate_left
        ·simp only [Act.put, List.setIfInBounds_toArray, List.set_cons_zero, List.set_cons_succ, i64_w, i32_w]
         rfl
        refine pure_ (i := 5) (N := some 60) (v := ?_) (a' := ?_) (fl 29 63) rfl rfl (by kernel_rfl) (fun _ _ _ h => h) (Or.inl ⟨by rfl, ?_⟩) ?_ ?_
        rotate_left
        ·intro w'
         go_simp
         with_reducible rfl
        rotate_left
        ·simp only [Act.put, List.setIfInBounds_toArray, List.set_cons_zero, List.set_cons_succ, i64_w, i32_w]
         rfl
        refine pure_ (i := 6) (N := some 61) (v := ?_) (a' := ?_) (fl 29 127) rfl rfl (by kernel_rfl) (fun _ _ _ h => h) (Or.inl ⟨by rfl, ?_⟩) ?_ ?_
        rotate_left
        ·intro w'
         go_simp
         with_reducible rfl
        rotate_left
        ·simp only [Act.put, List.setIfInBounds_toArray, List.set_cons_zero, List.set_cons_succ, i64_w, i32_w]
         rfl
        refine pure_ (i := 8) (N := some 63) (v := ?_) (a' := ?_) (fl 29 383) rfl rfl (by kernel_rfl) (fun _ _ _ h => h) (Or.inl ⟨by rfl, ?_⟩) ?_ ?_
        rotate_left
        ·intro w'
         go_simp
         with_reducible rfl
        rotate_left
        ·simp only [Act.put, List.setIfInBounds_toArray, List.set_cons_zero, List.set_cons_succ, i64_w, i32_w]
         rfl
        refine pure_ (i := 10) (N := some 65) (v := ?_) (a' := ?_) (fl 29 1407) rfl rfl (by kernel_rfl) (fun _ _ _ h => h) (Or.inl ⟨by rfl, ?_⟩) ?_ ?_
        rotate_left
        ·intro w'
         go_simp
         with_reducible rfl
        rotate_left
        ·simp only [Act.put, List.setIfInBounds_toArray, List.set_cons_zero, List.set_cons_succ, i64_w, i32_w]
         rfl
        refine take_ (i := 7) (N := some 62) (v := ?_) (a' := ?_) (fl 29 1535) rfl rfl (by kernel_rfl) (fun _ _ _ h => h) (Or.inl ⟨by rfl, ?_⟩) hHeld ?_ ?_
        rotate_left
        ·rintro w' ⟨s0, s1, s2, s3⟩
         go_simp
         with_reducible rfl
        rotate_left
        ·simp only [Act.put, List.setIfInBounds_toArray, List.set_cons_zero, List.set_cons_succ, i64_w, i32_w]
         rfl
        refine pure_ (i := 9) (N := some 64) (v := ?_) (a' := ?_) (fl 29 2047) rfl rfl (by kernel_rfl) (fun _ _ _ h => h) (Or.inl ⟨by rfl, ?_⟩) ?_ ?_
        rotate_left
        ·intro w'
         go_simp
         with_reducible rfl
        rotate_left
        ·simp only [Act.put, List.setIfInBounds_toArray, List.set_cons_zero, List.set_cons_succ, i64_w, i32_w]
         rfl
        refine take_ (i := 11) (N := some 66) (v := ?_) (a' := ?_) (fl 29 4095) rfl rfl (by kernel_rfl) (fun _ _ _ h => h) (Or.inl ⟨by rfl, ?_⟩) hHeld ?_ ?_
        rotate_left
        ·rintro w' ⟨s0, s1, s2, s3⟩
         go_simp
         with_reducible rfl
        rotate_left
        ·simp only [Act.put, List.setIfInBounds_toArray, List.set_cons_zero, List.set_cons_succ, i64_w, i32_w]
         rfl
        refine one_ (i := 12) (N := some 67) (fl 29 8191) rfl rfl (by kernel_rfl) (by decide) (fun K hK => ?_)
        refine goes_ Try.func68 (by kernel_rfl) rfl #[.slice (some ad) i c0, .string t] (by rfl) rfl rfl (by (try simp only [List.map_toArray, List.map_cons, List.map_nil]); first | done | rfl | (simp only [List.length_drop, List.length_take]; rfl)) ?_
        refine (l15At_take kk (some ad) c0 l0 i t rr W3 (Kd.C_below HR0.out G1.out.b) HC0.out (Nat.le_of_lt HIL.out) HAT.out).mono ?_
        rintro e w5 ⟨rfl, hb⟩
        refine ⟨_, rfl, ?_⟩
        replace G1 := Aside0.mk (G1.out.below hb)
        replace Y := Aside0.mk (blk_below Y.out hb)
        clear hb
        refine hK.out _ _ ⟨(HK.out _ G1.out Y.out).1, (HK.out _ G1.out Y.out).2.1, (HK.out _ G1.out Y.out).2.2.1, (HK.out _ G1.out Y.out).2.2.2⟩ (fun hHeld => ?_)
        clear hK K
        refine norm_ (a' := ?_) ?_ ?_
        rotate_left
        ·show Act.put _ (some 67) _ = _
         simp only [Act.put, List.setIfInBounds_toArray, List.set_cons_zero, List.set_cons_succ, i64_w, i32_w]
         rfl
        refine pure_ (i := 13) (N := some 68) (v := ?_) (a' := ?_) (fl 29 16383) rfl rfl (by kernel_rfl) (fun _ _ _ h => h) (Or.inl ⟨by rfl, ?_⟩) ?_ ?_
        rotate_left
        ·intro w'
         go_simp
         with_reducible rfl
        rotate_left
        ·simp only [Act.put, List.setIfInBounds_toArray, List.set_cons_zero, List.set_cons_succ, i64_w, i32_w]
         rfl
        refine pure_ (i := 14) (N := some 69) (v := ?_) (a' := ?_) (fl 29 32767) rfl rfl (by kernel_rfl) (fun _ _ _ h => h) (Or.inl ⟨by rfl, ?_⟩) ?_ ?_
        rotate_left
        ·intro w'
         go_simp
         with_reducible rfl
        rotate_left
        ·simp only [Act.put, List.setIfInBounds_toArray, List.set_cons_zero, List.set_cons_succ, i64_w, i32_w]
         rfl
        refine pure_ (i := 15) (N := some 70) (v := ?_) (a' := ?_) (fl 29 65535) rfl rfl (by kernel_rfl) (fun _ _ _ h => h) (Or.inl ⟨by rfl, ?_⟩) ?_ ?_
        rotate_left
        ·intro w'
         go_simp
         with_reducible rfl
        rotate_left
        ·simp only [Act.put, List.setIfInBounds_toArray, List.set_cons_zero, List.set_cons_succ, i64_w, i32_w]
         rfl
        refine pure_ (i := 16) (N := some 71) (v := undef) (a' := ?_) (fl 29 131071) rfl rfl (by kernel_rfl) (fun _ _ _ h => h) (Or.inr ⟨by rfl, rfl⟩) ?_ ?_
        rotate_left
        ·simp only [Act.put, List.setIfInBounds_toArray, List.set_cons_zero, List.set_cons_succ, i64_w, i32_w]
         rfl
        refine pure_ (i := 17) (N := some 72) (v := undef) (a' := ?_) (fl 29 262143) rfl rfl (by kernel_rfl) (fun _ _ _ h => h) (Or.inr ⟨by rfl, rfl⟩) ?_ ?_
        rotate_left
        ·simp only [Act.put, List.setIfInBounds_toArray, List.set_cons_zero, List.set_cons_succ, i64_w, i32_w]
         rfl
        refine pure_ (i := 18) (N := some 73) (v := undef) (a' := ?_) (fl 29 524287) rfl rfl (by kernel_rfl) (fun _ _ _ h => h) (Or.inr ⟨by rfl, rfl⟩) ?_ ?_
        rotate_left
        ·simp only [Act.put, List.setIfInBounds_toArray, List.set_cons_zero, List.set_cons_succ, i64_w, i32_w]
         rfl
        refine pure_ (i := 19) (N := some 74) (v := undef) (a' := ?_) (fl 29 1048575) rfl rfl (by kernel_rfl) (fun _ _ _ h => h) (Or.inr ⟨by rfl, rfl⟩) ?_ ?_
        rotate_left
        ·simp only [Act.put, List.setIfInBounds_toArray, List.set_cons_zero, List.set_cons_succ, i64_w, i32_w]
         rfl
        refine pure_ (i := 20) (N := some 75) (v := undef) (a' := ?_) (fl 29 2097151) rfl rfl (by kernel_rfl) (fun _ _ _ h => h) (Or.inr ⟨by rfl, rfl⟩) ?_ ?_
        rotate_left
        ·simp only [Act.put, List.setIfInBounds_toArray, List.set_cons_zero, List.set_cons_succ, i64_w, i32_w]
         rfl
        refine pure_ (i := 21) (N := some 76) (v := undef) (a' := ?_) (fl 29 4194303) rfl rfl (by kernel_rfl) (fun _ _ _ h => h) (Or.inr ⟨by rfl, rfl⟩) ?_ ?_
        rotate_left
        ·simp only [Act.put, List.setIfInBounds_toArray, List.set_cons_zero, List.set_cons_succ, i64_w, i32_w]
         rfl
        refine pure_ (i := 22) (N := some 77) (v := undef) (a' := ?_) (fl 29 8388607) rfl rfl (by kernel_rfl) (fun _ _ _ h => h) (Or.inr ⟨by rfl, rfl⟩) ?_ ?_
        rotate_left
        ·simp only [Act.put, List.setIfInBounds_toArray, List.set_cons_zero, List.set_cons_succ, i64_w, i32_w]
         rfl
        refine pure_ (i := 23) (N := some 78) (v := ?_) (a' := ?_) (fl 29 16777215) rfl rfl (by kernel_rfl) (fun _ _ _ h => h) (Or.inl ⟨by rfl, ?_⟩) ?_ ?_
        rotate_left
        ·intro w'
         go_simp
         with_reducible rfl
        rotate_left
        ·simp only [Act.put, List.setIfInBounds_toArray, List.set_cons_zero, List.set_cons_succ, i64_w, i32_w]
         rfl
        refine pure_ (i := 24) (N := some 79) (v := ?_) (a' := ?_) (fl 29 33554431) rfl rfl (by kernel_rfl) (fun _ _ _ h => h) (Or.inl ⟨by rfl, ?_⟩) ?_ ?_
        rotate_left
        ·intro w'
         go_simp
         with_reducible rfl
        rotate_left
        ·simp only [Act.put, List.setIfInBounds_toArray, List.set_cons_zero, List.set_cons_succ, i64_w, i32_w]
         rfl
        refine pure_ (i := 25) (N := some 80) (v := undef) (a' := ?_) (fl 29 67108863) rfl rfl (by kernel_rfl) (fun _ _ _ h => h) (Or.inr ⟨by rfl, rfl⟩) ?_ ?_
        rotate_left
        ·simp only [Act.put, List.setIfInBounds_toArray, List.set_cons_zero, List.set_cons_succ, i64_w, i32_w]
         rfl
        refine pure_ (i := 26) (N := some 81) (v := undef) (a' := ?_) (fl 29 134217727) rfl rfl (by kernel_rfl) (fun _ _ _ h => h) (Or.inr ⟨by rfl, rfl⟩) ?_ ?_
        rotate_left
        ·simp only [Act.put, List.setIfInBounds_toArray, List.set_cons_zero, List.set_cons_succ, i64_w, i32_w]
         rfl
        refine pure_ (i := 27) (N := some 82) (v := undef) (a' := ?_) (fl 29 268435455) rfl rfl (by kernel_rfl) (fun _ _ _ h => h) (Or.inr ⟨by rfl, rfl⟩) ?_ ?_
        rotate_left
        ·simp only [Act.put, List.setIfInBounds_toArray, List.set_cons_zero, List.set_cons_succ, i64_w, i32_w]
         rfl
        refine pure_ (i := 28) (N := some 83) (v := ?_) (a' := ?_) (fl 29 536870911) rfl rfl (by kernel_rfl) (fun _ _ _ h => h) (Or.inl ⟨by rfl, ?_⟩) ?_ ?_
        rotate_left
        ·intro w'
         go_simp
         with_reducible rfl
        rotate_left
        ·simp only [Act.put, List.setIfInBounds_toArray, List.set_cons_zero, List.set_cons_succ, i64_w, i32_w]
         rfl
        refine done_ (by kernel_rfl) ?_
        clear hHeld
        try go_wp2
        go_ret
        exact ⟨rfl, G1.out.b⟩
       | false =>
        have hr0_ : ¬ (0 ≤ rr) := fun h_ => by have := hrr.1 h_; rw [hsn] at this; cases this
        have hr1 : decide (0 ≤ rr) = false := decide_eq_false hr0_
        have hr2 : (0 ≤ rr) = False := eq_false hr0_
        by_cases hux : u = x
        ·have hne1 : (u == x) = true := by simpa using hux
         have hne2 : (u != x) = false := by simpa using hux
         have hne3 : (u = x) = True := eq_true hux
         by_cases hu1 : 1 ≤ u
         ·have hlt1 : decide (u < 1) = false := decide_eq_false (by omega)
          have hlt2 : (u < 1) = False := eq_false (by omega)
          have hP2 := Aside0.mk (show goodP l0 U (l0.length - (i + 1)) (i + 1) = goodP l0 U l0.length 0 by
           have h1 := hP1.out
           rw [HOK.out, if_pos hsz, hsn, if_neg (show ¬ (false = true) by decide), if_pos hux, decide_eq_true hu1, if_pos rfl] at h1
           exact h1)
          clear hsz hrr hsn hP1 HOK hat hr0_ hu1 hux
          refine start_ (n := 29) (S := fun w' => w'.cell? ⟨gx, 0, none⟩ = some (.string t) ∧ w'.cell? ⟨gx, 1, none⟩ = some (.int .i64 u) ∧ w'.cell? ⟨w.heap.size, 0, none⟩ = some (.slice (some ad) l0.length c0) ∧ w'.cell? ⟨g, i, none⟩ = some (.int .i64 x)) (ds := []) (fl 29 0) (by kernel_rfl) rfl (by kernel_rfl) ⟨(HK.out _ G1.out Y.out).1, (HK.out _ G1.out Y.out).2.1, (HK.out _ G1.out Y.out).2.2.1, (HK.out _ G1.out Y.out).2.2.2⟩ (fun hHeld => ?_)
          replace G1 := Aside0.mk (G1.out.below (below_drew1 (Below.refl _ _)))
          replace Y := Aside0.mk (blk_drew Y.out)
          generalize W1.drew = W2 at G1 Y hHeld ⊢
          refine pure_ (i := 0) (N := some 55) (v := ?_) (a' := ?_) (fl 29 1) rfl rfl (by kernel_rfl) (fun _ _ _ h => h) (Or.inl ⟨by rfl, ?_⟩) ?_ ?_
          rotate_left
          ·intro w'
           go_simp
           with_reducible rfl
          rotate_left
          ·simp only [Act.put, List.setIfInBounds_toArray, List.set_cons_zero, List.set_cons_succ, i64_w, i32_w]
           rfl
          refine take_ (i := 1) (N := some 56) (v := ?_) (a' := ?_) (fl 29 3) rfl rfl (by kernel_rfl) (fun _ _ _ h => h) (Or.inl ⟨by rfl, ?_⟩) hHeld ?_ ?_
          rotate_left
          ·rintro w' ⟨s0, s1, s2, s3⟩
           go_simp
           with_reducible rfl
          rotate_left
          ·simp only [Act.put, List.setIfInBounds_toArray, List.set_cons_zero, List.set_cons_succ, i64_w, i32_w]
           rfl
          refine pure_ (i := 2) (N := some 57) (v := ?_) (a' := ?_) (fl 29 7) rfl rfl (by kernel_rfl) (fun _ _ _ h => h) (Or.inl ⟨by rfl, ?_⟩) ?_ ?_
          rotate_left
          ·intro w'
           go_simp
           with_reducible rfl
          rotate_left
          ·simp only [Act.put, List.setIfInBounds_toArray, List.set_cons_zero, List.set_cons_succ, i64_w, i32_w]
           rfl
          refine one_ (i := 3) (N := some 58) (fl 29 15) rfl rfl (by kernel_rfl) (by decide) (fun K hK => ?_)
          refine goes_ Try.func65 (by kernel_rfl) rfl #[.int .i64 (t.size : Int), .int .i64 1, .int .i64 24] (by rfl) rfl rfl (by (try simp only [List.map_toArray, List.map_cons, List.map_nil]); first | done | rfl | (simp only [List.length_drop, List.length_take]; rfl)) ?_
          refine (spec_l1In.calls (t.size : Int) 1 24 true _ hw.out).mono ?_
          rintro e w' ⟨rfl, nd, rfl⟩
          refine ⟨_, rfl, ?_⟩
          replace G1 := Aside0.mk (G1.out.drewN nd)
          replace Y := Aside0.mk (blk_drewN Y.out nd)
          refine hK.out _ _ ⟨(HK.out _ G1.out Y.out).1, (HK.out _ G1.out Y.out).2.1, (HK.out _ G1.out Y.out).2.2.1, (HK.out _ G1.out Y.out).2.2.2⟩ (fun hHeld => ?_)
          clear hK K
          refine norm_ (a' := ?_) ?_ ?_
          rotate_left
          ·show Act.put _ (some 58) _ = _
           simp only [Act.put, List.setIfInBounds_toArray, List.set_cons_zero, List.set_cons_succ, i64_w, i32_w]
           rfl
          generalize W2.drewN nd = W3 at G1 Y hHeld ⊢
          refine pure_ (i := 4) (N := some 59) (v := ?_) (a' := ?_) (fl 29 31) rfl rfl (by kernel_rfl) (fun _ _ _ h => h) (Or.inl ⟨by rfl, ?_⟩) ?_ ?_
          rotate_left
          ·intro w'
           go_simp
           with_reducible rfl
          rotate_left
          ·simp only [Act.put, List.setIfInBounds_toArray, List.set_cons_zero, List.set_cons_succ, i64_w, i32_w]
           rfl
          refine pure_ (i := 5) (N := some 60) (v := ?_) (a' := ?_) (fl 29 63) rfl rfl (by kernel_rfl) (fun _ _ _ h => h) (Or.inl ⟨by rfl, ?_⟩) ?_ ?_
          rotate_left
          ·intro w'
           go_simp
           with_reducible rfl
          rotate_left
          ·simp only [Act.put, List.setIfInBounds_toArray, List.set_cons_zero, List.set_cons_succ, i64_w, i32_w]
           rfl
          refine pure_ (i := 6) (N := some 61) (v := ?_) (a' := ?_) (fl 29 127) rfl rfl (by kernel_rfl) (fun _ _ _ h => h) (Or.inl ⟨by rfl, ?_⟩) ?_ ?_
          rotate_left
          ·intro w'
           go_simp
           with_reducible rfl
          rotate_left
          ·simp only [Act.put, List.setIfInBounds_toArray, List.set_cons_zero, List.set_cons_succ, i64_w, i32_w]
           rfl
          refine pure_ (i := 8) (N := some 63) (v := ?_) (a' := ?_) (fl 29 383) rfl rfl (by kernel_rfl) (fun _ _ _ h => h) (Or.inl ⟨by rfl, ?_⟩) ?_ ?_
          rotate_left
          ·intro w'
           go_simp
           with_reducible rfl
          rotate_left
          ·simp only [Act.put, List.setIfInBounds_toArray, List.set_cons_zero, List.set_cons_succ, i64_w, i32_w]
           rfl
          refine pure_ (i := 10) (N := some 65) (v := ?_) (a' := ?_) (fl 29 1407) rfl rfl (by kernel_rfl) (fun _ _ _ h => h) (Or.inl ⟨by rfl, ?_⟩) ?_ ?_
          rotate_left
          ·intro w'
           go_simp
           with_reducible rfl
          rotate_left
          ·simp only [Act.put, List.setIfInBounds_toArray, List.set_cons_zero, List.set_cons_succ, i64_w, i32_w]
           rfl
          refine take_ (i := 7) (N := some 62) (v := ?_) (a' := ?_) (fl 29 1535) rfl rfl (by kernel_rfl) (fun _ _ _ h => h) (Or.inl ⟨by rfl, ?_⟩) hHeld ?_ ?_
          rotate_left
          ·rintro w' ⟨s0, s1, s2, s3⟩
           go_simp
           with_reducible rfl
          rotate_left
          ·simp only [Act.put, List.setIfInBounds_toArray, List.set_cons_zero, List.set_cons_succ, i64_w, i32_w]
           rfl
          refine pure_ (i := 9) (N := some 64) (v := ?_) (a' := ?_) (fl 29 2047) rfl rfl (by kernel_rfl) (fun _ _ _ h => h) (Or.inl ⟨by rfl, ?_⟩) ?_ ?_
          rotate_left
          ·intro w'
           go_simp
           with_reducible rfl
          rotate_left
          ·simp only [Act.put, List.setIfInBounds_toArray, List.set_cons_zero, List.set_cons_succ, i64_w, i32_w]
           rfl
          refine take_ (i := 11) (N := some 66) (v := ?_) (a' := ?_) (fl 29 4095) rfl rfl (by kernel_rfl) (fun _ _ _ h => h) (Or.inl ⟨by rfl, ?_⟩) hHeld ?_ ?_
          rotate_left
          ·rintro w' ⟨s0, s1, s2, s3⟩
           go_simp
           with_reducible rfl
          rotate_left
          ·simp only [Act.put, List.setIfInBounds_toArray, List.set_cons_zero, List.set_cons_succ, i64_w, i32_w]
           rfl
          refine one_ (i := 12) (N := some 67) (fl 29 8191) rfl rfl (by kernel_rfl) (by decide) (fun K hK => ?_)
          refine goes_ Try.func68 (by kernel_rfl) rfl #[.slice (some ad) i c0, .string t] (by rfl) rfl rfl (by (try simp only [List.map_toArray, List.map_cons, List.map_nil]); first | done | rfl | (simp only [List.length_drop, List.length_take]; rfl)) ?_
          refine (l15At_take kk (some ad) c0 l0 i t rr W3 (Kd.C_below HR0.out G1.out.b) HC0.out (Nat.le_of_lt HIL.out) HAT.out).mono ?_
          rintro e w5 ⟨rfl, hb⟩
          refine ⟨_, rfl, ?_⟩
          replace G1 := Aside0.mk (G1.out.below hb)
          replace Y := Aside0.mk (blk_below Y.out hb)
          clear hb
          refine hK.out _ _ ⟨(HK.out _ G1.out Y.out).1, (HK.out _ G1.out Y.out).2.1, (HK.out _ G1.out Y.out).2.2.1, (HK.out _ G1.out Y.out).2.2.2⟩ (fun hHeld => ?_)
          clear hK K
          refine norm_ (a' := ?_) ?_ ?_
          rotate_left
          ·show Act.put _ (some 67) _ = _
           simp only [Act.put, List.setIfInBounds_toArray, List.set_cons_zero, List.set_cons_succ, i64_w, i32_w]
           rfl
          refine pure_ (i := 13) (N := some 68) (v := ?_) (a' := ?_) (fl 29 16383) rfl rfl (by kernel_rfl) (fun _ _ _ h => h) (Or.inl ⟨by rfl, ?_⟩) ?_ ?_
          rotate_left
          ·intro w'
           go_simp
           with_reducible rfl
          rotate_left
          ·simp only [Act.put, List.setIfInBounds_toArray, List.set_cons_zero, List.set_cons_succ, i64_w, i32_w]
           rfl
          refine pure_ (i := 14) (N := some 69) (v := ?_) (a' := ?_) (fl 29 32767) rfl rfl (by kernel_rfl) (fun _ _ _ h => h) (Or.inl ⟨by rfl, ?_⟩) ?_ ?_
          rotate_left
          ·intro w'
           go_simp
           with_reducible rfl
          rotate_left
          ·simp only [Act.put, List.setIfInBounds_toArray, List.set_cons_zero, List.set_cons_succ, i64_w, i32_w]
           rfl
          refine pure_ (i := 15) (N := some 70) (v := ?_) (a' := ?_) (fl 29 65535) rfl rfl (by kernel_rfl) (fun _ _ _ h => h) (Or.inl ⟨by rfl, ?_⟩) ?_ ?_
          rotate_left
          ·intro w'
           go_simp
           with_reducible rfl
          rotate_left
          ·simp only [Act.put, List.setIfInBounds_toArray, List.set_cons_zero, List.set_cons_succ, i64_w, i32_w]
           rfl
          refine pure_ (i := 16) (N := some 71) (v := ?_) (a' := ?_) (fl 29 131071) rfl rfl (by kernel_rfl) (fun _ _ _ h => h) (Or.inl ⟨by rfl, ?_⟩) ?_ ?_
          rotate_left
          ·intro w'
           go_simp
           with_reducible rfl
          rotate_left
          ·simp only [Act.put, List.setIfInBounds_toArray, List.set_cons_zero, List.set_cons_succ, i64_w, i32_w]
           rfl
          refine take_ (i := 17) (N := some 72) (v := ?_) (a' := ?_) (fl 29 262143) rfl rfl (by kernel_rfl) (fun _ _ _ h => h) (Or.inl ⟨by rfl, ?_⟩) hHeld ?_ ?_
          rotate_left
          ·rintro w' ⟨s0, s1, s2, s3⟩
           go_simp
           with_reducible rfl
          rotate_left
          ·simp only [Act.put, List.setIfInBounds_toArray, List.set_cons_zero, List.set_cons_succ, i64_w, i32_w]
           rfl
          refine pure_ (i := 18) (N := some 73) (v := ?_) (a' := ?_) (fl 29 524287) rfl rfl (by kernel_rfl) (fun _ _ _ h => h) (Or.inl ⟨by rfl, ?_⟩) ?_ ?_
          rotate_left
          ·intro w'
           go_simp
           with_reducible rfl
          rotate_left
          ·simp only [Act.put, List.setIfInBounds_toArray, List.set_cons_zero, List.set_cons_succ, i64_w, i32_w]
           rfl
          refine pure_ (i := 19) (N := some 74) (v := ?_) (a' := ?_) (fl 29 1048575) rfl rfl (by kernel_rfl) (fun _ _ _ h => h) (Or.inl ⟨by rfl, ?_⟩) ?_ ?_
          rotate_left
          ·intro w'
           go_simp
           with_reducible rfl
          rotate_left
          ·simp only [Act.put, List.setIfInBounds_toArray, List.set_cons_zero, List.set_cons_succ, i64_w, i32_w]
           rfl
          refine pure_ (i := 20) (N := some 75) (v := ?_) (a' := ?_) (fl 29 2097151) rfl rfl (by kernel_rfl) (fun _ _ _ h => h) (Or.inl ⟨by rfl, ?_⟩) ?_ ?_
          rotate_left
          ·intro w'
           go_simp
           with_reducible rfl
          rotate_left
          ·simp only [Act.put, List.setIfInBounds_toArray, List.set_cons_zero, List.set_cons_succ, i64_w, i32_w]
           rfl
          refine take_ (i := 21) (N := some 76) (v := ?_) (a' := ?_) (fl 29 4194303) rfl rfl (by kernel_rfl) (fun _ _ _ h => h) (Or.inl ⟨by rfl, ?_⟩) hHeld ?_ ?_
          rotate_left
          ·rintro w' ⟨s0, s1, s2, s3⟩
           go_simp
           with_reducible rfl
          rotate_left
          ·simp only [Act.put, List.setIfInBounds_toArray, List.set_cons_zero, List.set_cons_succ, i64_w, i32_w]
           rfl
          refine pure_ (i := 22) (N := some 77) (v := ?_) (a' := ?_) (fl 29 8388607) rfl rfl (by kernel_rfl) (fun _ _ _ h => h) (Or.inl ⟨by rfl, ?_⟩) ?_ ?_
          rotate_left
          ·intro w'
           go_simp
           with_reducible rfl
          rotate_left
          ·simp only [Act.put, List.setIfInBounds_toArray, List.set_cons_zero, List.set_cons_succ, i64_w, i32_w]
           rfl
          refine pure_ (i := 23) (N := some 78) (v := ?_) (a' := ?_) (fl 29 16777215) rfl rfl (by kernel_rfl) (fun _ _ _ h => h) (Or.inl ⟨by rfl, ?_⟩) ?_ ?_
          rotate_left
          ·intro w'
           go_simp
           with_reducible rfl
          rotate_left
          ·simp only [Act.put, List.setIfInBounds_toArray, List.set_cons_zero, List.set_cons_succ, i64_w, i32_w]
           rfl
          refine pure_ (i := 24) (N := some 79) (v := ?_) (a' := ?_) (fl 29 33554431) rfl rfl (by kernel_rfl) (fun _ _ _ h => h) (Or.inl ⟨by rfl, ?_⟩) ?_ ?_
          rotate_left
          ·intro w'
           go_simp
           with_reducible rfl
          rotate_left
          ·simp only [Act.put, List.setIfInBounds_toArray, List.set_cons_zero, List.set_cons_succ, i64_w, i32_w]
           rfl
          refine pure_ (i := 25) (N := some 80) (v := ?_) (a' := ?_) (fl 29 67108863) rfl rfl (by kernel_rfl) (fun _ _ _ h => h) (Or.inl ⟨by rfl, ?_⟩) ?_ ?_
          rotate_left
          ·intro w'
           go_simp
           with_reducible rfl
          rotate_left
          ·simp only [Act.put, List.setIfInBounds_toArray, List.set_cons_zero, List.set_cons_succ, i64_w, i32_w]
           rfl
          refine take_ (i := 26) (N := some 81) (v := ?_) (a' := ?_) (fl 29 134217727) rfl rfl (by kernel_rfl) (fun _ _ _ h => h) (Or.inl ⟨by rfl, ?_⟩) hHeld ?_ ?_
          rotate_left
          ·rintro w' ⟨s0, s1, s2, s3⟩
           go_simp
           with_reducible rfl
          rotate_left
          ·simp only [Act.put, List.setIfInBounds_toArray, List.set_cons_zero, List.set_cons_succ, i64_w, i32_w]
           rfl
          refine pure_ (i := 27) (N := some 82) (v := ?_) (a' := ?_) (fl 29 268435455) rfl rfl (by kernel_rfl) (fun _ _ _ h => h) (Or.inl ⟨by rfl, ?_⟩) ?_ ?_
          rotate_left
          ·intro w'
           go_simp
           with_reducible rfl
          rotate_left
          ·simp only [Act.put, List.setIfInBounds_toArray, List.set_cons_zero, List.set_cons_succ, i64_w, i32_w]
           rfl
          refine pure_ (i := 28) (N := some 83) (v := ?_) (a' := ?_) (fl 29 536870911) rfl rfl (by kernel_rfl) (fun _ _ _ h => h) (Or.inl ⟨by rfl, ?_⟩) ?_ ?_
          rotate_left
          ·intro w'
           go_simp
           with_reducible rfl
          rotate_left
          ·simp only [Act.put, List.setIfInBounds_toArray, List.set_cons_zero, List.set_cons_succ, i64_w, i32_w]
           rfl
          refine done_ (by kernel_rfl) ?_
          clear hHeld
          try go_wp2
          go_roundw
          case rel => exact ⟨i + 1, HIL.out, by go_num, hP2, G1⟩
          case measure => simp [intOf]; omega
         ·have hlt1 : decide (u < 1) = true := decide_eq_true (by omega)
          have hlt2 : (u < 1) = True := eq_true (by omega)
          have hrf : r = false := by
           rw [← hr.out]
           refine good_bad hGU.out ?_
           rw [← hP1.out, HOK.out, if_pos hsz, hsn, if_neg (show ¬ (false = true) by decide), if_pos hux, decide_eq_false hu1]
           rfl
          clear hsz hrr hsn hP1 HOK hat hr0_ hu1 hux hr
          subst hrf
          refine start_ (n := 29) (S := fun w' => w'.cell? ⟨gx, 0, none⟩ = some (.string t) ∧ w'.cell? ⟨gx, 1, none⟩ = some (.int .i64 u) ∧ w'.cell? ⟨w.heap.size, 0, none⟩ = some (.slice (some ad) l0.length c0) ∧ w'.cell? ⟨g, i, none⟩ = some (.int .i64 x)) (ds := []) (fl 29 0) (by kernel_rfl) rfl (by kernel_rfl) ⟨(HK.out _ G1.out Y.out).1, (HK.out _ G1.out Y.out).2.1, (HK.out _ G1.out Y.out).2.2.1, (HK.out _ G1.out Y.out).2.2.2⟩ (fun hHeld => ?_)
          replace G1 := Aside0.mk (G1.out.below (below_drew1 (Below.refl _ _)))
          replace Y := Aside0.mk (blk_drew Y.out)
          generalize W1.drew = W2 at G1 Y hHeld ⊢
          refine pure_ (i := 0) (N := some 55) (v := ?_) (a' := ?_) (fl 29 1) rfl rfl (by kernel_rfl) (fun _ _ _ h => h) (Or.inl ⟨by rfl, ?_⟩) ?_ ?_
          rotate_left
          ·intro w'
           go_simp
           with_reducible rfl
          rotate_left
          ·simp only [Act.put, List.setIfInBounds_toArray, List.set_cons_zero, List.set_cons_succ, i64_w, i32_w]
           rfl
          refine take_ (i := 1) (N := some 56) (v := ?_) (a' := ?_) (fl 29 3) rfl rfl (by kernel_rfl) (fun _ _ _ h => h) (Or.inl ⟨by rfl, ?_⟩) hHeld ?_ ?_
          rotate_left
          ·rintro w' ⟨s0, s1, s2, s3⟩
           go_simp
           with_reducible rfl
          rotate_left
          ·simp only [Act.put, List.setIfInBounds_toArray, List.set_cons_zero, List.set_cons_succ, i64_w, i32_w]
           rfl
          refine pure_ (i := 2) (N := some 57) (v := ?_) (a' := ?_) (fl 29 7) rfl rfl (by kernel_rfl) (fun _ _ _ h => h) (Or.inl ⟨by rfl, ?_⟩) ?_ ?_
          rotate_left
          ·intro w'
           go_simp
           with_reducible rfl
          rotate_left
          ·simp only [Act.put, List.setIfInBounds_toArray, List.set_cons_zero, List.set_cons_succ, i64_w, i32_w]
           rfl
          refine one_ (i := 3) (N := some 58) (fl 29 15) rfl rfl (by kernel_rfl) (by decide) (fun K hK => ?_)
          refine goes_ Try.func65 (by kernel_rfl) rfl #[.int .i64 (t.size : Int), .int .i64 1, .int .i64 24] (by rfl) rfl rfl (by (try simp only [List.map_toArray, List.map_cons, List.map_nil]); first | done | rfl | (simp only [List.length_drop, List.length_take]; rfl)) ?_
          refine (spec_l1In.calls (t.size : Int) 1 24 true _ hw.out).mono ?_
          rintro e w' ⟨rfl, nd, rfl⟩
          refine ⟨_, rfl, ?_⟩
          replace G1 := Aside0.mk (G1.out.drewN nd)
          replace Y := Aside0.mk (blk_drewN Y.out nd)
          refine hK.out _ _ ⟨(HK.out _ G1.out Y.out).1, (HK.out _ G1.out Y.out).2.1, (HK.out _ G1.out Y.out).2.2.1, (HK.out _ G1.out Y.out).2.2.2⟩ (fun hHeld => ?_)
          clear hK K
          refine norm_ (a' := ?_) ?_ ?_
          rotate_left
          ·show Act.put _ (some 58) _ = _
           simp only [Act.put, List.setIfInBounds_toArray, List.set_cons_zero, List.set_cons_succ, i64_w, i32_w]
           rfl
          generalize W2.drewN nd = W3 at G1 Y hHeld ⊢
          refine pure_ (i := 4) (N := some 59) (v := ?_) (a' := ?_) (fl 29 31) rfl rfl (by kernel_rfl) (fun _ _ _ h => h) (Or.inl ⟨by rfl, ?_⟩) ?_ ?_
          rotate_left
          ·intro w'
           go_simp
           with_reducible rfl
          rotate_left
          ·simp only [Act.put, List.setIfInBounds_toArray, List.set_cons_zero, List.set_cons_succ, i64_w, i32_w]
           rfl
          refine pure_ (i := 5) (N := some 60) (v := ?_) (a' := ?_) (fl 29 63) rfl rfl (by kernel_rfl) (fun _ _ _ h => h) (Or.inl ⟨by rfl, ?_⟩) ?_ ?_
          rotate_left
          ·intro w'
           go_simp
           with_reducible rfl
          rotate_left
          ·simp only [Act.put, List.setIfInBounds_toArray, List.set_cons_zero, List.set_cons_succ, i64_w, i32_w]
           rfl
          refine pure_ (i := 6) (N := some 61) (v := ?_) (a' := ?_) (fl 29 127) rfl rfl (by kernel_rfl) (fun _ _ _ h => h) (Or.inl ⟨by rfl, ?_⟩) ?_ ?_
          rotate_left
          ·intro w'
           go_simp
           with_reducible rfl
          rotate_left
          ·simp only [Act.put, List.setIfInBounds_toArray, List.set_cons_zero, List.set_cons_succ, i64_w, i32_w]
           rfl
          refine pure_ (i := 8) (N := some 63) (v := ?_) (a' := ?_) (fl 29 383) rfl rfl (by kernel_rfl) (fun _ _ _ h => h) (Or.inl ⟨by rfl, ?_⟩) ?_ ?_
          rotate_left
          ·intro w'
           go_simp
           with_reducible rfl
          rotate_left
          ·simp only [Act.put, List.setIfInBounds_toArray, List.set_cons_zero, List.set_cons_succ, i64_w, i32_w]
           rfl
          refine pure_ (i := 10) (N := some 65) (v := ?_) (a' := ?_) (fl 29 1407) rfl rfl (by kernel_rfl) (fun _ _ _ h => h) (Or.inl ⟨by rfl, ?_⟩) ?_ ?_
          rotate_left
          ·intro w'
           go_simp
           with_reducible rfl
          rotate_left
          ·simp only [Act.put, List.setIfInBounds_toArray, List.set_cons_zero, List.set_cons_succ, i64_w, i32_w]
           rfl
          refine take_ (i := 7) (N := some 62) (v := ?_) (a' := ?_) (fl 29 1535) rfl rfl (by kernel_rfl) (fun _ _ _ h => h) (Or.inl ⟨by rfl, ?_⟩) hHeld ?_ ?_
          rotate_left
          ·rintro w' ⟨s0, s1, s2, s3⟩
           go_simp
           with_reducible rfl
          rotate_left
          ·simp only [Act.put, List.setIfInBounds_toArray, List.set_cons_zero, List.set_cons_succ, i64_w, i32_w]
           rfl
          refine pure_ (i := 9) (N := some 64) (v := ?_) (a' := ?_) (fl 29 2047) rfl rfl (by kernel_rfl) (fun _ _ _ h => h) (Or.inl ⟨by rfl, ?_⟩) ?_ ?_
          rotate_left
          ·intro w'
           go_simp
           with_reducible rfl
          rotate_left
          ·simp only [Act.put, List.setIfInBounds_toArray, List.set_cons_zero, List.set_cons_succ, i64_w, i32_w]
           rfl
          refine take_ (i := 11) (N := some 66) (v := ?_) (a' := ?_) (fl 29 4095) rfl rfl (by kernel_rfl) (fun _ _ _ h => h) (Or.inl ⟨by rfl, ?_⟩) hHeld ?_ ?_
          rotate_left
          ·rintro w' ⟨s0, s1, s2, s3⟩
           go_simp
           with_reducible rfl
          rotate_left
          ·simp only [Act.put, List.setIfInBounds_toArray, List.set_cons_zero, List.set_cons_succ, i64_w, i32_w]
           rfl
          refine one_ (i := 12) (N := some 67) (fl 29 8191) rfl rfl (by kernel_rfl) (by decide) (fun K hK => ?_)
          refine goes_ Try.func68 (by kernel_rfl) rfl #[.slice (some ad) i c0, .string t] (by rfl) rfl rfl (by (try simp only [List.map_toArray, List.map_cons, List.map_nil]); first | done | rfl | (simp only [List.length_drop, List.length_take]; rfl)) ?_
          refine (l15At_take kk (some ad) c0 l0 i t rr W3 (Kd.C_below HR0.out G1.out.b) HC0.out (Nat.le_of_lt HIL.out) HAT.out).mono ?_
          rintro e w5 ⟨rfl, hb⟩
          refine ⟨_, rfl, ?_⟩
          replace G1 := Aside0.mk (G1.out.below hb)
          replace Y := Aside0.mk (blk_below Y.out hb)
          clear hb
          refine hK.out _ _ ⟨(HK.out _ G1.out Y.out).1, (HK.out _ G1.out Y.out).2.1, (HK.out _ G1.out Y.out).2.2.1, (HK.out _ G1.out Y.out).2.2.2⟩ (fun hHeld => ?_)
          clear hK K
          refine norm_ (a' := ?_) ?_ ?_
          rotate_left
          ·show Act.put _ (some 67) _ = _
           simp only [Act.put, List.setIfInBounds_toArray, List.set_cons_zero, List.set_cons_succ, i64_w, i32_w]
           rfl
          refine pure_ (i := 13) (N := some 68) (v := ?_) (a' := ?_) (fl 29 16383) rfl rfl (by kernel_rfl) (fun _ _ _ h => h) (Or.inl ⟨by rfl, ?_⟩) ?_ ?_
          rotate_left
          ·intro w'
           go_simp
           with_reducible rfl
          rotate_left
          ·simp only [Act.put, List.setIfInBounds_toArray, List.set_cons_zero, List.set_cons_succ, i64_w, i32_w]
           rfl
          refine pure_ (i := 14) (N := some 69) (v := ?_) (a' := ?_) (fl 29 32767) rfl rfl (by kernel_rfl) (fun _ _ _ h => h) (Or.inl ⟨by rfl, ?_⟩) ?_ ?_
          rotate_left
          ·intro w'
           go_simp
           with_reducible rfl
          rotate_left
          ·simp only [Act.put, List.setIfInBounds_toArray, List.set_cons_zero, List.set_cons_succ, i64_w, i32_w]
           rfl
          refine pure_ (i := 15) (N := some 70) (v := ?_) (a' := ?_) (fl 29 65535) rfl rfl (by kernel_rfl) (fun _ _ _ h => h) (Or.inl ⟨by rfl, ?_⟩) ?_ ?_
          rotate_left
          ·intro w'
           go_simp
           with_reducible rfl
          rotate_left
          ·simp only [Act.put, List.setIfInBounds_toArray, List.set_cons_zero, List.set_cons_succ, i64_w, i32_w]
           rfl
          refine pure_ (i := 16) (N := some 71) (v := ?_) (a' := ?_) (fl 29 131071) rfl rfl (by kernel_rfl) (fun _ _ _ h => h) (Or.inl ⟨by rfl, ?_⟩) ?_ ?_
          rotate_left
          ·intro w'
           go_simp
           with_reducible rfl
          rotate_left
          ·simp only [Act.put, List.setIfInBounds_toArray, List.set_cons_zero, List.set_cons_succ, i64_w, i32_w]
           rfl
          refine take_ (i := 17) (N := some 72) (v := ?_) (a' := ?_) (fl 29 262143) rfl rfl (by kernel_rfl) (fun _ _ _ h => h) (Or.inl ⟨by rfl, ?_⟩) hHeld ?_ ?_
          rotate_left
          ·rintro w' ⟨s0, s1, s2, s3⟩
           go_simp
           with_reducible rfl
          rotate_left
          ·simp only [Act.put, List.setIfInBounds_toArray, List.set_cons_zero, List.set_cons_succ, i64_w, i32_w]
           rfl
          refine pure_ (i := 18) (N := some 73) (v := ?_) (a' := ?_) (fl 29 524287) rfl rfl (by kernel_rfl) (fun _ _ _ h => h) (Or.inl ⟨by rfl, ?_⟩) ?_ ?_
          rotate_left
          ·intro w'
           go_simp
           with_reducible rfl
          rotate_left
          ·simp only [Act.put, List.setIfInBounds_toArray, List.set_cons_zero, List.set_cons_succ, i64_w, i32_w]
           rfl
          refine pure_ (i := 19) (N := some 74) (v := ?_) (a' := ?_) (fl 29 1048575) rfl rfl (by kernel_rfl) (fun _ _ _ h => h) (Or.inl ⟨by rfl, ?_⟩) ?_ ?_
          rotate_left
          ·intro w'
           go_simp
           with_reducible rfl
          rotate_left
          ·simp only [Act.put, List.setIfInBounds_toArray, List.set_cons_zero, List.set_cons_succ, i64_w, i32_w]
           rfl
          refine pure_ (i := 20) (N := some 75) (v := ?_) (a' := ?_) (fl 29 2097151) rfl rfl (by kernel_rfl) (fun _ _ _ h => h) (Or.inl ⟨by rfl, ?_⟩) ?_ ?_
          rotate_left
          ·intro w'
           go_simp
           with_reducible rfl
          rotate_left
          ·simp only [Act.put, List.setIfInBounds_toArray, List.set_cons_zero, List.set_cons_succ, i64_w, i32_w]
           rfl
          refine take_ (i := 21) (N := some 76) (v := ?_) (a' := ?_) (fl 29 4194303) rfl rfl (by kernel_rfl) (fun _ _ _ h => h) (Or.inl ⟨by rfl, ?_⟩) hHeld ?_ ?_
          rotate_left
          ·rintro w' ⟨s0, s1, s2, s3⟩
           go_simp
           with_reducible rfl
          rotate_left
          ·simp only [Act.put, List.setIfInBounds_toArray, List.set_cons_zero, List.set_cons_succ, i64_w, i32_w]
           rfl
          refine pure_ (i := 22) (N := some 77) (v := ?_) (a' := ?_) (fl 29 8388607) rfl rfl (by kernel_rfl) (fun _ _ _ h => h) (Or.inl ⟨by rfl, ?_⟩) ?_ ?_
          rotate_left
          ·intro w'
           go_simp
           with_reducible rfl
          rotate_left
          ·simp only [Act.put, List.setIfInBounds_toArray, List.set_cons_zero, List.set_cons_succ, i64_w, i32_w]
           rfl
          refine pure_ (i := 23) (N := some 78) (v := ?_) (a' := ?_) (fl 29 16777215) rfl rfl (by kernel_rfl) (fun _ _ _ h => h) (Or.inl ⟨by rfl, ?_⟩) ?_ ?_
          rotate_left
          ·intro w'
           go_simp
           with_reducible rfl
          rotate_left
          ·simp only [Act.put, List.setIfInBounds_toArray, List.set_cons_zero, List.set_cons_succ, i64_w, i32_w]
           rfl
          refine pure_ (i := 24) (N := some 79) (v := ?_) (a' := ?_) (fl 29 33554431) rfl rfl (by kernel_rfl) (fun _ _ _ h => h) (Or.inl ⟨by rfl, ?_⟩) ?_ ?_
          rotate_left
          ·intro w'
           go_simp
           with_reducible rfl
          rotate_left
          ·simp only [Act.put, List.setIfInBounds_toArray, List.set_cons_zero, List.set_cons_succ, i64_w, i32_w]
           rfl
          refine pure_ (i := 25) (N := some 80) (v := ?_) (a' := ?_) (fl 29 67108863) rfl rfl (by kernel_rfl) (fun _ _ _ h => h) (Or.inl ⟨by rfl, ?_⟩) ?_ ?_
          rotate_left
          ·intro w'
           go_simp
           with_reducible rfl
          rotate_left
          ·simp only [Act.put, List.setIfInBounds_toArray, List.set_cons_zero, List.set_cons_succ, i64_w, i32_w]
           rfl
          refine take_ (i := 26) (N := some 81) (v := ?_) (a' := ?_) (fl 29 134217727) rfl rfl (by kernel_rfl) (fun _ _ _ h => h) (Or.inl ⟨by rfl, ?_⟩) hHeld ?_ ?_
          rotate_left
          ·rintro w' ⟨s0, s1, s2, s3⟩
           go_simp
           with_reducible rfl
          rotate_left
          ·simp only [Act.put, List.setIfInBounds_toArray, List.set_cons_zero, List.set_cons_succ, i64_w, i32_w]
           rfl
          refine pure_ (i := 27) (N := some 82) (v := ?_) (a' := ?_) (fl 29 268435455) rfl rfl (by kernel_rfl) (fun _ _ _ h => h) (Or.inl ⟨by rfl, ?_⟩) ?_ ?_
          rotate_left
          ·intro w'
           go_simp
           with_reducible rfl
          rotate_left
          ·simp only [Act.put, List.setIfInBounds_toArray, List.set_cons_zero, List.set_cons_succ, i64_w, i32_w]
           rfl
          refine pure_ (i := 28) (N := some 83) (v := ?_) (a' := ?_) (fl 29 536870911) rfl rfl (by kernel_rfl) (fun _ _ _ h => h) (Or.inl ⟨by rfl, ?_⟩) ?_ ?_
          rotate_left
          ·intro w'
           go_simp
           with_reducible rfl
          rotate_left
          ·simp only [Act.put, List.setIfInBounds_toArray, List.set_cons_zero, List.set_cons_succ, i64_w, i32_w]
           rfl
          refine done_ (by kernel_rfl) ?_
          clear hHeld
          try go_wp2
          go_ret
          exact ⟨rfl, G1.out.b⟩
        ·have hne1 : (u == x) = false := by simpa using hux
         have hne2 : (u != x) = true := by simpa using hux
         have hne3 : (u = x) = False := eq_false hux
         have hrf : r = false := by
          rw [← hr.out]
          refine good_bad hGU.out ?_
          rw [← hP1.out, HOK.out, if_pos hsz, hsn, if_neg (show ¬ (false = true) by decide), if_neg hux]
          rfl
         clear hsz hrr hsn hP1 HOK hat hr0_ hux hr
         subst hrf
         refine start_ (n := 29) (S := fun w' => w'.cell? ⟨gx, 0, none⟩ = some (.string t) ∧ w'.cell? ⟨gx, 1, none⟩ = some (.int .i64 u) ∧ w'.cell? ⟨w.heap.size, 0, none⟩ = some (.slice (some ad) l0.length c0) ∧ w'.cell? ⟨g, i, none⟩ = some (.int .i64 x)) (ds := []) (fl 29 0) (by kernel_rfl) rfl (by kernel_rfl) ⟨(HK.out _ G1.out Y.out).1, (HK.out _ G1.out Y.out).2.1, (HK.out _ G1.out Y.out).2.2.1, (HK.out _ G1.out Y.out).2.2.2⟩ (fun hHeld => ?_)
         replace G1 := Aside0.mk (G1.out.below (below_drew1 (Below.refl _ _)))
         replace Y := Aside0.mk (blk_drew Y.out)
         generalize W1.drew = W2 at G1 Y hHeld ⊢
         refine pure_ (i := 0) (N := some 55) (v := ?_) (a' := ?_) (fl 29 1) rfl rfl (by kernel_rfl) (fun _ _ _ h => h) (Or.inl ⟨by rfl, ?_⟩) ?_ ?_
         rotate_left
         ·intro w'
          go_simp
          with_reducible rfl
         rotate_left
         ·simp only [Act.put, List.setIfInBounds_toArray, List.set_cons_zero, List.set_cons_succ, i64_w, i32_w]
          rfl
         refine take_ (i := 1) (N := some 56) (v := ?_) (a' := ?_) (fl 29 3) rfl rfl (by kernel_rfl) (fun _ _ _ h => h) (Or.inl ⟨by rfl, ?_⟩) hHeld ?_ ?_
         rotate_left
         ·rintro w' ⟨s0, s1, s2, s3⟩
          go_simp
          with_reducible rfl
         rotate_left
         ·simp only [Act.put, List.setIfInBounds_toArray, List.set_cons_zero, List.set_cons_succ, i64_w, i32_w]
          rfl
         refine pure_ (i := 2) (N := some 57) (v := ?_) (a' := ?_) (fl 29 7) rfl rfl (by kernel_rfl) (fun _ _ _ h => h) (Or.inl ⟨by rfl, ?_⟩) ?_ ?_
         rotate_left
         ·intro w'
          go_simp
          with_reducible rfl
         rotate_left
         ·simp only [Act.put, List.setIfInBounds_toArray, List.set_cons_zero, List.set_cons_succ, i64_w, i32_w]
          rfl
         refine one_ (i := 3) (N := some 58) (fl 29 15) rfl rfl (by kernel_rfl) (by decide) (fun K hK => ?_)
         refine goes_ Try.func65 (by kernel_rfl) rfl #[.int .i64 (t.size : Int), .int .i64 1, .int .i64 24] (by rfl) rfl rfl (by (try simp only [List.map_toArray, List.map_cons, List.map_nil]); first | done | rfl | (simp only [List.length_drop, List.length_take]; rfl)) ?_
         refine (spec_l1In.calls (t.size : Int) 1 24 true _ hw.out).mono ?_
         rintro e w' ⟨rfl, nd, rfl⟩
         refine ⟨_, rfl, ?_⟩
         replace G1 := Aside0.mk (G1.out.drewN nd)
         replace Y := Aside0.mk (blk_drewN Y.out nd)
         refine hK.out _ _ ⟨(HK.out _ G1.out Y.out).1, (HK.out _ G1.out Y.out).2.1, (HK.out _ G1.out Y.out).2.2.1, (HK.out _ G1.out Y.out).2.2.2⟩ (fun hHeld => ?_)
         clear hK K
         refine norm_ (a' := ?_) ?_ ?_
         rotate_left
         ·show Act.put _ (some 58) _ = _
          simp only [Act.put, List.setIfInBounds_toArray, List.set_cons_zero, List.set_cons_succ, i64_w, i32_w]
          rfl
         generalize W2.drewN nd = W3 at G1 Y hHeld ⊢
         refine pure_ (i := 4) (N := some 59) (v := ?_) (a' := ?_) (fl 29 31) rfl rfl (by kernel_rfl) (fun _ _ _ h => h) (Or.inl ⟨by rfl, ?_⟩) ?_ ?_
         rotate_left
         ·intro w'
          go_simp
          with_reducible rfl
         rotate_left
         ·simp only [Act.put, List.setIfInBounds_toArray, List.set_cons_zero, List.set_cons_succ, i64_w, i32_w]
          rfl
         refine pure_ (i := 5) (N := some 60) (v := ?_) (a' := ?_) (fl 29 63) rfl rfl (by kernel_rfl) (fun _ _ _ h => h) (Or.inl ⟨by rfl, ?_⟩) ?_ ?_
         rotate_left
         ·intro w'
          go_simp
          with_reducible rfl
         rotate_left
         ·simp only [Act.put, List.setIfInBounds_toArray, List.set_cons_zero, List.set_cons_succ, i64_w, i32_w]
          rfl
         refine pure_ (i := 6) (N := some 61) (v := ?_) (a' := ?_) (fl 29 127) rfl rfl (by kernel_rfl) (fun _ _ _ h => h) (Or.inl ⟨by rfl, ?_⟩) ?_ ?_
         rotate_left
         ·intro w'
          go_simp
          with_reducible rfl
         rotate_left
         ·simp only [Act.put, List.setIfInBounds_toArray, List.set_cons_zero, List.set_cons_succ, i64_w, i32_w]
          rfl
         refine pure_ (i := 8) (N := some 63) (v := ?_) (a' := ?_) (fl 29 383) rfl rfl (by kernel_rfl) (fun _ _ _ h => h) (Or.inl ⟨by rfl, ?_⟩) ?_ ?_
         rotate_left
         ·intro w'
          go_simp
          with_reducible rfl
         rotate_left
         ·simp only [Act.put, List.setIfInBounds_toArray, List.set_cons_zero, List.set_cons_succ, i64_w, i32_w]
          rfl
         refine pure_ (i := 10) (N := some 65) (v := ?_) (a' := ?_) (fl 29 1407) rfl rfl (by kernel_rfl) (fun _ _ _ h => h) (Or.inl ⟨by rfl, ?_⟩) ?_ ?_
         rotate_left
         ·intro w'
          go_simp
          with_reducible rfl
         rotate_left
         ·simp only [Act.put, List.setIfInBounds_toArray, List.set_cons_zero, List.set_cons_succ, i64_w, i32_w]
          rfl
         refine take_ (i := 7) (N := some 62) (v := ?_) (a' := ?_) (fl 29 1535) rfl rfl (by kernel_rfl) (fun _ _ _ h => h) (Or.inl ⟨by rfl, ?_⟩) hHeld ?_ ?_
         rotate_left
         ·rintro w' ⟨s0, s1, s2, s3⟩
          go_simp
          with_reducible rfl
         rotate_left
         ·simp only [Act.put, List.setIfInBounds_toArray, List.set_cons_zero, List.set_cons_succ, i64_w, i32_w]
          rfl
         refine pure_ (i := 9) (N := some 64) (v := ?_) (a' := ?_) (fl 29 2047) rfl rfl (by kernel_rfl) (fun _ _ _ h => h) (Or.inl ⟨by rfl, ?_⟩) ?_ ?_
         rotate_left
         ·intro w'
          go_simp
          with_reducible rfl
         rotate_left
         ·simp only [Act.put, List.setIfInBounds_toArray, List.set_cons_zero, List.set_cons_succ, i64_w, i32_w]
          rfl
         refine take_ (i := 11) (N := some 66) (v := ?_) (a' := ?_) (fl 29 4095) rfl rfl (by kernel_rfl) (fun _ _ _ h => h) (Or.inl ⟨by rfl, ?_⟩) hHeld ?_ ?_
         rotate_left
         ·rintro w' ⟨s0, s1, s2, s3⟩
          go_simp
          with_reducible rfl
         rotate_left
         ·simp only [Act.put, List.setIfInBounds_toArray, List.set_cons_zero, List.set_cons_succ, i64_w, i32_w]
          rfl
         refine one_ (i := 12) (N := some 67) (fl 29 8191) rfl rfl (by kernel_rfl) (by decide) (fun K hK => ?_)
         refine goes_ Try.func68 (by kernel_rfl) rfl #[.slice (some ad) i c0, .string t] (by rfl) rfl rfl (by (try simp only [List.map_toArray, List.map_cons, List.map_nil]); first | done | rfl | (simp only [List.length_drop, List.length_take]; rfl)) ?_
         refine (l15At_take kk (some ad) c0 l0 i t rr W3 (Kd.C_below HR0.out G1.out.b) HC0.out (Nat.le_of_lt HIL.out) HAT.out).mono ?_
         rintro e w5 ⟨rfl, hb⟩
         refine ⟨_, rfl, ?_⟩
         replace G1 := Aside0.mk (G1.out.below hb)
         replace Y := Aside0.mk (blk_below Y.out hb)
         clear hb
         refine hK.out _ _ ⟨(HK.out _ G1.out Y.out).1, (HK.out _ G1.out Y.out).2.1, (HK.out _ G1.out Y.out).2.2.1, (HK.out _ G1.out Y.out).2.2.2⟩ (fun hHeld => ?_)
         clear hK K
         refine norm_ (a' := ?_) ?_ ?_
         rotate_left
         ·show Act.put _ (some 67) _ = _
          simp only [Act.put, List.setIfInBounds_toArray, List.set_cons_zero, List.set_cons_succ, i64_w, i32_w]
          rfl
         refine pure_ (i := 13) (N := some 68) (v := ?_) (a' := ?_) (fl 29 16383) rfl rfl (by kernel_rfl) (fun _ _ _ h => h) (Or.inl ⟨by rfl, ?_⟩) ?_ ?_
         rotate_left
         ·intro w'
          go_simp
          with_reducible rfl
         rotate_left
         ·simp only [Act.put, List.setIfInBounds_toArray, List.set_cons_zero, List.set_cons_succ, i64_w, i32_w]
          rfl
         refine pure_ (i := 14) (N := some 69) (v := ?_) (a' := ?_) (fl 29 32767) rfl rfl (by kernel_rfl) (fun _ _ _ h => h) (Or.inl ⟨by rfl, ?_⟩) ?_ ?_
         rotate_left
         ·intro w'
          go_simp
          with_reducible rfl
         rotate_left
         ·simp only [Act.put, List.setIfInBounds_toArray, List.set_cons_zero, List.set_cons_succ, i64_w, i32_w]
          rfl
         refine pure_ (i := 15) (N := some 70) (v := ?_) (a' := ?_) (fl 29 65535) rfl rfl (by kernel_rfl) (fun _ _ _ h => h) (Or.inl ⟨by rfl, ?_⟩) ?_ ?_
         rotate_left
         ·intro w'
          go_simp
          with_reducible rfl
         rotate_left
         ·simp only [Act.put, List.setIfInBounds_toArray, List.set_cons_zero, List.set_cons_succ, i64_w, i32_w]
          rfl
         refine pure_ (i := 16) (N := some 71) (v := ?_) (a' := ?_) (fl 29 131071) rfl rfl (by kernel_rfl) (fun _ _ _ h => h) (Or.inl ⟨by rfl, ?_⟩) ?_ ?_
         rotate_left
         ·intro w'
          go_simp
          with_reducible rfl
         rotate_left
         ·simp only [Act.put, List.setIfInBounds_toArray, List.set_cons_zero, List.set_cons_succ, i64_w, i32_w]
          rfl
         refine take_ (i := 17) (N := some 72) (v := ?_) (a' := ?_) (fl 29 262143) rfl rfl (by kernel_rfl) (fun _ _ _ h => h) (Or.inl ⟨by rfl, ?_⟩) hHeld ?_ ?_
         rotate_left
         ·rintro w' ⟨s0, s1, s2, s3⟩
          go_simp
          with_reducible rfl
         rotate_left
         ·simp only [Act.put, List.setIfInBounds_toArray, List.set_cons_zero, List.set_cons_succ, i64_w, i32_w]
          rfl
         refine pure_ (i := 18) (N := some 73) (v := ?_) (a' := ?_) (fl 29 524287) rfl rfl (by kernel_rfl) (fun _ _ _ h => h) (Or.inl ⟨by rfl, ?_⟩) ?_ ?_
         rotate_left
         ·intro w'
          go_simp
          with_reducible rfl
         rotate_left
         ·simp only [Act.put, List.setIfInBounds_toArray, List.set_cons_zero, List.set_cons_succ, i64_w, i32_w]
          rfl
         refine pure_ (i := 19) (N := some 74) (v := ?_) (a' := ?_) (fl 29 1048575) rfl rfl (by kernel_rfl) (fun _ _ _ h => h) (Or.inl ⟨by rfl, ?_⟩) ?_ ?_
         rotate_left
         ·intro w'
          go_simp
          with_reducible rfl
         rotate_left
         ·simp only [Act.put, List.setIfInBounds_toArray, List.set_cons_zero, List.set_cons_succ, i64_w, i32_w]
          rfl
         refine pure_ (i := 20) (N := some 75) (v := ?_) (a' := ?_) (fl 29 2097151) rfl rfl (by kernel_rfl) (fun _ _ _ h => h) (Or.inl ⟨by rfl, ?_⟩) ?_ ?_
         rotate_left
         ·intro w'
          go_simp
          with_reducible rfl
         rotate_left
         ·simp only [Act.put, List.setIfInBounds_toArray, List.set_cons_zero, List.set_cons_succ, i64_w, i32_w]
          rfl
         refine take_ (i := 21) (N := some 76) (v := ?_) (a' := ?_) (fl 29 4194303) rfl rfl (by kernel_rfl) (fun _ _ _ h => h) (Or.inl ⟨by rfl, ?_⟩) hHeld ?_ ?_
         rotate_left
         ·rintro w' ⟨s0, s1, s2, s3⟩
          go_simp
          with_reducible rfl
         rotate_left
         ·simp only [Act.put, List.setIfInBounds_toArray, List.set_cons_zero, List.set_cons_succ, i64_w, i32_w]
          rfl
         refine pure_ (i := 22) (N := some 77) (v := ?_) (a' := ?_) (fl 29 8388607) rfl rfl (by kernel_rfl) (fun _ _ _ h => h) (Or.inl ⟨by rfl, ?_⟩) ?_ ?_
         rotate_left
         ·intro w'
          go_simp
          with_reducible rfl
         rotate_left
         ·simp only [Act.put, List.setIfInBounds_toArray, List.set_cons_zero, List.set_cons_succ, i64_w, i32_w]
          rfl
         refine pure_ (i := 23) (N := some 78) (v := ?_) (a' := ?_) (fl 29 16777215) rfl rfl (by kernel_rfl) (fun _ _ _ h => h) (Or.inl ⟨by rfl, ?_⟩) ?_ ?_
         rotate_left
         ·intro w'
          go_simp
          with_reducible rfl
         rotate_left
         ·simp only [Act.put, List.setIfInBounds_toArray, List.set_cons_zero, List.set_cons_succ, i64_w, i32_w]
          rfl
         refine pure_ (i := 24) (N := some 79) (v := ?_) (a' := ?_) (fl 29 33554431) rfl rfl (by kernel_rfl) (fun _ _ _ h => h) (Or.inl ⟨by rfl, ?_⟩) ?_ ?_
         rotate_left
         ·intro w'
          go_simp
          with_reducible rfl
         rotate_left
         ·simp only [Act.put, List.setIfInBounds_toArray, List.set_cons_zero, List.set_cons_succ, i64_w, i32_w]
          rfl
         refine pure_ (i := 25) (N := some 80) (v := undef) (a' := ?_) (fl 29 67108863) rfl rfl (by kernel_rfl) (fun _ _ _ h => h) (Or.inr ⟨by rfl, rfl⟩) ?_ ?_
         rotate_left
         ·simp only [Act.put, List.setIfInBounds_toArray, List.set_cons_zero, List.set_cons_succ, i64_w, i32_w]
          rfl
         refine pure_ (i := 26) (N := some 81) (v := undef) (a' := ?_) (fl 29 134217727) rfl rfl (by kernel_rfl) (fun _ _ _ h => h) (Or.inr ⟨by rfl, rfl⟩) ?_ ?_
         rotate_left
         ·simp only [Act.put, List.setIfInBounds_toArray, List.set_cons_zero, List.set_cons_succ, i64_w, i32_w]
          rfl
         refine pure_ (i := 27) (N := some 82) (v := undef) (a' := ?_) (fl 29 268435455) rfl rfl (by kernel_rfl) (fun _ _ _ h => h) (Or.inr ⟨by rfl, rfl⟩) ?_ ?_
         rotate_left
         ·simp only [Act.put, List.setIfInBounds_toArray, List.set_cons_zero, List.set_cons_succ, i64_w, i32_w]
          rfl
         refine pure_ (i := 28) (N := some 83) (v := ?_) (a' := ?_) (fl 29 536870911) rfl rfl (by kernel_rfl) (fun _ _ _ h => h) (Or.inl ⟨by rfl, ?_⟩) ?_ ?_
         rotate_left
         ·intro w'
          go_simp
          with_reducible rfl
         rotate_left
         ·simp only [Act.put, List.setIfInBounds_toArray, List.set_cons_zero, List.set_cons_succ, i64_w, i32_w]
          rfl
         refine done_ (by kernel_rfl) ?_
         clear hHeld
         try go_wp2
         go_ret
         exact ⟨rfl, G1.out.b⟩
      ·have hw := Aside0.mk (show spec_l1In.f (t.size : Int) 1 24 = some false by
        unfold spec_l1In.f
        split
        ·simp; omega
        ·rfl)
       have hrf : r = false := by
        rw [← hr.out]
        refine good_bad hGU.out ?_
        rw [← hP1.out, HOK.out, if_neg hsz]
        rfl
       obtain ⟨k0, k1, k2, _⟩ := HK.out _ G1.out Y.out
       clear hP1 hsz HOK hr
       subst hrf
       go_quiet ((go_at_call 65; exact Calls.quiet_of ((spec_l1In.calls _ 1 24 false _ hw.out).mono (fun e w' h => ⟨h.1, h.2.out⟩))))
       try go_wp2
       go_ret
       exact ⟨rfl, pw_below_drewN G1.out.b nq⟩
     ·have hii : ((i : Int) < (l0.length : Int)) = False := eq_false (by omega)
      have hgood := Aside0.mk (show good l0 l1 = (decide ((l0.length : Int) ≤ 100) && decide ((l1.length : Int) ≤ 20)) from good_yes hGU.out (by
       rw [← hP.out, show l0.length - i = 0 by omega]
       rfl))
      have d0 : wr.cell? ⟨w.heap.size, 0, none⟩ = some (.slice A0 l0.length c0) := (blk_cell G.out.x _).trans rfl
      have d1 : wr.cell? ⟨w.heap.size, 1, none⟩ = some (.slice A1 l1.length c1) := (blk_cell G.out.x _).trans rfl
      obtain rfl := hr.out
      clear hP hil
      by_cases h1 : (l0.length : Int) ≤ 100
      ·have e1 : decide ((l0.length : Int) ≤ 100) = true := decide_eq_true h1
       have e3 : ((l0.length : Int) ≤ 100) = True := eq_true h1
       by_cases h2 : (l1.length : Int) ≤ 20
       ·have e2 : decide ((l1.length : Int) ≤ 20) = true := decide_eq_true h2
        have e4 : ((l1.length : Int) ≤ 20) = True := eq_true h2
        clear h1 h2
        go_wp2
        go_ret
        exact ⟨by rw [hgood.out]; simp [*], G.out.b⟩
       ·have e2 : decide ((l1.length : Int) ≤ 20) = false := decide_eq_false h2
        have e4 : ((l1.length : Int) ≤ 20) = False := eq_false h2
        clear h1 h2
        go_wp2
        go_ret
        exact ⟨by rw [hgood.out]; simp [*], G.out.b⟩
      ·have e1 : decide ((l0.length : Int) ≤ 100) = false := decide_eq_false h1
       have e3 : ((l0.length : Int) ≤ 100) = False := eq_false h1
       clear h1
       go_wp2
       go_ret
       exact ⟨by rw [hgood.out]; simp [*], G.out.b⟩
 ·rw [if_neg hN] at h
  cases h
end Go.Proofs.Ytjepecinpgjgdaa.PVau
