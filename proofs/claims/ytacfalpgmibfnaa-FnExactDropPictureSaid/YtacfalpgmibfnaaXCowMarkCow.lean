import Derived.Test.YtacfalpgmibfnaaXCowRow
import Derived.Test.YtacfalpgmibfnaaYCowlawsM
/-! markCellS of the laws: a row of cells of the call's own is overwritten, and the rows in it; walked by hand. -/
namespace Go.Proofs.Ytacfalpgmibfnaa.PCow
open Go.RowKit Go.Proofs.YtacfalpgmibfnaaW.PrintWords Go.Proofs.YtacfalpgmibfnaaW.PrintLast Go.Proofs.YtacfalpgmibfnaaW.PrintMore Go.Proofs.Ytacfalpgmibfnaa.E
set_option linter.unusedSimpArgs false
set_option linter.unusedVariables false
def markCM (f : Nat) (n : Nat) : Nat → Int → Int → List CL → Option (Int × List CL)
  | 0, i, k, xs => if i < (n : Int) then none else some (k, xs)
  | m + 1, i, k, xs => if i < (n : Int) then ((laws_markText.f f (wrap64 (k + 1))).bind fun t => (laws_markIntS.f f (rd_T68 xs i).f2 (wrap64 (wrap64 (k + 1) + 1))).bind fun p => markCM f n m (i + 1) p.1 (xs.set i.toNat ⟨k, t, p.2⟩)) else some (k, xs)
def laws_markCellS.f (f : Nat) (xs : List CL) (k : Int) : Option (Int × List CL) := markCM f xs.length xs.length 0 k xs
set_option maxHeartbeats 4000000 in
set_option maxRecDepth 100000 in
theorem laws_markCellS.calls (f : Nat) (P0_ : Nat → Prop) (u : Value) (l0 : List CL) (a1 : Int) (r1 : Int) (r2 : List CL) (w0 w : World) (hB : Below w0.heap.size w0 w) (ho0 : CS w w0.heap.size P0_ u l0) (h : laws_markCellS.f f l0 a1 = some (r1, r2)) :
    Calls Try.prog 48 #[u, .int .i64 a1] w fun e w' => e = .returned (.int .i64 r1) ∧ CS w' w0.heap.size P0_ u r2 ∧ Below w0.heap.size w0 w' ∧ Kept w w' (fun k_ => P0_ k_) := by
  have hu68 := Try.underlying68
  have hu22 := Try.underlying22
  obtain ⟨A, c, rfl⟩ := Kd.S_slice ho0
  have hl := (Kd.S_reads' ho0).2.2.2.1
  have HO := Aside0.mk ho0
  have HB := Aside0.mk hB
  have HF := Aside0.mk h
  clear ho0 hB h
  go_enter Try.func48, Try.ntmps48
  go_wp2
  go_loopw [5, 1] (fun vi vk wr => ∃ (q : Nat) (k : Int) (xs : List CL), q ≤ l0.length ∧ vi = .int .i64 q ∧ vk = .int .i64 k ∧ xs.length = l0.length ∧ Aside0 (markCM f l0.length (l0.length - q) q k xs = some (r1, r2)) ∧ Aside0 (CS wr w0.heap.size P0_ (.slice A l0.length c) xs) ∧ Aside0 (Below w0.heap.size w0 wr) ∧ Aside0 (Kept w wr (fun k_ => P0_ k_))) (fun vi _ _ => l0.length - (intOf vi).toNat)
  case atStart => exact ⟨0, a1, l0, Nat.zero_le _, rfl, rfl, rfl, ⟨by rw [Nat.sub_zero]; exact HF.out⟩, HO, HB, ⟨Kept.refl _ _⟩⟩
  case round =>
    clear HF HO HB
    obtain ⟨q, k, xs, hq, rfl, rfl, hxl, HF, HO, HB, HK⟩ := hrel
    by_cases hql : q < l0.length
    · have hqq : ((q : Int) < (l0.length : Int)) = True := eq_true (by omega)
      have h := HF.out
      rw [show l0.length - q = (l0.length - q - 1) + 1 by omega, markCM, if_pos (by omega)] at h
      obtain ⟨t, ht, h2⟩ := Option.bind_eq_some_iff.1 h
      obtain ⟨⟨k1, x2⟩, hm, h3⟩ := Option.bind_eq_some_iff.1 h2
      have HF2 := Aside0.mk h3
      have HT := Aside0.mk ht
      have HM := Aside0.mk hm
      obtain ⟨g, cap, hv, hg1, hg2, cs, hgc⟩ := Kd.S_form HO.out (by omega)
      injection hv with hA hn_ hc
      subst hA hc
      clear hn_
      obtain ⟨oki, v, c0, c1, c2, hfr, hoki, hR, hH⟩ := cs_elem HO.out (q : Int) (by omega) (by omega)
      clear HF h h2 h3 ht hm hgc
      have HG := Aside0.mk (show P0_ g from HO.out |> fun h => (Kd.S_R h).1 g rfl)
      have HG1 := Aside0.mk hg1
      clear hg1 hR hH
      simp only [Int.toNat_natCast] at c0 c1 c2 hfr
      have f0 : wr.frozen? ⟨g, q * 3, none⟩ = false := hfr 0
      have f1 := hfr 1
      have HX := Aside0.mk hxl
      have HQ := Aside0.mk hql
      clear hfr hoki hxl hq hql
      go_wp2_with (go_at_call 68; (with_reducible refine (laws_markText.calls f (wrap64 (k + 1)) t _ HT.out).mono ?_))
      (first | rintro e w1 rfl hb1 | rintro e w1 ⟨rfl, hb1⟩)
      have hb2 : Below (wr.setCell ⟨g, q * 3, none⟩ (.int .i64 k)).heap.size (wr.setCell ⟨g, q * 3, none⟩ (.int .i64 k)) w1 := by
        have : (wr.setCell ⟨g, q * 3, none⟩ (.int .i64 k)).heap.size = wr.heap.size := by simp [World.setCell]
        rw [this]
        exact hb1
      have hxl := HX.out
      have hql := HQ.out
      have O1 := Kd.S_below (cs_put0 HO.out (q : Int) (by omega) (by omega) k) (by simp only [Int.toNat_natCast]; exact hb2)
      have B1 : Below w0.heap.size w0 w1 := below_then (below_set HB.out HG1.out) (Nat.le_trans HB.out.size (by simp [World.setCell])) hb2
      have K1 : Kept w w1 (fun k_ => P0_ k_) := (HK.out.setCell (p := ⟨g, q * 3, none⟩) (.inl HG.out) _).below hb2
      simp only [Int.toNat_natCast] at O1
      obtain ⟨w2, hw2, O2, B2, K2⟩ : ∃ w2, w1.setCell ⟨g, q * 3 + 1, none⟩ (.string t) = w2 ∧ CS w2 w0.heap.size P0_ (.slice (some ⟨g, 0, none⟩) l0.length c) (xs.set q ⟨k, t, (rd_T68 xs (q : Int)).f2⟩) ∧ Below w0.heap.size w0 w2 ∧ Kept w w2 (fun k_ => P0_ k_) := by
        refine ⟨_, rfl, ?_, below_set B1 HG1.out, K1.setCell (p := ⟨g, q * 3 + 1, none⟩) (.inl HG.out) _⟩
        have := cs_put1 O1 (q : Int) (by omega) (by omega) t
        simp only [Int.toNat_natCast] at this
        rw [rd_cl_set (by omega), List.set_set] at this
        exact this
      obtain ⟨oki, v0, _, d1, _, hfr, _, _, _⟩ := cs_elem O1 (q : Int) (by omega) (by omega)
      have g1 := hfr 1
      simp only [Int.toNat_natCast] at d1 g1
      obtain ⟨v, hv, hR, hP, hback⟩ := cs_inner O2 (q : Int) (by omega) (by omega)
      rw [rd_cl_set (by omega)] at hR hback
      simp only [Int.toNat_natCast] at hv hback
      obtain ⟨A2, cc, rfl⟩ := Kd.R_slice hR
      have HR2 := Aside0.mk hR
      have HP2 := Aside0.mk hP
      have HK2 := Aside0.mk K2
      have HB2 := Aside0.mk B2
      have HBK := Aside0.mk hback
      clear O1 B1 K1 O2 B2 K2 hR hP hback hfr hb1 hb2 hxl hql HO HB HK HT c0 c1 c2 f0 f1
      go_wp2_with (go_at_call 49; (with_reducible refine (laws_markIntS.calls f (fun k_ => some k_ = (Value.slice A2 (rd_T68 xs (q : Int)).f2.length cc).ownBlock) _ _ _ k1 x2 w0 w2 HB2.out HR2.out HM.out).mono ?_))
      (first | rintro e w3 rfl hR3 hB3 hK3 | rintro e w3 ⟨rfl, hR3, hB3, hK3⟩)
      have O3 := Aside0.mk (HBK.out w3 x2 hK3 (Kd.R_mono hR3 (fun _ _ => trivial)))
      have B3 := Aside0.mk hB3
      have K3 := Aside0.mk (HK2.out.then_ hK3 (fun k_ hk_ => .inl (HP2.out k_ hk_.symm).1))
      clear hR3 hB3 hK3 hw2 hv d1 g1 HR2 HP2 HK2 HB2 HBK
      have hql := HQ.out
      go_wp2
      go_roundw
      case rel => exact ⟨q + 1, k1, _, by omega, by go_num, rfl, (List.length_set ..).trans HX.out, ⟨by
        have h := HF2.out
        rw [show l0.length - q - 1 = l0.length - (q + 1) by omega] at h
        simp only [Int.toNat_natCast] at h
        exact h⟩, ⟨by have h := O3.out; rw [List.set_set] at h; exact h⟩, B3, K3⟩
      case measure => simp [intOf]; omega
    · have hqq : ((q : Int) < (l0.length : Int)) = False := eq_false (by omega)
      have h := HF.out
      rw [show l0.length - q = 0 by omega, markCM, if_neg (by omega)] at h
      simp only [Option.some.injEq, Prod.mk.injEq] at h
      obtain ⟨rfl, rfl⟩ := h
      clear hq hql hxl
      go_wp2
      go_ret
      exact ⟨rfl, HO.out, HB.out, HK.out⟩
end Go.Proofs.Ytacfalpgmibfnaa.PCow

/-! markCow of the laws: its cells, then its roots; walked by hand. -/
namespace Go.Proofs.Ytacfalpgmibfnaa.PCow
open Go.RowKit Go.Proofs.YtacfalpgmibfnaaW.PrintWords Go.Proofs.YtacfalpgmibfnaaW.PrintLast Go.Proofs.YtacfalpgmibfnaaW.PrintMore Go.Proofs.Ytacfalpgmibfnaa.E
set_option linter.unusedSimpArgs false
set_option linter.unusedVariables false
def laws_markCow.f (f : Nat) (xs : List CL) (ys : List Int) (k : Int) : Option (Int × List CL × List Int) := (laws_markCellS.f f xs k).bind fun p => (laws_markIntS.f f ys p.1).bind fun q => some (q.1, p.2, q.2)
set_option maxHeartbeats 4000000 in
set_option maxRecDepth 100000 in
theorem laws_markCow.calls (f : Nat) (P0_ P1_ : Nat → Prop) (u v : Value) (L : Int) (l0 : List CL) (l1 : List Int) (a1 : Int) (r1 : Int) (r2 : List CL) (r3 : List Int) (w0 w : World) (hB : Below w0.heap.size w0 w) (ho0 : CS w w0.heap.size P0_ u l0) (ho1 : IR w w0.heap.size P1_ v l1) (hap : ∀ k, P0_ k → ¬ P1_ k) (h : laws_markCow.f f l0 l1 a1 = some (r1, r2, r3)) :
    Calls Try.prog 17 #[.agg #[u, v, .int .i64 L], .int .i64 a1] w fun e w' => e = .returned (.int .i64 r1) ∧ CS w' w0.heap.size P0_ u r2 ∧ IR w' w0.heap.size P1_ v r3 ∧ Below w0.heap.size w0 w' ∧ Kept w w' (fun k_ => P0_ k_ ∨ P1_ k_) := by
  have hu25 := Try.underlying25
  unfold laws_markCow.f at h
  obtain ⟨⟨k1, x2⟩, h1, h2⟩ := Option.bind_eq_some_iff.1 h
  obtain ⟨⟨k2, y2⟩, h3, h4⟩ := Option.bind_eq_some_iff.1 h2
  simp only [Option.some.injEq, Prod.mk.injEq] at h4
  obtain ⟨rfl, rfl, rfl⟩ := h4
  obtain ⟨A0, c0, rfl⟩ := Kd.S_slice ho0
  obtain ⟨A1, c1, rfl⟩ := Kd.R_slice ho1
  obtain ⟨W1, hW1⟩ : ∃ W, w.alloc (.cells #[.slice A0 l0.length c0, .slice A1 l1.length c1, .int .i64 L] 25) = W := ⟨_, rfl⟩
  have X1 := Aside0.mk (show W1.heap[w.heap.size]? = some (.cells #[.slice A0 l0.length c0, .slice A1 l1.length c1, .int .i64 L] 25 (0, 0)) by rw [← hW1]; exact heap_alloc_new w _)
  have B1 := Aside0.mk (show Below w0.heap.size w0 W1 by rw [← hW1]; exact hB.alloc hB.size _)
  have K1 := Aside0.mk (show Kept w W1 (fun k_ => P0_ k_ ∨ P1_ k_) by rw [← hW1]; exact (Kept.refl _ _).alloc _)
  have lt0 : ∀ k, (Value.slice A0 l0.length c0).ownBlock = some k → k < w.heap.size := Kd.S_lt ho0
  have O1 := Aside0.mk (show CS W1 w0.heap.size (fun k => P0_ k ∧ k < w.heap.size) (.slice A0 l0.length c0) l0 by rw [← hW1]; exact Kd.S_alloc (Kd.S_mono (Kd.S_bound ho0) (fun k hk => ⟨hk.1, hk.2.2.1⟩)) _)
  have I1 := Aside0.mk (show IR W1 w0.heap.size (fun k => P1_ k ∧ k < w.heap.size) (.slice A1 l1.length c1) l1 by rw [← hW1]; exact Kd.R_alloc (Kd.R_mono (Kd.R_bound ho1) (fun k hk => ⟨hk.1, hk.2.2.1⟩)) _)
  have HA := Aside0.mk hap
  have H1 := Aside0.mk h1
  have H3 := Aside0.mk h3
  have e0 : W1.cell? ⟨w.heap.size, 0, none⟩ = some (.slice A0 l0.length c0) := (blk_cell X1.out _).trans rfl
  clear hB ho0 ho1 hap h h1 h2 h3 lt0
  go_enter Try.func17, Try.ntmps17
  go_wp2_with (go_at_call 48; (with_reducible refine (laws_markCellS.calls f (fun k => P0_ k ∧ k < w.heap.size) _ _ _ k1 x2 w0 W1 B1.out O1.out H1.out).mono ?_))
  (first | rintro e w2 rfl hO2 hB2 hK2 | rintro e w2 ⟨rfl, hO2, hB2, hK2⟩)
  have X2 := Aside0.mk (blk_kept X1.out hK2 (fun h => by have := h.2; omega))
  have B2 := Aside0.mk hB2
  have K2 := Aside0.mk (K1.out.then_ hK2 (fun k hk => .inl (.inl hk.1)))
  have O2 := Aside0.mk hO2
  have I2 := Aside0.mk (Kd.R_kept I1.out hK2 (fun k hk hk2 => HA.out k hk2.1 hk.1))
  clear hB2 hK2 hO2 e0 hW1
  have e1 : w2.cell? ⟨w.heap.size, 1, none⟩ = some (.slice A1 l1.length c1) := (blk_cell X2.out _).trans rfl
  go_wp2_with (go_at_call 49; (with_reducible refine (laws_markIntS.calls f (fun k => P1_ k ∧ k < w.heap.size) _ _ _ k2 y2 w0 w2 B2.out I2.out H3.out).mono ?_))
  (first | rintro e w3 rfl hI3 hB3 hK3 | rintro e w3 ⟨rfl, hI3, hB3, hK3⟩)
  have I3 := Aside0.mk (Kd.R_of_own (Kd.own_of_R hI3) (fun k hk => (I2.out.1 k hk).1) : IR w3 w0.heap.size P1_ (.slice A1 l1.length c1) y2)
  have B3 := Aside0.mk hB3
  have K3 := Aside0.mk (K2.out.then_ hK3 (fun k hk => .inl (.inr hk.1)))
  have O3 := Aside0.mk (Kd.S_mono (Kd.S_kept O2.out hK3 (fun k hk hk3 => HA.out k hk.1 hk3.1)) (fun k hk => hk.1))
  clear hI3 hB3 hK3 e1
  go_wp2
  go_ret
  exact ⟨rfl, O3.out, I3.out, B3.out, K3.out⟩
end Go.Proofs.Ytacfalpgmibfnaa.PCow
