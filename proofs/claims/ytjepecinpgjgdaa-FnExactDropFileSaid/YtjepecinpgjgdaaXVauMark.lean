import Derived.Test.YtjepecinpgjgdaaXVauRow
import Derived.Test.YtjepecinpgjgdaaYVaulawsM
/-! markKeptS, markFileS, markVault of the laws; walked by hand. -/
namespace Go.Proofs.Ytjepecinpgjgdaa.PVau
open Go.RowKit Go.Proofs.YtjepecinpgjgdaaW.PrintWords Go.Proofs.YtjepecinpgjgdaaW.PrintLast Go.Proofs.YtjepecinpgjgdaaW.PrintMore Go.Proofs.Ytjepecinpgjgdaa.E
set_option linter.unusedSimpArgs false
set_option linter.unusedVariables false
def markKM (f : Nat) (n : Nat) : Nat → Int → Int → List KL → Option (Int × List KL)
 | 0, i, k, xs => if i < (n : Int) then none else some (k, xs)
 | m + 1, i, k, xs => if i < (n : Int) then ((laws_markText.f f k).bind fun t => markKM f n m (i + 1) (wrap64 (wrap64 (k + 1) + 1)) (xs.set i.toNat ⟨t, wrap64 (k + 1)⟩)) else some (k, xs)
def laws_markKeptS.f (f : Nat) (xs : List KL) (k : Int) : Option (Int × List KL) := markKM f xs.length xs.length 0 k xs
def markFM (f : Nat) (n : Nat) : Nat → Int → Int → List FL → Option (Int × List FL)
 | 0, i, k, xs => if i < (n : Int) then none else some (k, xs)
 | m + 1, i, k, xs => if i < (n : Int) then ((laws_markIntS.f f (rd_T87 xs i).f0 k).bind fun p => markFM f n m (i + 1) p.1 (xs.set i.toNat ⟨p.2⟩)) else some (k, xs)
def laws_markFileS.f (f : Nat) (xs : List FL) (k : Int) : Option (Int × List FL) := markFM f xs.length xs.length 0 k xs
theorem mark_kept_step {w0 w wr w1 : World} {g n c q : Nat} {P : Nat → Prop} {k x : Int} {t : ByteArray} {xs : List KL} (hX : xs.length = n) (hQ : q < n) (hG1 : w0.heap.size ≤ g) (hG : P g) (HO : KS wr w0.heap.size P (.slice (some ⟨g, 0, none⟩) n c) xs) (HB : Below w0.heap.size w0 wr) (HK : Kept w wr (fun k_ => P k_)) (hb1 : Below wr.heap.size wr w1) :
  ∃ w2, w1.setCell ⟨g, q * 2, none⟩ (.string t) = w2 ∧ w1.cell? ⟨g, q * 2, none⟩ = some (.string (rd_T89 xs (q : Int)).f0) ∧ w1.frozen? ⟨g, q * 2, none⟩ = false ∧ ∃ w3, w2.setCell ⟨g, q * 2 + 1, none⟩ (.int .i64 x) = w3 ∧ w2.cell? ⟨g, q * 2 + 1, none⟩ = some (.int .i64 (rd_T89 xs (q : Int)).f1) ∧ w2.frozen? ⟨g, q * 2 + 1, none⟩ = false ∧
   Aside0 (KS w3 w0.heap.size P (.slice (some ⟨g, 0, none⟩) n c) (xs.set q ⟨t, x⟩)) ∧ Aside0 (Below w0.heap.size w0 w3) ∧ Aside0 (Kept w w3 (fun k_ => P k_)) := by
 have O1 := Kd.R_below HO hb1
 have B1 := below_then HB HB.size hb1
 have K1 := HK.below hb1
 obtain ⟨c0, _, f0⟩ := ks_elem O1 (q : Int) (by omega) (by omega)
 have O2 := ks_put0 O1 (q : Int) (by omega) (by omega) t
 obtain ⟨_, c1, f1⟩ := ks_elem O2 (q : Int) (by omega) (by omega)
 have O3 := ks_put1 O2 (q : Int) (by omega) (by omega) x
 simp only [Int.toNat_natCast] at c0 f0 c1 f1 O2 O3
 rw [rd_kl_set (by omega)] at c1 O3
 rw [List.set_set] at O3
 exact ⟨_, rfl, c0, f0 0, _, rfl, c1, f1 1, ⟨O3⟩, ⟨below_set (below_set B1 hG1) hG1⟩, ⟨(K1.setCell (p := ⟨g, q * 2, none⟩) (.inl hG) _).setCell (p := ⟨g, q * 2 + 1, none⟩) (.inl hG) _⟩⟩
set_option maxHeartbeats 4000000 in
set_option maxRecDepth 100000 in
theorem laws_markKeptS.calls (f : Nat) (P0_ : Nat → Prop) (u : Value) (l0 : List KL) (a1 : Int) (r1 : Int) (r2 : List KL) (w0 w : World) (hB : Below w0.heap.size w0 w) (ho0 : KS w w0.heap.size P0_ u l0) (h : laws_markKeptS.f f l0 a1 = some (r1, r2)) :
  Calls Try.prog 77 #[u, .int .i64 a1] w fun e w' => e = .returned (.int .i64 r1) ∧ KS w' w0.heap.size P0_ u r2 ∧ Below w0.heap.size w0 w' ∧ Kept w w' (fun k_ => P0_ k_) := by
 have hu68 := Try.underlying89
 have hu22 := Try.underlying48
 obtain ⟨A, c, rfl⟩ := Kd.R_slice ho0
 have hl := (Kd.R_reads' ho0).2.2.2.1
 have HO := Aside0.mk ho0
 have HB := Aside0.mk hB
 have HF := Aside0.mk h
 clear ho0 hB h
 go_enter Try.func77, Try.ntmps77
 go_wp2
 go_loopw [5, 1] (fun vi vk wr => ∃ (q : Nat) (k : Int) (xs : List KL), q ≤ l0.length ∧ vi = .int .i64 q ∧ vk = .int .i64 k ∧ xs.length = l0.length ∧ Aside0 (markKM f l0.length (l0.length - q) q k xs = some (r1, r2)) ∧ Aside0 (KS wr w0.heap.size P0_ (.slice A l0.length c) xs) ∧ Aside0 (Below w0.heap.size w0 wr) ∧ Aside0 (Kept w wr (fun k_ => P0_ k_))) (fun vi _ _ => l0.length - (intOf vi).toNat)
 case atStart => exact ⟨0, a1, l0, Nat.zero_le _, rfl, rfl, rfl, ⟨by rw [Nat.sub_zero]; exact HF.out⟩, HO, HB, ⟨Kept.refl _ _⟩⟩
 case round =>
  clear HF HO HB
  obtain ⟨q, k, xs, hq, rfl, rfl, hxl, HF, HO, HB, HK⟩ := hrel
  by_cases hql : q < l0.length
  ·have hqq : ((q : Int) < (l0.length : Int)) = True := eq_true (by omega)
   have h := HF.out
   rw [show l0.length - q = (l0.length - q - 1) + 1 by omega, markKM, if_pos (by omega)] at h
   obtain ⟨t, ht, h2⟩ := Option.bind_eq_some_iff.1 h
   have HF2 := Aside0.mk h2
   have HT := Aside0.mk ht
   obtain ⟨g, cap, hv, hg1, hg2, cs, hgc⟩ := Kd.R_form HO.out (by omega)
   injection hv with hA hn_ hc
   subst hA hc
   clear hn_ HF h h2 ht hgc
   have HG := Aside0.mk (show P0_ g from HO.out.1 g rfl)
   have HG1 := Aside0.mk hg1
   have HX := Aside0.mk hxl
   have HQ := Aside0.mk hql
   clear hg1 hxl hq
   go_wp2_with (go_at_call 62; (with_reducible refine (laws_markText.calls f k t _ HT.out).mono ?_); (first | rintro e w1 rfl hb1 | rintro e w1 ⟨rfl, hb1⟩); (obtain ⟨w2, hw2, c0, f0, w3, hw3, c1, f1, O3, B3, K3⟩ := mark_kept_step (q := q) (k := k) (t := t) (x := wrap64 (k + 1)) HX.out HQ.out HG1.out HG.out HO.out HB.out HK.out hb1); clear hb1 HT)
   go_roundw
   case rel => exact ⟨q + 1, _, _, by omega, by go_num, rfl, (List.length_set ..).trans HX.out, ⟨by
    have h := HF2.out
    rw [show l0.length - q - 1 = l0.length - (q + 1) by omega] at h
    simp only [Int.toNat_natCast] at h
    exact h⟩, O3, B3, K3⟩
   case measure => simp [intOf]; omega
  ·have hqq : ((q : Int) < (l0.length : Int)) = False := eq_false (by omega)
   have h := HF.out
   rw [show l0.length - q = 0 by omega, markKM, if_neg (by omega)] at h
   simp only [Option.some.injEq, Prod.mk.injEq] at h
   obtain ⟨rfl, rfl⟩ := h
   clear hq hql hxl
   go_wp2
   go_ret
   exact ⟨rfl, HO.out, HB.out, HK.out⟩
set_option maxHeartbeats 4000000 in
set_option maxRecDepth 100000 in
theorem laws_markFileS.calls (f : Nat) (P0_ : Nat → Prop) (u : Value) (l0 : List FL) (a1 : Int) (r1 : Int) (r2 : List FL) (w0 w : World) (hB : Below w0.heap.size w0 w) (ho0 : FS w w0.heap.size P0_ u l0) (h : laws_markFileS.f f l0 a1 = some (r1, r2)) :
  Calls Try.prog 78 #[u, .int .i64 a1] w fun e w' => e = .returned (.int .i64 r1) ∧ FS w' w0.heap.size P0_ u r2 ∧ Below w0.heap.size w0 w' ∧ Kept w w' (fun k_ => P0_ k_) := by
 have hu68 := Try.underlying87
 have hu22 := Try.underlying49
 obtain ⟨A, c, rfl⟩ := Kd.S_slice ho0
 have hl := (Kd.S_reads' ho0).2.2.2.1
 have HO := Aside0.mk ho0
 have HB := Aside0.mk hB
 have HF := Aside0.mk h
 clear ho0 hB h
 go_enter Try.func78, Try.ntmps78
 go_wp2
 go_loopw [5, 1] (fun vi vk wr => ∃ (q : Nat) (k : Int) (xs : List FL), q ≤ l0.length ∧ vi = .int .i64 q ∧ vk = .int .i64 k ∧ xs.length = l0.length ∧ Aside0 (markFM f l0.length (l0.length - q) q k xs = some (r1, r2)) ∧ Aside0 (FS wr w0.heap.size P0_ (.slice A l0.length c) xs) ∧ Aside0 (Below w0.heap.size w0 wr) ∧ Aside0 (Kept w wr (fun k_ => P0_ k_))) (fun vi _ _ => l0.length - (intOf vi).toNat)
 case atStart => exact ⟨0, a1, l0, Nat.zero_le _, rfl, rfl, rfl, ⟨by rw [Nat.sub_zero]; exact HF.out⟩, HO, HB, ⟨Kept.refl _ _⟩⟩
 case round =>
  clear HF HO HB
  obtain ⟨q, k, xs, hq, rfl, rfl, hxl, HF, HO, HB, HK⟩ := hrel
  by_cases hql : q < l0.length
  ·have hqq : ((q : Int) < (l0.length : Int)) = True := eq_true (by omega)
   have h := HF.out
   rw [show l0.length - q = (l0.length - q - 1) + 1 by omega, markFM, if_pos (by omega)] at h
   obtain ⟨⟨k1, x2⟩, hm, h3⟩ := Option.bind_eq_some_iff.1 h
   have HF2 := Aside0.mk h3
   have HM := Aside0.mk hm
   obtain ⟨g, cap, hv, hg1, hg2, cs, hgc⟩ := Kd.S_form HO.out (by omega)
   injection hv with hA hn_ hc
   subst hA hc
   clear hn_ HF h h3 hm hgc
   obtain ⟨v, hvc, hR, hP, hback⟩ := fs_inner HO.out (q : Int) (by omega) (by omega)
   simp only [Int.toNat_natCast] at hvc hback
   obtain ⟨A2, cc, rfl⟩ := Kd.R_slice hR
   have TT := Aside0.mk (laws_markIntS.calls f (fun k_ => some k_ = (Value.slice A2 (rd_T87 xs (q : Int)).f0.length cc).ownBlock) _ _ k k1 x2 w0 wr HB.out hR HM.out)
   have HP2 := Aside0.mk hP
   have HBK := Aside0.mk hback
   have HX := Aside0.mk hxl
   have HQ := Aside0.mk hql
   clear hR hP hback hxl hq hql hg1 HM
   go_wp2_with (go_at_call 17; refine TT.out.mono ?_)
   (first | rintro e w3 rfl hR3 hB3 hK3 | rintro e w3 ⟨rfl, hR3, hB3, hK3⟩)
   have O3 := Aside0.mk (HBK.out w3 x2 hK3 (Kd.R_mono hR3 (fun _ _ => trivial)))
   have B3 := Aside0.mk hB3
   have K3 := Aside0.mk (HK.out.then_ hK3 (fun k_ hk_ => .inl (HP2.out k_ hk_.symm).1))
   clear hR3 hB3 hK3 hvc TT HP2 HBK
   have hql := HQ.out
   go_wp2
   go_roundw
   case rel => exact ⟨q + 1, k1, _, by omega, by go_num, rfl, (List.length_set ..).trans HX.out, ⟨by
    have h := HF2.out
    rw [show l0.length - q - 1 = l0.length - (q + 1) by omega] at h
    simp only [Int.toNat_natCast] at h
    exact h⟩, O3, B3, K3⟩
   case measure => simp [intOf]; omega
  ·have hqq : ((q : Int) < (l0.length : Int)) = False := eq_false (by omega)
   have h := HF.out
   rw [show l0.length - q = 0 by omega, markFM, if_neg (by omega)] at h
   simp only [Option.some.injEq, Prod.mk.injEq] at h
   obtain ⟨rfl, rfl⟩ := h
   clear hq hql hxl
   go_wp2
   go_ret
   exact ⟨rfl, HO.out, HB.out, HK.out⟩
def laws_markVault.f (f : Nat) (xs : List KL) (ys : List FL) (k : Int) : Option (Int × List KL × List FL) := (laws_markKeptS.f f xs k).bind fun p => (laws_markFileS.f f ys p.1).bind fun q => some (q.1, p.2, q.2)
set_option maxHeartbeats 4000000 in
set_option maxRecDepth 100000 in
theorem laws_markVault.calls (f : Nat) (P0_ P1_ : Nat → Prop) (u v : Value) (l0 : List KL) (l1 : List FL) (a1 : Int) (r1 : Int) (r2 : List KL) (r3 : List FL) (w0 w : World) (hB : Below w0.heap.size w0 w) (ho0 : KS w w0.heap.size P0_ u l0) (ho1 : FS w w0.heap.size P1_ v l1) (hap : ∀ k, P0_ k → ¬ P1_ k) (h : laws_markVault.f f l0 l1 a1 = some (r1, r2, r3)) :
  Calls Try.prog 44 #[.agg #[u, v], .int .i64 a1] w fun e w' => e = .returned (.int .i64 r1) ∧ KS w' w0.heap.size P0_ u r2 ∧ FS w' w0.heap.size P1_ v r3 ∧ Below w0.heap.size w0 w' ∧ Kept w w' (fun k_ => P0_ k_ ∨ P1_ k_) := by
 have hu25 := Try.underlying51
 unfold laws_markVault.f at h
 obtain ⟨⟨k1, x2⟩, h1, h2⟩ := Option.bind_eq_some_iff.1 h
 obtain ⟨⟨k2, y2⟩, h3, h4⟩ := Option.bind_eq_some_iff.1 h2
 simp only [Option.some.injEq, Prod.mk.injEq] at h4
 obtain ⟨rfl, rfl, rfl⟩ := h4
 obtain ⟨A0, c0, rfl⟩ := Kd.R_slice ho0
 obtain ⟨A1, c1, rfl⟩ := Kd.S_slice ho1
 obtain ⟨W1, hW1⟩ : ∃ W, w.alloc (.cells #[.slice A0 l0.length c0, .slice A1 l1.length c1] 51) = W := ⟨_, rfl⟩
 have X1 := Aside0.mk (show W1.heap[w.heap.size]? = some (.cells #[.slice A0 l0.length c0, .slice A1 l1.length c1] 51 (0, 0)) by rw [← hW1]; exact heap_alloc_new w _)
 have B1 := Aside0.mk (show Below w0.heap.size w0 W1 by rw [← hW1]; exact hB.alloc hB.size _)
 have K1 := Aside0.mk (show Kept w W1 (fun k_ => P0_ k_ ∨ P1_ k_) by rw [← hW1]; exact (Kept.refl _ _).alloc _)
 have O1 := Aside0.mk (show KS W1 w0.heap.size (fun k => P0_ k ∧ k < w.heap.size) (.slice A0 l0.length c0) l0 by rw [← hW1]; exact Kd.R_alloc (Kd.R_mono (Kd.R_bound ho0) (fun k hk => ⟨hk.1, hk.2.2.1⟩)) _)
 have I1 := Aside0.mk (show FS W1 w0.heap.size (fun k => P1_ k ∧ k < w.heap.size) (.slice A1 l1.length c1) l1 by rw [← hW1]; exact Kd.S_alloc (Kd.S_mono (Kd.S_bound ho1) (fun k hk => ⟨hk.1, hk.2.2.1⟩)) _)
 have HA := Aside0.mk hap
 have H1 := Aside0.mk h1
 have H3 := Aside0.mk h3
 have e0 : W1.cell? ⟨w.heap.size, 0, none⟩ = some (.slice A0 l0.length c0) := (blk_cell X1.out _).trans rfl
 clear hB ho0 ho1 hap h h1 h2 h3
 go_enter Try.func44, Try.ntmps44
 go_wp2_with (go_at_call 77; (with_reducible refine (laws_markKeptS.calls f (fun k => P0_ k ∧ k < w.heap.size) _ _ _ k1 x2 w0 W1 B1.out O1.out H1.out).mono ?_))
 (first | rintro e w2 rfl hO2 hB2 hK2 | rintro e w2 ⟨rfl, hO2, hB2, hK2⟩)
 have X2 := Aside0.mk (blk_kept X1.out hK2 (fun h => by have := h.2; omega))
 have B2 := Aside0.mk hB2
 have K2 := Aside0.mk (K1.out.then_ hK2 (fun k hk => .inl (.inl hk.1)))
 have O2 := Aside0.mk hO2
 have I2 := Aside0.mk (Kd.S_kept I1.out hK2 (fun k hk hk2 => HA.out k hk2.1 hk.1))
 clear hB2 hK2 hO2 e0 hW1
 have e1 : w2.cell? ⟨w.heap.size, 1, none⟩ = some (.slice A1 l1.length c1) := (blk_cell X2.out _).trans rfl
 go_wp2_with (go_at_call 78; (with_reducible refine (laws_markFileS.calls f (fun k => P1_ k ∧ k < w.heap.size) _ _ _ k2 y2 w0 w2 B2.out I2.out H3.out).mono ?_))
 (first | rintro e w3 rfl hI3 hB3 hK3 | rintro e w3 ⟨rfl, hI3, hB3, hK3⟩)
 have I3 := Aside0.mk (Kd.S_mono hI3 (fun k hk => hk.1) : FS w3 w0.heap.size P1_ (.slice A1 l1.length c1) y2)
 have B3 := Aside0.mk hB3
 have K3 := Aside0.mk (K2.out.then_ hK3 (fun k hk => .inl (.inr hk.1)))
 have O3 := Aside0.mk (Kd.R_mono (Kd.R_kept O2.out hK3 (fun k hk hk3 => HA.out k hk.1 hk3.1)) (fun k hk => hk.1))
 clear hI3 hB3 hK3 e1
 go_wp2
 go_ret
 exact ⟨rfl, O3.out, I3.out, B3.out, K3.out⟩
end Go.Proofs.Ytjepecinpgjgdaa.PVau
