import Derived.Test.YtacfalpgmibfnaaXCowMark
/-! The marking of cells: cells are looked at below a cell, a row of bools is written; walked by hand. -/
namespace Go.Proofs.Ytacfalpgmibfnaa.PCow
open Go.RowKit Go.Proofs.YtacfalpgmibfnaaW.PrintWords Go.Proofs.YtacfalpgmibfnaaW.PrintLast Go.Proofs.YtacfalpgmibfnaaW.PrintMore Go.Proofs.Ytacfalpgmibfnaa.E
set_option linter.unusedSimpArgs false
set_option linter.unusedVariables false
set_option maxHeartbeats 2000000 in
set_option maxRecDepth 100000 in
theorem impl_Cow_reach.at_ (C : List S68) : ∀ (lev : Nat) (A0 : Option Addr) (c0 : Nat) (A1 : Option Addr) (c1 : Nat) (l1 : List Int) (a2 k : Int) (P : Nat → Prop) (u : Value) (seen r2 : List Bool) (w0 w : World) (hB : Below w0.heap.size w0 w)
    (hr0 : ∀ W_, Kept w W_ (fun k_ => P k_) → Kd.C k68 W_ A0 C.length C) (hc0 : C.length ≤ c0) (hu : Kd.bool.R 4 w w0.heap.size (fun _ => True) u seen) (hP : ∀ k, u.ownBlock = some k → P k ∧ k < w.heap.size) (h : markM C lev k seen = some r2),
    Calls Try.prog 67 #[.agg #[.slice A0 C.length c0, .slice A1 l1.length c1, .int .i64 a2], .int .i64 k, u] w fun e w' => e = .returned (.tuple #[]) ∧ Kd.bool.R 4 w' w0.heap.size (fun _ => True) u r2 ∧ Below w0.heap.size w0 w' ∧ Kept w w' (fun k_ => P k_) := by
  intro lev
  induction lev with
  | zero =>
    intro A0 c0 A1 c1 l1 a2 k P u seen r2 w0 w hB hr0 hc0 hu hP h
    simp only [markM] at h
    cases h
  | succ lev ih =>
    intro A0 c0 A1 c1 l1 a2 k P u seen r2 w0 w hB hr0 hc0 hu hP h
    have hu25 := Try.underlying25
    have hu68 := Try.underlying68
    have hn0 : C.length ≤ 9223372036854775807 := (hr0 w (Kept.refl _ _)).2.1
    have HR := Aside0.mk hr0
    have HU := Aside0.mk hu
    have HP := Aside0.mk hP
    have HB := Aside0.mk hB
    have HS := Aside0.mk hB.size
    have IH := Aside0.mk ih
    simp only [markM] at h
    clear hr0 hu hP hB ih
    by_cases hk1 : k < 0
    · rw [if_pos hk1] at h
      simp only [Option.some.injEq] at h
      subst h
      have hk2 : (k < 0) = True := eq_true hk1
      clear hk1
      go_enter Try.func67, Try.ntmps67
      go_wp2
      repeat (go_quiet (fail); try go_wp2)
      first | go_end0 | ((try simp only [Exit.inBlock, Exit.then]); refine bodyPost_ret (results_none rfl _ _ _) rfl ?_)
      exact ⟨rfl, Kd.R_alloc HU.out _, HB.out.alloc HS.out _, (Kept.refl _ _).alloc _⟩
    rw [if_neg hk1] at h
    have hk2 : (k < 0) = False := eq_false hk1
    by_cases hin : k < (seen.length : Int)
    · rw [if_pos hin] at h
      obtain ⟨W1, hW1⟩ : ∃ W, w.alloc (.cells #[.slice A0 C.length c0, .slice A1 l1.length c1, .int .i64 a2] 25) = W := ⟨_, rfl⟩
      have X1 := Aside0.mk (show W1.heap[w.heap.size]? = some (.cells #[.slice A0 C.length c0, .slice A1 l1.length c1, .int .i64 a2] 25 (0, 0)) by rw [← hW1]; exact heap_alloc_new w _)
      have B1 := Aside0.mk (show Below w0.heap.size w0 W1 by rw [← hW1]; exact HB.out.alloc HS.out _)
      have K1 := Aside0.mk (show Kept w W1 (fun k_ => P k_) by rw [← hW1]; exact (Kept.refl _ _).alloc _)
      have U1 := Aside0.mk (show Kd.bool.R 4 W1 w0.heap.size (fun _ => True) u seen by rw [← hW1]; exact Kd.R_alloc HU.out _)
      obtain ⟨g, cap, hv, hg1, hg2, cs, hgc⟩ := Kd.R_form U1.out (by omega)
      subst hv
      have hgP := HP.out g rfl
      have p1 : (0 ≤ k) = True := eq_true (by omega)
      have p3 : (k < (seen.length : Int)) = True := eq_true hin
      have q1 : W1.cell? ⟨g, k.toNat, none⟩ = some (.bool (rdOf false seen k)) := (Kd.R_celln (d := false) U1.out k (by omega) hin).1
      have qf1 : W1.frozen? ⟨g, k.toNat, none⟩ = false := (Kd.R_celln (d := false) U1.out k (by omega) hin).2
      cases hz : rdOf false seen k with
      | true =>
        rw [hz, if_pos rfl] at h
        simp only [Option.some.injEq] at h
        subst h
        rw [hz] at q1
        clear hz hk1 hin
        go_enter Try.func67, Try.ntmps67
        go_wp2
        repeat (go_quiet (fail); try go_wp2)
        first | go_end0 | ((try simp only [Exit.inBlock, Exit.then]); refine bodyPost_ret (results_none rfl _ _ _) rfl ?_)
        exact ⟨rfl, by (with_reducible repeat (first | apply Kd.R_alloc | apply Kd.R_drewN | apply Kd.R_drew)); exact U1.out, by (with_reducible repeat (first | apply below_alloc | apply pw_below_drewN | apply below_drew1)); exact B1.out, by (with_reducible repeat (first | apply Kept.alloc | apply Kept.drewN | apply Kept.drew)); exact K1.out⟩
      | false =>
        rw [hz, if_neg (by simp)] at h
        rw [hz] at q1
        by_cases hC : k < (C.length : Int)
        · rw [if_pos hC] at h
          obtain ⟨ad, A2, c2, hA0, hlen, hcell⟩ := cell_at HR.out k (by omega) hC
          subst hA0
          have hcell' := Aside0.mk hcell
          clear hcell
          obtain ⟨x, hx⟩ : ∃ x, rd_T68 C k = x := ⟨_, rfl⟩
          rw [hx] at hcell' hlen h
          have hx2 : x.f2.length ≤ 9223372036854775807 := (hcell'.out w (Kept.refl _ _)).2.2.2.2.1
          have p2 : (k < (C.length : Int)) = True := eq_true hC
          have hgs := Aside0.mk (show g < w.heap.size from hgP.2)
          have hgp := Aside0.mk hgP.1
          have HLp := Aside0.mk h
          obtain ⟨w2, hw2, hX2, hB2, hK2, hU2⟩ : ∃ w2, W1.setCell ⟨g, k.toNat, none⟩ (.bool true) = w2 ∧ w2.heap[w.heap.size]? = some (.cells #[.slice (some ad) C.length c0, .slice A1 l1.length c1, .int .i64 a2] 25 (0, 0)) ∧ Below w0.heap.size w0 w2 ∧ Kept w w2 (fun k_ => P k_) ∧ Kd.bool.R 4 w2 w0.heap.size (fun _ => True) (.slice (some ⟨g, 0, none⟩) seen.length cap) (seen.set k.toNat true) :=
            ⟨_, rfl, blk_far X1.out (p := ⟨g, k.toNat, none⟩) (by show w.heap.size ≠ g; omega) _, below_set B1.out hg1, K1.out.setCell (.inl hgP.1) _, Kd.R_putn U1.out k _⟩
          have X2 := Aside0.mk hX2
          have B2 := Aside0.mk hB2
          have K2 := Aside0.mk hK2
          have U2 := Aside0.mk hU2
          have e0' : w2.cell? ⟨w.heap.size, 0, none⟩ = some (.slice (some ad) C.length c0) := (blk_cell X2.out _).trans rfl
          obtain ⟨hx0, hx1, hx2', _⟩ := hcell'.out w2 K2.out
          clear hz hC hin hx hX2 hB2 hK2 hU2 h hgP X1 B1 K1 U1 HU HB hg1 hg2 hgc hk1
          go_enter Try.func67, Try.ntmps67
          go_wp2
          repeat (go_quiet (fail); try go_wp2)
          clear hW1 hw2 e0' hx0 hx1 hx2' q1 qf1
          go_loopw [26] (fun vi wr => ∃ (q : Nat) (s : List Bool), q ≤ x.f2.length ∧ vi = .int .i64 q ∧ Aside0 (loopB (markM C lev) (x.f2.drop q) s = some r2) ∧ Aside0 (Kd.bool.R 4 wr w0.heap.size (fun _ => True) (.slice (some ⟨g, 0, none⟩) seen.length cap) s) ∧ Aside0 (wr.heap[w.heap.size]? = some (.cells #[.slice (some ad) C.length c0, .slice A1 l1.length c1, .int .i64 a2] 25 (0, 0))) ∧ Aside0 (Below w0.heap.size w0 wr) ∧ Aside0 (Kept w wr (fun k_ => P k_))) (fun vi _ => x.f2.length - (intOf vi).toNat)
          case atStart => exact ⟨0, _, Nat.zero_le _, rfl, ⟨by rw [List.drop_zero]; exact HLp.out⟩, U2, X2, B2, K2⟩
          case round =>
            clear X2 B2 K2 U2 HLp
            obtain ⟨q, s, hq, rfl, HLq, U3, X3, B3, K3⟩ := hrel
            have e0 : wr.cell? ⟨w.heap.size, 0, none⟩ = some (.slice (some ad) C.length c0) := (blk_cell X3.out _).trans rfl
            have e1 : wr.cell? ⟨w.heap.size, 1, none⟩ = some (.slice A1 l1.length c1) := (blk_cell X3.out _).trans rfl
            have e2 : wr.cell? ⟨w.heap.size, 2, none⟩ = some (.int .i64 a2) := (blk_cell X3.out _).trans rfl
            by_cases hql : q < x.f2.length
            · obtain ⟨ad2, e3, hy⟩ := Kd.at_int (hcell'.out wr K3.out).2.2.2 (q : Int) (by omega) (by omega)
              subst e3
              simp only [Int.toNat_natCast] at hy
              obtain ⟨z, hz⟩ : ∃ z, rd x.f2 (q : Int) = z := ⟨_, rfl⟩
              rw [hz] at hy
              have hd : x.f2.drop q = z :: x.f2.drop (q + 1) := by
                rw [List.drop_eq_getElem_cons hql, ← hz]
                congr 1
                unfold rd
                rw [List.getD_eq_getElem?_getD, Int.toNat_natCast, List.getElem?_eq_getElem hql]
                rfl
              obtain ⟨s1, h1, h2⟩ := Option.bind_eq_some_iff.1 (show (markM C lev z s).bind (fun t => loopB (markM C lev) (x.f2.drop (q + 1)) t) = some r2 by
                have := HLq.out
                rw [hd] at this
                exact this)
              have H2 := Aside0.mk h2
              have hqq : ((q : Int) < (x.f2.length : Int)) = True := eq_true (by omega)
              have hcall := Aside0.mk (IH.out (some ad) c0 A1 c1 l1 a2 z (fun k_ => P k_ ∧ k_ < w.heap.size) _ s s1 w0 wr B3.out (fun W hk => HR.out W (K3.out.then_ hk (fun _ h3 => .inl h3.1))) hc0 U3.out (fun j hj => by
                have : g = j := by simpa [Value.ownBlock] using hj
                subst this
                exact ⟨⟨hgp.out, hgs.out⟩, by have := K3.out.1; have := hgs.out; omega⟩) h1)
              have hsl : s.length = seen.length := (Kd.R_reads' U3.out).1.symm
              clear h1 h2 hd hz HLq
              go_wp2_with (go_at_call 67; (with_reducible refine hcall.out.mono ?_))
              (first | rintro e w4 rfl hU4 hB4 hK4 | rintro e w4 ⟨rfl, hU4, hB4, hK4⟩)
              have X4 := Aside0.mk (blk_kept X3.out hK4 (fun h3 => by have := h3.2; omega))
              have K4 := Aside0.mk (K3.out.then_ hK4 (fun _ h3 => .inl h3.1))
              have U4 := Aside0.mk hU4
              have B4 := Aside0.mk hB4
              clear hU4 hB4 hK4 e0 e1 e2 hcall
              go_wp2
              go_roundw
              case rel => exact ⟨q + 1, s1, hql, by go_num, H2, U4, X4, B4, K4⟩
              case measure => simp [intOf]; omega
            · have hqq : ((q : Int) < (x.f2.length : Int)) = False := eq_false (by omega)
              have h3 := HLq.out
              rw [List.drop_of_length_le (by omega)] at h3
              simp only [loopB, Option.some.injEq] at h3
              subst h3
              clear hql hq HLq
              go_wp2
              first | go_end0 | ((try simp only [Exit.inBlock, Exit.then]); refine bodyPost_ret (results_none rfl _ _ _) rfl ?_)
              exact ⟨rfl, U3.out, B3.out, K3.out⟩
        · rw [if_neg hC] at h
          cases h
    · rw [if_neg hin] at h
      cases h
def impl_Cow_reach.f (l0_0 : List S68) (l0_1 : List Int) (a0_2 : Int) (a1 : Int) (l2 : List Bool) : Option (List Bool) := markM l0_0 5 a1 l2
theorem impl_Cow_reach.calls (A0_0 : Option Addr) (c0_0 : Nat) (l0_0 : List (S68)) (A0_1 : Option Addr) (c0_1 : Nat) (l0_1 : List Int) (a0_2 : Int) (a1 : Int) (P2_ : Nat → Prop) (u9000_ : Value) (l2 : List Bool) (r : List Bool) (w0 w : World) (hB : Below w0.heap.size w0 w) (hr0_0 : ∀ W_, Kept w W_ (fun k_ => P2_ k_) → Kd.C k68 W_ A0_0 l0_0.length l0_0) (hc0_0 : l0_0.length ≤ c0_0) (hr0_1 : ∀ W_, Kept w W_ (fun k_ => P2_ k_) → Kd.C (Kd.int .i64) W_ A0_1 l0_1.length l0_1) (hc0_1 : l0_1.length ≤ c0_1) (ho2 : Kd.R Kd.bool 4 w w0.heap.size P2_ u9000_ l2) (h : impl_Cow_reach.f l0_0 l0_1 a0_2 a1 l2 = some r) :
    Calls Try.prog 67 #[.agg #[.slice A0_0 l0_0.length c0_0, .slice A0_1 l0_1.length c0_1, .int .i64 a0_2], .int .i64 a1, u9000_] w fun e w' => e = .returned (.tuple #[]) ∧ Kd.R Kd.bool 4 w' w0.heap.size (fun k_ => (P2_ k_ ∨ w.heap.size ≤ k_)) u9000_ r ∧ Below w0.heap.size w0 w' ∧ Kept w w' (fun k_ => P2_ k_) :=
  (impl_Cow_reach.at_ l0_0 5 A0_0 c0_0 A0_1 c0_1 l0_1 a0_2 a1 P2_ u9000_ l2 r w0 w hB hr0_0 hc0_0 (Kd.R_mono ho2 (fun _ _ => trivial)) (fun k hk => ⟨ho2.1 k hk, Kd.R_lt ho2 k hk⟩) h).mono fun e w' ⟨he, hR, hB', hK⟩ => ⟨he, rowb_ok hR (fun k hk => .inl (ho2.1 k hk)), hB', hK⟩
end Go.Proofs.Ytacfalpgmibfnaa.PCow
