import Derived.Test.YtacfalpgmibfnaaXCowDropM
/-! release: a reference to a cell is taken away, behind a pointer; walked by hand. -/
namespace Go.Proofs.Ytacfalpgmibfnaa.PCow
open Go.RowKit Go.Proofs.YtacfalpgmibfnaaW.PrintWords Go.Proofs.YtacfalpgmibfnaaW.PrintLast Go.Proofs.YtacfalpgmibfnaaW.PrintMore Go.Proofs.Ytacfalpgmibfnaa.E
set_option linter.unusedSimpArgs false
set_option linter.unusedVariables false
set_option maxHeartbeats 4000000 in
set_option maxRecDepth 100000 in
theorem release_calls (v1 : Value) (L : Int) (gb n c : Nat) (A : Option Addr) : ∀ (m : Nat) (C C' : List CL) (k : Int) (P : Nat → Prop) (w0 w : World) (hB : Below w0.heap.size w0 w) (hG : w.heap[gb]? = some (.cells #[.slice A n c, v1, .int .i64 L] 25 (0, 0))) (hS : CS w w0.heap.size P (.slice A n c) C) (h : dropM m C k = some C'),
    Calls Try.prog 73 #[.pointer (some ⟨gb, 0, none⟩), .int .i64 k] w fun e w' => e = .returned (.tuple #[]) ∧ CS w' w0.heap.size P (.slice A n c) C' ∧ w'.heap[gb]? = some (.cells #[.slice A n c, v1, .int .i64 L] 25 (0, 0)) ∧ Below w0.heap.size w0 w' ∧ Kept w w' (fun j => some j = (Value.slice A n c).ownBlock) := by
  intro m
  induction m with
  | zero =>
    intro C C' k P w0 w hB hG hS h
    simp only [dropM] at h
    cases h
  | succ m ih =>
    intro C C' k P w0 w hB hG hS h
    have hu25 := Try.underlying25
    have hu68 := Try.underlying68
    have hu22 := Try.underlying22
    have hnl := cs_len hS
    have hl : n ≤ 9223372036854775807 := by have := (Kd.S_reads' hS).2.2.2.1; omega
    have IH := Aside0.mk ih
    have G := Aside0.mk hG
    have S := Aside0.mk hS
    have B := Aside0.mk hB
    clear ih hG hS hB
    have d0 : w.cell? ⟨gb, 0, none⟩ = some (.slice A n c) := (blk_cell G.out 0).trans rfl
    simp only [dropM] at h
    by_cases hk0 : k < 0
    · rw [if_pos hk0] at h
      simp only [Option.some.injEq] at h
      subst h
      have t1 : (k < 0) = True := eq_true hk0
      clear hk0
      go_enter Try.func73, Try.ntmps73
      go_wp2
      first | go_end0 | ((try simp only [Exit.inBlock, Exit.then]); refine bodyPost_ret (results_none rfl _ _ _) rfl ?_)
      exact ⟨rfl, S.out, G.out, B.out, Kept.refl _ _⟩
    rw [if_neg hk0] at h
    by_cases hkC : k < (C.length : Int)
    · rw [if_pos hkC] at h
      obtain ⟨g, cap, hv, _, _, _⟩ := Kd.S_form S.out (by omega)
      injection hv with hA hn_ hc
      subst hA hc
      clear hn_
      obtain ⟨x, hx⟩ : ∃ x, wrap64 ((rd_T68 C k).f0 - 1) = x := ⟨_, rfl⟩
      rw [hx] at h
      obtain ⟨A2, c2, w1, w2, hw1, hw2, e0, fr0, f0, f1, f2, fr1, fr2, fr3, S1, S2, B1, B2, K1, K2, HK, hc2⟩ := drop_cell B.out S.out k (by omega) (by omega) x
      have hng : gb ≠ g := fun e_ => Kd.S_ne S.out G.out (by decide) (by rw [e_]; rfl)
      have G1 := Aside0.mk (blk_kept G.out K1.out hng)
      have G2 := Aside0.mk (blk_kept G.out K2.out hng)
      have t1 : (k < 0) = False := eq_false hk0
      have t2 : (0 ≤ k) = True := eq_true (by omega)
      have t3 : (k < (n : Int)) = True := eq_true (by omega)
      have d1 : w1.cell? ⟨gb, 0, none⟩ = some (.slice (some ⟨g, 0, none⟩) n c) := (blk_cell G1.out 0).trans rfl
      have HH := Aside0.mk h
      have NG := Aside0.mk hng
      have NL := Aside0.mk hnl
      clear h S B G hng hkC hk0 hnl
      by_cases hxp : x > 0
      · have h := HH.out
        rw [if_pos hxp] at h
        simp only [Option.some.injEq] at h
        subst h
        have t4 : (x > 0) = True := eq_true hxp
        have t5 : (0 < x) = True := eq_true hxp
        clear hxp HH hw2
        go_enter Try.func73, Try.ntmps73
        go_wp2
        first | go_end0 | ((try simp only [Exit.inBlock, Exit.then]); refine bodyPost_ret (results_none rfl _ _ _) rfl ?_)
        exact ⟨rfl, S1.out, G1.out, B1.out, K1.out.mono (fun j hj => by rw [hj]; rfl)⟩
      · have h := HH.out
        rw [if_neg hxp] at h
        have t4 : (x > 0) = False := eq_false hxp
        have t5 : (0 < x) = False := eq_false hxp
        clear hxp HH
        obtain ⟨ks, hks⟩ : ∃ ks, (rd_T68 C k).f2 = ks := ⟨_, rfl⟩
        rw [hks] at h f2 HK hc2
        have hkl : ks.length ≤ 9223372036854775807 := (HK.out w (Kept.refl _ _)).2.1
        have HL := Aside0.mk h
        clear h hks
        go_enter Try.func73, Try.ntmps73
        go_wp2
        clear hw1 hw2 e0 fr0 f0 f1 f2 fr1 fr2 fr3 d0 d1 hx S1 B1 K1 G1 t1 t2 t3
        go_loopw [46] (fun vi wr => ∃ (q : Nat) (D : List CL), q ≤ ks.length ∧ vi = .int .i64 q ∧ Aside0 (loopD (dropM m) (ks.drop q) D = some C') ∧ Aside0 (CS wr w0.heap.size P (.slice (some ⟨g, 0, none⟩) n c) D) ∧ Aside0 (wr.heap[gb]? = some (.cells #[.slice (some ⟨g, 0, none⟩) n c, v1, .int .i64 L] 25 (0, 0))) ∧ Aside0 (Below w0.heap.size w0 wr) ∧ Aside0 (Kept w wr (fun j => j = g))) (fun vi _ => ks.length - (intOf vi).toNat)
        case atStart => exact ⟨0, _, Nat.zero_le _, rfl, ⟨by rw [List.drop_zero]; exact HL.out⟩, S2, G2, B2, K2⟩
        case round =>
          clear HL S2 G2 B2 K2
          obtain ⟨q, D, hq, rfl, HL, S3, G3, B3, K3⟩ := hrel
          by_cases hql : q < ks.length
          · have hqq : ((q : Int) < (ks.length : Int)) = True := eq_true (by omega)
            obtain ⟨ad2, e3, hy⟩ := Kd.at_int (HK.out wr (K3.out.mono (fun j hj => .inl hj))) (q : Int) (by omega) (by omega)
            subst e3
            simp only [Int.toNat_natCast] at hy
            obtain ⟨z, hz⟩ : ∃ z, rd ks (q : Int) = z := ⟨_, rfl⟩
            rw [hz] at hy
            have hd : ks.drop q = z :: ks.drop (q + 1) := by
              rw [List.drop_eq_getElem_cons hql, ← hz]
              congr 1
              unfold rd
              rw [List.getD_eq_getElem?_getD, Int.toNat_natCast, List.getElem?_eq_getElem hql]
              rfl
            obtain ⟨D1, h1, h2⟩ := Option.bind_eq_some_iff.1 (show (dropM m D z).bind (fun E => loopD (dropM m) (ks.drop (q + 1)) E) = some C' by
              have := HL.out
              rw [hd] at this
              exact this)
            have H2 := Aside0.mk h2
            have TT := Aside0.mk (IH.out D D1 z P w0 wr B3.out G3.out S3.out h1)
            clear h1 h2 hd hz HL
            go_wp2_with (go_at_call 73; refine TT.out.mono ?_)
            (first | rintro e w4 rfl hS4 hG4 hB4 hK4 | rintro e w4 ⟨rfl, hS4, hG4, hB4, hK4⟩)
            have S4 := Aside0.mk hS4
            have G4 := Aside0.mk hG4
            have B4 := Aside0.mk hB4
            have K4 := Aside0.mk (K3.out.then_ hK4 (fun j hj => .inl (by injection hj)))
            clear hS4 hG4 hB4 hK4 TT hy S3 G3 B3 K3
            go_wp2
            go_roundw
            case rel => exact ⟨q + 1, D1, hql, by go_num, H2, S4, G4, B4, K4⟩
            case measure => simp [intOf]; omega
          · have hqq : ((q : Int) < (ks.length : Int)) = False := eq_false (by omega)
            have h3 := HL.out
            rw [List.drop_of_length_le (by omega)] at h3
            simp only [loopD, Option.some.injEq] at h3
            subst h3
            clear hql hq HL
            go_wp2
            first | go_end0 | ((try simp only [Exit.inBlock, Exit.then]); refine bodyPost_ret (results_none rfl _ _ _) rfl ?_)
            exact ⟨rfl, S3.out, G3.out, B3.out, K3.out.mono (fun j hj => by rw [hj]; rfl)⟩
    · rw [if_neg hkC] at h
      cases h
end Go.Proofs.Ytacfalpgmibfnaa.PCow
