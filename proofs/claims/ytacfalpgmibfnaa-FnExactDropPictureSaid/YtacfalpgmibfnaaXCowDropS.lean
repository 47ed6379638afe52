import Derived.Test.YtacfalpgmibfnaaXCowDropM
import Derived.Test.YtacfalpgmibfnaaXCowOwn
/-! l14Drop: a reference to a cell is taken away, by value; walked by hand. -/
namespace Go.Proofs.Ytacfalpgmibfnaa.PCow
open Go.RowKit Go.Proofs.YtacfalpgmibfnaaW.PrintWords Go.Proofs.YtacfalpgmibfnaaW.PrintLast Go.Proofs.YtacfalpgmibfnaaW.PrintMore Go.Proofs.Ytacfalpgmibfnaa.E
set_option linter.unusedSimpArgs false
set_option linter.unusedVariables false
theorem drop_fold {w0 w W2 w5 w6 : World} {gz g n c n1 c1 : Nat} {A1 : Option Addr} {L : Int} {P : Nat → Prop} {D : List CL} {zb : Obj} (hw6 : ((w5.setCell ⟨w.heap.size, 0, none⟩ (.slice (some ⟨g, 0, none⟩) n c)).setCell ⟨w.heap.size, 1, none⟩ (.slice A1 n1 c1)).setCell ⟨w.heap.size, 2, none⟩ (.int .i64 L) = w6)
    (X5 : w5.heap[w.heap.size]? = some (.cells #[.slice (some ⟨g, 0, none⟩) n c, .slice A1 n1 c1, .int .i64 L] 25 (0, 0))) (Z5 : w5.heap[gz]? = some zb) (hne : gz ≠ w.heap.size) (hS : CS w5 w0.heap.size (fun j => P j ∧ j < w.heap.size) (.slice (some ⟨g, 0, none⟩) n c) D) (hB : Below w0.heap.size w0 w5) (hle : w0.heap.size ≤ w.heap.size) (hK : Kept w w5 (fun j => j = g)) (hKB : Kept W2 w5 (fun j => j = g ∨ ¬ (P j ∧ j < w.heap.size))) :
    w6.heap[w.heap.size]? = some (.cells #[.slice (some ⟨g, 0, none⟩) n c, .slice A1 n1 c1, .int .i64 L] 25 (0, 0)) ∧ w6.heap[gz]? = some zb ∧ CS w6 w0.heap.size (fun j => P j ∧ j < w.heap.size) (.slice (some ⟨g, 0, none⟩) n c) D ∧ Below w0.heap.size w0 w6 ∧ Kept w w6 (fun j => j = g) ∧ Kept W2 w6 (fun j => j = g ∨ ¬ (P j ∧ j < w.heap.size)) := by
  subst hw6
  refine ⟨put3 X5 _ _ _, ?_, ?_, below_set (below_set (below_set hB hle) hle) hle, ((hK.setCell (p := ⟨w.heap.size, 0, none⟩) (.inr (Nat.le_refl _)) _).setCell (p := ⟨w.heap.size, 1, none⟩) (.inr (Nat.le_refl _)) _).setCell (p := ⟨w.heap.size, 2, none⟩) (.inr (Nat.le_refl _)) _, ?_⟩
  · exact (Below.heap_setCell _ ⟨w.heap.size, 2, none⟩ _ gz hne).trans ((Below.heap_setCell _ ⟨w.heap.size, 1, none⟩ _ gz hne).trans ((Below.heap_setCell _ ⟨w.heap.size, 0, none⟩ _ gz hne).trans Z5))
  · exact Kd.S_far (p := ⟨w.heap.size, 2, none⟩) (Kd.S_far (p := ⟨w.heap.size, 1, none⟩) (Kd.S_far (p := ⟨w.heap.size, 0, none⟩) hS (fun j hj => Nat.ne_of_lt hj.2) _) (fun j hj => Nat.ne_of_lt hj.2) _) (fun j hj => Nat.ne_of_lt hj.2) _
  · have h1 : ∀ j : Nat, j = w.heap.size → (j = g ∨ ¬ (P j ∧ j < w.heap.size)) := fun j hj => .inr (fun h => by omega)
    exact ((hKB.setCell (p := ⟨w.heap.size, 0, none⟩) (.inl (h1 _ rfl)) _).setCell (p := ⟨w.heap.size, 1, none⟩) (.inl (h1 _ rfl)) _).setCell (p := ⟨w.heap.size, 2, none⟩) (.inl (h1 _ rfl)) _
set_option maxHeartbeats 8000000 in
set_option maxRecDepth 100000 in
theorem drop_calls (L : Int) (n c n1 c1 : Nat) (A A1 : Option Addr) : ∀ (m : Nat) (C C' : List CL) (k : Int) (P : Nat → Prop) (w0 w : World) (hB : Below w0.heap.size w0 w) (hS : CS w w0.heap.size P (.slice A n c) C) (h : dropM m C k = some C'),
    Calls Try.prog 71 #[.agg #[.slice A n c, .slice A1 n1 c1, .int .i64 L], .int .i64 k] w fun e w' => e = .returned (.agg #[.slice A n c, .slice A1 n1 c1, .int .i64 L]) ∧ CS w' w0.heap.size P (.slice A n c) C' ∧ Below w0.heap.size w0 w' ∧ Kept w w' (fun j => some j = (Value.slice A n c).ownBlock) := by
  intro m
  induction m with
  | zero =>
    intro C C' k P w0 w hB hS h
    simp only [dropM] at h
    cases h
  | succ m ih =>
    intro C C' k P w0 w hB hS h
    have hu25 := Try.underlying25
    have hu68 := Try.underlying68
    have hu22 := Try.underlying22
    have hnl := cs_len hS
    have hl : n ≤ 9223372036854775807 := by have := (Kd.S_reads' hS).2.2.2.1; omega
    have IH := Aside0.mk ih
    have LO := Aside0.mk (show ∀ j, (Value.slice A n c).ownBlock = some j → j < w.heap.size from Kd.S_lt hS)
    have NL := Aside0.mk hnl
    clear hnl
    simp only [dropM] at h
    by_cases hk0 : k < 0
    · rw [if_pos hk0] at h
      simp only [Option.some.injEq] at h
      subst h
      have t1 : (k < 0) = True := eq_true hk0
      have HS := Aside0.mk hS
      have HB := Aside0.mk hB
      clear hk0 ih hS hB
      go_enter Try.func71, Try.ntmps71
      go_wp2
      refine bodyPost_ret (results_cell_row rfl _ _ (w.heap.size + 1) 25 #[.slice A n c, .slice A1 n1 c1, .int .i64 L] (0, 0) _ rfl (by have h_ := heap_alloc_new (w.alloc (.cells #[.slice A n c, .slice A1 n1 c1, .int .i64 L] 25)) (.cells #[.slice A n c, .slice A1 n1 c1, .int .i64 L] 25); simpa using h_) Try.underlying25 rfl (by kernel_rfl)) rfl ?_
      exact ⟨rfl, Kd.S_alloc (Kd.S_alloc HS.out _) _, below_then HB.out HB.out.size (below_alloc (below_alloc (Below.refl _ _) _) _), ((Kept.refl _ _).alloc _).alloc _⟩
    rw [if_neg hk0] at h
    by_cases hkC : k < (C.length : Int)
    · rw [if_pos hkC] at h
      have hnl := NL.out
      obtain ⟨g, cap, hv, hge, hlt, _⟩ := Kd.S_form hS (by omega)
      injection hv with hA hn_ hc
      subst hA hc
      clear hn_
      obtain ⟨x, hx⟩ : ∃ x, wrap64 ((rd_T68 C k).f0 - 1) = x := ⟨_, rfl⟩
      rw [hx] at h
      obtain ⟨W1, hW1⟩ : ∃ W, w.alloc (.cells #[.slice (some ⟨g, 0, none⟩) n c, .slice A1 n1 c1, .int .i64 L] 25) = W := ⟨_, rfl⟩
      obtain ⟨W2, hW2⟩ : ∃ W, W1.alloc (.cells #[.slice none 0 0, .slice none 0 0, .int .i64 0] 25) = W := ⟨_, rfl⟩
      have hb1 : Below w.heap.size w W1 := by rw [← hW1]; exact below_alloc (Below.refl _ _) _
      have hb2 : Below W1.heap.size W1 W2 := by rw [← hW2]; exact below_alloc (Below.refl _ _) _
      have X1 : W1.heap[w.heap.size]? = some (.cells #[.slice (some ⟨g, 0, none⟩) n c, .slice A1 n1 c1, .int .i64 L] 25 (0, 0)) := by rw [← hW1]; exact heap_alloc_new w _
      have Z1 : W2.heap[W1.heap.size]? = some (.cells #[.slice none 0 0, .slice none 0 0, .int .i64 0] 25 (0, 0)) := by rw [← hW2]; exact heap_alloc_new W1 _
      have hb := below_step hb1 hb2
      have hSS := Kd.S_below (Kd.S_mono (Kd.S_bound hS) (fun j hj => (⟨hj.1, hj.2.2.1⟩ : P j ∧ j < w.heap.size))) hb
      have hBB := below_then hB hB.size hb
      obtain ⟨A2, c2, w3, w4, hw3, hw4, e0, fr0, f0, f1, f2, fr1, fr2, fr3, S1, S2, B1, B2, K1, K2, HK, hc2⟩ := drop_cell hBB hSS k (by omega) (by omega) x
      have NB := Aside0.mk (show w.heap.size < W1.heap.size from blk_lt X1)
      have NG := Aside0.mk hlt
      have WB := Aside0.mk (show w0.heap.size ≤ w.heap.size from hB.size)
      have hng : w.heap.size ≠ g := by omega
      have hnz : W1.heap.size ≠ g := by have := NB.out; omega
      have X := Aside0.mk (blk_below X1 hb2)
      have Z := Aside0.mk Z1
      have X3 := Aside0.mk (blk_kept X.out K1.out hng)
      have X4 := Aside0.mk (blk_kept X.out K2.out hng)
      have Z3 := Aside0.mk (blk_kept Z1 K1.out hnz)
      have Z4 := Aside0.mk (blk_kept Z1 K2.out hnz)
      replace K1 := Aside0.mk ((Kept.of_below hb (fun j => j = g)).then_ K1.out (fun j hj => .inl hj))
      replace K2 := Aside0.mk ((Kept.of_below hb (fun j => j = g)).then_ K2.out (fun j hj => .inl hj))
      have HKs := Aside0.mk (show ∀ W, Kept W2 W (fun j => j = g ∨ ¬ (P j ∧ j < w.heap.size)) → (Kd.int .i64).C W A2 (rd_T68 C k).f2.length (rd_T68 C k).f2 from HK.out)
      have KB := Aside0.mk (show Kept W2 w4 (fun j => j = g ∨ ¬ (P j ∧ j < w.heap.size)) by refine Kept.mono (S := fun j => j = g) ?_ (fun j hj => .inl hj); rw [← hw4, ← hw3]; exact (((((Kept.refl W2 (fun j => j = g)).setCell (p := ⟨g, k.toNat * 3, none⟩) (.inl rfl) _).setCell (p := ⟨g, k.toNat * 3, none⟩) (.inl rfl) _).setCell (p := ⟨g, k.toNat * 3 + 1, none⟩) (.inl rfl) _).setCell (p := ⟨g, k.toNat * 3 + 2, none⟩) (.inl rfl) _))
      have d0 : W2.cell? ⟨w.heap.size, 0, none⟩ = some (.slice (some ⟨g, 0, none⟩) n c) := (blk_cell X.out 0).trans rfl
      have x0 : w3.cell? ⟨w.heap.size, 0, none⟩ = some (.slice (some ⟨g, 0, none⟩) n c) := (blk_cell X3.out 0).trans rfl
      have x1 : w3.cell? ⟨w.heap.size, 1, none⟩ = some (.slice A1 n1 c1) := (blk_cell X3.out 1).trans rfl
      have x2 : w3.cell? ⟨w.heap.size, 2, none⟩ = some (.int .i64 L) := (blk_cell X3.out 2).trans rfl
      have t1 : (k < 0) = False := eq_false hk0
      have t2 : (0 ≤ k) = True := eq_true (by omega)
      have t3 : (k < (n : Int)) = True := eq_true (by omega)
      have HH := Aside0.mk h
      have IH := Aside0.mk ih
      clear h hS hB hSS hBB hb hb1 hb2 X1 Z1 hng hnz hkC hk0 hnl hge hlt HK ih X Z
      by_cases hxp : x > 0
      · have h := HH.out
        rw [if_pos hxp] at h
        simp only [Option.some.injEq] at h
        subst h
        have t4 : (x > 0) = True := eq_true hxp
        have t5 : (0 < x) = True := eq_true hxp
        have z0 : w3.cell? ⟨W1.heap.size, 0, none⟩ = some (.slice none 0 0) := (blk_cell Z3.out 0).trans rfl
        have z1 : w3.cell? ⟨W1.heap.size, 1, none⟩ = some (.slice none 0 0) := (blk_cell Z3.out 1).trans rfl
        have z2 : w3.cell? ⟨W1.heap.size, 2, none⟩ = some (.int .i64 0) := (blk_cell Z3.out 2).trans rfl
        have y0 := blk_frozen Z3.out 0
        have y1 := blk_frozen Z3.out 1
        have y2 := blk_frozen Z3.out 2
        clear hxp HH hw4
        go_enter Try.func71, Try.ntmps71
        go_wp2
        refine bodyPost_ret (results_cell_row rfl _ _ W1.heap.size 25 #[.slice (some ⟨g, 0, none⟩) n c, .slice A1 n1 c1, .int .i64 L] (0, 0) _ rfl (put3 Z3.out _ _ _) Try.underlying25 rfl (by kernel_rfl)) rfl ?_
        have hge : w0.heap.size ≤ W1.heap.size := by have := NB.out; have := WB.out; omega
        have hkz : ∀ j, j = W1.heap.size → j ≠ g := fun j hj => by have := NB.out; have := NG.out; omega
        exact ⟨rfl, Kd.S_mono (Kd.S_far (p := ⟨W1.heap.size, 2, none⟩) (Kd.S_far (p := ⟨W1.heap.size, 1, none⟩) (Kd.S_far (p := ⟨W1.heap.size, 0, none⟩) (Kd.S_types S1.out Z3.out (by decide)) (fun _ hj => hj.2) _) (fun _ hj => hj.2) _) (fun _ hj => hj.2) _) (fun _ hj => hj.1.1), below_set (below_set (below_set B1.out hge) hge) hge, (((K1.out.setCell (p := ⟨W1.heap.size, 0, none⟩) (.inr (Nat.le_of_lt NB.out)) _).setCell (p := ⟨W1.heap.size, 1, none⟩) (.inr (Nat.le_of_lt NB.out)) _).setCell (p := ⟨W1.heap.size, 2, none⟩) (.inr (Nat.le_of_lt NB.out)) _).mono (fun j hj => by rw [hj]; rfl)⟩
      · have h := HH.out
        rw [if_neg hxp] at h
        have t4 : (x > 0) = False := eq_false hxp
        have t5 : (0 < x) = False := eq_false hxp
        obtain ⟨ks, hks⟩ : ∃ ks, (rd_T68 C k).f2 = ks := ⟨_, rfl⟩
        rw [hks] at h f2 HKs hc2
        have hkl : ks.length ≤ 9223372036854775807 := (HKs.out W2 (Kept.refl _ _)).2.1
        have HL := Aside0.mk h
        have x4 : w4.cell? ⟨w.heap.size, 0, none⟩ = some (.slice (some ⟨g, 0, none⟩) n c) := (blk_cell X4.out 0).trans rfl
        clear h hks hxp HH S1 B1 K1 X3 Z3
        go_enter Try.func71, Try.ntmps71
        go_wp2
        clear hw3 hw4 e0 fr0 f0 f1 f2 fr1 fr2 fr3 d0 x0 x1 x2 x4 hx hW1 hW2 t1 t2 t3 hc2
        generalize hgz : W1.heap.size = gz at *
        clear hgz
        go_loopw [41] (fun vi wr => ∃ (q : Nat) (D : List CL), q ≤ ks.length ∧ vi = .int .i64 q ∧ Aside0 (loopD (dropM m) (ks.drop q) D = some C') ∧ Aside0 (CS wr w0.heap.size (fun j => P j ∧ j < w.heap.size) (.slice (some ⟨g, 0, none⟩) n c) D) ∧ Aside0 (wr.heap[w.heap.size]? = some (.cells #[.slice (some ⟨g, 0, none⟩) n c, .slice A1 n1 c1, .int .i64 L] 25 (0, 0))) ∧ Aside0 (wr.heap[gz]? = some (.cells #[.slice none 0 0, .slice none 0 0, .int .i64 0] 25 (0, 0))) ∧ Aside0 (Below w0.heap.size w0 wr) ∧ Aside0 (Kept w wr (fun j => j = g)) ∧ Aside0 (Kept W2 wr (fun j => j = g ∨ ¬ (P j ∧ j < w.heap.size)))) (fun vi _ => ks.length - (intOf vi).toNat)
        case atStart => exact ⟨0, _, Nat.zero_le _, rfl, ⟨by rw [List.drop_zero]; exact HL.out⟩, S2, X4, Z4, B2, K2, KB⟩
        case round =>
          clear HL S2 X4 Z4 B2 K2 KB
          obtain ⟨q, D, hq, rfl, HL, S3, X3, Z3, B3, K3, KB⟩ := hrel
          have x0 : wr.cell? ⟨w.heap.size, 0, none⟩ = some (.slice (some ⟨g, 0, none⟩) n c) := (blk_cell X3.out 0).trans rfl
          have x1 : wr.cell? ⟨w.heap.size, 1, none⟩ = some (.slice A1 n1 c1) := (blk_cell X3.out 1).trans rfl
          have x2 : wr.cell? ⟨w.heap.size, 2, none⟩ = some (.int .i64 L) := (blk_cell X3.out 2).trans rfl
          by_cases hql : q < ks.length
          · have hqq : ((q : Int) < (ks.length : Int)) = True := eq_true (by omega)
            obtain ⟨ad2, e3, hy⟩ := Kd.at_int (HKs.out wr KB.out) (q : Int) (by omega) (by omega)
            subst e3
            simp only [Int.toNat_natCast] at hy
            obtain ⟨z, hz⟩ : ∃ z, rd ks (q : Int) = z := ⟨_, rfl⟩
            rw [hz] at hy
            have hd : ks.drop q = z :: ks.drop (q + 1) := by
              rw [List.drop_eq_getElem_cons hql, ← hz]
              congr 1
              unfold rd
              rw [List.getD_eq_getElem?_getD, Int.toNat_natCast, List.getElem?_eq_getElem hql]
              rfl
            obtain ⟨D1, h1, h2⟩ := Option.bind_eq_some_iff.1 (show (dropM m D z).bind (fun E => loopD (dropM m) (ks.drop (q + 1)) E) = some C' by
              have := HL.out
              rw [hd] at this
              exact this)
            have H2 := Aside0.mk h2
            have TT := Aside0.mk (IH.out D D1 z _ w0 wr B3.out S3.out h1)
            have HQ := Aside0.mk hql
            clear h1 h2 hd hz HL
            go_wp2_with (go_at_call 71; refine TT.out.mono ?_; (first | rintro e w5 rfl hS5 hB5 hK5 | rintro e w5 ⟨rfl, hS5, hB5, hK5⟩); (have hk5 := hK5.mono (S' := fun j => j = g) (fun j hj => by injection hj)); (have X5 := blk_kept X3.out hk5 (by have := NG.out; omega)); (have Z5 := blk_kept Z3.out hk5 (by have := NG.out; have := NB.out; omega)); (have y0 : w5.cell? ⟨w.heap.size, 0, none⟩ = some (.slice (some ⟨g, 0, none⟩) n c) := (blk_cell X5 0).trans rfl); (have y1 : w5.cell? ⟨w.heap.size, 1, none⟩ = some (.slice A1 n1 c1) := (blk_cell X5 1).trans rfl); (have y2 : w5.cell? ⟨w.heap.size, 2, none⟩ = some (.int .i64 L) := (blk_cell X5 2).trans rfl); have r0 := blk_frozen X5 0; have r1 := blk_frozen X5 1; have r2 := blk_frozen X5 2; (obtain ⟨w6, hw6⟩ : ∃ W, ((w5.setCell ⟨w.heap.size, 0, none⟩ (.slice (some ⟨g, 0, none⟩) n c)).setCell ⟨w.heap.size, 1, none⟩ (.slice A1 n1 c1)).setCell ⟨w.heap.size, 2, none⟩ (.int .i64 L) = W := ⟨_, rfl⟩); (have F6 := Aside0.mk (drop_fold hw6 X5 Z5 (Nat.ne_of_gt NB.out) hS5 hB5 WB.out (K3.out.then_ hk5 (fun j hj => .inl hj)) (KB.out.then_ hk5 (fun j hj => .inl (.inl hj))))); clear hS5 hB5 hK5 hk5 X5 Z5 TT)
            obtain ⟨X6, Z6, S6, B6, K6, KB6⟩ := F6.out
            clear F6 hw6 y0 y1 y2 r0 r1 r2 x0 x1 x2 hy S3 X3 Z3 B3 K3 KB
            have hql := HQ.out
            go_roundw
            case rel => exact ⟨q + 1, D1, hql, by go_num, H2, ⟨S6⟩, ⟨X6⟩, ⟨Z6⟩, ⟨B6⟩, ⟨K6⟩, ⟨KB6⟩⟩
            case measure => simp [intOf]; omega
          · have hqq : ((q : Int) < (ks.length : Int)) = False := eq_false (by omega)
            have h3 := HL.out
            rw [List.drop_of_length_le (by omega)] at h3
            simp only [loopD, Option.some.injEq] at h3
            subst h3
            have z0 : wr.cell? ⟨gz, 0, none⟩ = some (.slice none 0 0) := (blk_cell Z3.out 0).trans rfl
            have z1 : wr.cell? ⟨gz, 1, none⟩ = some (.slice none 0 0) := (blk_cell Z3.out 1).trans rfl
            have z2 : wr.cell? ⟨gz, 2, none⟩ = some (.int .i64 0) := (blk_cell Z3.out 2).trans rfl
            have y0 := blk_frozen Z3.out 0
            have y1 := blk_frozen Z3.out 1
            have y2 := blk_frozen Z3.out 2
            clear hql hq HL
            go_wp2
            refine bodyPost_ret (results_cell_row rfl _ _ gz 25 #[.slice (some ⟨g, 0, none⟩) n c, .slice A1 n1 c1, .int .i64 L] (0, 0) _ rfl (put3 Z3.out _ _ _) Try.underlying25 rfl (by kernel_rfl)) rfl ?_
            have hge : w0.heap.size ≤ gz := by have := NB.out; have := WB.out; omega
            exact ⟨rfl, Kd.S_mono (Kd.S_far (p := ⟨gz, 2, none⟩) (Kd.S_far (p := ⟨gz, 1, none⟩) (Kd.S_far (p := ⟨gz, 0, none⟩) (Kd.S_types S3.out Z3.out (by decide)) (fun _ hj => hj.2) _) (fun _ hj => hj.2) _) (fun _ hj => hj.2) _) (fun _ hj => hj.1.1), below_set (below_set (below_set B3.out hge) hge) hge, (((K3.out.setCell (p := ⟨gz, 0, none⟩) (.inr (Nat.le_of_lt NB.out)) _).setCell (p := ⟨gz, 1, none⟩) (.inr (Nat.le_of_lt NB.out)) _).setCell (p := ⟨gz, 2, none⟩) (.inr (Nat.le_of_lt NB.out)) _).mono (fun j hj => by rw [hj]; rfl)⟩
    · rw [if_neg hkC] at h
      cases h
end Go.Proofs.Ytacfalpgmibfnaa.PCow
