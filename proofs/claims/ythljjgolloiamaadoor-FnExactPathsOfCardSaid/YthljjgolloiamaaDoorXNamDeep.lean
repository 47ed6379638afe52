import Derived.Test.YthljjgolloiamaaDoorXNamSeen
import Derived.Test.YthljjgolloiamaaDoorXNamBfs
import Derived.Test.YthljjgolloiamaaDoorYNamsmall
import Derived.Laws.MakeOwn
/-! (impl.Names).deepest, walked. -/
namespace Go.Proofs.YthljjgolloiamaaDoor.PNam
open Go.RowKit Go.Proofs.YthljjgolloiamaaDoorW.PrintWords Go.Proofs.YthljjgolloiamaaDoorW.PrintLast Go.Proofs.YthljjgolloiamaaDoorW.PrintMore Go.Proofs.YthljjgolloiamaaDoor.E Go.Proofs.YthljjgolloiamaaDoor.ZNam
set_option linter.unusedSimpArgs false
set_option linter.unusedVariables false
attribute [local go_sem] max2_int min2_int max_two min_two
abbrev VS (w : World) (base : Nat) (ok : Nat → Prop) (v : Value) (xs : List VL) : Prop := k148.R 148 w base ok v xs
theorem vs_elem {W : World} {base g n cap : Nat} {ok : Nat → Prop} {xs : List VL} (h : VS W base ok (.slice (some ⟨g, 0, none⟩) n cap) xs) (i : Int) (h0 : 0 ≤ i) (h1 : i < n) :
    W.cell? ⟨g, i.toNat * 2, none⟩ = some (.int .i64 (rd_T148 xs i).f0) ∧ W.cell? ⟨g, i.toNat * 2 + 1, none⟩ = some (.int .i64 (rd_T148 xs i).f1) := by
  obtain ⟨c, hcl, hM, hcc, hfr⟩ := Kd.R_elem h z148 i h0 h1
  have hM' := k148_openM hM
  subst hM'
  exact ⟨hcc 0 _ rfl, hcc 1 _ rfl⟩
theorem ints_make (n : Nat) (hn : n ≤ 1000) (W : World) : (Instr.makeSlice 46 (.int .i64 (n : Int)) (.int .i64 (n : Int))).run Tryd.prog W = .ok (.slice (some ⟨W.heap.size, 0, none⟩) n n) (W.alloc (.cells (ints (List.replicate n 0)) 3)) := by
  obtain ⟨i0, hi, hzz⟩ := Option.map_eq_some_iff.1 info3
  simp only [Prod.mk.injEq] at hzz
  obtain ⟨hz0, hz1, hz2⟩ := hzz
  have hr := run_make (P := Tryd.prog) W 46 3 i0 (.int .i64 0) Tryd.underlying46 hi hz0 .i64 .i64 (n : Int) (n : Int) (by omega) (by omega) (by rw [hz2]; omega) (by omega)
  simp only [Int.toNat_natCast] at hr
  rw [hz1, Nat.mul_one] at hr
  have e : madeCells (Value.int .i64 0).cells n = ints (List.replicate n 0) := by
    unfold ints madeCells
    apply Array.ext
    · simp
    · intro i h1 h2
      simp [Value.cells]
      rw [Nat.mod_one]
      rfl
  rw [e] at hr
  exact hr
theorem cf_zeros (n : Nat) : cf (List.replicate n 0) = fun _ => 0 := by
  funext k
  unfold cf
  rw [List.getD_eq_getElem?_getD, List.getElem?_replicate]
  split <;> rfl
theorem run_nil {l : List IN} {S R : Nat → Int} (h : G l [] S R) : R = S := by
  cases h with
  | done => rfl
  | step h1 => exact absurd (List.nil_perm.1 h1) (by simp)
/-- What deepest answers. -/
def DeepOut (l : List IN) (w' : World) (m : Int) (v : Value) (ok : Bool) : Prop :=
  (ok = false ∧ v = .slice none 0 0 ∧ ∀ R, ¬ G l (openAt l 0 0) (fun _ => 0) R) ∨
  (ok = true ∧ ∃ (g : Nat) (S : List Int), v = .slice (some ⟨g, 0, none⟩) l.length l.length ∧ w'.heap[g]? = some (.cells (ints S) 3 (0, 0)) ∧ S.length = l.length ∧ (m ≤ 8 → G l (openAt l 0 0) (fun _ => 0) (cf S)) ∧ (∀ R, G l (openAt l 0 0) (fun _ => 0) R → m ≤ 8 ∧ R = cf S) ∧ (∀ k, 0 ≤ cf S k ∧ cf S k ≤ 2000))
set_option maxHeartbeats 16000000 in
set_option maxRecDepth 100000 in
theorem deepest_calls (l : List IN) (hn1 : 1 ≤ l.length) (hn2 : l.length ≤ 60) (hfew : ∀ k : Nat, (inoAt l k).f2.length ≤ 20) (hfil : ∀ k : Nat, dirOf l k = false → (inoAt l k).f2 = []) (AL : Option Addr) (cL : Nat) (w : World) (hr : Kd.C k76 w AL l.length l) (hc : l.length ≤ cL) :
    Calls Tryd.prog 93 #[.agg #[.slice AL l.length cL]] w fun e w' => ∃ (m : Int) (v : Value) (ok : Bool), e = .returned (.tuple #[.int .i64 m, v, .bool ok]) ∧ Below w.heap.size w w' ∧ DeepOut l w' m v ok := by
  have huN := Tryd.underlying60
  have huV := Tryd.underlying148
  obtain ⟨ad, hA⟩ : ∃ ad, AL = some ad := by
    obtain ⟨ad, _, _, e, _⟩ := at_T76 hr 0 (by omega) (by omega)
    exact ⟨ad, e⟩
  subst hA
  have HFW := Aside0.mk hfew
  have HFL := Aside0.mk hfil
  have HN := Aside0.mk (And.intro hn1 hn2)
  have HR := Aside0.mk hr
  have HC := Aside0.mk hc
  obtain ⟨W1, hW1⟩ : ∃ W, w.alloc (.cells #[.slice (some ad) l.length cL] 30) = W := ⟨_, rfl⟩
  have hb1 : Below w.heap.size w W1 := by rw [← hW1]; exact below_alloc (Below.refl _ _) _
  have X1 : W1.heap[w.heap.size]? = some (.cells #[.slice (some ad) l.length cL] 30 (0, 0)) := by rw [← hW1]; exact heap_alloc_new w _
  have d0 : W1.cell? ⟨w.heap.size, 0, none⟩ = some (.slice (some ad) l.length cL) := (blk_cell X1 0).trans rfl
  obtain ⟨W2, hW2⟩ : ∃ W, W1.alloc (.cells (ints (List.replicate l.length 0)) 3) = W := ⟨_, rfl⟩
  have hb2 : Below W1.heap.size W1 W2 := by rw [← hW2]; exact below_alloc (Below.refl _ _) _
  have hmk : (Instr.makeSlice 46 (.int .i64 (l.length : Int)) (.int .i64 (l.length : Int))).run Tryd.prog W1 = .ok (.slice (some ⟨W1.heap.size, 0, none⟩) l.length l.length) W2 := by rw [← hW2]; exact ints_make l.length (by omega) W1
  have HX0 := Aside0.mk (blk_below X1 hb2)
  have HG0 := Aside0.mk (show W2.heap[W1.heap.size]? = some (.cells (ints (List.replicate l.length 0)) 3 (0, 0)) by rw [← hW2]; exact heap_alloc_new W1 _)
  have HB0 := Aside0.mk (show Below w.heap.size w W2 from below_step hb1 hb2)
  have HGB := Aside0.mk (show w.heap.size < W1.heap.size from blk_lt X1)
  clear hb1 hb2 X1 hfew hfil hr hc hn1 hn2
  go_enter Tryd.func93, Tryd.ntmps93
  go_wp2_with ((with_reducible refine gate_dst (N := 16) rfl ?_); refine Kd.R_lit k148 (w0 := w) (W := W2) w.heap.size 148 ?hg (N := 16) ?hd (xs := ([⟨0, 0⟩] : List VL)) (inner := [.int .i64 0, .int .i64 0]) (ok := fun k => W1.heap.size < k) (okp := fun _ => False) ?hr ?hp (fun _ hk => hk.elim) (blk_lt HG0.out) HB0.out HB0.out.size (by simp) ?_; (case hd => rfl); (case hg => rfl); (case hr => first | (go_simp; done) | (go_simp; rfl)); (case hp => exact (Reps.c2 (show Kd.M k148 _ _ _ (⟨0, 0⟩ : VL) [.int .i64 0, .int .i64 0] from (k148_mkM _ _ _ (⟨0, 0⟩ : VL))) (Reps.none _ _))); intro v3 W3 ho3 hb3 hg3 hnew_; clear hnew_; have HV0 := Aside0.mk ho3; have HB3 := Aside0.mk hb3; have HX3 := Aside0.mk (blk_grown HX0.out hg3 (by simp)); have HG3 := Aside0.mk (blk_grown HG0.out hg3 (by simp)); clear ho3 hb3 hg3; obtain ⟨A1, c1, rfl⟩ : ∃ A1 c1, v3 = .slice A1 1 c1 := (by obtain ⟨A1, c1, e_⟩ := Kd.R_slice HV0.out; exact ⟨A1, c1, e_⟩))
  clear HX0 HG0 HB0 hmk hW1 hW2 d0
  generalize hgn : W1.heap.size = gN at HV0 HX3 HG3 HGB ⊢
  clear hgn
  have HBI0 := Aside0.mk (show BI l 0 (opens l (([⟨0, 0⟩] : List VL).drop 0)) (cf (List.replicate l.length 0)) from by
    rw [cf_zeros]
    have e : opens l (([⟨0, 0⟩] : List VL).drop 0) = openAt l 0 0 := by unfold opens; simp
    rw [e]; exact bi_start)
  have HQI0 := Aside0.mk (show QI l [⟨0, 0⟩] (List.replicate l.length 0) (20 * 0) from by
    refine ⟨by simp, fun i hi => ?_, by simp, fun k => ?_⟩
    · have : i = 0 := by simpa using hi
      subst this
      exact ⟨0, 0, rfl, by have := HN.out; omega, Nat.le_refl _⟩
    · rw [cf_zeros]; simp)
  go_loopw [6, 7, 8] (fun v6 v7 v8 wr => ∃ (i : Nat) (m : Int) (A : Option Addr) (n c : Nat) (L : List VL) (S : List Int), i ≤ n ∧ v6 = .int .i64 m ∧ v7 = .slice A n c ∧ v8 = .int .i64 i ∧ Aside0 (n = L.length) ∧ Aside0 (QI l L S (20 * i)) ∧ Aside0 (BI l m (opens l (L.drop i)) (cf S)) ∧ Aside0 (0 ≤ m ∧ m ≤ 100) ∧ Aside0 (VS wr w.heap.size (fun k => gN < k) (.slice A n c) L) ∧ Aside0 (wr.heap[gN]? = some (.cells (ints S) 3 (0, 0))) ∧ Aside0 (wr.heap[w.heap.size]? = some (.cells #[.slice (some ad) l.length cL] 30 (0, 0))) ∧ Aside0 (Below w.heap.size w wr)) (fun _ _ v8 _ => 100 - (intOf v8).toNat)
  case atStart => exact ⟨0, 0, A1, 1, c1, _, _, by omega, rfl, rfl, rfl, ⟨rfl⟩, HQI0, HBI0, ⟨by omega⟩, HV0, HG3, HX3, HB3⟩
  case round =>
    clear HQI0 HBI0 HV0 HG3 HX3 HB3
    obtain ⟨i, m, A, n, c, L, S, hi, rfl, rfl, rfl, HNL, HQ, HBI, HM, HV, HG, HX, HB⟩ := hrel
    have hn62 : n ≤ 61 := by have := HQ.out.short; have := HNL.out; have := HN.out; omega
    by_cases hin : i < n
    · have hii : ((i : Int) < (n : Int)) = True := eq_true (by omega)
      have hi0 : (0 ≤ (i : Int)) = True := eq_true (by omega)
      obtain ⟨gL, cap, e6, _⟩ := Kd.R_form HV.out (by have := HNL.out; omega)
      injection e6 with eA en ec
      subst eA
      clear en ec
      obtain ⟨k, d, hv, hk, hdi⟩ := HQ.out.at_ i (by have := HNL.out; omega)
      obtain ⟨r0, r1⟩ := vs_elem HV.out (i : Int) (by omega) (by omega)
      rw [hv] at r0 r1
      simp only [Int.toNat_natCast] at r0 r1
      obtain ⟨ad1, A2, c2, ea, _, _, k2, _, hk2r⟩ := at_T76 HR.out (k : Int) (by omega) (by omega)
      cases ea
      simp only [Int.toNat_natCast] at k2
      replace k2 : wr.cell? ⟨(ad.add (k * 3)).block, (ad.add (k * 3)).off + 2, none⟩ = some (.slice A2 (inoAt l k).f2.length c2) := pw_cell_below HB.out k2
      have HROW := Aside0.mk (show Kd.C k60 w A2 (inoAt l k).f2.length (inoAt l k).f2 from hk2r)
      have d0 : wr.cell? ⟨w.heap.size, 0, none⟩ = some (.slice (some ad) l.length cL) := (blk_cell HX.out 0).trans rfl
      have hk0 : (0 ≤ (k : Int)) = True := eq_true (by omega)
      have hk1 : ((k : Int) < (l.length : Int)) = True := eq_true (by omega)
      have HD := Aside0.mk (show d ≤ i ∧ k < l.length from ⟨hdi, hk⟩)
      have HBI1 := Aside0.mk (show BI l m ((openAt l k d).drop 0 ++ opens l (L.drop (i + 1))) (cf S) by
        have h := HBI.out
        rw [drop_here (by have := HNL.out; omega), hv] at h
        simpa using h)
      have HNL1 := Aside0.mk (show n = L.length ∧ i < n ∧ rd_T148 L (i : Int) = ⟨(k : Int), (d : Int)⟩ from ⟨HNL.out, hin, hv⟩)
      have hd61 : d ≤ 61 := by omega
      have HI61 := Aside0.mk (show i ≤ 60 by omega)
      clear hk2r hv hi hin hn62 hk hdi HBI HNL
      go_wp2
      go_quiet (fail)
      have HV1 := Aside0.mk (Kd.R_drewN HV.out nq)
      have HG1 := Aside0.mk (blk_drewN HG.out nq)
      have HX1 := Aside0.mk (blk_drewN HX.out nq)
      have HB1 := Aside0.mk (pw_below_drewN HB.out nq)
      generalize wr.drewN nq = wq at HV1 HG1 HX1 HB1 ⊢
      clear HV HG HX HB r0 r1 k2 d0 hii
      go_wp2
      go_loopw [6, 7, 34] (fun v6 v7 v34 wz => ∃ (j : Nat) (m : Int) (A : Option Addr) (n c : Nat) (L : List VL) (S : List Int), j ≤ (inoAt l k).f2.length ∧ v6 = .int .i64 m ∧ v7 = .slice A n c ∧ v34 = .int .i64 j ∧ Aside0 (n = L.length ∧ i < n ∧ rd_T148 L (i : Int) = ⟨(k : Int), (d : Int)⟩) ∧ Aside0 (QI l L S (20 * i + j)) ∧ Aside0 (BI l m ((openAt l k d).drop j ++ opens l (L.drop (i + 1))) (cf S)) ∧ Aside0 (0 ≤ m ∧ m ≤ 100) ∧ Aside0 (VS wz w.heap.size (fun k => gN < k) (.slice A n c) L) ∧ Aside0 (wz.heap[gN]? = some (.cells (ints S) 3 (0, 0))) ∧ Aside0 (wz.heap[w.heap.size]? = some (.cells #[.slice (some ad) l.length cL] 30 (0, 0))) ∧ Aside0 (Below w.heap.size w wz)) (fun _ _ v34 _ => (inoAt l k).f2.length - (intOf v34).toNat)
      case atStart => exact ⟨0, m, _, n, c, L, S, Nat.zero_le _, rfl, rfl, rfl, HNL1, HQ, HBI1, HM, HV1, HG1, HX1, HB1⟩
      case round =>
        clear HNL1 HQ HBI1 HM HV1 HG1 HX1 HB1
        obtain ⟨j, m, A, n, c, L, S, hj, rfl, rfl, rfl, HNL, HQ, HBI, HM, HV, HG, HX, HB⟩ := hrel
        by_cases hjn : j < (inoAt l k).f2.length
        · have hjj : ((j : Int) < ((inoAt l k).f2.length : Int)) = True := eq_true (by omega)
          have hj0 : (0 ≤ (j : Int)) = True := eq_true (by omega)
          obtain ⟨ad2, ea2, hx0, hx1⟩ := at_T60 (Kd.C_below HROW.out HB.out) (j : Int) (by omega) (by omega)
          subst ea2
          simp only [Int.toNat_natCast] at hx0 hx1
          have HO := Aside0.mk (open_at (l := l) (k := k) (d := d) hjn (opens l (L.drop (i + 1))))
          generalize (rd_T60 (inoAt l k).f2 (j : Int)).f0 = x at hx0
          generalize (rd_T60 (inoAt l k).f2 (j : Int)).f1 = z at hx1 HO
          obtain ⟨V1, V2, hV1, hV2, y0, y1, z0, z1, E, BL⟩ := local_name wr x z
          have e1 : V2.cell? ⟨wr.heap.size, 1, none⟩ = some (.int .i64 z) := (blk_cell E.out 1).trans rfl
          have d0 : V2.cell? ⟨w.heap.size, 0, none⟩ = some (.slice (some ad) l.length cL) := (blk_cell (blk_below HX.out BL.out) 0).trans rfl
          obtain ⟨N1, hN1⟩ : ∃ N1 : Int, (l.length : Int) - 1 = N1 := ⟨_, rfl⟩
          have wl : wrap64 ((l.length : Int) - 1) = N1 := by rw [← hN1]; exact w64 (by omega) (by have := HN.out; omega)
          have HN1 := Aside0.mk hN1
          have hwi : impl_within.f z 1 N1 = some (decide (1 ≤ z ∧ z ≤ N1)) := by
            unfold impl_within.f
            by_cases h1 : z ≥ 1
            · rw [if_pos h1, Option.some.injEq, Bool.eq_iff_iff, decide_eq_true_iff, decide_eq_true_iff]
              omega
            · rw [if_neg h1, Option.some.injEq, Bool.eq_iff_iff, decide_eq_true_iff]
              constructor
              · intro h; cases h
              · intro h; omega
          have HBI3 := Aside0.mk (show BI l m ((z.toNat, d + 1) :: ((openAt l k d).drop (j + 1) ++ opens l (L.drop (i + 1)))) (cf S) by rw [← HO.out]; exact HBI.out)
          have hnn : ∀ q, 0 ≤ cf S q := fun q => (HQ.out.bd q).1
          have HB2 := Aside0.mk (below_step HB.out BL.out)
          by_cases hz : 1 ≤ z ∧ z ≤ N1
          · rw [decide_eq_true hz] at hwi
            have TW := Aside0.mk (impl_within.calls z 1 N1 true V2 hwi)
            obtain ⟨f, rfl⟩ : ∃ f : Nat, z = f := ⟨z.toNat, by omega⟩
            have HF := Aside0.mk (show 1 ≤ f ∧ f < l.length by omega)
            rw [Int.toNat_natCast] at HBI3
            clear hwi hz hN1 HBI HO hj
            go_wp2_with (go_at_call 69; with_reducible refine TW.out.mono ?_)
            rintro e w5 ⟨rfl, hd5⟩
            have hb5 := hd5.below
            have hgs : gN < wr.heap.size := blk_lt HG.out
            have HV5 := Aside0.mk (Kd.R_below (Kd.R_below HV.out BL.out) hb5)
            have HG5 := blk_below (blk_below HG.out BL.out) hb5
            have HX5 := blk_below (blk_below HX.out BL.out) hb5
            have E5 := blk_below E.out hb5
            have HB5 := below_step HB2.out hb5
            obtain ⟨g2, cap2, e6, _⟩ := Kd.R_form HV5.out (by have := HNL.out; omega)
            injection e6 with eA en ec
            subst eA
            clear en ec
            obtain ⟨_, r1⟩ := vs_elem HV5.out (i : Int) (by omega) (by have := HNL.out; omega)
            rw [HNL.out.2.2] at r1
            simp only [Int.toNat_natCast] at r1
            have e1 : w5.cell? ⟨wr.heap.size, 1, none⟩ = some (.int .i64 (f : Int)) := (blk_cell E5 1).trans rfl
            have d5 : w5.cell? ⟨w.heap.size, 0, none⟩ = some (.slice (some ad) l.length cL) := (blk_cell HX5 0).trans rfl
            have sc : w5.cell? ⟨gN, f, none⟩ = some (.int .i64 (cf S f)) := ints_at HG5 f (by rw [HQ.out.len]; exact HF.out.2)
            have sf := blk_frozen HG5 f
            have hb := HQ.out.bd f
            obtain ⟨v, hv⟩ : ∃ v, cf S f + 1 = v := ⟨_, rfl⟩
            have hj20 := HFW.out k
            have hi61 := HI61.out
            have w1 : wrap64 (cf S f + 1) = v := by rw [← hv]; exact w64 (by omega) (by omega)
            have W1_ := Aside0.mk w1
            have HVV := Aside0.mk hv
            have HS' := Aside0.mk (cf_set (S := S) (f := f) (by rw [HQ.out.len]; exact HF.out.2))
            rw [hv] at HS'
            obtain ⟨V3, hV3⟩ : ∃ W, w5.setCell ⟨gN, f, none⟩ (.int .i64 v) = W := ⟨_, rfl⟩
            have HG3 := Aside0.mk (show V3.heap[gN]? = some (.cells (ints (S.set f v)) 3 (0, 0)) by rw [← hV3]; exact ints_put HG5 f v)
            have HX3 := Aside0.mk (show V3.heap[w.heap.size]? = some (.cells #[.slice (some ad) l.length cL] 30 (0, 0)) by rw [← hV3]; exact blk_far (p := ⟨gN, f, none⟩) HX5 (Nat.ne_of_lt HGB.out) _)
            have E3 := Aside0.mk (show V3.heap[wr.heap.size]? = some (.cells #[.string x, .int .i64 (f : Int)] 60 (0, 0)) by rw [← hV3]; exact blk_far (p := ⟨gN, f, none⟩) E5 (Nat.ne_of_gt hgs) _)
            have HV3 := Aside0.mk (show VS V3 w.heap.size (fun k => gN < k) (.slice (some ⟨g2, 0, none⟩) n c) L by rw [← hV3]; exact Kd.R_far (p := ⟨gN, f, none⟩) HV5.out (fun k hk => Nat.ne_of_gt hk) _)
            have HB3 := Aside0.mk (show Below w.heap.size w V3 by rw [← hV3]; exact below_set HB5 (Nat.le_of_lt HGB.out))
            obtain ⟨ad3, _, _, ea, g4, _⟩ := at_T76 HR.out (f : Int) (by omega) (by have := HF.out; omega)
            cases ea
            simp only [Int.toNat_natCast] at g4
            replace g4 : V3.cell? (ad.add (f * 3)) = some (.bool (inoAt l f).f0) := pw_cell_below HB3.out g4
            have f0 : (0 ≤ (f : Int)) = True := eq_true (by omega)
            have f1 : ((f : Int) < (l.length : Int)) = True := eq_true (by have := HF.out; omega)
            have x3 : V3.cell? ⟨w.heap.size, 0, none⟩ = some (.slice (some ad) l.length cL) := (blk_cell HX3.out 0).trans rfl
            have y3 : V3.cell? ⟨wr.heap.size, 1, none⟩ = some (.int .i64 (f : Int)) := (blk_cell E3.out 1).trans rfl
            have hin' : ((i : Int) < (n : Int)) = True := eq_true (by have := HNL.out; omega)
            obtain ⟨M2, hmc, hmx⟩ : ∃ M2, ((m < (d : Int) + 1) = True ∧ M2 = (d : Int) + 1 ∨ (m < (d : Int) + 1) = False ∧ M2 = m) ∧ max m ((d + 1 : Nat) : Int) = M2 := by
              by_cases h : m < (d : Int) + 1
              · exact ⟨_, Or.inl ⟨eq_true h, rfl⟩, by omega⟩
              · exact ⟨_, Or.inr ⟨eq_false h, rfl⟩, by omega⟩
            have HM2 := Aside0.mk (show 0 ≤ max m ((d + 1 : Nat) : Int) ∧ max m ((d + 1 : Nat) : Int) ≤ 100 by have := HM.out; omega)
            have HQ1 := Aside0.mk (HQ.out.put HF.out.2)
            rw [hv] at HQ1
            rw [hmx] at HM2
            have HNN := Aside0.mk hnn
            clear hv hb w1 hj20 hd5 hb5 HV5 HG5 HX5 E5 HB5 hgs hnn HV HG HX HB E BL y0 y1 z0 z1 hV1 hV2
            have w1 := W1_.out
            rcases hmc with ⟨hm1, hM2⟩ | ⟨hm1, hM2⟩
            all_goals
              have HMX := Aside0.mk hM2
              clear hM2
              cases hdir : (inoAt l f).f0 with
              | false =>
                rw [hdir] at g4
                have HE := Aside0.mk (show BI l M2 ((openAt l k d).drop (j + 1) ++ opens l (L.drop (i + 1))) (cf (S.set f v)) by
                  have h := bi_step HBI3.out HNN.out HF.out (fun h => by have h2 : (inoAt l f).f0 = true := h; rw [hdir] at h2; cases h2)
                  have hk : openAt l f (d + 1) = [] := by unfold openAt kidsOf; rw [HFL.out f hdir]; rfl
                  rw [hk, List.append_nil, ← HS'.out, hmx] at h
                  exact h)
                have HQ3 := Aside0.mk (show QI l L (S.set f v) (20 * i + (j + 1)) from HQ1.out)
                clear hdir hmx
                have hj20 := HFW.out k
                go_wp2
                go_roundw
                case rel => exact ⟨j + 1, M2, _, n, c, L, S.set f v, hjn, by rw [HMX.out], rfl, by go_num, HNL, HQ3, HE, HM2, HV3, HG3, HX3, HB3⟩
                case measure => simp [intOf]; omega
              | true =>
                rw [hdir] at g4
                have s3 : V3.cell? ⟨gN, f, none⟩ = some (.int .i64 v) := by
                  have h1 := ints_at HG3.out f (by rw [List.length_set, HQ.out.len]; exact HF.out.2)
                  rw [HS'.out, up_self, HVV.out] at h1
                  exact h1
                have hv := HVV.out
                by_cases h2 : 0 < cf S f
                · have c2_ : (1 < v) = True := eq_true (by omega)
                  have c3_ : decide (1 < v) = true := decide_eq_true (by omega)
                  have HNO := Aside0.mk (bi_no HBI3.out HNN.out (Or.inr ⟨hdir, h2⟩))
                  clear hv h2 hdir hmx
                  go_wp2
                  go_ret3
                  first | exact ⟨0, .slice none 0 0, false, rfl, HB3.out, Or.inl ⟨rfl, rfl, HNO.out⟩⟩ | exact ⟨0, .slice none 0 0, Or.inl ⟨rfl, HB3.out, Or.inl ⟨rfl, rfl, HNO.out⟩⟩⟩
                · have c2_ : (1 < v) = False := eq_false (by omega)
                  have c3_ : decide (1 < v) = false := decide_eq_false (by omega)
                  have HE := Aside0.mk (show BI l M2 ((openAt l k d).drop (j + 1) ++ opens l ((L ++ [(⟨(f : Int), (d : Int) + 1⟩ : VL)]).drop (i + 1))) (cf (S.set f v)) by
                    have h := bi_step HBI3.out HNN.out HF.out (fun _ => by omega)
                    rw [← HS'.out, hmx] at h
                    have hdr := drop_snoc (l := l) (L := L) (v := ⟨(f : Int), (d : Int) + 1⟩) (i := i + 1) (by have := HNL.out; omega)
                    have e1_ : (⟨(f : Int), (d : Int) + 1⟩ : VL).f0.toNat = f := Int.toNat_natCast f
                    have e2_ : (⟨(f : Int), (d : Int) + 1⟩ : VL).f1.toNat = d + 1 := by show ((d : Int) + 1).toNat = d + 1; omega
                    rw [e1_, e2_] at hdr
                    rw [hdr, ← List.append_assoc]
                    exact h)
                  have HQ3 := Aside0.mk (show QI l (L ++ [(⟨(f : Int), (d : Int) + 1⟩ : VL)]) (S.set f v) (20 * i + (j + 1)) from by
                    have h := HQ.out.push (d := d + 1) HF.out.2 (by omega) (by have := HNL.out; have := HD.out; omega)
                    rw [HVV.out] at h
                    have e3_ : ((d + 1 : Nat) : Int) = (d : Int) + 1 := by omega
                    rw [e3_] at h
                    exact h)
                  have HLL := Aside0.mk (show L.length ≤ 61 by have := HQ.out.short; have := HN.out; omega)
                  have HNL3 := Aside0.mk (show (n + 1 = (L ++ [(⟨(f : Int), (d : Int) + 1⟩ : VL)]).length ∧ i < n + 1 ∧ rd_T148 (L ++ [(⟨(f : Int), (d : Int) + 1⟩ : VL)]) (i : Int) = ⟨(k : Int), (d : Int)⟩) from by
                    obtain ⟨h1, h2_, h3⟩ := HNL.out
                    refine ⟨by rw [List.length_append, h1]; rfl, by omega, ?_⟩
                    rw [← h3]
                    unfold rd_T148
                    rw [Int.toNat_natCast, List.getD_eq_getElem?_getD, List.getD_eq_getElem?_getD, List.getElem?_append_left (by omega)])
                  have r3 : V3.cell? ⟨g2, i * 2 + 1, none⟩ = some (.int .i64 (d : Int)) := by
                    obtain ⟨_, h⟩ := vs_elem HV3.out (i : Int) (by omega) (by have := HNL.out; omega)
                    rw [HNL.out.2.2] at h
                    simpa using h
                  have HGN := Aside0.mk (show gN < V3.heap.size ∧ w.heap.size < V3.heap.size from ⟨blk_lt HG3.out, blk_lt HX3.out⟩)
                  clear hv h2 hdir hmx
                  have HNE := Aside0.mk (show some gN ≠ (Value.slice (some ⟨g2, 0, none⟩) n c).ownBlock ∧ some w.heap.size ≠ (Value.slice (some ⟨g2, 0, none⟩) n c).ownBlock from by
                    have h1 : gN < g2 := HV3.out.1 g2 rfl
                    have h2_ := HGB.out
                    exact ⟨fun e => by have e2 : gN = g2 := Option.some.inj e; omega, fun e => by have e2 : w.heap.size = g2 := Option.some.inj e; omega⟩)
                  have hj20 := HFW.out k
                  have HLN := Aside0.mk (show L.length = n from HNL.out.1.symm)
                  go_wp2
                  refine start_ (n := 13) (S := fun w' => w'.cell? ⟨wr.heap.size, 1, none⟩ = some (.int .i64 (f : Int)) ∧ w'.cell? ⟨g2, i * 2 + 1, none⟩ = some (.int .i64 (d : Int))) (ds := [10, 11]) #[false, false, false, false, false, false, false, false, false, false, false, false, false] (by kernel_rfl) rfl rfl ⟨y3, r3⟩ (fun hHeld => ?_)
                  have R1 := Aside0.mk (Kd.R_drew HV3.out)
                  have W1x := Aside0.mk (below_drew1 HB3.out)
                  have HG4 := Aside0.mk (blk_drew HG3.out)
                  have HX4 := Aside0.mk (blk_drew HX3.out)
                  have HGN2 := Aside0.mk (show gN < V3.drew.heap.size from blk_lt HG4.out)
                  clear HV3 HB3 HG3 HX3 HGN x3 y3 s3 r3
                  generalize V3.drew = V4 at R1 W1x HG4 HX4 HGN2 hHeld ⊢
                  refine pure_ (i := 0) (N := some 74) (v := ?_) (a' := ?_) #[true, false, false, false, false, false, false, false, false, false, false, false, false] rfl rfl (by kernel_rfl) (fun _ _ _ h => h) (Or.inl ⟨by rfl, ?_⟩) ?_ ?_
                  rotate_left
                  · intro w'
                    go_simp
                    with_reducible rfl
                  rotate_left
                  · simp only [Act.put, List.setIfInBounds_toArray, List.set_cons_zero, List.set_cons_succ, i64_w, i32_w]
                    rfl
                  refine pure_ (i := 1) (N := some 75) (v := ?_) (a' := ?_) #[true, true, false, false, false, false, false, false, false, false, false, false, false] rfl rfl (by kernel_rfl) (fun _ _ _ h => h) (Or.inl ⟨by rfl, ?_⟩) ?_ ?_
                  rotate_left
                  · intro w'
                    go_simp
                    with_reducible rfl
                  rotate_left
                  · simp only [Act.put, List.setIfInBounds_toArray, List.set_cons_zero, List.set_cons_succ, i64_w, i32_w]
                    rfl
                  refine take_ (i := 2) (N := some 76) (v := ?_) (a' := ?_) #[true, true, true, false, false, false, false, false, false, false, false, false, false] rfl rfl (by kernel_rfl) (fun _ _ _ h => h) (Or.inl ⟨by rfl, ?_⟩) hHeld ?_ ?_
                  rotate_left
                  · rintro w' ⟨s0, s1⟩
                    go_simp
                    with_reducible rfl
                  rotate_left
                  · simp only [Act.put, List.setIfInBounds_toArray, List.set_cons_zero, List.set_cons_succ, i64_w, i32_w]
                    rfl
                  refine pure_ (i := 3) (N := some 77) (v := ?_) (a' := ?_) #[true, true, true, true, false, false, false, false, false, false, false, false, false] rfl rfl (by kernel_rfl) (fun _ _ _ h => h) (Or.inl ⟨by rfl, ?_⟩) ?_ ?_
                  rotate_left
                  · intro w'
                    go_simp
                    with_reducible rfl
                  rotate_left
                  · simp only [Act.put, List.setIfInBounds_toArray, List.set_cons_zero, List.set_cons_succ, i64_w, i32_w]
                    rfl
                  refine pure_ (i := 4) (N := some 78) (v := ?_) (a' := ?_) #[true, true, true, true, true, false, false, false, false, false, false, false, false] rfl rfl (by kernel_rfl) (fun _ _ _ h => h) (Or.inl ⟨by rfl, ?_⟩) ?_ ?_
                  rotate_left
                  · intro w'
                    go_simp
                    with_reducible rfl
                  rotate_left
                  · simp only [Act.put, List.setIfInBounds_toArray, List.set_cons_zero, List.set_cons_succ, i64_w, i32_w]
                    rfl
                  refine pure_ (i := 5) (N := some 79) (v := ?_) (a' := ?_) #[true, true, true, true, true, true, false, false, false, false, false, false, false] rfl rfl (by kernel_rfl) (fun _ _ _ h => h) (Or.inl ⟨by rfl, ?_⟩) ?_ ?_
                  rotate_left
                  · intro w'
                    go_simp
                    with_reducible rfl
                  rotate_left
                  · simp only [Act.put, List.setIfInBounds_toArray, List.set_cons_zero, List.set_cons_succ, i64_w, i32_w]
                    rfl
                  refine pure_ (i := 6) (N := some 80) (v := ?_) (a' := ?_) #[true, true, true, true, true, true, true, false, false, false, false, false, false] rfl rfl (by kernel_rfl) (fun _ _ _ h => h) (Or.inl ⟨by rfl, ?_⟩) ?_ ?_
                  rotate_left
                  · intro w'
                    go_simp
                    with_reducible rfl
                  rotate_left
                  · simp only [Act.put, List.setIfInBounds_toArray, List.set_cons_zero, List.set_cons_succ, i64_w, i32_w]
                    rfl
                  refine take_ (i := 7) (N := some 81) (v := ?_) (a' := ?_) #[true, true, true, true, true, true, true, true, false, false, false, false, false] rfl rfl (by kernel_rfl) (fun _ _ _ h => h) (Or.inl ⟨by rfl, ?_⟩) hHeld ?_ ?_
                  rotate_left
                  · rintro w' ⟨s0, s1⟩
                    go_simp
                    with_reducible rfl
                  rotate_left
                  · simp only [Act.put, List.setIfInBounds_toArray, List.set_cons_zero, List.set_cons_succ, i64_w, i32_w]
                    rfl
                  refine pure_ (i := 8) (N := some 82) (v := ?_) (a' := ?_) #[true, true, true, true, true, true, true, true, true, false, false, false, false] rfl rfl (by kernel_rfl) (fun _ _ _ h => h) (Or.inl ⟨by rfl, ?_⟩) ?_ ?_
                  rotate_left
                  · intro w'
                    go_simp
                    with_reducible rfl
                  rotate_left
                  · simp only [Act.put, List.setIfInBounds_toArray, List.set_cons_zero, List.set_cons_succ, i64_w, i32_w]
                    rfl
                  refine pure_ (i := 9) (N := some 83) (v := ?_) (a' := ?_) #[true, true, true, true, true, true, true, true, true, true, false, false, false] rfl rfl (by kernel_rfl) (fun _ _ _ h => h) (Or.inl ⟨by rfl, ?_⟩) ?_ ?_
                  rotate_left
                  · intro w'
                    go_simp
                    with_reducible rfl
                  rotate_left
                  · simp only [Act.put, List.setIfInBounds_toArray, List.set_cons_zero, List.set_cons_succ, i64_w, i32_w]
                    rfl
                  refine last_ (i := 10) (N := some 84) #[true, true, true, true, true, true, true, true, true, true, true, false, false] rfl rfl (by kernel_rfl) (by decide) (fun K hK => ?_)
                  refine value_ (w1 := ?_) (v := ?_) (by rfl) rfl ?_ ?_
                  rotate_left 2
                  · go_simp
                    constructor
                    · rfl
                    · rfl
                  refine hK.out _ _ ?_
                  clear hK K
                  refine norm_ (a' := ?_) ?_ ?_
                  rotate_left
                  · show Act.put _ (some 84) _ = _
                    simp only [Act.put, List.setIfInBounds_toArray, List.set_cons_zero, List.set_cons_succ, i64_w, i32_w]
                    rfl
                  refine last_ (i := 11) (N := some 85) #[true, true, true, true, true, true, true, true, true, true, true, true, false] rfl rfl (by kernel_rfl) (by decide) (fun K hK => ?_)
                  refine Kd.R_append_step k148 (w0 := w) (W := V4) w.heap.size (by rfl) (.tmp 74) (.tmp 84) 149 148 (.agg #[.int .i64 0, .int .i64 0]) 16 rfl Tryd.underlying149 info148 rfl (by decide) (by omega) (.slice (some ⟨g2, 0, none⟩) n c) L (⟨(f : Int), wrap64 ((d : Int) + 1)⟩ : VL) [.int .i64 (f : Int), .int .i64 (wrap64 ((d : Int) + 1))] (fun k => gN < k) (fun _ => False) rfl rfl (k148_mkM _ _ _ (⟨(f : Int), wrap64 ((d : Int) + 1)⟩ : VL)) (fun _ h_ => h_.elim) (fun k hk => Nat.lt_of_lt_of_le HGN2.out hk) R1.out W1x.out W1x.out.size (by have := HLL.out; omega) ?_
                  intro v4 w4 ho hb4 hg hat
                  rw [w64 (x := (d : Int) + 1) (by omega) (by omega)] at ho
                  obtain ⟨A4, c4, rfl⟩ : ∃ A4 c4, v4 = .slice A4 (n + 1) c4 := by
                    obtain ⟨A4, c4, e_⟩ := Kd.R_slice ho
                    exact ⟨A4, c4, by rw [e_, List.length_append, HLN.out]; rfl⟩
                  have R4 := Aside0.mk ho
                  have W4 := Aside0.mk hb4
                  have HG5 := Aside0.mk (blk_grown HG4.out hg HNE.out.1)
                  have HX5 := Aside0.mk (blk_grown HX4.out hg HNE.out.2)
                  clear ho hb4 hg hat R1 W1x HG4 HX4 HGN2
                  refine hK.out _ _ ?_
                  clear hK K
                  refine norm_ (a' := ?_) ?_ ?_
                  rotate_left
                  · show Act.put _ (some 85) _ = _
                    simp only [Act.put, List.setIfInBounds_toArray, List.set_cons_zero, List.set_cons_succ, i64_w, i32_w]
                    rfl
                  refine pure_ (i := 12) (N := some 7) (v := ?_) (a' := ?_) #[true, true, true, true, true, true, true, true, true, true, true, true, true] rfl rfl (by kernel_rfl) (fun _ _ _ h => h) (Or.inl ⟨by rfl, ?_⟩) ?_ ?_
                  rotate_left
                  · intro w'
                    go_simp
                    with_reducible rfl
                  rotate_left
                  · simp only [Act.put, List.setIfInBounds_toArray, List.set_cons_zero, List.set_cons_succ, i64_w, i32_w]
                    rfl
                  refine done_ (by kernel_rfl) ?_
                  go_wp2
                  go_roundw
                  case rel => exact ⟨j + 1, M2, A4, n + 1, c4, _, S.set f v, hjn, by rw [HMX.out], rfl, by go_num, HNL3, HQ3, HE, HM2, R4, HG5, HX5, W4⟩
                  case measure => simp [intOf]; omega
          · rw [decide_eq_false hz] at hwi
            have TW := Aside0.mk (impl_within.calls z 1 N1 false V2 hwi)
            have HNO := Aside0.mk (bi_no HBI3.out hnn (Or.inl (by have := HN1.out; omega)))
            clear hwi hz hN1 hnn HBI HBI3 HO
            go_wp2_with (go_at_call 69; with_reducible refine TW.out.mono ?_)
            rintro e w5 ⟨rfl, hd5⟩
            have hb5 := hd5.below
            have HB5 := Aside0.mk (below_step HB2.out hb5)
            clear hd5 hb5
            go_wp2
            go_ret3
            exact ⟨0, .slice none 0 0, false, rfl, HB5.out, Or.inl ⟨rfl, rfl, HNO.out⟩⟩
        · have hjj : ((j : Int) < ((inoAt l k).f2.length : Int)) = False := eq_false (by omega)
          have HNL2 := Aside0.mk HNL.out.1
          have HQ2 := Aside0.mk (show QI l L S (20 * (i + 1)) from HQ.out.more (by have := HFW.out k; omega))
          have HBI2 := Aside0.mk (show BI l m (opens l (L.drop (i + 1))) (cf S) by have h := HBI.out; rwa [open_end (by omega)] at h)
          have hi1 : i + 1 ≤ n := HNL.out.2.1
          have hi61 := HI61.out
          clear HBI HQ hj hjn HNL
          go_wp2
          go_roundw
          case rel => exact ⟨i + 1, m, _, n, c, L, S, hi1, rfl, rfl, by go_num, HNL2, HQ2, HBI2, HM, HV, HG, HX, HB⟩
          case measure => simp [intOf]; omega
    · have hii : ((i : Int) < (n : Int)) = False := eq_false (by omega)
      have hnil : opens l (L.drop i) = [] := by rw [List.drop_of_length_le (by have := HNL.out; omega)]; rfl
      have hbi := HBI.out
      rw [hnil] at hbi
      have HE := Aside0.mk (show (m ≤ 8 → G l (openAt l 0 0) (fun _ => 0) (cf S)) ∧ (∀ R, G l (openAt l 0 0) (fun _ => 0) R → m ≤ 8 ∧ R = cf S) ∧ (∀ k, 0 ≤ cf S k ∧ cf S k ≤ 2000) ∧ S.length = l.length from ⟨fun h => hbi.a h _ (.done _), fun R h => ⟨(hbi.b R h).1, run_nil (hbi.b R h).2⟩, fun k => by have := HQ.out.bd k; omega, HQ.out.len⟩)
      clear hnil hbi HBI HQ HM HV hi hin hn62
      go_wp2
      go_ret3
      exact ⟨m, .slice (some ⟨gN, 0, none⟩) l.length l.length, Or.inr ⟨rfl, HB.out, Or.inr ⟨rfl, gN, S, rfl, HG.out, HE.out.2.2.2, HE.out.1, HE.out.2.1, HE.out.2.2.1⟩⟩⟩
end Go.Proofs.YthljjgolloiamaaDoor.PNam
