import Derived.Test.YthljjgolloiamaaDoorXNamGoodP
import Derived.Test.YthljjgolloiamaaDoorXNamDeep
/-! impl.GoodNames, walked. -/
namespace Go.Proofs.YthljjgolloiamaaDoor.PNam
open Go.RowKit Go.Proofs.YthljjgolloiamaaDoorW.PrintWords Go.Proofs.YthljjgolloiamaaDoorW.PrintLast Go.Proofs.YthljjgolloiamaaDoorW.PrintMore Go.Proofs.YthljjgolloiamaaDoor.E Go.Proofs.YthljjgolloiamaaDoor.ZNam
set_option linter.unusedSimpArgs false
set_option linter.unusedVariables false
theorem add_off (b o j : Nat) : (⟨b, o, none⟩ : Addr).add j = ⟨b, o + j, none⟩ := by unfold Addr.add; split <;> simp_all
theorem within_is (a b c : Int) : impl_within.f a b c = some (decide (b ≤ a ∧ a ≤ c)) := by
  unfold impl_within.f
  by_cases h1 : a ≥ b
  · rw [if_pos h1, Option.some.injEq, Bool.eq_iff_iff, decide_eq_true_iff, decide_eq_true_iff]
    omega
  · rw [if_neg h1, Option.some.injEq, Bool.eq_iff_iff, decide_eq_true_iff]
    constructor
    · intro h; cases h
    · intro h; omega
theorem local_inode (w : World) (a b c : Value) : ∃ W1 W2, w.alloc (.cells #[.bool false, .int .i64 0, .slice none 0 0] 76) = W1 ∧ ((W1.setCell ⟨w.heap.size, 0, none⟩ a).setCell ⟨w.heap.size, 1, none⟩ b).setCell ⟨w.heap.size, 2, none⟩ c = W2 ∧
    W1.cell? ⟨w.heap.size, 0, none⟩ = some (.bool false) ∧ W1.cell? ⟨w.heap.size, 1, none⟩ = some (.int .i64 0) ∧ W1.cell? ⟨w.heap.size, 2, none⟩ = some (.slice none 0 0) ∧ W1.frozen? ⟨w.heap.size, 0, none⟩ = false ∧ W1.frozen? ⟨w.heap.size, 1, none⟩ = false ∧ W1.frozen? ⟨w.heap.size, 2, none⟩ = false ∧
    Aside0 (W2.heap[w.heap.size]? = some (.cells #[a, b, c] 76 (0, 0))) ∧ Aside0 (Below w.heap.size w W2) := by
  obtain ⟨W1, hW1⟩ : ∃ W, w.alloc (.cells #[.bool false, .int .i64 0, .slice none 0 0] 76) = W := ⟨_, rfl⟩
  have z1 : W1.heap[w.heap.size]? = some (.cells #[.bool false, .int .i64 0, .slice none 0 0] 76 (0, 0)) := by rw [← hW1]; exact heap_alloc_new w _
  have b1 : Below w.heap.size w W1 := by rw [← hW1]; exact below_alloc (Below.refl _ _) _
  exact ⟨W1, _, hW1, rfl, (blk_cell z1 0).trans rfl, (blk_cell z1 1).trans rfl, (blk_cell z1 2).trans rfl, blk_frozen z1 0, blk_frozen z1 1, blk_frozen z1 2,
    ⟨blk_put (cs := #[a, b, .slice none 0 0]) (blk_put (cs := #[a, .int .i64 0, .slice none 0 0]) (blk_put (cs := #[.bool false, .int .i64 0, .slice none 0 0]) z1 0 a rfl) 1 b rfl) 2 c rfl⟩, ⟨below_set (below_set (below_set b1 (Nat.le_refl _)) (Nat.le_refl _)) (Nat.le_refl _)⟩⟩
noncomputable def impl_GoodNames.f (l : List IN) : Option Bool := some (goodN l)
set_option maxHeartbeats 16000000 in
set_option maxRecDepth 100000 in
theorem impl_GoodNames.calls (A : Option Addr) (c : Nat) (l : List IN) (r : Bool) (w : World) (hr : Kd.C k76 w A l.length l) (hc : l.length ≤ c) (h : impl_GoodNames.f l = some r) :
    Calls Tryd.prog 51 #[.agg #[.slice A l.length c]] w fun e w' => e = .returned (.bool r) ∧ Below w.heap.size w w' := by
  obtain rfl := Option.some.inj h
  clear h
  obtain ⟨g, hg⟩ : ∃ g, goodN l = g := ⟨_, rfl⟩
  have HGD := Aside0.mk hg
  rw [hg]
  clear hg
  have huI := Tryd.underlying76
  have huN := Tryd.underlying30
  have HR := Aside0.mk hr
  have HC := Aside0.mk hc
  obtain ⟨W1, hW1⟩ : ∃ W, w.alloc (.cells #[.slice A l.length c] 30) = W := ⟨_, rfl⟩
  have hb1 : Below w.heap.size w W1 := by rw [← hW1]; exact below_alloc (Below.refl _ _) _
  have HX := Aside0.mk (show W1.heap[w.heap.size]? = some (.cells #[.slice A l.length c] 30 (0, 0)) by rw [← hW1]; exact heap_alloc_new w _)
  have d0 : W1.cell? ⟨w.heap.size, 0, none⟩ = some (.slice A l.length c) := (blk_cell HX.out 0).trans rfl
  have HB := Aside0.mk hb1
  have TW := Aside0.mk (impl_within.calls (l.length : Int) 1 60 (decide (1 ≤ (l.length : Int) ∧ (l.length : Int) ≤ 60)) W1 (within_is _ _ _))
  clear hb1 hr hc
  by_cases hn : 1 ≤ (l.length : Int) ∧ (l.length : Int) ≤ 60
  case neg =>
    rw [decide_eq_false hn] at TW
    obtain rfl : g = false := by rw [← HGD.out]; exact goodN_no (fun h => hn ⟨by have := h.n1; omega, by have := h.n2; omega⟩)
    clear hn
    go_enter Tryd.func51, Tryd.ntmps51
    go_wp2_with (go_at_call 69; with_reducible refine TW.out.mono ?_)
    rintro e w2 ⟨rfl, hd⟩
    have hb := hd.below
    have HB2 := Aside0.mk (below_step HB.out hb)
    clear hd hb d0
    go_wp2
    go_ret
    exact ⟨rfl, HB2.out⟩
  rw [decide_eq_true hn] at TW
  obtain ⟨ad, hA⟩ : ∃ ad, A = some ad := by
    obtain ⟨ad, _, _, e, _⟩ := at_T76 HR.out 0 (by omega) (by omega)
    exact ⟨ad, e⟩
  subst hA
  have HN := Aside0.mk (show 1 ≤ l.length ∧ l.length ≤ 60 by omega)
  have hl0 : (0 < (l.length : Int)) = True := eq_true (by omega)
  have hl1 : (0 < l.length) = True := eq_true (by omega)
  clear hn
  go_enter Tryd.func51, Tryd.ntmps51
  go_wp2_with (go_at_call 69; with_reducible refine TW.out.mono ?_)
  rintro e w2 ⟨rfl, hd⟩
  have hb := hd.below
  replace HB := Aside0.mk (below_step HB.out hb)
  replace HX := Aside0.mk (blk_below HX.out hb)
  clear hd hb d0 TW hW1
  have d0 : w2.cell? ⟨w.heap.size, 0, none⟩ = some (.slice (some ad) l.length c) := (blk_cell HX.out 0).trans rfl
  obtain ⟨_, _, _, ea, i0, i1, _⟩ := at_T76 (Kd.C_below HR.out HB.out) 0 (by have := HN.out; omega) (by have := HN.out; omega)
  cases ea
  replace i0 : w2.cell? ad = some (.bool (inoAt l 0).f0) := i0
  replace i1 : w2.cell? ⟨ad.block, ad.off + 1, none⟩ = some (.int .i64 (inoAt l 0).f1) := i1
  cases hdir : (inoAt l 0).f0 with
  | false =>
    rw [hdir] at i0
    obtain rfl : g = false := by rw [← HGD.out]; exact goodN_no (fun h => by have h2 : (inoAt l 0).f0 = true := h.d0; rw [hdir] at h2; cases h2)
    clear hdir
    go_wp2
    go_ret
    exact ⟨rfl, HB.out⟩
  | true =>
    rw [hdir] at i0
    have HD0 := Aside0.mk hdir
    clear hdir
    by_cases hl : (inoAt l 0).f1 = 1
    case neg =>
      obtain rfl : g = false := by rw [← HGD.out]; exact goodN_no (fun h => hl h.l0)
      have q1 : ((inoAt l 0).f1 == 1) = false := beq_eq_false_iff_ne.2 hl
      have q2 : ((inoAt l 0).f1 != 1) = true := bne_iff_ne.2 hl
      clear hl
      go_wp2
      go_ret
      exact ⟨rfl, HB.out⟩
    have HL0 := Aside0.mk hl
    rw [hl] at i1
    clear hl
    go_wp2
    clear i0 i1 d0
    go_loopw [34] (fun v wr => ∃ i : Nat, i ≤ l.length ∧ v = .int .i64 i ∧ Aside0 (∀ k : Nat, k < i → namesOk (inoAt l k).f2 = true ∧ (dirOf l k = false → (inoAt l k).f2 = [])) ∧ Aside0 (wr.heap[w.heap.size]? = some (.cells #[.slice (some ad) l.length c] 30 (0, 0))) ∧ Aside0 (Below w.heap.size w wr)) (fun v _ => l.length - (intOf v).toNat)
    case atStart => exact ⟨0, Nat.zero_le _, rfl, ⟨fun _ h => by omega⟩, HX, HB⟩
    case round =>
      clear HX HB
      obtain ⟨i, hi, rfl, HI, HX, HB⟩ := hrel
      have hl60 := HN.out.2
      by_cases hil : i < l.length
      · have hii : ((i : Int) < (l.length : Int)) = True := eq_true (by omega)
        have hi0 : (0 ≤ (i : Int)) = True := eq_true (by omega)
        obtain ⟨ad1, A2, c2, ea, j0, j1, j2, hjc, hjr⟩ := at_T76 (Kd.C_below HR.out HB.out) (i : Int) (by omega) (by omega)
        cases ea
        simp only [Int.toNat_natCast] at j0 j1 j2
        replace j0 : wr.cell? (ad.add (i * 3)) = some (.bool (inoAt l i).f0) := j0
        replace j1 : wr.cell? ⟨(ad.add (i * 3)).block, (ad.add (i * 3)).off + 1, none⟩ = some (.int .i64 (inoAt l i).f1) := j1
        replace j2 : wr.cell? ⟨(ad.add (i * 3)).block, (ad.add (i * 3)).off + 2, none⟩ = some (.slice A2 (inoAt l i).f2.length c2) := j2
        obtain ⟨V1, V2, hV1, hV2, y0, y1, y2, z0, z1, z2, E, BL⟩ := local_inode wr (.bool (inoAt l i).f0) (.int .i64 (inoAt l i).f1) (.slice A2 (inoAt l i).f2.length c2)
        have e2 : V2.cell? ⟨wr.heap.size, 2, none⟩ = some (.slice A2 (inoAt l i).f2.length c2) := (blk_cell E.out 2).trans rfl
        have HROW := Aside0.mk (show Kd.C k60 V2 A2 (inoAt l i).f2.length (inoAt l i).f2 from Kd.C_below hjr BL.out)
        obtain ⟨K1, hK⟩ := areNames_is (inoAt l i).f2 HROW.out.2.1
        have TW := Aside0.mk (impl_areNames.calls K1 A2 c2 (inoAt l i).f2 (namesOk (inoAt l i).f2) V2 HROW.out hjc (hK K1 (Nat.le_refl _)))
        have HB2 := Aside0.mk (below_step HB.out BL.out)
        have HX2 := Aside0.mk (blk_below HX.out BL.out)
        clear hjc hjr hK
        cases hno : namesOk (inoAt l i).f2 with
        | false =>
          rw [hno] at TW
          obtain rfl : g = false := by rw [← HGD.out]; exact goodN_no (fun h => by have h2 := (h.nm i hil).1; rw [hno] at h2; cases h2)
          clear hno
          go_wp2_with (go_at_call 92; with_reducible refine TW.out.mono ?_)
          rintro e w5 ⟨rfl, hb⟩
          have HB5 := Aside0.mk (below_step HB2.out hb)
          clear hb e2 j0 j1 j2
          go_wp2
          go_ret
          exact ⟨rfl, HB5.out⟩
        | true =>
          rw [hno] at TW
          have HNO := Aside0.mk hno
          clear hno
          go_wp2_with (go_at_call 92; with_reducible refine TW.out.mono ?_)
          rintro e w5 ⟨rfl, hb⟩
          have HB5 := Aside0.mk (below_step HB2.out hb)
          have HX5 := Aside0.mk (blk_below HX2.out hb)
          have E5 := blk_below E.out hb
          clear hb e2 j0 j1 j2 hV1 hV2 y0 y1 y2 z0 z1 z2 E BL TW HB2 HX2 HB HX
          cases hdir : (inoAt l i).f0 with
          | true =>
            rw [hdir] at E5
            have e0 : w5.cell? ⟨wr.heap.size, 0, none⟩ = some (.bool true) := (blk_cell E5 0).trans rfl
            have HI2 := Aside0.mk (show ∀ k : Nat, k < i + 1 → namesOk (inoAt l k).f2 = true ∧ (dirOf l k = false → (inoAt l k).f2 = []) from fun k hk => by
              by_cases hki : k < i
              · exact HI.out k hki
              · obtain rfl : k = i := by omega
                exact ⟨HNO.out, fun h => by have h2 : (inoAt l k).f0 = false := h; rw [hdir] at h2; cases h2⟩)
            clear hdir E5
            go_wp2
            go_roundw
            case rel => exact ⟨i + 1, hil, by go_num, HI2, HX5, HB5⟩
            case measure => simp [intOf]; omega
          | false =>
            rw [hdir] at E5
            have e0 : w5.cell? ⟨wr.heap.size, 0, none⟩ = some (.bool false) := (blk_cell E5 0).trans rfl
            have e2 : w5.cell? ⟨wr.heap.size, 2, none⟩ = some (.slice A2 (inoAt l i).f2.length c2) := (blk_cell E5 2).trans rfl
            by_cases hnl : 0 < (inoAt l i).f2.length
            · have q1 : (0 < ((inoAt l i).f2.length : Int)) = True := eq_true (by omega)
              have q2 : decide (0 < ((inoAt l i).f2.length : Int)) = true := decide_eq_true (by omega)
              have q3 : decide (0 < (inoAt l i).f2.length) = true := decide_eq_true hnl
              have q4 : (0 < (inoAt l i).f2.length) = True := eq_true hnl
              obtain rfl : g = false := by rw [← HGD.out]; exact goodN_no (fun h => by have h2 := (h.nm i hil).2 hdir; rw [h2] at hnl; simp at hnl)
              clear hdir hnl E5
              go_wp2
              go_ret
              exact ⟨rfl, HB5.out⟩
            · have q1 : (0 < ((inoAt l i).f2.length : Int)) = False := eq_false (by omega)
              have q2 : decide (0 < ((inoAt l i).f2.length : Int)) = false := decide_eq_false (by omega)
              have q3 : decide (0 < (inoAt l i).f2.length) = false := decide_eq_false hnl
              have q4 : (0 < (inoAt l i).f2.length) = False := eq_false hnl
              have HI2 := Aside0.mk (show ∀ k : Nat, k < i + 1 → namesOk (inoAt l k).f2 = true ∧ (dirOf l k = false → (inoAt l k).f2 = []) from fun k hk => by
                by_cases hki : k < i
                · exact HI.out k hki
                · obtain rfl : k = i := by omega
                  exact ⟨HNO.out, fun _ => List.eq_nil_of_length_eq_zero (by omega)⟩)
              clear hdir hnl E5
              go_wp2
              go_roundw
              case rel => exact ⟨i + 1, hil, by go_num, HI2, HX5, HB5⟩
              case measure => simp [intOf]; omega
      · have hii : ((i : Int) < (l.length : Int)) = False := eq_false (by omega)
        have HNM := Aside0.mk (show ∀ k : Nat, k < l.length → namesOk (inoAt l k).f2 = true ∧ (dirOf l k = false → (inoAt l k).f2 = []) from fun k hk => HI.out k (by omega))
        have d0 : wr.cell? ⟨w.heap.size, 0, none⟩ = some (.slice (some ad) l.length c) := (blk_cell HX.out 0).trans rfl
        have TD := Aside0.mk (deepest_calls l HN.out.1 HN.out.2 (few_of HNM.out).1 (few_of HNM.out).2 (some ad) c wr (Kd.C_below HR.out HB.out) HC.out)
        clear HI hi hil
        go_wp2_with (go_at_call 93; with_reducible refine TD.out.mono ?_)
        rintro e w3 ⟨m, v, ok, rfl, hb, hout⟩
        have HB3 := Aside0.mk (below_step HB.out hb)
        have HX3 := Aside0.mk (blk_below HX.out hb)
        clear hb d0 TD HB HX
        rcases hout with ⟨rfl, rfl, hno⟩ | ⟨rfl, gN, S, rfl, hgN, hlen, hr1, hr2, hbd⟩
        · obtain rfl : g = false := by rw [← HGD.out]; exact goodN_no (fun h => by obtain ⟨R, hR, _⟩ := h.run; exact hno R hR)
          clear hno
          go_wp2
          go_ret
          exact ⟨rfl, HB3.out⟩
        · by_cases hm : m ≤ 8
          · have q1 : (8 < m) = False := eq_false (by omega)
            have q2 : decide (8 < m) = false := decide_eq_false (by omega)
            have HG3 := Aside0.mk hgN
            have HRUN := Aside0.mk (show G l (openAt l 0 0) (fun _ => 0) (cf S) ∧ (∀ R, G l (openAt l 0 0) (fun _ => 0) R → R = cf S) ∧ S.length = l.length ∧ ∀ k, 0 ≤ cf S k ∧ cf S k ≤ 2000 from ⟨hr1 hm, fun R h => (hr2 R h).2, hlen, hbd⟩)
            have d0 : w3.cell? ⟨w.heap.size, 0, none⟩ = some (.slice (some ad) l.length c) := (blk_cell HX3.out 0).trans rfl
            have hl1' : (1 ≤ (l.length : Int)) = True := eq_true (by have := HN.out; omega)
            have hl2' : (1 ≤ l.length) = True := eq_true (by have := HN.out; omega)
            have hl3' : ((l.length : Int) ≤ (c : Int)) = True := eq_true (by have := HC.out; omega)
            obtain ⟨AX, hAX, HFACT⟩ : ∃ AX : Addr, ((c = 1) = True ∧ AX = ad ∨ (c = 1) = False ∧ AX = ⟨ad.block, ad.off + 3, none⟩) ∧ Aside0 (∀ W, Below w.heap.size w W → ∀ j : Nat, j + 1 < l.length → ∃ A2 c2, W.cell? (AX.add (j * 3)) = some (.bool (inoAt l (j + 1)).f0) ∧ W.cell? ⟨(AX.add (j * 3)).block, (AX.add (j * 3)).off + 1, none⟩ = some (.int .i64 (inoAt l (j + 1)).f1) ∧ W.cell? ⟨(AX.add (j * 3)).block, (AX.add (j * 3)).off + 2, none⟩ = some (.slice A2 (inoAt l (j + 1)).f2.length c2)) := by
              have hat : ∀ W, Below w.heap.size w W → ∀ j : Nat, j + 1 < l.length → ∃ A2 c2, W.cell? (ad.add ((j + 1) * 3)) = some (.bool (inoAt l (j + 1)).f0) ∧ W.cell? ⟨(ad.add ((j + 1) * 3)).block, (ad.add ((j + 1) * 3)).off + 1, none⟩ = some (.int .i64 (inoAt l (j + 1)).f1) ∧ W.cell? ⟨(ad.add ((j + 1) * 3)).block, (ad.add ((j + 1) * 3)).off + 2, none⟩ = some (.slice A2 (inoAt l (j + 1)).f2.length c2) := fun W hW j hj => by
                obtain ⟨ad1, A2, c2, ea, j0, j1, j2, _, _⟩ := at_T76 (Kd.C_below HR.out hW) ((j + 1 : Nat) : Int) (by omega) (by omega)
                cases ea
                simp only [Int.toNat_natCast] at j0 j1 j2
                exact ⟨A2, c2, j0, j1, j2⟩
              by_cases h : c = 1
              · exact ⟨ad, Or.inl ⟨eq_true h, rfl⟩, ⟨fun W hW j hj => by have := HC.out; omega⟩⟩
              · refine ⟨⟨ad.block, ad.off + 3, none⟩, Or.inr ⟨eq_false h, rfl⟩, ⟨fun W hW j hj => ?_⟩⟩
                have e : (⟨ad.block, ad.off + 3, none⟩ : Addr).add (j * 3) = ad.add ((j + 1) * 3) := by
                  unfold Addr.add
                  by_cases h0 : j * 3 = 0
                  · rw [if_pos h0, if_neg (by omega), show (j + 1) * 3 = 3 by omega]
                  · rw [if_neg h0, if_neg (by omega)]
                    congr 1
                    show ad.off + 3 + j * 3 = ad.off + (j + 1) * 3
                    omega
                rw [e]
                exact hat W hW j hj
            obtain ⟨n1, hn1⟩ : ∃ n1, l.length - 1 = n1 := ⟨_, rfl⟩
            have HN1 := Aside0.mk (show n1 + 1 = l.length by have := HN.out; omega)
            clear hgN hr1 hr2 hlen hbd hm
            rcases hAX with ⟨hc1, rfl⟩ | ⟨hc1, rfl⟩
            all_goals
              go_wp2
              clear hn1 d0 hc1
              go_loopw [70] (fun v wr => ∃ j : Nat, j ≤ n1 ∧ v = .int .i64 j ∧ Aside0 (∀ k : Nat, 1 ≤ k → k ≤ j → (inoAt l k).f1 = cf S k ∧ (dirOf l k = true → 0 < cf S k)) ∧ Aside0 (Below w3.heap.size w3 wr)) (fun v _ => n1 - (intOf v).toNat)
              case atStart => exact ⟨0, Nat.zero_le _, rfl, ⟨fun k h1 h2 => by omega⟩, ⟨Below.refl _ _⟩⟩
              case round =>
                obtain ⟨j, hj, rfl, HI, HBW⟩ := hrel
                have hn1' := HN1.out
                by_cases hjn : j < n1
                · have hjj : ((j : Int) < (n1 : Int)) = True := eq_true (by omega)
                  have hj0 : (0 ≤ (j : Int)) = True := eq_true (by omega)
                  have HB4 := Aside0.mk (below_step HB3.out HBW.out)
                  obtain ⟨A2, c2, j0, j1, j2⟩ := HFACT.out wr HB4.out j (by omega)
                  try simp only [add_off] at j0 j1 j2
                  obtain ⟨V1, V2, hV1, hV2, y0, y1, y2, z0, z1, z2, E, BL⟩ := local_inode wr (.bool (inoAt l (j + 1)).f0) (.int .i64 (inoAt l (j + 1)).f1) (.slice A2 (inoAt l (j + 1)).f2.length c2)
                  have e0 : V2.cell? ⟨wr.heap.size, 0, none⟩ = some (.bool (inoAt l (j + 1)).f0) := (blk_cell E.out 0).trans rfl
                  have e1 : V2.cell? ⟨wr.heap.size, 1, none⟩ = some (.int .i64 (inoAt l (j + 1)).f1) := (blk_cell E.out 1).trans rfl
                  have sc : V2.cell? ⟨gN, j + 1, none⟩ = some (.int .i64 (cf S (j + 1))) := ints_at (blk_below (blk_below HG3.out HBW.out) BL.out) (j + 1) (by have := HRUN.out.2.2.1; omega)
                  have HBW2 := Aside0.mk (below_step HBW.out BL.out)
                  have HB5 := Aside0.mk (below_step HB4.out BL.out)
                  have hs1 : ((j : Int) + 1 < (l.length : Int)) = True := eq_true (by omega)
                  have hs0 : (0 ≤ (j : Int) + 1) = True := eq_true (by omega)
                  have hbd := HRUN.out.2.2.2 (j + 1)
                  obtain ⟨x1, hx1⟩ : ∃ x, (inoAt l (j + 1)).f1 = x := ⟨_, rfl⟩
                  obtain ⟨s1, hs1'⟩ : ∃ x, cf S (j + 1) = x := ⟨_, rfl⟩
                  obtain ⟨b1, hb1⟩ : ∃ x, (inoAt l (j + 1)).f0 = x := ⟨_, rfl⟩
                  have HV := Aside0.mk (And.intro hx1 (And.intro hs1' hb1))
                  rw [hx1] at e1 j1
                  rw [hs1'] at sc hbd
                  rw [hb1] at e0 j0
                  have hV2' : ((V1.setCell ⟨wr.heap.size, 0, none⟩ (.bool b1)).setCell ⟨wr.heap.size, 1, none⟩ (.int .i64 x1)).setCell ⟨wr.heap.size, 2, none⟩ (.slice A2 (inoAt l (j + 1)).f2.length c2) = V2 := by rw [← hx1, ← hb1]; exact hV2
                  clear hV2 hx1 hs1' hb1 E BL
                  have hnw := w64 (x := (j : Int) + 1) (by omega) (by omega)
                  clear hnw
                  by_cases hx : x1 = s1
                  · subst hx
                    have q3 : (x1 == x1) = true := beq_self_eq_true x1
                    have q4 : (x1 != x1) = false := by simp
                    by_cases hs : x1 = 0
                    · have q5 : (x1 == 0) = true := beq_iff_eq.2 hs
                      cases b1 with
                      | true =>
                        obtain rfl : g = false := by rw [← HGD.out]; exact goodN_no (fun h => by
                          obtain ⟨R, hR, hk⟩ := h.run
                          obtain ⟨hk1, hk2⟩ := hk (j + 1) (by omega) (by omega)
                          rw [HRUN.out.2.1 R hR] at hk1 hk2
                          obtain ⟨v1, v2, v3⟩ := HV.out
                          have := hk2 v3; rw [v2] at this; omega)
                        clear hs hbd
                        go_wp2
                        go_quiet (fail)
                        have HB6 := Aside0.mk (pw_below_drewN HB5.out nq)
                        clear e0 e1 sc j0 j1 j2
                        go_wp2
                        go_ret
                        exact ⟨rfl, HB6.out⟩
                      | false =>
                        have HI2 := Aside0.mk (show ∀ k : Nat, 1 ≤ k → k ≤ j + 1 → (inoAt l k).f1 = cf S k ∧ (dirOf l k = true → 0 < cf S k) from fun k h1 h2 => by
                          by_cases hkj : k ≤ j
                          · exact HI.out k h1 hkj
                          · obtain rfl : k = j + 1 := by omega
                            obtain ⟨v1, v2, v3⟩ := HV.out
                            exact ⟨by rw [v1, v2], fun h => by have h2 : (inoAt l (j + 1)).f0 = true := h; rw [v3] at h2; cases h2⟩)
                        clear hs hbd
                        go_wp2
                        go_quiet (fail)
                        have HB6 := Aside0.mk (pw_below_drewN HBW2.out nq)
                        clear e0 e1 sc j0 j1 j2
                        go_wp2
                        go_roundw
                        case rel => exact ⟨j + 1, hjn, by go_num, HI2, HB6⟩
                        case measure => simp [intOf]; omega
                    · have q5 : (x1 == 0) = false := beq_eq_false_iff_ne.2 hs
                      have HI2 := Aside0.mk (show ∀ k : Nat, 1 ≤ k → k ≤ j + 1 → (inoAt l k).f1 = cf S k ∧ (dirOf l k = true → 0 < cf S k) from fun k h1 h2 => by
                        by_cases hkj : k ≤ j
                        · exact HI.out k h1 hkj
                        · obtain rfl : k = j + 1 := by omega
                          obtain ⟨v1, v2, v3⟩ := HV.out
                          exact ⟨by rw [v1, v2], fun _ => by rw [v2]; omega⟩)
                      clear hs hbd
                      go_wp2
                      go_quiet (fail)
                      have HB6 := Aside0.mk (pw_below_drewN HBW2.out nq)
                      clear e0 e1 sc j0 j1 j2
                      go_wp2
                      go_roundw
                      case rel => exact ⟨j + 1, hjn, by go_num, HI2, HB6⟩
                      case measure => simp [intOf]; omega
                  · have q3 : (x1 == s1) = false := beq_eq_false_iff_ne.2 hx
                    have q4 : (x1 != s1) = true := bne_iff_ne.2 hx
                    obtain rfl : g = false := by rw [← HGD.out]; exact goodN_no (fun h => by
                      obtain ⟨R, hR, hk⟩ := h.run
                      obtain ⟨hk1, hk2⟩ := hk (j + 1) (by omega) (by omega)
                      rw [HRUN.out.2.1 R hR] at hk1 hk2
                      obtain ⟨v1, v2, v3⟩ := HV.out
                      exact hx (by rw [← v1, ← v2]; exact hk1))
                    clear hx hbd
                    go_wp2
                    go_quiet (fail)
                    have HB6 := Aside0.mk (pw_below_drewN HB5.out nq)
                    clear e0 e1 sc j0 j1 j2
                    go_wp2
                    go_ret
                    exact ⟨rfl, HB6.out⟩
                · have hjj : ((j : Int) < (n1 : Int)) = False := eq_false (by omega)
                  have HB4 := Aside0.mk (below_step HB3.out HBW.out)
                  obtain rfl : g = true := by
                    rw [← HGD.out]
                    exact goodN_iff.2 ⟨HN.out.1, HN.out.2, HD0.out, HL0.out, HNM.out, cf S, HRUN.out.1, fun k h1 h2 => HI.out k h1 (by omega)⟩
                  clear hj hjn HI
                  go_wp2
                  go_ret
                  exact ⟨rfl, HB4.out⟩
          · have q1 : (8 < m) = True := eq_true (by omega)
            have q2 : decide (8 < m) = true := decide_eq_true (by omega)
            obtain rfl : g = false := by rw [← HGD.out]; exact goodN_no (fun h => by obtain ⟨R, hR, _⟩ := h.run; exact hm (hr2 R hR).1)
            clear hm hgN hr1 hr2 hlen hbd
            go_wp2
            go_ret
            exact ⟨rfl, HB3.out⟩
end Go.Proofs.YthljjgolloiamaaDoor.PNam
