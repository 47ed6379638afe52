import Derived.Test.YthljjgolloiamaaDoorXNamGraph
/-! spec.l13Seen, walked: what it counts, and when it says yes. -/
namespace Go.Proofs.YthljjgolloiamaaDoor.PNam
open Go.RowKit Go.Proofs.YthljjgolloiamaaDoorW.PrintWords Go.Proofs.YthljjgolloiamaaDoorW.PrintLast Go.Proofs.YthljjgolloiamaaDoorW.PrintMore Go.Proofs.YthljjgolloiamaaDoor.E Go.Proofs.YthljjgolloiamaaDoor.ZNam
set_option linter.unusedSimpArgs false
set_option linter.unusedVariables false
/-- A row of numbers in a block of its own. -/
def ints (S : List Int) : Array Value := (S.map (Value.int .i64)).toArray
theorem ints_set (S : List Int) (i : Nat) (v : Int) : (ints S).set! i (.int .i64 v) = ints (S.set i v) := by
  unfold ints
  simp [List.map_set]
theorem ints_at {W : World} {g : Nat} {S : List Int} {T : TypeId} (h : W.heap[g]? = some (.cells (ints S) T (0, 0))) (i : Nat) (hi : i < S.length) : W.cell? ⟨g, i, none⟩ = some (.int .i64 (cf S i)) := by
  refine (blk_cell h i).trans ?_
  unfold ints cf
  rw [List.getD_eq_getElem?_getD, List.getElem?_eq_getElem hi]
  simp [hi]
theorem ints_put {W : World} {g : Nat} {S : List Int} {T : TypeId} (h : W.heap[g]? = some (.cells (ints S) T (0, 0))) (i : Nat) (v : Int) : (W.setCell ⟨g, i, none⟩ (.int .i64 v)).heap[g]? = some (.cells (ints (S.set i v)) T (0, 0)) :=
  blk_put h i _ (by rw [← ints_set]; simp)
theorem local_name (w : World) (x : ByteArray) (n : Int) : ∃ W1 W2, w.alloc (.cells #[.string (⟨#[]⟩ : ByteArray), .int .i64 0] 60) = W1 ∧ (W1.setCell ⟨w.heap.size, 0, none⟩ (.string x)).setCell ⟨w.heap.size, 1, none⟩ (.int .i64 n) = W2 ∧
    W1.cell? ⟨w.heap.size, 0, none⟩ = some (.string (⟨#[]⟩ : ByteArray)) ∧ W1.cell? ⟨w.heap.size, 1, none⟩ = some (.int .i64 0) ∧ W1.frozen? ⟨w.heap.size, 0, none⟩ = false ∧ W1.frozen? ⟨w.heap.size, 1, none⟩ = false ∧
    Aside0 (W2.heap[w.heap.size]? = some (.cells #[.string x, .int .i64 n] 60 (0, 0))) ∧ Aside0 (Below w.heap.size w W2) := by
  obtain ⟨W1, hW1⟩ : ∃ W, w.alloc (.cells #[.string (⟨#[]⟩ : ByteArray), .int .i64 0] 60) = W := ⟨_, rfl⟩
  have z1 : W1.heap[w.heap.size]? = some (.cells #[.string (⟨#[]⟩ : ByteArray), .int .i64 0] 60 (0, 0)) := by rw [← hW1]; exact heap_alloc_new w _
  have b1 : Below w.heap.size w W1 := by rw [← hW1]; exact below_alloc (Below.refl _ _) _
  exact ⟨W1, _, hW1, rfl, (blk_cell z1 0).trans rfl, (blk_cell z1 1).trans rfl, blk_frozen z1 0, blk_frozen z1 1,
    ⟨blk_put (cs := #[.string x, .int .i64 0]) (blk_put (cs := #[.string (⟨#[]⟩ : ByteArray), .int .i64 0]) z1 0 (.string x) rfl) 1 (.int .i64 n) rfl⟩, ⟨below_set (below_set b1 (Nat.le_refl _)) (Nat.le_refl _)⟩⟩
theorem keep_cell {w W : World} {g : Nat} {a : Addr} {v : Value} (hk : KeepBut w W g none) (h : w.cell? a = some v) (hg : a.block ≠ g) : W.cell? a = some v := by
  have h1 := hk.2 a.block (World.block_lt_of_cell? _ _ h) hg (by simp)
  rw [← h]
  unfold World.cell?
  rw [h1]
/-- The rows that are read lie apart from the counts: what stands in them, in every world behind. -/
theorem names_foot {w : World} {g n : Nat} {ad : Addr} {l : List IN} (hrk : ∀ W, KeepBut w W g none → Kd.C k76 W (some ad) l.length l) {k : Nat} (hk : k < l.length) : ∃ A2 c2, ∀ W, KeepBut w W g none → W.cell? (ad.add (k * 3)) = some (.bool (inoAt l k).f0) ∧ W.cell? ⟨(ad.add (k * 3)).block, (ad.add (k * 3)).off + 2, none⟩ = some (.slice A2 (inoAt l k).f2.length c2) ∧ Kd.C k60 W A2 (inoAt l k).f2.length (inoAt l k).f2 := by
  have hne : ad.block ≠ g := Kd.foot_ne hrk (by omega) (by decide)
  have hbl : ∀ j, (ad.add j).block = ad.block := fun j => by unfold Addr.add; split <;> rfl
  obtain ⟨ad1, A2, c2, e1, _, _, h2, _, _⟩ := at_T76 (hrk w (KeepBut.refl _ _ _)) (k : Int) (by omega) (by omega)
  cases e1
  rw [Int.toNat_natCast] at h2
  refine ⟨A2, c2, fun W hW => ?_⟩
  obtain ⟨ad2, A3, c3, e2, h4, _, h5, _, h6⟩ := at_T76 (hrk W hW) (k : Int) (by omega) (by omega)
  cases e2
  rw [Int.toNat_natCast] at h4 h5
  have h7 := keep_cell hW h2 (by rw [hbl]; exact hne)
  rw [h5] at h7
  injection h7 with h7
  injection h7 with h8 _ h9
  subst h8 h9
  exact ⟨h4, h5, h6⟩
/-- What a search of the names of a directory does to the counts. -/
structure SeenOut (l : List IN) (k d : Nat) (M : Int) (m : Nat) (S S' : List Int) (ok : Bool) : Prop where
  len : S'.length = l.length
  bd : ∀ j, 0 ≤ cf S' j ∧ cf S' j ≤ M + (50 ^ m : Nat)
  a : ok = true → ∀ V R, G l V (cf S') R → G l (openAt l k d ++ V) (cf S) R
  b : ∀ V R, G l (openAt l k d ++ V) (cf S) R → ok = true ∧ G l V (cf S') R
set_option maxHeartbeats 16000000 in
set_option maxRecDepth 100000 in
theorem seen_calls (l : List IN) (hB : Bas l) (T : TypeId) : ∀ (m d : Nat), d + m = 9 → 1 ≤ m → ∀ (k : Nat), k < l.length → ∀ (S : List Int), S.length = l.length → ∀ (M : Int), (∀ j, 0 ≤ cf S j ∧ cf S j ≤ M) → M + (50 ^ m : Nat) ≤ 10000000000000000 →
    ∀ (A : Option Addr) (c : Nat) (g : Nat) (w : World), Kd.C k76 w A l.length l → l.length ≤ c → (∀ W, KeepBut w W g none → Kd.C k76 W A l.length l) → w.heap[g]? = some (.cells (ints S) T (0, 0)) →
    Calls Tryd.prog 91 #[.agg #[.slice A l.length c], .int .i64 k, .int .i64 d, .slice (some ⟨g, 0, none⟩) l.length l.length] w fun e w' => ∃ (ok : Bool) (S' : List Int), e = .returned (.bool ok) ∧ w'.heap[g]? = some (.cells (ints S') T (0, 0)) ∧ KeepBut w w' g none ∧ Below g w w' ∧ SeenOut l k d M m S S' ok := by
  intro m
  induction m with
  | zero => intro d _ h; omega
  | succ m ih =>
  intro d hd _ k hk S hS M hM hMb A c g w hr hc hrk hg
  have hpow : (50 ^ (m + 1) : Nat) = 50 * 50 ^ m := by rw [Nat.pow_succ]; omega
  have hpos : 1 ≤ (50 ^ m : Nat) := Nat.pow_pos (by omega)
  obtain ⟨W1, hW1⟩ : ∃ W, w.alloc (.cells #[.slice A l.length c] 30) = W := ⟨_, rfl⟩
  have hb1 : Below w.heap.size w W1 := by rw [← hW1]; exact below_alloc (Below.refl _ _) _
  have X1 : W1.heap[w.heap.size]? = some (.cells #[.slice A l.length c] 30 (0, 0)) := by rw [← hW1]; exact heap_alloc_new w _
  have hgl : g < w.heap.size := blk_lt hg
  have d0 : W1.cell? ⟨w.heap.size, 0, none⟩ = some (.slice A l.length c) := (blk_cell X1 0).trans rfl
  have HX := Aside0.mk X1
  have HG := Aside0.mk (blk_below hg hb1)
  have HK := Aside0.mk (KeepBut.of_below hb1 g none)
  have HBG := Aside0.mk (hb1.mono (Nat.le_of_lt hgl))
  have HNG := Aside0.mk (show w.heap.size ≠ g by omega)
  have huN := Tryd.underlying60
  obtain ⟨ad, hA⟩ : ∃ ad, A = some ad := by
    obtain ⟨ad, _, _, e, _⟩ := at_T76 hr (k : Int) (by omega) (by omega)
    exact ⟨ad, e⟩
  subst hA
  obtain ⟨A2, c2, hft⟩ := names_foot (n := 0) hrk hk
  have HF := Aside0.mk hft
  have HRK := Aside0.mk hrk
  have hk0 : (0 ≤ (k : Int)) = True := eq_true (by omega)
  have hk1 : ((k : Int) < (l.length : Int)) = True := eq_true (by omega)
  obtain ⟨_, k2, _⟩ := hft W1 HK.out
  have HI := Aside0.mk (show (∀ j, 0 ≤ cf S j ∧ cf S j ≤ M) ∧ S.length = l.length from ⟨hM, hS⟩)
  have HIH := Aside0.mk ih
  have HBS := Aside0.mk hB
  have HC := Aside0.mk hc
  have hfew := hB.few k
  obtain ⟨Q, hQ⟩ : ∃ Q : Int, 1 + ((50 ^ m : Nat) : Int) = Q := ⟨_, rfl⟩
  have HQ := Aside0.mk (show 0 < Q ∧ M + 20 * Q ≤ 10000000000000000 ∧ 0 ≤ M ∧ 1 + ((50 ^ m : Nat) : Int) = Q ∧ M + 20 * Q ≤ M + ((50 ^ (m + 1) : Nat) : Int) by have := (hM 0).1; have := (hM 0).2; omega)
  have HL60 := Aside0.mk (show l.length ≤ 60 from hB.n2)
  have hd9 : d ≤ 8 := by omega
  have HD := Aside0.mk (show d + (m + 1) = 9 from hd)
  clear hb1 X1 hr hrk hg hft ih hB hM hS hMb hpow hpos hc hQ hgl
  go_enter Tryd.func91, Tryd.ntmps91
  go_wp2
  clear k2 d0
  go_loopw [18] (fun v wr => ∃ (i : Nat) (S1 : List Int), i ≤ (inoAt l k).f2.length ∧ v = .int .i64 i ∧ Aside0 (S1.length = l.length ∧ ∀ j, 0 ≤ cf S1 j ∧ cf S1 j ≤ M + (i : Int) * Q) ∧ Aside0 (wr.heap[g]? = some (.cells (ints S1) T (0, 0))) ∧ Aside0 (KeepBut w wr g none) ∧ Aside0 (Below g w wr) ∧ Aside0 (wr.heap[w.heap.size]? = some (.cells #[.slice (some ad) l.length c] 30 (0, 0))) ∧ Aside0 (DI l (openAt l k d) i (cf S) (cf S1))) (fun v _ => (inoAt l k).f2.length - (intOf v).toNat)
  case atStart => exact ⟨0, S, Nat.zero_le _, rfl, ⟨HI.out.2, fun j => by have := HI.out.1 j; omega⟩, HG, HK, HBG, HX, ⟨di_start⟩⟩
  case round =>
    clear HG HK HBG HX hW1
    obtain ⟨i, S1, hi, rfl, HS, HG, HK, HBG, HX, HDI⟩ := hrel
    by_cases hil : i < (inoAt l k).f2.length
    · have hii : ((i : Int) < ((inoAt l k).f2.length : Int)) = True := eq_true (by omega)
      have hi0 : (0 ≤ (i : Int)) = True := eq_true (by omega)
      obtain ⟨f, hf, hf1, hf2, hO⟩ := kid_at HBS.out hil
      obtain ⟨_, _, hrow⟩ := HF.out wr HK.out
      obtain ⟨ad2, ea, hx0, hx1⟩ := at_T60 hrow (i : Int) (by omega) (by omega)
      subst ea
      rw [hf] at hx1
      simp only [Int.toNat_natCast] at hx0 hx1
      generalize (rd_T60 (inoAt l k).f2 (i : Int)).f0 = x at hx0
      obtain ⟨V1, V2, hV1, hV2, y0, y1, z0, z1, E, BL⟩ := local_name wr x (f : Int)
      have hwg : g < wr.heap.size := blk_lt HG.out
      have HG2 := blk_below HG.out BL.out
      have e1 : V2.cell? ⟨wr.heap.size, 1, none⟩ = some (.int .i64 (f : Int)) := (blk_cell E.out 1).trans rfl
      have sc : V2.cell? ⟨g, f, none⟩ = some (.int .i64 (cf S1 f)) := ints_at HG2 f (by have := HS.out.1; omega)
      have sf := blk_frozen HG2 f
      have hb := HS.out.2 f
      obtain ⟨v, hv⟩ : ∃ v, cf S1 f + 1 = v := ⟨_, rfl⟩
      have hqi : (i : Int) * Q ≤ 20 * Q := Int.mul_le_mul_of_nonneg_right (by have := HBS.out.few k; omega) (by have := HQ.out; omega)
      have hq1 : ((i + 1 : Nat) : Int) * Q = (i : Int) * Q + Q := by rw [Int.natCast_succ, Int.add_mul, Int.one_mul]
      have HW := Aside0.mk (show wrap64 (cf S1 f + 1) = v ∧ wrap64 ((d : Int) + 1) = (d : Int) + 1 from ⟨by rw [← hv]; exact w64 (by omega) (by have := HQ.out; omega), w64 (by omega) (by omega)⟩)
      have f0 : (0 ≤ (f : Int)) = True := eq_true (by omega)
      have f1 : ((f : Int) < (l.length : Int)) = True := eq_true (by omega)
      obtain ⟨V3, hV3⟩ : ∃ W, V2.setCell ⟨g, f, none⟩ (.int .i64 v) = W := ⟨_, rfl⟩
      have HG3 := Aside0.mk (show V3.heap[g]? = some (.cells (ints (S1.set f v)) T (0, 0)) by rw [← hV3]; exact ints_put HG2 f _)
      have HX3 := Aside0.mk (show V3.heap[w.heap.size]? = some (.cells #[.slice (some ad) l.length c] 30 (0, 0)) by rw [← hV3]; exact blk_far (p := ⟨g, f, none⟩) (blk_below HX.out BL.out) HNG.out _)
      have E3 := Aside0.mk (show V3.heap[wr.heap.size]? = some (.cells #[.string x, .int .i64 (f : Int)] 60 (0, 0)) by rw [← hV3]; exact blk_far (p := ⟨g, f, none⟩) E.out (show wr.heap.size ≠ g by omega) _)
      have HK3 := Aside0.mk (show KeepBut w V3 g none by rw [← hV3]; exact (HK.out.trans (KeepBut.of_below BL.out g none) (.inl rfl)).set_ f _)
      have HBG3 := Aside0.mk (show Below g w V3 by rw [← hV3]; exact (HBG.out.trans (BL.out.mono (Nat.le_of_lt hwg))).setCell (Nat.le_refl _) _)
      have hcf : cf (S1.set f v) = up (cf S1) f := by rw [← hv]; exact cf_set (by have := HS.out.1; omega)
      have hnn : ∀ j, 0 ≤ cf S1 j := fun j => (HS.out.2 j).1
      have hq5 : ((i + 1 : Nat) : Int) * Q ≤ 20 * Q := Int.mul_le_mul_of_nonneg_right (by have := HBS.out.few k; omega) (by have := HQ.out; omega)
      have HU := Aside0.mk (show ∀ j, 0 ≤ cf (S1.set f v) j ∧ cf (S1.set f v) j ≤ M + (i : Int) * Q + 1 ∧ cf (S1.set f v) j ≤ M + 20 * Q + 1 from fun j => by
        rw [hcf]
        have := HS.out.2 j
        unfold up
        split <;> omega)
      have HQI := Aside0.mk (And.intro hqi (And.intro hq1 hq5))
      clear HG2 hb hqi hq1 hq5 hi hrow
      by_cases hd8 : d = 8
      · have c1_ : ((d : Int) == 8) = true := beq_iff_eq.2 (by omega)
        have hno := di_deep HDI.out hnn (hO d) (by omega)
        have HE := Aside0.mk (show SeenOut l k d M (m + 1) S (S1.set f v) false from ⟨by rw [List.length_set]; exact HS.out.1, fun j => by have := HU.out j; have h2 := HQ.out; have h3 := HQI.out.1; have h4 : (0 : Int) ≤ (i : Int) * Q := Int.mul_nonneg (by omega) (by omega); omega, fun h => (by cases h), fun V R h => (hno V R h).elim⟩)
        subst hd8
        clear hno hnn HDI HS HU hcf hv
        have w1 := HW.out.1
        go_wp2
        go_ret
        exact ⟨_, _, rfl, HG3.out, HK3.out, HBG3.out, HE.out⟩
      · have c1_ : ((d : Int) == 8) = false := beq_eq_false_iff_ne.2 (by omega)
        obtain ⟨A4, c4, hft4⟩ := names_foot (n := 0) HRK.out hf2
        obtain ⟨g4, _, _⟩ := hft4 V3 HK3.out
        have x3 : V3.cell? ⟨w.heap.size, 0, none⟩ = some (.slice (some ad) l.length c) := (blk_cell HX3.out 0).trans rfl
        have e3 : V3.cell? ⟨wr.heap.size, 1, none⟩ = some (.int .i64 (f : Int)) := (blk_cell E3.out 1).trans rfl
        have HLN := Aside0.mk (show (S1.set f v).length = l.length by rw [List.length_set]; exact HS.out.1)
        clear hft4
        cases hdir : (inoAt l f).f0 with
        | false =>
          rw [hdir] at g4
          have HE := Aside0.mk (show DI l (openAt l k d) (i + 1) (cf S) (cf (S1.set f v)) by rw [hcf]; exact di_file HDI.out hnn (hO d) ⟨by omega, hf1, hf2⟩ hdir (HBS.out.nokids hdir))
          have HS2 := Aside0.mk (show (S1.set f v).length = l.length ∧ ∀ j, 0 ≤ cf (S1.set f v) j ∧ cf (S1.set f v) j ≤ M + ((i + 1 : Nat) : Int) * Q from ⟨HLN.out, fun j => by have h1 := HU.out j; have h2 := HQI.out.2.1; have h3 := HQ.out; omega⟩)
          clear hdir hnn HDI HS HU hcf hv hO
          have w1 := HW.out.1
          go_wp2
          go_roundw
          case rel => exact ⟨i + 1, _, hil, by go_num, HS2, HG3, HK3, HBG3, HX3, HE⟩
          case measure => simp [intOf]; omega
        | true =>
          rw [hdir] at g4
          have s3 : V3.cell? ⟨g, f, none⟩ = some (.int .i64 v) := by
            have h1 := ints_at HG3.out f (by rw [HLN.out]; exact hf2)
            rw [hcf, up_self, hv] at h1
            exact h1
          by_cases h2 : 0 < cf S1 f
          · have c2_ : (1 < v) = True := eq_true (by omega)
            have c3_ : decide (1 < v) = true := decide_eq_true (by omega)
            have hno := di_twice HDI.out hnn (hO d) hdir h2
            have HE := Aside0.mk (show SeenOut l k d M (m + 1) S (S1.set f v) false from ⟨HLN.out, fun j => by have := HU.out j; have h2 := HQ.out; have h3 := HQI.out.1; have h4 : (0 : Int) ≤ (i : Int) * Q := Int.mul_nonneg (by omega) (by omega); omega, fun h => (by cases h), fun V R h => (hno V R h).elim⟩)
            clear hdir hno hnn HDI HS HU hcf hv hO h2
            have w1 := HW.out.1
            go_wp2
            go_ret
            exact ⟨_, _, rfl, HG3.out, HK3.out, HBG3.out, HE.out⟩
          · have c2_ : (1 < v) = False := eq_false (by omega)
            have c3_ : decide (1 < v) = false := decide_eq_false (by omega)
            have hb3 : ∀ W, KeepBut V3 W g none → KeepBut w W g none := fun W h => HK3.out.trans h (.inl rfl)
            have TT := Aside0.mk (HIH.out (d + 1) (by omega) (by omega) f hf2 (S1.set f v) HLN.out (M + (i : Int) * Q + 1) (fun j => ⟨(HU.out j).1, (HU.out j).2.1⟩) (by have := HQ.out; have := HQI.out.2.1; have := HQI.out.2.2; omega) (some ad) c g V3 (HRK.out V3 HK3.out) HC.out (fun W h => HRK.out W (hb3 W h)) HG3.out)
            have hd1 : ((d + 1 : Nat) : Int) = (d : Int) + 1 := by omega
            rw [hd1] at TT
            have HSTEP := Aside0.mk (show ∀ (S' : List Int) (ok : Bool), SeenOut l f (d + 1) (M + (i : Int) * Q + 1) m (S1.set f v) S' ok → (ok = true → DI l (openAt l k d) (i + 1) (cf S) (cf S')) ∧ (ok = false → ∀ V R, ¬ G l (openAt l k d ++ V) (cf S) R) ∧ S'.length = l.length ∧ ∀ j, 0 ≤ cf S' j ∧ cf S' j ≤ M + ((i + 1 : Nat) : Int) * Q from fun S' ok h => by
              have ha := h.a
              have hbb := h.b
              rw [hcf] at ha hbb
              refine ⟨fun hok => di_dir HDI.out hnn (hO d) ⟨by omega, hf1, hf2⟩ (by omega) (ha hok) (fun V R hr => (hbb V R hr).2), fun hok => di_dirno HDI.out hnn (hO d) (fun V R hr => ?_), h.len, fun j => ?_⟩
              · have := (hbb V R hr).1
                rw [hok] at this
                cases this
              · have h1 := h.bd j
                have h3 := HQI.out.2.1
                have h4 := HQ.out
                omega)
            clear hdir hnn HDI HS HU hcf hv hO h2 hb3 hd1 hd8
            have w1 := HW.out.1
            go_wp2_with (go_at_call 91; with_reducible refine TT.out.mono ?_)
            rintro e w5 ⟨ok, S', rfl, hg5, hk5, hbg5, hout⟩
            obtain ⟨t1, t2, t3, t4⟩ := HSTEP.out S' ok hout
            have HG5 := Aside0.mk hg5
            have HX5 := Aside0.mk (hk5.blk HX3.out HNG.out (by simp))
            have HK5 := Aside0.mk (HK3.out.trans hk5 (.inl rfl))
            have HBG5 := Aside0.mk (HBG3.out.trans hbg5)
            have HT := Aside0.mk (And.intro t1 (And.intro t2 (And.intro t3 t4)))
            clear hg5 hk5 hbg5 hout t1 t2 t3 t4 TT HSTEP x3 e3 s3 g4 w1
            cases ok with
            | false =>
              have HE := Aside0.mk (show SeenOut l k d M (m + 1) S S' false from ⟨HT.out.2.2.1, fun j => by have h1 := HT.out.2.2.2 j; have h2 := HQ.out; have h3 := HQI.out.2.1; have h5 : ((i + 1 : Nat) : Int) * Q ≤ 20 * Q := Int.mul_le_mul_of_nonneg_right (by have := HBS.out.few k; omega) (by omega); omega, fun h => (by cases h), fun V R h => (HT.out.2.1 rfl V R h).elim⟩)
              go_wp2
              go_ret
              exact ⟨_, _, rfl, HG5.out, HK5.out, HBG5.out, HE.out⟩
            | true =>
              have HE := Aside0.mk (HT.out.1 rfl)
              have HS2 := Aside0.mk (show S'.length = l.length ∧ ∀ j, 0 ≤ cf S' j ∧ cf S' j ≤ M + ((i + 1 : Nat) : Int) * Q from HT.out.2.2)
              go_wp2
              go_roundw
              case rel => exact ⟨i + 1, _, hil, by go_num, HS2, HG5, HK5, HBG5, HX5, HE⟩
              case measure => simp [intOf]; omega
    · have hii : ((i : Int) < ((inoAt l k).f2.length : Int)) = False := eq_false (by omega)
      have he := di_end HDI.out (by rw [openAt_len]; omega)
      have HE := Aside0.mk (show SeenOut l k d M (m + 1) S S1 true from ⟨HS.out.1, fun j => by
        have h1 := HS.out.2 j
        have h2 := HQ.out
        have h3 : (i : Int) * Q ≤ 20 * Q := Int.mul_le_mul_of_nonneg_right (by omega) (by omega)
        omega, fun _ => he.1, fun V R h => ⟨rfl, he.2 V R h⟩⟩)
      clear he hi hil HDI HS
      go_wp2
      go_ret
      exact ⟨_, _, rfl, HG.out, HK.out, HBG.out, HE.out⟩
end Go.Proofs.YthljjgolloiamaaDoor.PNam
