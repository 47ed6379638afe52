import Derived.Test.YthljjgolloiamaaDoorXNamGraph
import Derived.Test.YthljjgolloiamaaDoorYNamlawsmarkNameS
import Derived.Test.YthljjgolloiamaaDoorYNamlawsheldStringS
import Derived.Test.YthljjgolloiamaaDoorEv
import Derived.Test.YthljjgolloiamaaDoorXNamPathsI
import Derived.Test.YthljjgolloiamaaDoorYNamspecPathsOf
import Derived.Test.YthljjgolloiamaaDoorYNamlawsmarkStringS
import Derived.Test.YthljjgolloiamaaDoorYNamlawseqStringS
import Derived.Test.YthljjgolloiamaaDoorYNamlawsA
import Derived.Test.YthljjgolloiamaaDoorYNamlawsT
import Derived.Test.YthljjgolloiamaaDoorYNamlawsE
/-! A row of inodes of the call's own: what its cells say, and what a store into one of them does. -/
namespace Go.Proofs.YthljjgolloiamaaDoor.PNam
open Go.RowKit Go.Proofs.YthljjgolloiamaaDoorW.PrintWords Go.Proofs.YthljjgolloiamaaDoorW.PrintLast Go.Proofs.YthljjgolloiamaaDoorW.PrintMore Go.Proofs.YthljjgolloiamaaDoor.E
set_option linter.unusedSimpArgs false
set_option linter.unusedVariables false
abbrev IS (w : World) (base : Nat) (ok : Nat → Prop) (v : Value) (xs : List IN) : Prop := Kd.S k76 76 w base ok v xs
abbrev NR (w : World) (base : Nat) (ok : Nat → Prop) (v : Value) (xs : List NL) : Prop := Kd.R k60 60 w base ok v xs
theorem in_M {w : World} {base : Nat} {ok : Nat → Prop} {x : IN} {cs : List Value} : k76.M w base ok x cs ↔ ∃ v, cs = [.bool x.f0, .int .i64 x.f1, v] ∧ NR w base ok v x.f2 := by
  constructor
  · rintro ⟨c0, c1, rfl, h0, c2, c3, rfl, h1, v, rfl, hR⟩
    have e0 : c0 = [.bool x.f0] := h0
    have e1 : c2 = [.int .i64 x.f1] := h1
    subst e0 e1
    exact ⟨v, rfl, hR⟩
  · rintro ⟨v, rfl, hR⟩
    exact ⟨[.bool x.f0], [.int .i64 x.f1, v], rfl, rfl, [.int .i64 x.f1], [v], rfl, rfl, v, rfl, hR⟩
theorem rd_in (xs : List IN) (i : Int) : rd_T76 xs i = xs.getD i.toNat z76 := rfl
theorem rd_in_set {xs : List IN} {q : Nat} (h : q < xs.length) (x : IN) : rd_T76 (xs.set q x) (q : Int) = x := by
  rw [rd_in, Int.toNat_natCast, List.getD_eq_getElem?_getD, List.getElem?_set_self h]
  rfl
/-- Element i: its cells, its names' row, and the row without it. -/
theorem is_elem {W : World} {base g n cap : Nat} {ok : Nat → Prop} {xs : List IN} (h : IS W base ok (.slice (some ⟨g, 0, none⟩) n cap) xs) (i : Int) (h0 : 0 ≤ i) (h1 : i < n) :
    ∃ (oki : Nat → Prop) (v : Value), W.cell? ⟨g, i.toNat * 3, none⟩ = some (.bool (rd_T76 xs i).f0) ∧ W.cell? ⟨g, i.toNat * 3 + 1, none⟩ = some (.int .i64 (rd_T76 xs i).f1) ∧ W.cell? ⟨g, i.toNat * 3 + 2, none⟩ = some v ∧
      (∀ j, W.frozen? ⟨g, i.toNat * 3 + j, none⟩ = false) ∧ (∀ k, oki k → ok k ∧ k ≠ g) ∧ NR W base oki v (rd_T76 xs i).f2 ∧ Kd.H k76 76 W base ok (.slice (some ⟨g, 0, none⟩) n cap) xs i oki [.bool (rd_T76 xs i).f0, .int .i64 (rd_T76 xs i).f1, v] := by
  obtain ⟨oki, c, hcl, hM, hcc, hfr, hoki, hH⟩ := Kd.S_elem h z76 i h0 h1
  rw [← rd_in] at hM
  obtain ⟨v, rfl, hR⟩ := in_M.1 hM
  exact ⟨oki, v, hcc 0 _ rfl, hcc 1 _ rfl, hcc 2 _ rfl, hfr, hoki, hR, hH⟩
theorem is_len {W : World} {base : Nat} {ok : Nat → Prop} {A : Option Addr} {n cap : Nat} {xs : List IN} (h : IS W base ok (.slice A n cap) xs) : n = xs.length := (Kd.S_reads' h).1
theorem is_put {W : World} {base g n cap : Nat} {ok oki okp : Nat → Prop} {xs : List IN} {i : Int} {c : List Value} (hH : Kd.H k76 76 W base ok (.slice (some ⟨g, 0, none⟩) n cap) xs i oki c) (h0 : 0 ≤ i) (h1 : i < n) (j : Nat) (hj : j < 3) (u : Value) (x' : IN)
    (hM : k76.M W base okp x' (c.take j ++ [u] ++ c.drop (j + 1))) (hok : ∀ k, okp k → oki k) :
    IS (W.setCell ⟨g, i.toNat * 3 + j, none⟩ u) base ok (.slice (some ⟨g, 0, none⟩) n cap) (xs.set i.toNat x') := by
  have := (Kd.S_seg (d := k76) (okg := fun _ => False) (seg := [u]) (j := j) (Kd.H_mono hH (fun k hk => ⟨hk, id⟩)) h0 h1 (by show j + 1 ≤ 3; omega) hM (fun k hk => .inl (hok k hk)) (fun _ hk => hk.elim)).1
  exact this
/-- a[i].Dir = x -/
theorem is_put0 {W : World} {base g n cap : Nat} {ok : Nat → Prop} {xs : List IN} (h : IS W base ok (.slice (some ⟨g, 0, none⟩) n cap) xs) (i : Int) (h0 : 0 ≤ i) (h1 : i < n) (x : Bool) :
    IS (W.setCell ⟨g, i.toNat * 3, none⟩ (.bool x)) base ok (.slice (some ⟨g, 0, none⟩) n cap) (xs.set i.toNat ⟨x, (rd_T76 xs i).f1, (rd_T76 xs i).f2⟩) := by
  obtain ⟨oki, v, _, _, _, _, _, hR, hH⟩ := is_elem h i h0 h1
  exact is_put hH h0 h1 0 (by omega) _ _ (in_M.2 ⟨v, rfl, hR⟩) (fun _ hk => hk)
/-- a[i].Links = x -/
theorem is_put1 {W : World} {base g n cap : Nat} {ok : Nat → Prop} {xs : List IN} (h : IS W base ok (.slice (some ⟨g, 0, none⟩) n cap) xs) (i : Int) (h0 : 0 ≤ i) (h1 : i < n) (x : Int) :
    IS (W.setCell ⟨g, i.toNat * 3 + 1, none⟩ (.int .i64 x)) base ok (.slice (some ⟨g, 0, none⟩) n cap) (xs.set i.toNat ⟨(rd_T76 xs i).f0, x, (rd_T76 xs i).f2⟩) := by
  obtain ⟨oki, v, _, _, _, _, _, hR, hH⟩ := is_elem h i h0 h1
  exact is_put hH h0 h1 1 (by omega) _ _ (in_M.2 ⟨v, rfl, hR⟩) (fun _ hk => hk)
/-- a[i].Names is handed to what writes it. -/
theorem is_inner {W : World} {base g n cap : Nat} {ok : Nat → Prop} {xs : List IN} (h : IS W base ok (.slice (some ⟨g, 0, none⟩) n cap) xs) (i : Int) (h0 : 0 ≤ i) (h1 : i < n) :
    ∃ v, W.cell? ⟨g, i.toNat * 3 + 2, none⟩ = some v ∧ NR W base (fun k => some k = v.ownBlock) v (rd_T76 xs i).f2 ∧ (∀ k, v.ownBlock = some k → ok k ∧ k ≠ g) ∧
      ∀ w1 r2, Kept W w1 (fun k => some k = v.ownBlock) → NR w1 base (fun _ => True) v r2 → IS w1 base ok (.slice (some ⟨g, 0, none⟩) n cap) (xs.set i.toNat ⟨(rd_T76 xs i).f0, (rd_T76 xs i).f1, r2⟩) := by
  obtain ⟨oki, v, _, _, hv, _, hoki, hR, hH⟩ := is_elem h i h0 h1
  have hin : ∀ k, v.ownBlock = some k → oki k := fun k hk => hR.1 k hk
  refine ⟨v, hv, Kd.R_tight rfl hR, fun k hk => hoki k (hin k hk), fun w1 r2 hk hR2 => ?_⟩
  refine Kd.H_back (Kd.H_kept hH hk (fun k _ hn hs => hn (hin k hs.symm))) (okp := oki) (in_M.2 ⟨v, rfl, Kd.R_reok rfl hR2 hin⟩) (fun _ hk => hk)
end Go.Proofs.YthljjgolloiamaaDoor.PNam
/-! markInodeS of the laws: a row of inodes of the call's own is overwritten, and the rows in it; walked by hand. -/
namespace Go.Proofs.YthljjgolloiamaaDoor.PNam
open Go.RowKit Go.Proofs.YthljjgolloiamaaDoorW.PrintWords Go.Proofs.YthljjgolloiamaaDoorW.PrintLast Go.Proofs.YthljjgolloiamaaDoorW.PrintMore Go.Proofs.YthljjgolloiamaaDoor.E
set_option linter.unusedSimpArgs false
set_option linter.unusedVariables false
def markIM (f : Nat) (n : Nat) : Nat → Int → Int → List IN → Option (Int × List IN)
  | 0, i, k, xs => if i < (n : Int) then none else some (k, xs)
  | m + 1, i, k, xs => if i < (n : Int) then ((laws_markNameS.f f (rd_T76 xs i).f2 (wrap64 (wrap64 (k + 1) + 1))).bind fun p => markIM f n m (i + 1) p.1 (xs.set i.toNat ⟨Int.tmod k 3 == 0, wrap64 (k + 1), p.2⟩)) else some (k, xs)
def laws_markInodeS.f (f : Nat) (xs : List IN) (k : Int) : Option (Int × List IN) := markIM f xs.length xs.length 0 k xs
set_option maxHeartbeats 4000000 in
set_option maxRecDepth 100000 in
theorem laws_markInodeS.calls (f : Nat) (P0_ : Nat → Prop) (u : Value) (l0 : List IN) (a1 : Int) (r1 : Int) (r2 : List IN) (w0 w : World) (hB : Below w0.heap.size w0 w) (ho0 : IS w w0.heap.size P0_ u l0) (h : laws_markInodeS.f f l0 a1 = some (r1, r2)) :
    Calls Tryd.prog 47 #[u, .int .i64 a1] w fun e w' => e = .returned (.int .i64 r1) ∧ IS w' w0.heap.size P0_ u r2 ∧ Below w0.heap.size w0 w' ∧ Kept w w' (fun k_ => P0_ k_) := by
  have huI := Tryd.underlying76
  have huR := Tryd.underlying28
  obtain ⟨A, c, rfl⟩ := Kd.S_slice ho0
  have hl := (Kd.S_reads' ho0).2.2.2.1
  have HO := Aside0.mk ho0
  have HB := Aside0.mk hB
  have HF := Aside0.mk h
  clear ho0 hB h
  go_enter Tryd.func47, Tryd.ntmps47
  go_wp2
  go_loopw [5, 1] (fun vi vk wr => ∃ (q : Nat) (k : Int) (xs : List IN), q ≤ l0.length ∧ vi = .int .i64 q ∧ vk = .int .i64 k ∧ xs.length = l0.length ∧ Aside0 (markIM f l0.length (l0.length - q) q k xs = some (r1, r2)) ∧ Aside0 (IS wr w0.heap.size P0_ (.slice A l0.length c) xs) ∧ Aside0 (Below w0.heap.size w0 wr) ∧ Aside0 (Kept w wr (fun k_ => P0_ k_))) (fun vi _ _ => l0.length - (intOf vi).toNat)
  case atStart => exact ⟨0, a1, l0, Nat.zero_le _, rfl, rfl, rfl, ⟨by rw [Nat.sub_zero]; exact HF.out⟩, HO, HB, ⟨Kept.refl _ _⟩⟩
  case round =>
    clear HF HO HB
    obtain ⟨q, k, xs, hq, rfl, rfl, hxl, HF, HO, HB, HK⟩ := hrel
    by_cases hql : q < l0.length
    · have hqq : ((q : Int) < (l0.length : Int)) = True := eq_true (by omega)
      have h := HF.out
      rw [show l0.length - q = (l0.length - q - 1) + 1 by omega, markIM, if_pos (by omega)] at h
      obtain ⟨⟨k1, x2⟩, hm, h3⟩ := Option.bind_eq_some_iff.1 h
      have HF2 := Aside0.mk h3
      have HM := Aside0.mk hm
      obtain ⟨g, cap, hv, hg1, hg2, cs, hgc⟩ := Kd.S_form HO.out (by omega)
      injection hv with hA hn_ hc
      subst hA hc
      clear hn_
      obtain ⟨oki, v, c0, c1, c2, hfr, hoki, hR, hH⟩ := is_elem HO.out (q : Int) (by omega) (by omega)
      clear HF h h3 hm hgc
      have HG := Aside0.mk (show P0_ g from HO.out |> fun h => (Kd.S_R h).1 g rfl)
      have HG1 := Aside0.mk hg1
      clear hg1 hR hH
      simp only [Int.toNat_natCast] at c0 c1 c2 hfr
      have f0 : wr.frozen? ⟨g, q * 3, none⟩ = false := hfr 0
      have f1 := hfr 1
      have HX := Aside0.mk hxl
      have HQ := Aside0.mk hql
      clear hfr hoki hxl hq hql
      obtain ⟨bk, hbk⟩ : ∃ b, (Int.tmod k 3 == 0) = b := ⟨_, rfl⟩
      obtain ⟨k2, hk2⟩ : ∃ z, wrap64 (k + 1) = z := ⟨_, rfl⟩
      rw [hbk, hk2] at HF2
      rw [hk2] at HM
      have hxl := HX.out
      have hql := HQ.out
      have O1 := is_put0 HO.out (q : Int) (by omega) (by omega) bk
      have B1 : Below w0.heap.size w0 (wr.setCell ⟨g, q * 3, none⟩ (.bool bk)) := below_set HB.out HG1.out
      have K1 : Kept w (wr.setCell ⟨g, q * 3, none⟩ (.bool bk)) (fun k_ => P0_ k_) := HK.out.setCell (p := ⟨g, q * 3, none⟩) (.inl HG.out) _
      simp only [Int.toNat_natCast] at O1
      obtain ⟨w1, hw1⟩ : ∃ w1, wr.setCell ⟨g, q * 3, none⟩ (.bool bk) = w1 := ⟨_, rfl⟩
      rw [hw1] at O1 B1 K1
      obtain ⟨w2, hw2, O2, B2, K2⟩ : ∃ w2, w1.setCell ⟨g, q * 3 + 1, none⟩ (.int .i64 k2) = w2 ∧ IS w2 w0.heap.size P0_ (.slice (some ⟨g, 0, none⟩) l0.length c) (xs.set q ⟨bk, k2, (rd_T76 xs (q : Int)).f2⟩) ∧ Below w0.heap.size w0 w2 ∧ Kept w w2 (fun k_ => P0_ k_) := by
        refine ⟨_, rfl, ?_, below_set B1 HG1.out, K1.setCell (p := ⟨g, q * 3 + 1, none⟩) (.inl HG.out) _⟩
        have := is_put1 O1 (q : Int) (by omega) (by omega) k2
        simp only [Int.toNat_natCast] at this
        rw [rd_in_set (by omega), List.set_set] at this
        exact this
      obtain ⟨oki, v0, _, d1, _, hfr, _, _, _⟩ := is_elem O1 (q : Int) (by omega) (by omega)
      have g1 := hfr 1
      simp only [Int.toNat_natCast] at d1 g1
      obtain ⟨v, hv, hR, hP, hback⟩ := is_inner O2 (q : Int) (by omega) (by omega)
      rw [rd_in_set (by omega)] at hR hback
      simp only [Int.toNat_natCast] at hv hback
      obtain ⟨A2, cc, rfl⟩ := Kd.R_slice hR
      have HR2 := Aside0.mk hR
      have HP2 := Aside0.mk hP
      have HK2 := Aside0.mk K2
      have HB2 := Aside0.mk B2
      have HBK := Aside0.mk hback
      clear O1 B1 K1 O2 B2 K2 hR hP hback hfr hxl hql HO HB HK c1 c2 f1
      go_wp2_with (go_at_call 17; (with_reducible refine (laws_markNameS.calls f (fun k_ => some k_ = (Value.slice A2 (rd_T76 xs (q : Int)).f2.length cc).ownBlock) _ _ _ k1 x2 w0 w2 HB2.out HR2.out HM.out).mono ?_))
      (first | rintro e w3 rfl hR3 hB3 hK3 | rintro e w3 ⟨rfl, hR3, hB3, hK3⟩)
      have O3 := Aside0.mk (HBK.out w3 x2 hK3 (Kd.R_mono hR3 (fun _ _ => trivial)))
      have B3 := Aside0.mk hB3
      have K3 := Aside0.mk (HK2.out.then_ hK3 (fun k_ hk_ => .inl (HP2.out k_ hk_.symm).1))
      clear hR3 hB3 hK3 hw2 hv d1 g1 HR2 HP2 HK2 HB2 HBK
      have hql := HQ.out
      go_wp2
      go_roundw
      case rel => exact ⟨q + 1, k1, _, by omega, by go_num, rfl, (List.length_set ..).trans HX.out, ⟨by
        have h := HF2.out
        rw [show l0.length - q - 1 = l0.length - (q + 1) by omega] at h
        simp only [Int.toNat_natCast] at h
        exact h⟩, ⟨by have h := O3.out; rw [List.set_set] at h; exact h⟩, B3, K3⟩
      case measure => simp [intOf]; omega
    · have hqq : ((q : Int) < (l0.length : Int)) = False := eq_false (by omega)
      have h := HF.out
      rw [show l0.length - q = 0 by omega, markIM, if_neg (by omega)] at h
      simp only [Option.some.injEq, Prod.mk.injEq] at h
      obtain ⟨rfl, rfl⟩ := h
      clear hq hql hxl
      go_wp2
      go_ret
      exact ⟨rfl, HO.out, HB.out, HK.out⟩
end Go.Proofs.YthljjgolloiamaaDoor.PNam
/-! markNames of the laws, walked by hand. -/
namespace Go.Proofs.YthljjgolloiamaaDoor.PNam
open Go.RowKit Go.Proofs.YthljjgolloiamaaDoorW.PrintWords Go.Proofs.YthljjgolloiamaaDoorW.PrintLast Go.Proofs.YthljjgolloiamaaDoorW.PrintMore Go.Proofs.YthljjgolloiamaaDoor.E
set_option linter.unusedSimpArgs false
set_option linter.unusedVariables false
def laws_markNames.f (f : Nat) (xs : List IN) (k : Int) : Option (Int × List IN) := laws_markInodeS.f f xs k
set_option maxHeartbeats 4000000 in
set_option maxRecDepth 100000 in
theorem laws_markNames.calls (f : Nat) (P0_ : Nat → Prop) (u : Value) (l0 : List IN) (a1 : Int) (r1 : Int) (r2 : List IN) (w0 w : World) (hB : Below w0.heap.size w0 w) (ho0 : IS w w0.heap.size P0_ u l0) (h : laws_markNames.f f l0 a1 = some (r1, r2)) :
    Calls Tryd.prog 16 #[.agg #[u], .int .i64 a1] w fun e w' => e = .returned (.int .i64 r1) ∧ IS w' w0.heap.size P0_ u r2 ∧ Below w0.heap.size w0 w' ∧ Kept w w' (fun k_ => P0_ k_) := by
  have hu25 := Tryd.underlying30
  obtain ⟨A0, c0, rfl⟩ := Kd.S_slice ho0
  obtain ⟨W1, hW1⟩ : ∃ W, w.alloc (.cells #[.slice A0 l0.length c0] 30) = W := ⟨_, rfl⟩
  have X1 := Aside0.mk (show W1.heap[w.heap.size]? = some (.cells #[.slice A0 l0.length c0] 30 (0, 0)) by rw [← hW1]; exact heap_alloc_new w _)
  have B1 := Aside0.mk (show Below w0.heap.size w0 W1 by rw [← hW1]; exact hB.alloc hB.size _)
  have K1 := Aside0.mk (show Kept w W1 (fun k_ => P0_ k_) by rw [← hW1]; exact (Kept.refl _ _).alloc _)
  have O1 := Aside0.mk (show IS W1 w0.heap.size (fun k => P0_ k ∧ k < w.heap.size) (.slice A0 l0.length c0) l0 by rw [← hW1]; exact Kd.S_alloc (Kd.S_mono (Kd.S_bound ho0) (fun k hk => ⟨hk.1, hk.2.2.1⟩)) _)
  have H1 := Aside0.mk (show laws_markInodeS.f f l0 a1 = some (r1, r2) from h)
  have e0 : W1.cell? ⟨w.heap.size, 0, none⟩ = some (.slice A0 l0.length c0) := (blk_cell X1.out _).trans rfl
  clear hB ho0 h
  go_enter Tryd.func16, Tryd.ntmps16
  go_wp2_with (go_at_call 47; (with_reducible refine (laws_markInodeS.calls f (fun k => P0_ k ∧ k < w.heap.size) _ _ _ r1 r2 w0 W1 B1.out O1.out H1.out).mono ?_))
  (first | rintro e w2 rfl hO2 hB2 hK2 | rintro e w2 ⟨rfl, hO2, hB2, hK2⟩)
  have B2 := Aside0.mk hB2
  have K2 := Aside0.mk (K1.out.then_ hK2 (fun k hk => .inl hk.1))
  have O2 := Aside0.mk (Kd.S_mono hO2 (fun k hk => hk.1))
  clear hB2 hK2 hO2 e0 hW1
  go_wp2
  go_ret
  exact ⟨rfl, O2.out, B2.out, K2.out⟩
end Go.Proofs.YthljjgolloiamaaDoor.PNam
/-! Small words for the walks of the names' laws with texts. -/
namespace Go.Proofs.YthljjgolloiamaaDoor.PNam
open Go.RowKit Go.Proofs.YthljjgolloiamaaDoorW.PrintWords Go.Proofs.YthljjgolloiamaaDoorW.PrintLast Go.Proofs.YthljjgolloiamaaDoorW.PrintMore Go.Proofs.YthljjgolloiamaaDoor.E
set_option linter.unusedSimpArgs false
set_option linter.unusedVariables false
theorem R_iv {α : Type} {d : Kd α} {e : Nat} {w w' : World} {ok : Nat → Prop} {v : Value} {r : List α} (h : d.R e w' w.heap.size ok v r) : d.R e w' w.heap.size (fun k => w.heap.size ≤ k ∧ k < w'.heap.size) v r := Kd.R_mono (Kd.R_bound h) (fun k hk => ⟨hk.2.1, hk.2.2.1⟩)
theorem S_iv {α : Type} {d : Kd α} {e : Nat} {w w' : World} {ok : Nat → Prop} {v : Value} {r : List α} (h : Kd.S d e w' w.heap.size ok v r) : Kd.S d e w' w.heap.size (fun k => ok k ∧ w.heap.size ≤ k ∧ k < w'.heap.size) v r := Kd.S_mono (Kd.S_bound h) (fun k hk => ⟨hk.1, hk.2.1, hk.2.2.1⟩)
theorem V_iv {α : Type} {d : Kd α} {e : Nat} {w w' : World} {v : Value} {r : List α} (h : Kd.V d e w' w.heap.size (fun k => w.heap.size ≤ k) v r) : Kd.V d e w' w.heap.size (fun k => w.heap.size ≤ k ∧ k < w'.heap.size) v r := Kd.V_bound h
theorem held_strs {k n : Nat} {A : Option Addr} {c : Nat} {l : List ByteArray} {a r : Int} {w : World} (h : n = l.length ∧ n ≤ c ∧ Kd.C Kd.string w A l.length l) (hf : laws_heldStringS.f k l a = some r) : Calls Tryd.prog 23 #[.slice A n c, .int .i64 a] w fun e w' => e = .returned (.int .i64 r) ∧ Below w.heap.size w w' := by
  obtain ⟨rfl, h1, h2⟩ := h
  exact laws_heldStringS.calls k A c l a r w h2 h1 hf
end Go.Proofs.YthljjgolloiamaaDoor.PNam

-- told by a program of mine (wip/lawwalk.py)
/-! FnExactPathsOf: the law, walked. -/
namespace Go.Proofs.YthljjgolloiamaaDoor.PNam
open Go.RowKit Go.Proofs.YthljjgolloiamaaDoorW.PrintWords Go.Proofs.YthljjgolloiamaaDoorW.PrintLast Go.Proofs.YthljjgolloiamaaDoorW.PrintMore Go.Proofs.YthljjgolloiamaaDoor.E
set_option linter.unusedSimpArgs false
set_option linter.unusedVariables false
def laws_FnExactPathsOf.ok (k : Nat) (l0_0 : List S114)  : Prop :=
  (∃ s, laws_szNames.f k l0_0 1048576 = some s ∧ s < 0) ∨
  ∃ s C ws wb k1 C2 m ws3, laws_szNames.f k l0_0 1048576 = some s ∧ ¬ s < 0 ∧ laws_toNames.f k l0_0 = some C ∧ spec_PathsOf.f k C  = some (ws, wb) ∧ impl_PathsOf.f k C  = some (ws, wb) ∧ laws_eqStringS.f k ws ws = some true ∧
    laws_eqNames.f k C C = some true ∧ laws_markNames.f k C 1 = some (k1, C2) ∧ ¬ k1 < 0 ∧ laws_markStringS.f k ws 1 = some (m, ws3) ∧ laws_heldStringS.f k ws3 1 = some m ∧ ¬ m < 0
set_option maxHeartbeats 16000000 in
set_option maxRecDepth 100000 in
theorem laws_FnExactPathsOf.calls (k : Nat) (A0_0 : Option Addr) (c0_0 : Nat) (l0_0 : List (S114))  (_r : Bool) (w : World) (hr0_0 : Kd.C k114 w A0_0 l0_0.length l0_0) (hc0_0 : l0_0.length ≤ c0_0) (h : laws_FnExactPathsOf.ok k l0_0 ) :
    Calls Tryd.prog 5 #[.agg #[.slice A0_0 l0_0.length c0_0]] w fun e w' => e = .returned (.bool true) ∧ Below w.heap.size w w' := by
  have hu33 := Tryd.underlying24
  have hu25 := Tryd.underlying30
  have HR0 := Aside0.mk hr0_0
  have HC0 := Aside0.mk hc0_0
  clear hr0_0 hc0_0
  rcases h with ⟨s, h1, h2⟩ | ⟨s, C, ws, wb, k1, C2, m, ws3, h1, h2, h3, h4, h5, h6, h7, h8, h9, h10, h11, h12⟩
  · have H1 := Aside0.mk h1
    have c1 : decide (s < 0) = true := decide_eq_true h2
    have c2 : (s < 0) = True := eq_true h2
    clear h1 h2
    have B := Aside0.mk (Below.refl w.heap.size w)
    obtain ⟨V1, hV1⟩ : ∃ W, w.alloc (.cells #[.slice A0_0 l0_0.length c0_0] 24 (0, 0)) = W := ⟨_, rfl⟩
    have hb : Below w.heap.size w V1 := by rw [← hV1]; exact below_alloc (Below.refl _ _) _
    have LE1 := Aside0.mk (show V1.heap.size = w.heap.size + 1 by rw [← hV1]; simp)
    replace B := Aside0.mk (below_step B.out hb)
    have X0 := Aside0.mk (show V1.heap[w.heap.size]? = some (.cells #[.slice A0_0 l0_0.length c0_0] 24 (0, 0)) by rw [← hV1]; exact heap_alloc_new w _)
    clear hb
    go_enter Tryd.func5, Tryd.ntmps5
    have dX0_0 : V1.cell? ⟨w.heap.size, 0, none⟩ = some (.slice A0_0 l0_0.length c0_0) := (blk_cell X0.out 0).trans rfl
    have TT := Aside0.mk (laws_szNames.calls k A0_0 c0_0 l0_0 1048576 s V1 (Kd.C_below HR0.out B.out) HC0.out H1.out)
    go_wp2_with (go_at_call 8; refine TT.out.mono ?_)
    rintro e w2 ⟨rfl, hb⟩
    clear TT
    clear dX0_0
    clear hV1
    replace B := Aside0.mk (below_step B.out hb)
    replace X0 := Aside0.mk (blk_below X0.out hb)
    go_wp2
    go_ret
    exact ⟨rfl, B.out⟩
  · have c1 : decide (s < 0) = false := decide_eq_false h2
    have c2 : (s < 0) = False := eq_false h2
    have c3 : decide (k1 < 0) = false := decide_eq_false h9
    have c4 : (k1 < 0) = False := eq_false h9
    have c5 : decide (m < 0) = false := decide_eq_false h12
    have c6 : (m < 0) = False := eq_false h12
    have H1 := Aside0.mk h1
    have H3 := Aside0.mk h3
    have H4 := Aside0.mk h4
    have H5 := Aside0.mk h5
    have H6 := Aside0.mk h6
    have H7 := Aside0.mk h7
    have H8 := Aside0.mk h8
    have H10 := Aside0.mk h10
    have H11 := Aside0.mk h11
    clear h1 h2 h3 h4 h5 h6 h7 h8 h9 h10 h11 h12
    have B := Aside0.mk (Below.refl w.heap.size w)
    obtain ⟨V1, hV1⟩ : ∃ W, w.alloc (.cells #[.slice A0_0 l0_0.length c0_0] 24 (0, 0)) = W := ⟨_, rfl⟩
    have hb : Below w.heap.size w V1 := by rw [← hV1]; exact below_alloc (Below.refl _ _) _
    have LE1 := Aside0.mk (show V1.heap.size = w.heap.size + 1 by rw [← hV1]; simp)
    replace B := Aside0.mk (below_step B.out hb)
    have X0 := Aside0.mk (show V1.heap[w.heap.size]? = some (.cells #[.slice A0_0 l0_0.length c0_0] 24 (0, 0)) by rw [← hV1]; exact heap_alloc_new w _)
    clear hb
    go_enter Tryd.func5, Tryd.ntmps5
    have dX0_0 : V1.cell? ⟨w.heap.size, 0, none⟩ = some (.slice A0_0 l0_0.length c0_0) := (blk_cell X0.out 0).trans rfl
    have TT := Aside0.mk (laws_szNames.calls k A0_0 c0_0 l0_0 1048576 s V1 (Kd.C_below HR0.out B.out) HC0.out H1.out)
    go_wp2_with (go_at_call 8; refine TT.out.mono ?_)
    rintro e w2 ⟨rfl, hb⟩
    clear TT
    clear dX0_0
    clear hV1
    have LS1 := Aside0.mk (show V1.heap.size ≤ w2.heap.size from hb.size)
    replace B := Aside0.mk (below_step B.out hb)
    replace X0 := Aside0.mk (blk_below X0.out hb)
    clear hb
    have dX0_0 : w2.cell? ⟨w.heap.size, 0, none⟩ = some (.slice A0_0 l0_0.length c0_0) := (blk_cell X0.out 0).trans rfl
    have TT := Aside0.mk (laws_toNames.calls k A0_0 c0_0 l0_0 C w2 (Kd.C_below HR0.out B.out) HC0.out H3.out)
    go_wp2_with (go_at_call 10; refine TT.out.mono ?_)
    rintro e w3 ⟨t0, rfl, hs, hb⟩
    clear TT
    clear dX0_0
    have LS2 := Aside0.mk (show w2.heap.size ≤ w3.heap.size from hb.size)
    replace B := Aside0.mk (below_step B.out hb)
    replace X0 := Aside0.mk (blk_below X0.out hb)
    obtain ⟨tA0, tc0, rfl⟩ := Kd.S_slice hs
    have tS := Aside0.mk (S_iv hs)
    clear hs hb
    have TT := Aside0.mk (spec_PathsOf.calls k _ _ C  ws wb w3 (Kd.S_reads' tS.out).2.2 (Kd.S_reads' tS.out).2.1 H4.out)
    go_wp2_with (go_at_call 19; refine TT.out.mono ?_)
    rintro e w4 ⟨u0, rfl, hr, hb⟩
    clear TT
    have LS3 := Aside0.mk (show w3.heap.size ≤ w4.heap.size from hb.size)
    replace B := Aside0.mk (below_step B.out hb)
    replace X0 := Aside0.mk (blk_below X0.out hb)
    replace tS := Aside0.mk (Kd.S_below tS.out hb)
    obtain ⟨uA0, uc0, rfl⟩ := Kd.V_slice hr
    have uR := Aside0.mk (V_iv hr)
    clear hb hr
    clear tS
    have dX0_0 : w4.cell? ⟨w.heap.size, 0, none⟩ = some (.slice A0_0 l0_0.length c0_0) := (blk_cell X0.out 0).trans rfl
    have TT := Aside0.mk (laws_toNames.calls k A0_0 c0_0 l0_0 C w4 (Kd.C_below HR0.out B.out) HC0.out H3.out)
    go_wp2_with (go_at_call 10; refine TT.out.mono ?_)
    rintro e w5 ⟨x0, rfl, hs, hb⟩
    clear TT
    clear dX0_0
    have LS4 := Aside0.mk (show w4.heap.size ≤ w5.heap.size from hb.size)
    replace B := Aside0.mk (below_step B.out hb)
    replace X0 := Aside0.mk (blk_below X0.out hb)
    replace uR := Aside0.mk (Kd.V_below uR.out hb)
    obtain ⟨xA0, xc0, rfl⟩ := Kd.S_slice hs
    have xS := Aside0.mk (S_iv hs)
    clear hs hb
    obtain ⟨V2, hV2⟩ : ∃ W, w5.alloc (.cells #[.slice xA0 C.length xc0] 30 (0, 0)) = W := ⟨_, rfl⟩
    have hb : Below w5.heap.size w5 V2 := by rw [← hV2]; exact below_alloc (Below.refl _ _) _
    have LE2 := Aside0.mk (show V2.heap.size = w5.heap.size + 1 by rw [← hV2]; simp)
    replace B := Aside0.mk (below_step B.out hb)
    replace X0 := Aside0.mk (blk_below X0.out hb)
    replace uR := Aside0.mk (Kd.V_below uR.out hb)
    replace xS := Aside0.mk (Kd.S_below xS.out hb)
    have X1 := Aside0.mk (show V2.heap[w5.heap.size]? = some (.cells #[.slice xA0 C.length xc0] 30 (0, 0)) by rw [← hV2]; exact heap_alloc_new w5 _)
    clear hb
    have dX0_0 : V2.cell? ⟨w.heap.size, 0, none⟩ = some (.slice A0_0 l0_0.length c0_0) := (blk_cell X0.out 0).trans rfl
    have dX1_0 : V2.cell? ⟨w5.heap.size, 0, none⟩ = some (.slice xA0 C.length xc0) := (blk_cell X1.out 0).trans rfl
    have TT := Aside0.mk (impl_PathsOf.calls k _ _ C  ws wb V2 (Kd.S_reads' xS.out).2.2 (Kd.S_reads' xS.out).2.1 H5.out)
    go_wp2_with (go_at_call 20; refine TT.out.mono ?_)
    rintro e w6 ⟨g0, rfl, hr, hb⟩
    clear TT
    clear dX0_0 dX1_0
    have LS5 := Aside0.mk (show V2.heap.size ≤ w6.heap.size from hb.size)
    replace B := Aside0.mk (below_step B.out hb)
    replace X0 := Aside0.mk (blk_below X0.out hb)
    replace uR := Aside0.mk (Kd.V_below uR.out hb)
    replace xS := Aside0.mk (Kd.S_below xS.out hb)
    replace X1 := Aside0.mk (blk_below X1.out hb)
    obtain ⟨gA0, gc0, rfl⟩ := Kd.R_slice hr
    have gR := Aside0.mk (R_iv hr)
    clear hb hr
    clear hV2
    have TT := Aside0.mk (laws_eqStringS.calls k _ _ ws _ _ ws true w6 (Kd.R_reads' gR.out).2.2 (Kd.R_reads' gR.out).2.1 (Kd.V_reads' uR.out).2.2 (Kd.V_reads' uR.out).2.1 H6.out)
    go_wp2_with (go_at_call 21; refine TT.out.mono ?_)
    (first | rintro e w7 rfl hd | rintro e w7 ⟨rfl, hd⟩)
    clear TT
    have hb := hd.below
    clear hd
    have LS6 := Aside0.mk (show w6.heap.size ≤ w7.heap.size from hb.size)
    replace B := Aside0.mk (below_step B.out hb)
    replace X0 := Aside0.mk (blk_below X0.out hb)
    replace uR := Aside0.mk (Kd.V_below uR.out hb)
    replace xS := Aside0.mk (Kd.S_below xS.out hb)
    replace X1 := Aside0.mk (blk_below X1.out hb)
    replace gR := Aside0.mk (Kd.R_below gR.out hb)
    clear hb
    have dX0_0 : w7.cell? ⟨w.heap.size, 0, none⟩ = some (.slice A0_0 l0_0.length c0_0) := (blk_cell X0.out 0).trans rfl
    have dX1_0 : w7.cell? ⟨w5.heap.size, 0, none⟩ = some (.slice xA0 C.length xc0) := (blk_cell X1.out 0).trans rfl
    go_wp2
    clear dX0_0 dX1_0
    replace B := Aside0.mk (below_drew1 B.out)
    replace X0 := Aside0.mk (blk_drew X0.out)
    replace uR := Aside0.mk (Kd.V_drew uR.out)
    replace xS := Aside0.mk (Kd.S_drew xS.out)
    replace X1 := Aside0.mk (blk_drew X1.out)
    replace gR := Aside0.mk (Kd.R_drew gR.out)
    refine start_ (n := 5) (S := fun w' => w'.cell? ⟨w5.heap.size, 0, none⟩ = some (.slice xA0 C.length xc0) ∧ w'.cell? ⟨w.heap.size, 0, none⟩ = some (.slice A0_0 l0_0.length c0_0)) (ds := []) #[false, false, false, false, false] (by kernel_rfl) rfl rfl ⟨(blk_cell X1.out 0).trans rfl, (blk_cell X0.out 0).trans rfl⟩ (fun hHeld => ?_)
    have LD := Aside0.mk (show w7.drew.heap.size = w7.heap.size from rfl)
    generalize w7.drew = w8 at B X0 uR xS X1 gR LD hHeld ⊢
    refine take_ (i := 0) (N := some 41) (v := ?_) (a' := ?_) #[true, false, false, false, false] rfl rfl (by kernel_rfl) (fun _ _ _ h => h) (Or.inl ⟨by rfl, ?_⟩) hHeld ?_ ?_
    rotate_left
    · rintro w' ⟨s0, s1⟩
      go_simp
      with_reducible rfl
    rotate_left
    · simp only [Act.put, List.setIfInBounds_toArray, List.set_cons_zero, List.set_cons_succ, i64_w, i32_w]
      rfl
    refine take_ (i := 1) (N := some 42) (v := ?_) (a' := ?_) #[true, true, false, false, false] rfl rfl (by kernel_rfl) (fun _ _ _ h => h) (Or.inl ⟨by rfl, ?_⟩) hHeld ?_ ?_
    rotate_left
    · rintro w' ⟨s0, s1⟩
      go_simp
      with_reducible rfl
    rotate_left
    · simp only [Act.put, List.setIfInBounds_toArray, List.set_cons_zero, List.set_cons_succ, i64_w, i32_w]
      rfl
    refine one_ (i := 2) (N := some 43) #[true, true, true, false, false] rfl rfl (by kernel_rfl) (by decide) (fun K hK => ?_)
    refine goes_ Tryd.func10 (by kernel_rfl) rfl #[.agg #[.slice A0_0 l0_0.length c0_0]] (by rfl) rfl rfl (by (try simp only [List.map_toArray, List.map_cons, List.map_nil]); first | done | rfl | (simp only [List.length_drop, List.length_take]; rfl)) ?_
    with_reducible refine (laws_toNames.calls k A0_0 c0_0 l0_0 C w8 (Kd.C_below HR0.out B.out) HC0.out H3.out).mono ?_
    rintro e w9 ⟨y0, rfl, hs, hb⟩
    refine ⟨_, rfl, ?_⟩
    have LS7 := Aside0.mk (show w8.heap.size ≤ w9.heap.size from hb.size)
    replace B := Aside0.mk (below_step B.out hb)
    replace X0 := Aside0.mk (blk_below X0.out hb)
    replace uR := Aside0.mk (Kd.V_below uR.out hb)
    replace xS := Aside0.mk (Kd.S_below xS.out hb)
    replace X1 := Aside0.mk (blk_below X1.out hb)
    replace gR := Aside0.mk (Kd.R_below gR.out hb)
    obtain ⟨yA0, yc0, rfl⟩ := Kd.S_slice hs
    have yS := Aside0.mk (S_iv hs)
    clear hs hb
    refine hK.out _ _ ⟨(blk_cell X1.out 0).trans rfl, (blk_cell X0.out 0).trans rfl⟩ (fun hHeld => ?_)
    clear hK K
    refine norm_ (a' := ?_) ?_ ?_
    rotate_left
    · show Act.put _ (some 43) _ = _
      simp only [Act.put, List.setIfInBounds_toArray, List.set_cons_zero, List.set_cons_succ, i64_w, i32_w]
      rfl
    refine one_ (i := 3) (N := some 44) #[true, true, true, true, false] rfl rfl (by kernel_rfl) (by decide) (fun K hK => ?_)
    refine goes_ Tryd.func12 (by kernel_rfl) rfl #[.agg #[.slice xA0 C.length xc0], .agg #[.slice yA0 C.length yc0]] (by rfl) rfl rfl (by (try simp only [List.map_toArray, List.map_cons, List.map_nil]); first | done | rfl | (simp only [List.length_drop, List.length_take]; rfl)) ?_
    with_reducible refine (laws_eqNames.calls k _ _ C _ _ C true w9 (Kd.S_reads' xS.out).2.2 (Kd.S_reads' xS.out).2.1 (Kd.S_reads' yS.out).2.2 (Kd.S_reads' yS.out).2.1 H7.out).mono ?_
    rintro e w10 ⟨rfl, hb⟩
    refine ⟨_, rfl, ?_⟩
    clear yS
    have LS8 := Aside0.mk (show w9.heap.size ≤ w10.heap.size from hb.size)
    replace B := Aside0.mk (below_step B.out hb)
    replace X0 := Aside0.mk (blk_below X0.out hb)
    replace uR := Aside0.mk (Kd.V_below uR.out hb)
    replace xS := Aside0.mk (Kd.S_below xS.out hb)
    replace X1 := Aside0.mk (blk_below X1.out hb)
    replace gR := Aside0.mk (Kd.R_below gR.out hb)
    clear hb
    refine hK.out _ _ ⟨(blk_cell X1.out 0).trans rfl, (blk_cell X0.out 0).trans rfl⟩ (fun hHeld => ?_)
    clear hK K
    refine norm_ (a' := ?_) ?_ ?_
    rotate_left
    · show Act.put _ (some 44) _ = _
      simp only [Act.put, List.setIfInBounds_toArray, List.set_cons_zero, List.set_cons_succ, i64_w, i32_w]
      rfl
    refine pure_ (i := 4) (N := some 45) (v := ?_) (a' := ?_) #[true, true, true, true, true] rfl rfl (by kernel_rfl) (fun _ _ _ h => h) (Or.inl ⟨by rfl, ?_⟩) ?_ ?_
    rotate_left
    · intro w'
      go_simp
      with_reducible rfl
    rotate_left
    · simp only [Act.put, List.setIfInBounds_toArray, List.set_cons_zero, List.set_cons_succ, i64_w, i32_w]
      rfl
    refine done_ (by kernel_rfl) ?_
    clear hHeld
    have lo0_ := True.intro
    have dX1_0 : w10.cell? ⟨w5.heap.size, 0, none⟩ = some (.slice xA0 C.length xc0) := (blk_cell X1.out 0).trans rfl
    have TT := Aside0.mk (laws_markNames.calls k (fun k_ => w4.heap.size ≤ k_ ∧ k_ < w5.heap.size) _ C 1 k1 C2 w w10 B.out (Kd.S_lower (Kd.S_mono xS.out (fun k_ h_ => h_.2)) (by have := LE1.out; have := LS1.out; have := LS2.out; have := LS3.out; have := LS4.out; have := LE2.out; have := LS5.out; have := LS6.out; have := LD.out; have := LS7.out; have := LS8.out; omega)) H8.out)
    go_wp2_with (go_at_call 16; refine TT.out.mono ?_)
    (first | rintro e w11 rfl ho0 hB2 hk | rintro e w11 ⟨rfl, ho0, hB2, hk⟩)
    clear TT
    clear dX1_0
    have LKw11 := Aside0.mk (show w10.heap.size ≤ w11.heap.size from hk.1)
    replace B := Aside0.mk hB2
    replace X0 := Aside0.mk (blk_kept X0.out hk (fun h_ => by have := h_.1; have := h_.2; have := LE1.out; have := LS1.out; have := LS2.out; have := LS3.out; have := LS4.out; have := LE2.out; have := LS5.out; have := LS6.out; have := LD.out; have := LS7.out; have := LS8.out; have := LKw11.out; omega))
    replace uR := Aside0.mk (Kd.V_kept uR.out hk (fun k_ hk_ => by have := hk_.1; have := hk_.2; have := LE1.out; have := LS1.out; have := LS2.out; have := LS3.out; have := LS4.out; have := LE2.out; have := LS5.out; have := LS6.out; have := LD.out; have := LS7.out; have := LS8.out; have := LKw11.out; omega))
    replace X1 := Aside0.mk (blk_kept X1.out hk (fun h_ => by have := h_.1; have := h_.2; have := LE1.out; have := LS1.out; have := LS2.out; have := LS3.out; have := LS4.out; have := LE2.out; have := LS5.out; have := LS6.out; have := LD.out; have := LS7.out; have := LS8.out; have := LKw11.out; omega))
    replace gR := Aside0.mk (Kd.R_kept gR.out hk (fun k_ hk_ h_ => by have := h_.1; have := h_.2; have := LE1.out; have := LS1.out; have := LS2.out; have := LS3.out; have := LS4.out; have := LE2.out; have := LS5.out; have := LS6.out; have := LD.out; have := LS7.out; have := LS8.out; have := LKw11.out; omega))
    clear hB2 hk
    clear ho0 lo0_
    clear xS
    have TT := Aside0.mk (laws_eqStringS.calls k _ _ ws _ _ ws true w11 (Kd.R_reads' gR.out).2.2 (Kd.R_reads' gR.out).2.1 (Kd.V_reads' uR.out).2.2 (Kd.V_reads' uR.out).2.1 H6.out)
    go_wp2_with (go_at_call 21; refine TT.out.mono ?_)
    (first | rintro e w12 rfl hd | rintro e w12 ⟨rfl, hd⟩)
    clear TT
    have hb := hd.below
    clear hd
    have LS9 := Aside0.mk (show w11.heap.size ≤ w12.heap.size from hb.size)
    replace B := Aside0.mk (below_step B.out hb)
    replace X0 := Aside0.mk (blk_below X0.out hb)
    replace uR := Aside0.mk (Kd.V_below uR.out hb)
    replace X1 := Aside0.mk (blk_below X1.out hb)
    replace gR := Aside0.mk (Kd.R_below gR.out hb)
    clear hb
    have TT := Aside0.mk (laws_markStringS.calls k (fun k_ => V2.heap.size ≤ k_ ∧ k_ < w6.heap.size) _ ws 1 m ws3 w w12 B.out (Kd.R_lower gR.out (by have := LE1.out; have := LS1.out; have := LS2.out; have := LS3.out; have := LS4.out; have := LE2.out; have := LS5.out; have := LS6.out; have := LD.out; have := LS7.out; have := LS8.out; have := LKw11.out; have := LS9.out; omega)) H10.out)
    go_wp2_with (go_at_call 22; refine TT.out.mono ?_)
    (first | rintro e w13 rfl ho0 hB2 hk | rintro e w13 ⟨rfl, ho0, hB2, hk⟩)
    clear TT
    have LKw13 := Aside0.mk (show w12.heap.size ≤ w13.heap.size from hk.1)
    replace B := Aside0.mk hB2
    replace X0 := Aside0.mk (blk_kept X0.out hk (fun h_ => by have := h_.1; have := h_.2; have := LE1.out; have := LS1.out; have := LS2.out; have := LS3.out; have := LS4.out; have := LE2.out; have := LS5.out; have := LS6.out; have := LD.out; have := LS7.out; have := LS8.out; have := LKw11.out; have := LS9.out; have := LKw13.out; omega))
    replace uR := Aside0.mk (Kd.V_kept uR.out hk (fun k_ hk_ => by have := hk_.1; have := hk_.2; have := LE1.out; have := LS1.out; have := LS2.out; have := LS3.out; have := LS4.out; have := LE2.out; have := LS5.out; have := LS6.out; have := LD.out; have := LS7.out; have := LS8.out; have := LKw11.out; have := LS9.out; have := LKw13.out; omega))
    replace X1 := Aside0.mk (blk_kept X1.out hk (fun h_ => by have := h_.1; have := h_.2; have := LE1.out; have := LS1.out; have := LS2.out; have := LS3.out; have := LS4.out; have := LE2.out; have := LS5.out; have := LS6.out; have := LD.out; have := LS7.out; have := LS8.out; have := LKw11.out; have := LS9.out; have := LKw13.out; omega))
    have hg_ := Kd.R_reads' ho0
    replace gR := Aside0.mk (show Kd.R Kd.string 9 w13 w.heap.size (fun k_ => V2.heap.size ≤ k_ ∧ k_ < w6.heap.size) (.slice gA0 ws.length gc0) ws3 from Kd.R_of_own (Kd.own_of_R ho0) (fun k_ h_ => gR.out.1 k_ h_))
    clear ho0 hB2 hk hg_
    have TT := Aside0.mk (held_strs (Kd.R_reads' gR.out) H11.out)
    go_wp2_with (go_at_call 23; refine TT.out.mono ?_)
    (first | rintro e w14 rfl hb | rintro e w14 ⟨rfl, hb⟩)
    clear TT
    have LS10 := Aside0.mk (show w13.heap.size ≤ w14.heap.size from hb.size)
    replace B := Aside0.mk (below_step B.out hb)
    replace X0 := Aside0.mk (blk_below X0.out hb)
    replace uR := Aside0.mk (Kd.V_below uR.out hb)
    replace X1 := Aside0.mk (blk_below X1.out hb)
    replace gR := Aside0.mk (Kd.R_below gR.out hb)
    clear hb
    have hww : (wb == wb) = true := beq_self_eq_true wb
    have hwn : (wb != wb) = false := by simp
    have hmm : (m == m) = true := beq_self_eq_true m
    have hmn : (m != m) = false := by simp
    have dX0_0 : w14.cell? ⟨w.heap.size, 0, none⟩ = some (.slice A0_0 l0_0.length c0_0) := (blk_cell X0.out 0).trans rfl
    have TT := Aside0.mk (laws_toNames.calls k A0_0 c0_0 l0_0 C w14 (Kd.C_below HR0.out B.out) HC0.out H3.out)
    go_wp2_with (go_at_call 10; refine TT.out.mono ?_)
    rintro e w15 ⟨z0, rfl, hs, hb⟩
    clear TT
    clear dX0_0
    have LS11 := Aside0.mk (show w14.heap.size ≤ w15.heap.size from hb.size)
    replace B := Aside0.mk (below_step B.out hb)
    replace X0 := Aside0.mk (blk_below X0.out hb)
    replace uR := Aside0.mk (Kd.V_below uR.out hb)
    replace X1 := Aside0.mk (blk_below X1.out hb)
    replace gR := Aside0.mk (Kd.R_below gR.out hb)
    obtain ⟨zA0, zc0, rfl⟩ := Kd.S_slice hs
    have zS := Aside0.mk (S_iv hs)
    clear hs hb
    have TT := Aside0.mk (impl_PathsOf.calls k _ _ C  ws wb w15 (Kd.S_reads' zS.out).2.2 (Kd.S_reads' zS.out).2.1 H5.out)
    go_wp2_with (go_at_call 20; refine TT.out.mono ?_)
    rintro e w16 ⟨h0, rfl, hr, hb⟩
    clear TT
    have LS12 := Aside0.mk (show w15.heap.size ≤ w16.heap.size from hb.size)
    replace B := Aside0.mk (below_step B.out hb)
    replace X0 := Aside0.mk (blk_below X0.out hb)
    replace uR := Aside0.mk (Kd.V_below uR.out hb)
    replace X1 := Aside0.mk (blk_below X1.out hb)
    replace gR := Aside0.mk (Kd.R_below gR.out hb)
    replace zS := Aside0.mk (Kd.S_below zS.out hb)
    obtain ⟨hA0, hc0, rfl⟩ := Kd.R_slice hr
    have hR := Aside0.mk (R_iv hr)
    clear hb hr
    clear zS
    have TT := Aside0.mk (laws_eqStringS.calls k _ _ ws _ _ ws true w16 (Kd.R_reads' hR.out).2.2 (Kd.R_reads' hR.out).2.1 (Kd.V_reads' uR.out).2.2 (Kd.V_reads' uR.out).2.1 H6.out)
    go_wp2_with (go_at_call 21; refine TT.out.mono ?_)
    (first | rintro e w17 rfl hd | rintro e w17 ⟨rfl, hd⟩)
    clear TT
    have hb := hd.below
    clear hd
    have LS13 := Aside0.mk (show w16.heap.size ≤ w17.heap.size from hb.size)
    replace B := Aside0.mk (below_step B.out hb)
    replace X0 := Aside0.mk (blk_below X0.out hb)
    replace uR := Aside0.mk (Kd.V_below uR.out hb)
    replace X1 := Aside0.mk (blk_below X1.out hb)
    replace gR := Aside0.mk (Kd.R_below gR.out hb)
    replace hR := Aside0.mk (Kd.R_below hR.out hb)
    clear hb
    have TT := Aside0.mk (held_strs (Kd.R_reads' gR.out) H11.out)
    go_wp2_with (go_at_call 23; refine TT.out.mono ?_)
    (first | rintro e w18 rfl hb | rintro e w18 ⟨rfl, hb⟩)
    clear TT
    have LS14 := Aside0.mk (show w17.heap.size ≤ w18.heap.size from hb.size)
    replace B := Aside0.mk (below_step B.out hb)
    replace X0 := Aside0.mk (blk_below X0.out hb)
    replace uR := Aside0.mk (Kd.V_below uR.out hb)
    replace X1 := Aside0.mk (blk_below X1.out hb)
    replace gR := Aside0.mk (Kd.R_below gR.out hb)
    replace hR := Aside0.mk (Kd.R_below hR.out hb)
    clear hb
    go_wp2
    go_ret
    exact ⟨rfl, B.out⟩
end Go.Proofs.YthljjgolloiamaaDoor.PNam
