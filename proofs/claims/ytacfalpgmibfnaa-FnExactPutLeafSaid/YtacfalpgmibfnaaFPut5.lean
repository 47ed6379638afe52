import Derived.Test.YtacfalpgmibfnaaFPut4
namespace Go.Proofs.Ytacfalpgmibfnaa.PCow
open Go.RowKit Go.Proofs.YtacfalpgmibfnaaW.PrintWords Go.Proofs.YtacfalpgmibfnaaW.PrintLast Go.Proofs.YtacfalpgmibfnaaW.PrintMore Go.Proofs.Ytacfalpgmibfnaa.E
set_option linter.unusedSimpArgs false
set_option linter.unusedVariables false
def DigS (K : Nat) (dg : Nat → Int) : Nat → Int → Prop
 | 0, _ => True
 | 1, _ => True
 | l + 2, a => ∃ s n, spec_l14Size.f K ((l + 2 : Nat) : Int) = some s ∧ wrap64 (Int.tdiv s 4) = n ∧ n ≠ 0 ∧ wrap64 (Int.tdiv a n) = dg (l + 2) ∧ DigS K dg (l + 1) (Int.tmod a n)
theorem some_hit {ks : List Int} {q : Nat} (h : q < ks.length) (h0 : 0 ≤ rd ks (q : Int)) : someKid ks = true := by
 unfold someKid
 refine List.any_eq_true.2 ⟨ks[q], List.getElem_mem h, ?_⟩
 have e : rd ks (q : Int) = ks[q] := by
  unfold rd
  rw [List.getD_eq_getElem?_getD, Int.toNat_natCast, List.getElem?_eq_getElem h]
  rfl
 rw [e] at h0
 exact decide_eq_true h0
theorem some_miss {ks : List Int} (h : ∀ n : Nat, n < ks.length → rd ks (n : Int) < 0) : someKid ks = false := by
 unfold someKid
 refine List.any_eq_false.2 fun x hx => ?_
 obtain ⟨n, hn, rfl⟩ := List.mem_iff_getElem.1 hx
 have h1 := h n hn
 have e : rd ks (n : Int) = ks[n] := by
  unfold rd
  rw [List.getD_eq_getElem?_getD, Int.toNat_natCast, List.getElem?_eq_getElem hn]
  rfl
 rw [e] at h1
 simpa using h1
set_option maxHeartbeats 16000000 in
set_option maxRecDepth 100000 in
theorem sput_calls (L : Int) (n1 c1 : Nat) (A1 : Option Addr) (leaf : ByteArray) (K : Nat) (dg : Nat → Int) : ∀ (l : Nat) (A : Option Addr) (c : Nat) (C : List CL) (k lv a_ : Int) (P : Nat → Prop) (r : List CL × Int) (w0 w : World) (hlv : lv = (l : Int)) (hl : l ≤ 1000) (hdg : DigS K dg l a_) (hB : Below w0.heap.size w0 w) (hS : CS w w0.heap.size P (.slice A C.length c) C) (hfP : ∀ k, w.heap.size ≤ k → P k) (h : putM dg leaf l C k = some r),
  Calls Try.prog 74 #[.agg #[.slice A C.length c, .slice A1 n1 c1, .int .i64 L], .int .i64 k, .int .i64 lv, .int .i64 a_, .string leaf] w fun e w' => ∃ v0, e = .returned (.tuple #[.agg #[v0, .slice A1 n1 c1, .int .i64 L], .int .i64 r.2]) ∧ CS w' w0.heap.size P v0 r.1 ∧ Below w0.heap.size w0 w' ∧ Kept w w' P := by
 intro l
 induction l with
 | zero =>
  intro A c C k lv a_ P r w0 w hlv hl hdg hB hS hfP h
  simp only [putM] at h
  cases h
 | succ l ih =>
  intro A c C k lv a_ P r w0 w hlv hl hdg hB hS hfP h
  have hu25 := Try.underlying25
  have hu68 := Try.underlying68
  have hu22 := Try.underlying22
  have hu23 := Try.underlying23
  have IH := Aside0.mk ih
  have DG := Aside0.mk hdg
  clear ih hdg
  simp only [putM] at h
  by_cases hlk : leaf.size = 0 ∧ k < 0
  ·rw [if_pos hlk] at h
   cases h
  rw [if_neg hlk] at h
  obtain ⟨⟨C1, k1⟩, ho, h⟩ := Option.bind_eq_some_iff.1 h
  simp only at h
  have hlt : k1 < C1.length := ownM_lt C k (l + 1) _ ho
  obtain ⟨xg, hxg⟩ : ∃ xg, w.heap.size = xg := ⟨_, rfl⟩
  have FP := Aside0.mk (show ∀ k, xg ≤ k → P k from fun k hk => hfP k (hxg ▸ hk))
  have BX := Aside0.mk (show w0.heap.size ≤ xg from hxg ▸ hB.size)
  obtain ⟨W1, hW1⟩ : ∃ W, w.alloc (.cells #[.slice A C.length c, .slice A1 n1 c1, .int .i64 L] 25) = W := ⟨_, rfl⟩
  obtain ⟨W2, hW2⟩ : ∃ W, W1.alloc (.cells #[.slice none 0 0, .slice none 0 0, .int .i64 0] 25) = W := ⟨_, rfl⟩
  have hb1 : Below w.heap.size w W1 := by rw [← hW1]; exact below_alloc (Below.refl _ _) _
  have hb2 : Below W1.heap.size W1 W2 := by rw [← hW2]; exact below_alloc (Below.refl _ _) _
  have X1 : W1.heap[xg]? = some (.cells #[.slice A C.length c, .slice A1 n1 c1, .int .i64 L] 25 (0, 0)) := by rw [← hW1, ← hxg]; exact heap_alloc_new w _
  have Z2 := Aside0.mk (show W2.heap[W1.heap.size]? = some (.cells #[.slice none 0 0, .slice none 0 0, .int .i64 0] 25 (0, 0)) by rw [← hW2]; exact heap_alloc_new W1 _)
  have hb := below_step hb1 hb2
  have XZ := Aside0.mk (show xg < W1.heap.size from blk_lt X1)
  have ZW := Aside0.mk (show W1.heap.size < W2.heap.size from blk_lt Z2.out)
  have X2 := Aside0.mk (blk_below X1 hb2)
  have S2 := Aside0.mk (show CS W2 w0.heap.size (fun k => P k ∧ k < xg) (.slice A C.length c) C from Kd.S_below (Kd.S_mono (Kd.S_bound hS) (fun k hk => ⟨hk.1, hxg ▸ hk.2.2.1⟩)) hb)
  have B2 := Aside0.mk (below_then hB hB.size hb)
  have K2 := Aside0.mk (Kept.of_below hb P)
  have HXG := Aside0.mk hxg
  clear hb1 hb2 hb X1 hB hfP hS
  have d0 : W2.cell? ⟨xg, 0, none⟩ = some (.slice A C.length c) := (blk_cell X2.out 0).trans rfl
  have d1 : W2.cell? ⟨xg, 1, none⟩ = some (.slice A1 n1 c1) := (blk_cell X2.out 1).trans rfl
  have d2 : W2.cell? ⟨xg, 2, none⟩ = some (.int .i64 L) := (blk_cell X2.out 2).trans rfl
  have xf0 := blk_frozen X2.out 0
  have T1 := ours_calls L n1 c1 c A1 A C (fun k => P k ∧ k ≠ xg ∧ k ≠ W1.heap.size) k (l + 1) _ w0 W2 B2.out (Kd.S_mono S2.out (fun k hk => (have h_ := hk.2; have h1_ := XZ.out; ⟨hk.1, by omega, by omega⟩))) (fun k hk => (have h1_ := XZ.out; have h2_ := ZW.out; ⟨FP.out k (by omega), by omega, by omega⟩)) ⟨hl, by omega⟩ ho
  rw [← hlv] at T1
  replace T1 := Aside0.mk T1
  have LT := Aside0.mk hlt
  have HL := Aside0.mk hl
  have HH := Aside0.mk h
  have NLK := Aside0.mk hlk
  clear ho hlt hl h xf0 hlk
  by_cases hl0 : l = 0
  ·subst hl0
   have h := HH.out
   rw [if_pos rfl] at h
   obtain rfl : lv = 1 := by omega
   clear hlv
   by_cases hle : leaf.size = 0
   ·rw [if_pos hle] at h
    have e_ := Option.some.inj h
    subst e_
    obtain rfl := empty_of_size hle
    have hk0 := NLK.out
    have t1 : (k < 0) = False := eq_false (fun e_ => hk0 ⟨rfl, e_⟩)
    clear h HH hle hk0
    go_enter Try.func74, Try.ntmps74
    go_wp2_with (go_at_call 88; refine T1.out.mono ?_; (first | rintro e w3 v0 rfl hS3 hB3 hK3 | rintro e w3 ⟨v0, rfl, hS3, hB3, hK3⟩); (obtain ⟨A2, c2, rfl⟩ := Kd.S_slice hS3); (replace hS3 : CS w3 w0.heap.size (fun k => P k ∧ k ≠ xg ∧ k ≠ W1.heap.size) (.slice A2 C1.length c2) C1 := hS3); (have X3 := Aside0.mk (blk_kept X2.out hK3 (fun h_ => h_.2.1 rfl))); (have Z3 := Aside0.mk (blk_kept Z2.out hK3 (fun h_ => h_.2.2 rfl))); (have K3 := Aside0.mk (K2.out.then_ hK3 (fun j hj => .inl hj.1))); (have q0 : w3.cell? ⟨xg, 0, none⟩ = some (.slice A C.length c) := (blk_cell X3.out 0).trans rfl); (have q1 : w3.cell? ⟨xg, 1, none⟩ = some (.slice A1 n1 c1) := (blk_cell X3.out 1).trans rfl); (have q2 : w3.cell? ⟨xg, 2, none⟩ = some (.int .i64 L) := (blk_cell X3.out 2).trans rfl); have u0 := blk_frozen X3.out 0; have u1 := blk_frozen X3.out 1; have u2 := blk_frozen X3.out 2; (obtain ⟨w4, hw4⟩ : ∃ W, ((w3.setCell ⟨xg, 0, none⟩ (.slice A2 C1.length c2)).setCell ⟨xg, 1, none⟩ (.slice A1 n1 c1)).setCell ⟨xg, 2, none⟩ (.int .i64 L) = W := ⟨_, rfl⟩); (have X4 := Aside0.mk (show w4.heap[xg]? = some (.cells #[.slice A2 C1.length c2, .slice A1 n1 c1, .int .i64 L] 25 (0, 0)) by rw [← hw4]; exact put3 X3.out _ _ _)); (have KK4 : Kept w3 w4 (fun j => j = xg) := by rw [← hw4]; exact keep3 (Kept.refl w3 (fun j => j = xg)) (.inl rfl)); (have Z4 := Aside0.mk (blk_kept Z3.out KK4 (by have := XZ.out; omega))); (have S4 := Aside0.mk (Kd.S_kept hS3 KK4 (fun k hk e_ => hk.2.1 e_))); (have B4 := Aside0.mk (show Below w0.heap.size w0 w4 by rw [← hw4]; exact below3 hB3 BX.out)); (have K4 := Aside0.mk (K3.out.then_ KK4 (fun j hj => .inr (by rw [hj]; exact Nat.le_of_eq HXG.out)))); (have x0 : w4.cell? ⟨xg, 0, none⟩ = some (.slice A2 C1.length c2) := (blk_cell X4.out 0).trans rfl); clear X3 Z3 K3 KK4 hS3 hB3 hK3 T1 d0 d1 d2; (obtain ⟨g, cap, hv, _, _, _⟩ := Kd.S_form S4.out (by have := LT.out; omega)); (injection hv with hA hn_ hc); (subst hA hc); (clear hn_); (obtain ⟨x, hx⟩ : ∃ x, rd_T68 C1 (k1 : Int) = x := ⟨_, rfl⟩); (obtain ⟨_, v_, e0, e1, e2, hfr, _, _, _⟩ := cs_elem S4.out (k1 : Int) (by omega) (by have := LT.out; omega)); (simp only [Int.toNat_natCast] at e0 e1 e2 hfr); (have fr0 : w4.frozen? ⟨g, k1 * 3, none⟩ = false := hfr 0); (have fr1 := hfr 1); (have fr2 := hfr 2); (have p1 : ((k1 : Int) < (C1.length : Int)) = True := eq_true (by have := LT.out; omega)); (obtain ⟨W5, hW5⟩ : ∃ W, ((w4.setCell ⟨g, k1 * 3, none⟩ (.int .i64 0)).setCell ⟨g, k1 * 3 + 1, none⟩ (.string ⟨#[]⟩)).setCell ⟨g, k1 * 3 + 2, none⟩ (.slice none 0 0) = W := ⟨_, rfl⟩); (have hPg := (Kd.S_R S4.out).1 g rfl); (have KK5 : Kept w4 W5 (fun j => j = g) := by rw [← hW5]; exact (((Kept.refl w4 (fun j => j = g)).setCell (p := ⟨g, k1 * 3, none⟩) (.inl rfl) _).setCell (p := ⟨g, k1 * 3 + 1, none⟩) (.inl rfl) _).setCell (p := ⟨g, k1 * 3 + 2, none⟩) (.inl rfl) _); (have X5 := Aside0.mk (blk_kept X4.out KK5 (fun e_ => hPg.2.1 e_.symm))); (have Z5 := Aside0.mk (blk_kept Z4.out KK5 (fun e_ => hPg.2.2 e_.symm))); (have S5 := cs_zero S4.out (k1 : Int) (by omega) (by have := LT.out; omega)); (simp only [Int.toNat_natCast] at S5); (rw [hW5] at S5); (have B5 := Aside0.mk (show Below w0.heap.size w0 W5 by have h_ := Kd.S_base S4.out g rfl; rw [← hW5]; exact below_set (below_set (below_set B4.out h_) h_) h_)); (have K5 := Aside0.mk (K4.out.then_ KK5 (fun j hj => .inl (by rw [hj]; exact hPg.1)))); (have S5 := Aside0.mk S5); (have xx0 : W5.cell? ⟨xg, 0, none⟩ = some (.slice (some ⟨g, 0, none⟩) C1.length c2) := (blk_cell X5.out 0).trans rfl); (have xx1 : W5.cell? ⟨xg, 1, none⟩ = some (.slice A1 n1 c1) := (blk_cell X5.out 1).trans rfl); (have xx2 : W5.cell? ⟨xg, 2, none⟩ = some (.int .i64 L) := (blk_cell X5.out 2).trans rfl); (have r0 : W5.cell? ⟨W1.heap.size, 0, none⟩ = some (.slice none 0 0) := (blk_cell Z5.out 0).trans rfl); (have r1 : W5.cell? ⟨W1.heap.size, 1, none⟩ = some (.slice none 0 0) := (blk_cell Z5.out 1).trans rfl); (have r2 : W5.cell? ⟨W1.heap.size, 2, none⟩ = some (.int .i64 0) := (blk_cell Z5.out 2).trans rfl); (have s0 := blk_frozen Z5.out 0); (have s1 := blk_frozen Z5.out 1); (have s2 := blk_frozen Z5.out 2); (clear hfr hPg KK5 X4 Z4 S4 B4 K4 X2 Z2 S2 B2 K2))
    refine bodyPost_ret (results_ct rfl _ _ W1.heap.size 25 #[.slice (some ⟨g, 0, none⟩) C1.length c2, .slice A1 n1 c1, .int .i64 L] (0, 0) _ rfl (put3 Z5.out _ _ _) Try.underlying25 rfl (by kernel_rfl)) rfl ?_
    have hz : xg ≤ W1.heap.size := Nat.le_of_lt XZ.out
    have hlen : C1.length = (C1.set k1 z68).length := List.length_set.symm
    refine ⟨_, rfl, ?_, below3 B5.out (Nat.le_trans BX.out hz), keep3 K5.out (.inr (HXG.out ▸ hz))⟩
    exact Kd.S_mono (far3 S5.out Z5.out) (fun k hk => hk.1)
   ·rw [if_neg hle] at h
    have m0 : leaf.toList ≠ [] := fun e_ => hle (ba_nil.1 e_)
    have m1 : (leaf.toList == []) = false := beq_eq_false_iff_ne.2 m0
    have m2 : (leaf.toList = []) = False := eq_false m0
    have e_ := Option.some.inj h
    subst e_
    clear h HH hle m0
    go_enter Try.func74, Try.ntmps74
    go_wp2_with (go_at_call 88; refine T1.out.mono ?_; (first | rintro e w3 v0 rfl hS3 hB3 hK3 | rintro e w3 ⟨v0, rfl, hS3, hB3, hK3⟩); (obtain ⟨A2, c2, rfl⟩ := Kd.S_slice hS3); (replace hS3 : CS w3 w0.heap.size (fun k => P k ∧ k ≠ xg ∧ k ≠ W1.heap.size) (.slice A2 C1.length c2) C1 := hS3); (have X3 := Aside0.mk (blk_kept X2.out hK3 (fun h_ => h_.2.1 rfl))); (have Z3 := Aside0.mk (blk_kept Z2.out hK3 (fun h_ => h_.2.2 rfl))); (have K3 := Aside0.mk (K2.out.then_ hK3 (fun j hj => .inl hj.1))); (have q0 : w3.cell? ⟨xg, 0, none⟩ = some (.slice A C.length c) := (blk_cell X3.out 0).trans rfl); (have q1 : w3.cell? ⟨xg, 1, none⟩ = some (.slice A1 n1 c1) := (blk_cell X3.out 1).trans rfl); (have q2 : w3.cell? ⟨xg, 2, none⟩ = some (.int .i64 L) := (blk_cell X3.out 2).trans rfl); have u0 := blk_frozen X3.out 0; have u1 := blk_frozen X3.out 1; have u2 := blk_frozen X3.out 2; (obtain ⟨w4, hw4⟩ : ∃ W, ((w3.setCell ⟨xg, 0, none⟩ (.slice A2 C1.length c2)).setCell ⟨xg, 1, none⟩ (.slice A1 n1 c1)).setCell ⟨xg, 2, none⟩ (.int .i64 L) = W := ⟨_, rfl⟩); (have X4 := Aside0.mk (show w4.heap[xg]? = some (.cells #[.slice A2 C1.length c2, .slice A1 n1 c1, .int .i64 L] 25 (0, 0)) by rw [← hw4]; exact put3 X3.out _ _ _)); (have KK4 : Kept w3 w4 (fun j => j = xg) := by rw [← hw4]; exact keep3 (Kept.refl w3 (fun j => j = xg)) (.inl rfl)); (have Z4 := Aside0.mk (blk_kept Z3.out KK4 (by have := XZ.out; omega))); (have S4 := Aside0.mk (Kd.S_kept hS3 KK4 (fun k hk e_ => hk.2.1 e_))); (have B4 := Aside0.mk (show Below w0.heap.size w0 w4 by rw [← hw4]; exact below3 hB3 BX.out)); (have K4 := Aside0.mk (K3.out.then_ KK4 (fun j hj => .inr (by rw [hj]; exact Nat.le_of_eq HXG.out)))); (have x0 : w4.cell? ⟨xg, 0, none⟩ = some (.slice A2 C1.length c2) := (blk_cell X4.out 0).trans rfl); clear X3 Z3 K3 KK4 hS3 hB3 hK3 T1 d0 d1 d2; (obtain ⟨g, cap, hv, _, _, _⟩ := Kd.S_form S4.out (by have := LT.out; omega)); (injection hv with hA hn_ hc); (subst hA hc); (clear hn_); (obtain ⟨x, hx⟩ : ∃ x, rd_T68 C1 (k1 : Int) = x := ⟨_, rfl⟩); (obtain ⟨_, v_, e0, e1, e2, hfr, _, _, _⟩ := cs_elem S4.out (k1 : Int) (by omega) (by have := LT.out; omega)); (simp only [Int.toNat_natCast] at e0 e1 e2 hfr); (have fr0 : w4.frozen? ⟨g, k1 * 3, none⟩ = false := hfr 0); (have fr1 := hfr 1); (have fr2 := hfr 2); (have p1 : ((k1 : Int) < (C1.length : Int)) = True := eq_true (by have := LT.out; omega)); (obtain ⟨W5, hW5⟩ : ∃ W, w4.setCell ⟨g, k1 * 3 + 1, none⟩ (.string leaf) = W := ⟨_, rfl⟩); (have hPg := (Kd.S_R S4.out).1 g rfl); (have KK5 : Kept w4 W5 (fun j => j = g) := by rw [← hW5]; exact (Kept.refl w4 (fun j => j = g)).setCell (p := ⟨g, k1 * 3 + 1, none⟩) (.inl rfl) _); (have X5 := Aside0.mk (blk_kept X4.out KK5 (fun e_ => hPg.2.1 e_.symm))); (have Z5 := Aside0.mk (blk_kept Z4.out KK5 (fun e_ => hPg.2.2 e_.symm))); (have S5 := cs_put1 S4.out (k1 : Int) (by omega) (by have := LT.out; omega) leaf); (simp only [Int.toNat_natCast] at S5); (rw [hW5, hx] at S5); (have B5 := Aside0.mk (show Below w0.heap.size w0 W5 by have h_ := Kd.S_base S4.out g rfl; rw [← hW5]; exact below_set B4.out h_)); (have K5 := Aside0.mk (K4.out.then_ KK5 (fun j hj => .inl (by rw [hj]; exact hPg.1)))); (have S5 := Aside0.mk S5); (have xx0 : W5.cell? ⟨xg, 0, none⟩ = some (.slice (some ⟨g, 0, none⟩) C1.length c2) := (blk_cell X5.out 0).trans rfl); (have xx1 : W5.cell? ⟨xg, 1, none⟩ = some (.slice A1 n1 c1) := (blk_cell X5.out 1).trans rfl); (have xx2 : W5.cell? ⟨xg, 2, none⟩ = some (.int .i64 L) := (blk_cell X5.out 2).trans rfl); (have r0 : W5.cell? ⟨W1.heap.size, 0, none⟩ = some (.slice none 0 0) := (blk_cell Z5.out 0).trans rfl); (have r1 : W5.cell? ⟨W1.heap.size, 1, none⟩ = some (.slice none 0 0) := (blk_cell Z5.out 1).trans rfl); (have r2 : W5.cell? ⟨W1.heap.size, 2, none⟩ = some (.int .i64 0) := (blk_cell Z5.out 2).trans rfl); (have s0 := blk_frozen Z5.out 0); (have s1 := blk_frozen Z5.out 1); (have s2 := blk_frozen Z5.out 2); (clear hfr hPg KK5 X4 Z4 S4 B4 K4 X2 Z2 S2 B2 K2))
    refine bodyPost_ret (results_ct rfl _ _ W1.heap.size 25 #[.slice (some ⟨g, 0, none⟩) C1.length c2, .slice A1 n1 c1, .int .i64 L] (0, 0) _ rfl (put3 Z5.out _ _ _) Try.underlying25 rfl (by kernel_rfl)) rfl ?_
    have hz : xg ≤ W1.heap.size := Nat.le_of_lt XZ.out
    rw [hx]
    refine ⟨_, rfl, ?_, below3 B5.out (Nat.le_trans BX.out hz), keep3 K5.out (.inr (HXG.out ▸ hz))⟩
    exact Kd.S_mono (far3 S5.out Z5.out) (fun k hk => hk.1)
  ·have h := HH.out
   rw [if_neg hl0] at h
   obtain ⟨l, rfl⟩ : ∃ m, l = m + 1 := ⟨l - 1, by omega⟩
   obtain ⟨sz, n, hsz, hszn, hn0, hdd, hdig⟩ := DG.out
   by_cases hd : 0 ≤ dg (l + 2) ∧ dg (l + 2) < 4 ∧ (rd_T68 C1 (k1 : Int)).f2.length = 4
   ·replace h := (if_pos hd).symm.trans h
    obtain ⟨⟨C2, zq⟩, hq, h⟩ := Option.bind_eq_some_iff.1 h
    simp only at h
    obtain ⟨d, hdn⟩ : ∃ d : Nat, dg (l + 2) = (d : Int) := ⟨(dg (l + 2)).toNat, by omega⟩
    rw [show l + 1 + 1 = l + 2 by omega, hdn] at hq h
    rw [hdn] at hdd hd
    simp only [Int.toNat_natCast] at h
    have D4 := Aside0.mk (show d < 4 by omega)
    have F4 := Aside0.mk hd.2.2
    have HQ := Aside0.mk hq
    replace HH := Aside0.mk h
    have HDIG := Aside0.mk hdig
    have LW := Aside0.mk (show wrap64 (lv - 1) = ((l + 1 : Nat) : Int) by rw [w64 (x := lv - 1) (by have := HL.out; omega) (by have := HL.out; omega)]; omega)
    have TS := Aside0.mk (fun W => spec_l14Size.calls K lv sz W (by rw [hlv]; exact hsz))
    have LV := Aside0.mk hlv
    have q1 : (lv = 1) = False := eq_false (by omega)
    have q2 : (lv == 1) = false := beq_eq_false_iff_ne.2 (by omega)
    have qn : (n = 0) = False := eq_false hn0
    have qn2 : (n == 0) = false := beq_eq_false_iff_ne.2 hn0
    have DD := Aside0.mk hdd
    clear h hq hd hdn hlv hl0 hsz hdig hn0 DG
    by_cases hle : leaf.size = 0
    ·obtain rfl := empty_of_size hle
     have hk0 := NLK.out
     have t1 : (k < 0) = False := eq_false (fun e_ => hk0 ⟨rfl, e_⟩)
     clear hk0 hle
     go_enter Try.func74, Try.ntmps74
     go_wp2_with (go_at_call 88; refine T1.out.mono ?_; (first | rintro e w3 v0 rfl hS3 hB3 hK3 | rintro e w3 ⟨v0, rfl, hS3, hB3, hK3⟩); (obtain ⟨A2, c2, rfl⟩ := Kd.S_slice hS3); (replace hS3 : CS w3 w0.heap.size (fun k => P k ∧ k ≠ xg ∧ k ≠ W1.heap.size) (.slice A2 C1.length c2) C1 := hS3); (have X3 := Aside0.mk (blk_kept X2.out hK3 (fun h_ => h_.2.1 rfl))); (have Z3 := Aside0.mk (blk_kept Z2.out hK3 (fun h_ => h_.2.2 rfl))); (have K3 := Aside0.mk (K2.out.then_ hK3 (fun j hj => .inl hj.1))); (have q0 : w3.cell? ⟨xg, 0, none⟩ = some (.slice A C.length c) := (blk_cell X3.out 0).trans rfl); (have q1 : w3.cell? ⟨xg, 1, none⟩ = some (.slice A1 n1 c1) := (blk_cell X3.out 1).trans rfl); (have q2 : w3.cell? ⟨xg, 2, none⟩ = some (.int .i64 L) := (blk_cell X3.out 2).trans rfl); have u0 := blk_frozen X3.out 0; have u1 := blk_frozen X3.out 1; have u2 := blk_frozen X3.out 2; (obtain ⟨w4, hw4⟩ : ∃ W, ((w3.setCell ⟨xg, 0, none⟩ (.slice A2 C1.length c2)).setCell ⟨xg, 1, none⟩ (.slice A1 n1 c1)).setCell ⟨xg, 2, none⟩ (.int .i64 L) = W := ⟨_, rfl⟩); (have X4 := Aside0.mk (show w4.heap[xg]? = some (.cells #[.slice A2 C1.length c2, .slice A1 n1 c1, .int .i64 L] 25 (0, 0)) by rw [← hw4]; exact put3 X3.out _ _ _)); (have KK4 : Kept w3 w4 (fun j => j = xg) := by rw [← hw4]; exact keep3 (Kept.refl w3 (fun j => j = xg)) (.inl rfl)); (have Z4 := Aside0.mk (blk_kept Z3.out KK4 (by have := XZ.out; omega))); (have S4 := Aside0.mk (Kd.S_kept hS3 KK4 (fun k hk e_ => hk.2.1 e_))); (have B4 := Aside0.mk (show Below w0.heap.size w0 w4 by rw [← hw4]; exact below3 hB3 BX.out)); (have K4 := Aside0.mk (K3.out.then_ KK4 (fun j hj => .inr (by rw [hj]; exact Nat.le_of_eq HXG.out)))); (have x0 : w4.cell? ⟨xg, 0, none⟩ = some (.slice A2 C1.length c2) := (blk_cell X4.out 0).trans rfl); clear X3 Z3 K3 KK4 hS3 hB3 hK3 T1 d0 d1 d2)
     go_wp2_with (go_at_call 85; refine (TS.out _).mono ?_)
     (first | rintro e w5 rfl hdr | rintro e w5 ⟨rfl, hdr⟩)
     have hb := hdr.below
     clear hdr TS q0 u0 u1 u2 hw4 x0
     replace X4 := Aside0.mk (blk_below X4.out hb)
     replace Z4 := Aside0.mk (blk_below Z4.out hb)
     replace S4 := Aside0.mk (Kd.S_below S4.out hb)
     replace B4 := Aside0.mk (below_then B4.out B4.out.size hb)
     replace K4 := Aside0.mk (K4.out.below hb)
     clear hb
     go_wp2
     obtain ⟨g, cap, hv, _, _, _⟩ := Kd.S_form S4.out (by have := LT.out; omega)
     injection hv with hA hn_ hc
     subst hA hc
     clear hn_
     have hlt := LT.out
     obtain ⟨x, hx⟩ : ∃ x, rd_T68 C1 (k1 : Int) = x := ⟨_, rfl⟩
     rw [hx] at F4 HQ
     obtain ⟨_, v, e0, e1, e2, hfr, _, hR, _⟩ := cs_elem S4.out (k1 : Int) (by omega) (by omega)
     simp only [Int.toNat_natCast] at e0 e1 e2 hfr
     rw [hx] at hR
     obtain ⟨A5, c5, rfl⟩ := Kd.R_slice hR
     rw [F4.out] at e2
     obtain ⟨ad, e3, hy⟩ := Kd.at_int (Kd.R_reads' hR).2.2 (d : Int) (by omega) (by have := F4.out; have := D4.out; omega)
     subst e3
     simp only [Int.toNat_natCast] at hy
     obtain ⟨z, hz⟩ : ∃ z, rd x.f2 (d : Int) = z := ⟨_, rfl⟩
     rw [hz] at hy HQ
     have p1 : ((k1 : Int) < (C1.length : Int)) = True := eq_true (by omega)
     have p2 : ((d : Int) < 4) = True := eq_true (by have := D4.out; omega)
     have hdd := DD.out
     have E2 := Aside0.mk e2
     have HY := Aside0.mk hy
     clear hR hfr e0 e1 e2 hy hx
     refine start_ (n := 25) (S := fun w' => w'.cell? ⟨xg, 0, none⟩ = some (.slice (some ⟨g, 0, none⟩) C1.length c2) ∧ w'.cell? ⟨xg, 1, none⟩ = some (.slice A1 n1 c1) ∧ w'.cell? ⟨xg, 2, none⟩ = some (.int .i64 L) ∧ w'.cell? ⟨g, k1 * 3 + 2, none⟩ = some (.slice (some ad) 4 c5) ∧ w'.cell? (ad.add d) = some (.int .i64 z)) (ds := [18, 23]) #[false, false, false, false, false, false, false, false, false, false, false, false, false, false, false, false, false, false, false, false, false, false, false, false, false] (by kernel_rfl) rfl rfl ⟨(blk_cell X4.out 0).trans rfl, (blk_cell X4.out 1).trans rfl, (blk_cell X4.out 2).trans rfl, E2.out, HY.out⟩ (fun hHeld => ?_)
     replace X4 := Aside0.mk (blk_drew X4.out)
     replace Z4 := Aside0.mk (blk_drew Z4.out)
     replace S4 := Aside0.mk (Kd.S_drew S4.out)
     replace B4 := Aside0.mk (below_drew1 B4.out)
     replace K4 := Aside0.mk K4.out.drew
     replace E2 := Aside0.mk (show w5.drew.cell? ⟨g, k1 * 3 + 2, none⟩ = some (.slice (some ad) 4 c5) from E2.out)
     replace HY := Aside0.mk (show w5.drew.cell? (ad.add d) = some (.int .i64 z) from HY.out)
     generalize w5.drew = w6 at X4 Z4 S4 B4 K4 E2 HY hHeld ⊢
     refine take_ (i := 0) (N := some 58) (v := ?_) (a' := ?_) #[true, false, false, false, false, false, false, false, false, false, false, false, false, false, false, false, false, false, false, false, false, false, false, false, false] rfl rfl (by kernel_rfl) (fun _ _ _ h => h) (Or.inl ⟨by rfl, ?_⟩) hHeld ?_ ?_
     rotate_left
     ·rintro w' ⟨s0, s1, s2, s3, s4⟩
      go_simp
      with_reducible rfl
     rotate_left
     ·simp only [Act.put, List.setIfInBounds_toArray, List.set_cons_zero, List.set_cons_succ, i64_w, i32_w]
      rfl
     refine take_ (i := 1) (N := some 59) (v := ?_) (a' := ?_) #[true, true, false, false, false, false, false, false, false, false, false, false, false, false, false, false, false, false, false, false, false, false, false, false, false] rfl rfl (by kernel_rfl) (fun _ _ _ h => h) (Or.inl ⟨by rfl, ?_⟩) hHeld ?_ ?_
     rotate_left
     ·rintro w' ⟨s0, s1, s2, s3, s4⟩
      go_simp
      with_reducible rfl
     rotate_left
     ·simp only [Act.put, List.setIfInBounds_toArray, List.set_cons_zero, List.set_cons_succ, i64_w, i32_w]
      rfl
     refine take_ (i := 2) (N := some 60) (v := ?_) (a' := ?_) #[true, true, true, false, false, false, false, false, false, false, false, false, false, false, false, false, false, false, false, false, false, false, false, false, false] rfl rfl (by kernel_rfl) (fun _ _ _ h => h) (Or.inl ⟨by rfl, ?_⟩) hHeld ?_ ?_
     rotate_left
     ·rintro w' ⟨s0, s1, s2, s3, s4⟩
      go_simp
      with_reducible rfl
     rotate_left
     ·simp only [Act.put, List.setIfInBounds_toArray, List.set_cons_zero, List.set_cons_succ, i64_w, i32_w]
      rfl
     refine take_ (i := 3) (N := some 61) (v := ?_) (a' := ?_) #[true, true, true, true, false, false, false, false, false, false, false, false, false, false, false, false, false, false, false, false, false, false, false, false, false] rfl rfl (by kernel_rfl) (fun _ _ _ h => h) (Or.inl ⟨by rfl, ?_⟩) hHeld ?_ ?_
     rotate_left
     ·rintro w' ⟨s0, s1, s2, s3, s4⟩
      go_simp
      with_reducible rfl
     rotate_left
     ·simp only [Act.put, List.setIfInBounds_toArray, List.set_cons_zero, List.set_cons_succ, i64_w, i32_w]
      rfl
     refine take_ (i := 4) (N := some 62) (v := ?_) (a' := ?_) #[true, true, true, true, true, false, false, false, false, false, false, false, false, false, false, false, false, false, false, false, false, false, false, false, false] rfl rfl (by kernel_rfl) (fun _ _ _ h => h) (Or.inl ⟨by rfl, ?_⟩) hHeld ?_ ?_
     rotate_left
     ·rintro w' ⟨s0, s1, s2, s3, s4⟩
      go_simp
      with_reducible rfl
     rotate_left
     ·simp only [Act.put, List.setIfInBounds_toArray, List.set_cons_zero, List.set_cons_succ, i64_w, i32_w]
      rfl
     refine take_ (i := 5) (N := some 63) (v := ?_) (a' := ?_) #[true, true, true, true, true, true, false, false, false, false, false, false, false, false, false, false, false, false, false, false, false, false, false, false, false] rfl rfl (by kernel_rfl) (fun _ _ _ h => h) (Or.inl ⟨by rfl, ?_⟩) hHeld ?_ ?_
     rotate_left
     ·rintro w' ⟨s0, s1, s2, s3, s4⟩
      go_simp
      with_reducible rfl
     rotate_left
     ·simp only [Act.put, List.setIfInBounds_toArray, List.set_cons_zero, List.set_cons_succ, i64_w, i32_w]
      rfl
     refine take_ (i := 6) (N := some 64) (v := ?_) (a' := ?_) #[true, true, true, true, true, true, true, false, false, false, false, false, false, false, false, false, false, false, false, false, false, false, false, false, false] rfl rfl (by kernel_rfl) (fun _ _ _ h => h) (Or.inl ⟨by rfl, ?_⟩) hHeld ?_ ?_
     rotate_left
     ·rintro w' ⟨s0, s1, s2, s3, s4⟩
      go_simp
      with_reducible rfl
     rotate_left
     ·simp only [Act.put, List.setIfInBounds_toArray, List.set_cons_zero, List.set_cons_succ, i64_w, i32_w]
      rfl
     refine take_ (i := 7) (N := some 65) (v := ?_) (a' := ?_) #[true, true, true, true, true, true, true, true, false, false, false, false, false, false, false, false, false, false, false, false, false, false, false, false, false] rfl rfl (by kernel_rfl) (fun _ _ _ h => h) (Or.inl ⟨by rfl, ?_⟩) hHeld ?_ ?_
     rotate_left
     ·rintro w' ⟨s0, s1, s2, s3, s4⟩
      go_simp
      with_reducible rfl
     rotate_left
     ·simp only [Act.put, List.setIfInBounds_toArray, List.set_cons_zero, List.set_cons_succ, i64_w, i32_w]
      rfl
     refine take_ (i := 8) (N := some 66) (v := ?_) (a' := ?_) #[true, true, true, true, true, true, true, true, true, false, false, false, false, false, false, false, false, false, false, false, false, false, false, false, false] rfl rfl (by kernel_rfl) (fun _ _ _ h => h) (Or.inl ⟨by rfl, ?_⟩) hHeld ?_ ?_
     rotate_left
     ·rintro w' ⟨s0, s1, s2, s3, s4⟩
      go_simp
      with_reducible rfl
     rotate_left
     ·simp only [Act.put, List.setIfInBounds_toArray, List.set_cons_zero, List.set_cons_succ, i64_w, i32_w]
      rfl
     refine take_ (i := 9) (N := some 67) (v := ?_) (a' := ?_) #[true, true, true, true, true, true, true, true, true, true, false, false, false, false, false, false, false, false, false, false, false, false, false, false, false] rfl rfl (by kernel_rfl) (fun _ _ _ h => h) (Or.inl ⟨by rfl, ?_⟩) hHeld ?_ ?_
     rotate_left
     ·rintro w' ⟨s0, s1, s2, s3, s4⟩
      go_simp
      with_reducible rfl
     rotate_left
     ·simp only [Act.put, List.setIfInBounds_toArray, List.set_cons_zero, List.set_cons_succ, i64_w, i32_w, hdd]
      rfl
     refine take_ (i := 10) (N := some 68) (v := ?_) (a' := ?_) #[true, true, true, true, true, true, true, true, true, true, true, false, false, false, false, false, false, false, false, false, false, false, false, false, false] rfl rfl (by kernel_rfl) (fun _ _ _ h => h) (Or.inl ⟨by rfl, ?_⟩) hHeld ?_ ?_
     rotate_left
     ·rintro w' ⟨s0, s1, s2, s3, s4⟩
      go_simp
      with_reducible rfl
     rotate_left
     ·simp only [Act.put, List.setIfInBounds_toArray, List.set_cons_zero, List.set_cons_succ, i64_w, i32_w]
      rfl
     refine take_ (i := 11) (N := some 69) (v := ?_) (a' := ?_) #[true, true, true, true, true, true, true, true, true, true, true, true, false, false, false, false, false, false, false, false, false, false, false, false, false] rfl rfl (by kernel_rfl) (fun _ _ _ h => h) (Or.inl ⟨by rfl, ?_⟩) hHeld ?_ ?_
     rotate_left
     ·rintro w' ⟨s0, s1, s2, s3, s4⟩
      go_simp
      with_reducible rfl
     rotate_left
     ·simp only [Act.put, List.setIfInBounds_toArray, List.set_cons_zero, List.set_cons_succ, i64_w, i32_w]
      rfl
     refine take_ (i := 12) (N := some 70) (v := ?_) (a' := ?_) #[true, true, true, true, true, true, true, true, true, true, true, true, true, false, false, false, false, false, false, false, false, false, false, false, false] rfl rfl (by kernel_rfl) (fun _ _ _ h => h) (Or.inl ⟨by rfl, ?_⟩) hHeld ?_ ?_
     rotate_left
     ·rintro w' ⟨s0, s1, s2, s3, s4⟩
      go_simp
      with_reducible rfl
     rotate_left
     ·simp only [Act.put, List.setIfInBounds_toArray, List.set_cons_zero, List.set_cons_succ, i64_w, i32_w]
      rfl
     refine take_ (i := 13) (N := some 71) (v := ?_) (a' := ?_) #[true, true, true, true, true, true, true, true, true, true, true, true, true, true, false, false, false, false, false, false, false, false, false, false, false] rfl rfl (by kernel_rfl) (fun _ _ _ h => h) (Or.inl ⟨by rfl, ?_⟩) hHeld ?_ ?_
     rotate_left
     ·rintro w' ⟨s0, s1, s2, s3, s4⟩
      go_simp
      with_reducible rfl
     rotate_left
     ·simp only [Act.put, List.setIfInBounds_toArray, List.set_cons_zero, List.set_cons_succ, i64_w, i32_w]
      rfl
     refine take_ (i := 14) (N := some 72) (v := ?_) (a' := ?_) #[true, true, true, true, true, true, true, true, true, true, true, true, true, true, true, false, false, false, false, false, false, false, false, false, false] rfl rfl (by kernel_rfl) (fun _ _ _ h => h) (Or.inl ⟨by rfl, ?_⟩) hHeld ?_ ?_
     rotate_left
     ·rintro w' ⟨s0, s1, s2, s3, s4⟩
      go_simp
      with_reducible rfl
     rotate_left
     ·simp only [Act.put, List.setIfInBounds_toArray, List.set_cons_zero, List.set_cons_succ, i64_w, i32_w]
      rfl
     refine take_ (i := 15) (N := some 73) (v := ?_) (a' := ?_) #[true, true, true, true, true, true, true, true, true, true, true, true, true, true, true, true, false, false, false, false, false, false, false, false, false] rfl rfl (by kernel_rfl) (fun _ _ _ h => h) (Or.inl ⟨by rfl, ?_⟩) hHeld ?_ ?_
     rotate_left
     ·rintro w' ⟨s0, s1, s2, s3, s4⟩
      go_simp
      with_reducible rfl
     rotate_left
     ·simp only [Act.put, List.setIfInBounds_toArray, List.set_cons_zero, List.set_cons_succ, i64_w, i32_w]
      rfl
     refine take_ (i := 16) (N := some 74) (v := ?_) (a' := ?_) #[true, true, true, true, true, true, true, true, true, true, true, true, true, true, true, true, true, false, false, false, false, false, false, false, false] rfl rfl (by kernel_rfl) (fun _ _ _ h => h) (Or.inl ⟨by rfl, ?_⟩) hHeld ?_ ?_
     rotate_left
     ·rintro w' ⟨s0, s1, s2, s3, s4⟩
      go_simp
      with_reducible rfl
     rotate_left
     ·simp only [Act.put, List.setIfInBounds_toArray, List.set_cons_zero, List.set_cons_succ, i64_w, i32_w]
      rfl
     refine take_ (i := 17) (N := some 75) (v := ?_) (a' := ?_) #[true, true, true, true, true, true, true, true, true, true, true, true, true, true, true, true, true, true, false, false, false, false, false, false, false] rfl rfl (by kernel_rfl) (fun _ _ _ h => h) (Or.inl ⟨by rfl, ?_⟩) hHeld ?_ ?_
     rotate_left
     ·rintro w' ⟨s0, s1, s2, s3, s4⟩
      go_simp
      with_reducible rfl
     rotate_left
     ·simp only [Act.put, List.setIfInBounds_toArray, List.set_cons_zero, List.set_cons_succ, i64_w, i32_w]
      rfl
     refine join_ (σ := Nat × Option Addr × Nat) 2 #[true, true, true, true, true, true, true, true, true, true, true, true, true, true, true, true, true, true, true, true, true, true, true, false, false] (fun s_ => [(76, .tuple #[.agg #[.slice s_.2.1 C2.length s_.2.2, .slice A1 n1 c1, .int .i64 L], .int .i64 zq]), (57, .tuple #[.agg #[.slice s_.2.1 C2.length s_.2.2, .slice A1 n1 c1, .int .i64 L], .int .i64 zq]), (77, .agg #[.slice s_.2.1 C2.length s_.2.2, .slice A1 n1 c1, .int .i64 L]), (78, .int .i64 zq), (13, .pointer (some ⟨s_.1, 0, none⟩))]) (fun s_ w' => w'.heap[s_.1]? = some (.cells #[.slice none 0 0, .slice none 0 0, .int .i64 0] 25 (0, 0)) ∧ w'.heap[W1.heap.size]? = some (.cells #[.slice none 0 0, .slice none 0 0, .int .i64 0] 25 (0, 0)) ∧ CS w' w0.heap.size (fun k => (P k ∧ k ≠ xg ∧ k ≠ W1.heap.size) ∧ k ≠ s_.1) (.slice s_.2.1 C2.length s_.2.2) C2 ∧ Below w0.heap.size w0 w' ∧ Kept w w' P ∧ W1.heap.size < s_.1) ?_ ?_
     rotate_left
     ·intro hCont
      have hsz := K4.out.1
      have hzl := blk_lt Z4.out
      refine two_last (i := 18) (j := 22) (Ni := some 76) (Nj := some 13) #[true, true, true, true, true, true, true, true, true, true, true, true, true, true, true, true, true, true, true, false, false, false, false, false, false] #[true, true, true, true, true, true, true, true, true, true, true, true, true, true, true, true, true, true, false, false, false, false, true, false, false] rfl rfl rfl rfl (by kernel_rfl) (by decide) (by decide) (fun K hK => ?_) (fun K hK => ?_)
      ·refine goes_ Try.func74 (by kernel_rfl) rfl #[.agg #[.slice (some ⟨g, 0, none⟩) C1.length c2, .slice A1 n1 c1, .int .i64 L], .int .i64 z, .int .i64 (wrap64 (lv - 1)), .int .i64 (Int.tmod a_ n), .string ⟨#[]⟩] (by rfl) rfl rfl (by (try simp only [List.map_toArray, List.map_cons, List.map_nil]); first | done | rfl) ?_
       refine (IH.out (some ⟨g, 0, none⟩) c2 C1 z (wrap64 (lv - 1)) (Int.tmod a_ n) (fun k => P k ∧ k ≠ xg ∧ k ≠ W1.heap.size) (C2, zq) w0 w6 LW.out (by have := HL.out; omega) HDIG.out B4.out S4.out (fun k hk => (have h1_ := XZ.out; have h2_ := HXG.out; ⟨FP.out k (by omega), by omega, by omega⟩)) HQ.out).mono ?_
       (first | rintro e w7 v7 rfl hS7 hB7 hK7 | rintro e w7 ⟨v7, rfl, hS7, hB7, hK7⟩)
       refine ⟨_, rfl, ?_⟩
       obtain ⟨A7, c7, rfl⟩ := Kd.S_slice hS7
       replace hS7 : CS w7 w0.heap.size (fun k => P k ∧ k ≠ xg ∧ k ≠ W1.heap.size) (.slice A7 C2.length c7) C2 := hS7
       have Z7 := blk_kept Z4.out hK7 (fun h_ => h_.2.2 rfl)
       have K7 := K4.out.then_ hK7 (fun j hj => .inl hj.1)
       have hzl7 := blk_lt Z7
       refine hK.out _ _ ?_
       clear hK K hK7
       refine norm_ (a' := ?_) ?_ ?_
       rotate_left
       ·show Act.put _ (some 76) _ = _
        simp only [Act.put, List.setIfInBounds_toArray, List.set_cons_zero, List.set_cons_succ, i64_w, i32_w]
        rfl
       refine pure_ (i := 19) (N := some 57) (v := ?_) (a' := ?_) #[true, true, true, true, true, true, true, true, true, true, true, true, true, true, true, true, true, true, true, true, false, false, false, false, false] rfl rfl (by kernel_rfl) (fun _ _ _ h => h) (Or.inl ⟨by rfl, ?_⟩) ?_ ?_
       rotate_left
       ·intro w'
        go_simp
        with_reducible rfl
       rotate_left
       ·simp only [Act.put, List.setIfInBounds_toArray, List.set_cons_zero, List.set_cons_succ, i64_w, i32_w]
        rfl
       refine pure_ (i := 20) (N := some 77) (v := ?_) (a' := ?_) #[true, true, true, true, true, true, true, true, true, true, true, true, true, true, true, true, true, true, true, true, true, false, false, false, false] rfl rfl (by kernel_rfl) (fun _ _ _ h => h) (Or.inl ⟨by rfl, ?_⟩) ?_ ?_
       rotate_left
       ·intro w'
        go_simp
        with_reducible rfl
       rotate_left
       ·simp only [Act.put, List.setIfInBounds_toArray, List.set_cons_zero, List.set_cons_succ, i64_w, i32_w]
        rfl
       refine pure_ (i := 21) (N := some 78) (v := ?_) (a' := ?_) #[true, true, true, true, true, true, true, true, true, true, true, true, true, true, true, true, true, true, true, true, true, true, false, false, false] rfl rfl (by kernel_rfl) (fun _ _ _ h => h) (Or.inl ⟨by rfl, ?_⟩) ?_ ?_
       rotate_left
       ·intro w'
        go_simp
        with_reducible rfl
       rotate_left
       ·simp only [Act.put, List.setIfInBounds_toArray, List.set_cons_zero, List.set_cons_succ, i64_w, i32_w]
        rfl
       refine one_c (i := 22) (N := some 13) #[true, true, true, true, true, true, true, true, true, true, true, true, true, true, true, true, true, true, true, true, true, true, true, false, false] rfl rfl (by kernel_rfl) (fun K hK => ?_)
       refine event_step (by rfl) (v := .pointer (some ⟨w7.heap.size, 0, none⟩)) (w1 := w7.alloc (.cells #[.slice none 0 0, .slice none 0 0, .int .i64 0] 25)) (by first | (go_simp; done) | (go_simp; rfl)) ?_
       have hba := below_alloc (Below.refl w7.heap.size w7) (.cells #[.slice none 0 0, .slice none 0 0, .int .i64 0] 25)
       refine hK.out _ _ (fun hs => ⟨cell_kept hs.1 (Kept.of_below hba (fun _ => False)) id, cell_kept hs.2.1 (Kept.of_below hba (fun _ => False)) id, cell_kept hs.2.2.1 (Kept.of_below hba (fun _ => False)) id, cell_kept hs.2.2.2.1 (Kept.of_below hba (fun _ => False)) id, cell_kept hs.2.2.2.2 (Kept.of_below hba (fun _ => False)) id⟩) ?_
       clear hK K
       exact hCont (w7.heap.size, A7, c7) _ ⟨heap_alloc_new w7 _, blk_below Z7 hba, Kd.S_below (Kd.S_mono (Kd.S_bound hS7) (fun k hk => ⟨hk.1, Nat.ne_of_lt hk.2.2.1⟩)) hba, below_then hB7 hB7.size hba, K7.below hba, hzl7⟩
      ·refine event_step (by rfl) (v := .pointer (some ⟨w6.heap.size, 0, none⟩)) (w1 := w6.alloc (.cells #[.slice none 0 0, .slice none 0 0, .int .i64 0] 25)) (by first | (go_simp; done) | (go_simp; rfl)) ?_
       have hba := below_alloc (Below.refl w6.heap.size w6) (.cells #[.slice none 0 0, .slice none 0 0, .int .i64 0] 25)
       have D7 := heap_alloc_new w6 (.cells #[.slice none 0 0, .slice none 0 0, .int .i64 0] 25)
       refine hK.out _ _ ⟨(blk_cell (blk_below X4.out hba) 0).trans rfl, (blk_cell (blk_below X4.out hba) 1).trans rfl, (blk_cell (blk_below X4.out hba) 2).trans rfl, cell_kept E2.out (Kept.of_below hba (fun _ => False)) id, cell_kept HY.out (Kept.of_below hba (fun _ => False)) id⟩ (fun hHeld => ?_)
       clear hK K
       refine norm_ (a' := ?_) ?_ ?_
       rotate_left
       ·show Act.put _ (some 13) _ = _
        simp only [Act.put, List.setIfInBounds_toArray, List.set_cons_zero, List.set_cons_succ, i64_w, i32_w]
        rfl
       refine last_ (i := 18) (N := some 76) #[true, true, true, true, true, true, true, true, true, true, true, true, true, true, true, true, true, true, true, false, false, false, true, false, false] rfl rfl (by kernel_rfl) (by decide) (fun K hK => ?_)
       refine goes_ Try.func74 (by kernel_rfl) rfl #[.agg #[.slice (some ⟨g, 0, none⟩) C1.length c2, .slice A1 n1 c1, .int .i64 L], .int .i64 z, .int .i64 (wrap64 (lv - 1)), .int .i64 (Int.tmod a_ n), .string ⟨#[]⟩] (by rfl) rfl rfl (by (try simp only [List.map_toArray, List.map_cons, List.map_nil]); first | done | rfl) ?_
       have hds := blk_lt D7
       have hS6 := Kd.S_mono (Kd.S_bound S4.out) (fun k hk => (⟨hk.1, Nat.ne_of_lt hk.2.2.1⟩ : (P k ∧ k ≠ xg ∧ k ≠ W1.heap.size) ∧ k ≠ w6.heap.size))
       refine (IH.out (some ⟨g, 0, none⟩) c2 C1 z (wrap64 (lv - 1)) (Int.tmod a_ n) (fun k => (P k ∧ k ≠ xg ∧ k ≠ W1.heap.size) ∧ k ≠ w6.heap.size) (C2, zq) w0 _ LW.out (by have := HL.out; omega) HDIG.out (below_then B4.out B4.out.size hba) (Kd.S_below hS6 hba) (fun k hk => (have h1_ := XZ.out; have h2_ := HXG.out; ⟨⟨FP.out k (by omega), by omega, by omega⟩, by omega⟩)) HQ.out).mono ?_
       (first | rintro e w7 v7 rfl hS7 hB7 hK7 | rintro e w7 ⟨v7, rfl, hS7, hB7, hK7⟩)
       refine ⟨_, rfl, ?_⟩
       obtain ⟨A7, c7, rfl⟩ := Kd.S_slice hS7
       replace hS7 : CS w7 w0.heap.size (fun k => (P k ∧ k ≠ xg ∧ k ≠ W1.heap.size) ∧ k ≠ w6.heap.size) (.slice A7 C2.length c7) C2 := hS7
       have Z7 := blk_kept (blk_below Z4.out hba) hK7 (fun h_ => h_.1.2.2 rfl)
       have K7 := (K4.out.below hba).then_ hK7 (fun j hj => .inl hj.1.1)
       refine hK.out _ _ ?_
       clear hK K
       refine norm_ (a' := ?_) ?_ ?_
       rotate_left
       ·show Act.put _ (some 76) _ = _
        simp only [Act.put, List.setIfInBounds_toArray, List.set_cons_zero, List.set_cons_succ, i64_w, i32_w]
        rfl
       refine pure_ (i := 19) (N := some 57) (v := ?_) (a' := ?_) #[true, true, true, true, true, true, true, true, true, true, true, true, true, true, true, true, true, true, true, true, false, false, true, false, false] rfl rfl (by kernel_rfl) (fun _ _ _ h => h) (Or.inl ⟨by rfl, ?_⟩) ?_ ?_
       rotate_left
       ·intro w'
        go_simp
        with_reducible rfl
       rotate_left
       ·simp only [Act.put, List.setIfInBounds_toArray, List.set_cons_zero, List.set_cons_succ, i64_w, i32_w]
        rfl
       refine pure_ (i := 20) (N := some 77) (v := ?_) (a' := ?_) #[true, true, true, true, true, true, true, true, true, true, true, true, true, true, true, true, true, true, true, true, true, false, true, false, false] rfl rfl (by kernel_rfl) (fun _ _ _ h => h) (Or.inl ⟨by rfl, ?_⟩) ?_ ?_
       rotate_left
       ·intro w'
        go_simp
        with_reducible rfl
       rotate_left
       ·simp only [Act.put, List.setIfInBounds_toArray, List.set_cons_zero, List.set_cons_succ, i64_w, i32_w]
        rfl
       refine pure_ (i := 21) (N := some 78) (v := ?_) (a' := ?_) #[true, true, true, true, true, true, true, true, true, true, true, true, true, true, true, true, true, true, true, true, true, true, true, false, false] rfl rfl (by kernel_rfl) (fun _ _ _ h => h) (Or.inl ⟨by rfl, ?_⟩) ?_ ?_
       rotate_left
       ·intro w'
        go_simp
        with_reducible rfl
       rotate_left
       ·simp only [Act.put, List.setIfInBounds_toArray, List.set_cons_zero, List.set_cons_succ, i64_w, i32_w]
        rfl
       exact hCont (w6.heap.size, A7, c7) _ ⟨blk_kept D7 hK7 (fun h_ => h_.2 rfl), Z7, hS7, hB7, K7, hzl⟩
     rintro ⟨db, A7, c7⟩ w8 ⟨hD8, hZ8, hS8, hB8, hK8, hDZ⟩
     dsimp only at hD8 hS8 hDZ
     dsimp only [putAll]
     clear hHeld X4 Z4 S4 B4 K4 E2 HY
     refine norm_ (a' := ?_) ?_ ?_
     rotate_left
     ·simp only [Act.put, List.setIfInBounds_toArray, List.set_cons_zero, List.set_cons_succ, i64_w, i32_w]
      rfl
     have DZ := Aside0.mk hDZ
     have r0 : w8.cell? ⟨db, 0, none⟩ = some (.slice none 0 0) := (blk_cell hD8 0).trans rfl
     have r1 : w8.cell? ⟨db, 1, none⟩ = some (.slice none 0 0) := (blk_cell hD8 1).trans rfl
     have r2 : w8.cell? ⟨db, 2, none⟩ = some (.int .i64 0) := (blk_cell hD8 2).trans rfl
     have s0 := blk_frozen hD8 0
     have s1 := blk_frozen hD8 1
     have s2 := blk_frozen hD8 2
     refine last_ (i := 23) (N := none) #[true, true, true, true, true, true, true, true, true, true, true, true, true, true, true, true, true, true, true, true, true, true, true, true, false] rfl rfl (by kernel_rfl) (by decide) (fun K hK => ?_)
     refine skip_ (w1 := ((w8.setCell ⟨db, 0, none⟩ (.slice A7 C2.length c7)).setCell ⟨db, 1, none⟩ (.slice A1 n1 c1)).setCell ⟨db, 2, none⟩ (.int .i64 L)) (by rfl) rfl ?_ ?_
     ·first | (go_simp; done) | (go_simp; rfl)
     refine hK.out _ _ ?_
     clear hK K r0 r1 r2 s0 s1 s2
     have KK9 := keep3 (a := .slice A7 C2.length c7) (b := .slice A1 n1 c1) (c := .int .i64 L) (Kept.refl w8 (fun j => j = db)) (.inl rfl)
     have D9 := Aside0.mk (put3 hD8 (.slice A7 C2.length c7) (.slice A1 n1 c1) (.int .i64 L))
     have Z9 := Aside0.mk (blk_kept hZ8 KK9 (Nat.ne_of_lt hDZ))
     have S9 := Aside0.mk (Kd.S_kept hS8 KK9 (fun k hk => hk.2))
     have hdb : xg ≤ db := by have := XZ.out; omega
     have B9 := Aside0.mk (below3 (a := .slice A7 C2.length c7) (b := .slice A1 n1 c1) (c := .int .i64 L) hB8 (Nat.le_trans BX.out hdb))
     have K9 := Aside0.mk (hK8.then_ KK9 (fun j hj => .inr (by rw [hj]; exact HXG.out ▸ hdb)))
     have DB := Aside0.mk hdb
     clear KK9 hD8 hZ8 hS8 hB8 hK8 hDZ hdb
     generalize ((w8.setCell ⟨db, 0, none⟩ (.slice A7 C2.length c7)).setCell ⟨db, 1, none⟩ (.slice A1 n1 c1)).setCell ⟨db, 2, none⟩ (.int .i64 L) = w9 at D9 Z9 S9 B9 K9 ⊢
     refine pure_ (i := 24) (N := some 14) (v := ?_) (a' := ?_) #[true, true, true, true, true, true, true, true, true, true, true, true, true, true, true, true, true, true, true, true, true, true, true, true, true] rfl rfl (by kernel_rfl) (fun _ _ _ h => h) (Or.inl ⟨by rfl, ?_⟩) ?_ ?_
     rotate_left
     ·intro w'
      go_simp
      with_reducible rfl
     rotate_left
     ·simp only [Act.put, List.setIfInBounds_toArray, List.set_cons_zero, List.set_cons_succ, i64_w, i32_w]
      rfl
     refine done_ (by kernel_rfl) ?_
     have h := HH.out
     split at h
     ·rename_i hcd
      obtain ⟨hk2, hl4, hf1⟩ := hcd
      obtain ⟨g7, cap, hv, _, _, _⟩ := Kd.S_form S9.out (by omega)
      injection hv with hA hn_ hc
      subst hA hc
      clear hn_ HH
      have HH := Aside0.mk h
      have K2L := Aside0.mk hk2
      clear h
      obtain ⟨x7, hx7⟩ : ∃ x, rd_T68 C2 (k1 : Int) = x := ⟨_, rfl⟩
      rw [hx7] at hl4 hf1 HH
      obtain ⟨v7, e2, hR7, hv7, hback⟩ := cs_inner S9.out (k1 : Int) (by omega) (by omega)
      rw [hx7] at hR7 hback
      obtain ⟨gk, ck, rfl, _, _, _⟩ := Kd.R_form hR7 (by omega)
      rw [hl4] at hR7 e2 hback hv7
      simp only [Int.toNat_natCast] at e2 hback
      obtain ⟨hPk, hngk⟩ := hv7 gk rfl
      have R7 := Aside0.mk hR7
      have BK := Aside0.mk hback
      have E2 := Aside0.mk e2
      have PK := Aside0.mk hPk
      have L4 := Aside0.mk hl4
      have F1 := Aside0.mk hf1
      have p3 : ((k1 : Int) < (C2.length : Int)) = True := eq_true (by omega)
      clear hR7 hback e2 hPk hv7 hl4 hf1 hk2 hngk hx7
      try go_wp2
      refine start_ (n := 12) (S := fun w' => w'.cell? ⟨db, 0, none⟩ = some (.slice (some ⟨g7, 0, none⟩) C2.length c7) ∧ w'.cell? ⟨g7, k1 * 3 + 2, none⟩ = some (.slice (some ⟨gk, 0, none⟩) 4 ck)) (ds := [11]) #[false, false, false, false, false, false, false, false, false, false, false, false] (by kernel_rfl) rfl rfl ⟨(blk_cell D9.out 0).trans rfl, E2.out⟩ (fun hHeld => ?_)
      replace D9 := Aside0.mk (blk_drew D9.out)
      replace Z9 := Aside0.mk (blk_drew Z9.out)
      replace S9 := Aside0.mk (Kd.S_drew S9.out)
      replace R7 := Aside0.mk (Kd.R_drew R7.out)
      replace B9 := Aside0.mk (below_drew1 B9.out)
      replace K9 := Aside0.mk K9.out.drew
      have BW := Aside0.mk (show Kept w9 w9.drew (fun _ => False) from (Kept.refl _ _).drew)
      generalize w9.drew = wD at D9 Z9 S9 R7 B9 K9 BW hHeld ⊢
      clear E2
      refine take_ (i := 0) (N := some 79) (v := ?_) (a' := ?_) #[true, false, false, false, false, false, false, false, false, false, false, false] rfl rfl (by kernel_rfl) (fun _ _ _ h => h) (Or.inl ⟨by rfl, ?_⟩) hHeld ?_ ?_
      rotate_left
      ·rintro w' ⟨s0, s1⟩
       go_simp
       with_reducible rfl
      rotate_left
      ·simp only [Act.put, List.setIfInBounds_toArray, List.set_cons_zero, List.set_cons_succ, i64_w, i32_w]
       rfl
      refine take_ (i := 1) (N := some 80) (v := ?_) (a' := ?_) #[true, true, false, false, false, false, false, false, false, false, false, false] rfl rfl (by kernel_rfl) (fun _ _ _ h => h) (Or.inl ⟨by rfl, ?_⟩) hHeld ?_ ?_
      rotate_left
      ·rintro w' ⟨s0, s1⟩
       go_simp
       with_reducible rfl
      rotate_left
      ·simp only [Act.put, List.setIfInBounds_toArray, List.set_cons_zero, List.set_cons_succ, i64_w, i32_w]
       rfl
      refine take_ (i := 2) (N := some 81) (v := ?_) (a' := ?_) #[true, true, true, false, false, false, false, false, false, false, false, false] rfl rfl (by kernel_rfl) (fun _ _ _ h => h) (Or.inl ⟨by rfl, ?_⟩) hHeld ?_ ?_
      rotate_left
      ·rintro w' ⟨s0, s1⟩
       go_simp
       with_reducible rfl
      rotate_left
      ·simp only [Act.put, List.setIfInBounds_toArray, List.set_cons_zero, List.set_cons_succ, i64_w, i32_w]
       rfl
      refine take_ (i := 3) (N := some 82) (v := ?_) (a' := ?_) #[true, true, true, true, false, false, false, false, false, false, false, false] rfl rfl (by kernel_rfl) (fun _ _ _ h => h) (Or.inl ⟨by rfl, ?_⟩) hHeld ?_ ?_
      rotate_left
      ·rintro w' ⟨s0, s1⟩
       go_simp
       with_reducible rfl
      rotate_left
      ·simp only [Act.put, List.setIfInBounds_toArray, List.set_cons_zero, List.set_cons_succ, i64_w, i32_w]
       rfl
      refine take_ (i := 4) (N := some 83) (v := ?_) (a' := ?_) #[true, true, true, true, true, false, false, false, false, false, false, false] rfl rfl (by kernel_rfl) (fun _ _ _ h => h) (Or.inl ⟨by rfl, ?_⟩) hHeld ?_ ?_
      rotate_left
      ·rintro w' ⟨s0, s1⟩
       go_simp
       with_reducible rfl
      rotate_left
      ·simp only [Act.put, List.setIfInBounds_toArray, List.set_cons_zero, List.set_cons_succ, i64_w, i32_w]
       rfl
      refine take_ (i := 5) (N := some 84) (v := ?_) (a' := ?_) #[true, true, true, true, true, true, false, false, false, false, false, false] rfl rfl (by kernel_rfl) (fun _ _ _ h => h) (Or.inl ⟨by rfl, ?_⟩) hHeld ?_ ?_
      rotate_left
      ·rintro w' ⟨s0, s1⟩
       go_simp
       with_reducible rfl
      rotate_left
      ·simp only [Act.put, List.setIfInBounds_toArray, List.set_cons_zero, List.set_cons_succ, i64_w, i32_w]
       rfl
      refine take_ (i := 6) (N := some 85) (v := ?_) (a' := ?_) #[true, true, true, true, true, true, true, false, false, false, false, false] rfl rfl (by kernel_rfl) (fun _ _ _ h => h) (Or.inl ⟨by rfl, ?_⟩) hHeld ?_ ?_
      rotate_left
      ·rintro w' ⟨s0, s1⟩
       go_simp
       with_reducible rfl
      rotate_left
      ·simp only [Act.put, List.setIfInBounds_toArray, List.set_cons_zero, List.set_cons_succ, i64_w, i32_w]
       rfl
      refine take_ (i := 7) (N := some 86) (v := ?_) (a' := ?_) #[true, true, true, true, true, true, true, true, false, false, false, false] rfl rfl (by kernel_rfl) (fun _ _ _ h => h) (Or.inl ⟨by rfl, ?_⟩) hHeld ?_ ?_
      rotate_left
      ·rintro w' ⟨s0, s1⟩
       go_simp
       with_reducible rfl
      rotate_left
      ·simp only [Act.put, List.setIfInBounds_toArray, List.set_cons_zero, List.set_cons_succ, i64_w, i32_w]
       rfl
      refine take_ (i := 8) (N := some 87) (v := ?_) (a' := ?_) #[true, true, true, true, true, true, true, true, true, false, false, false] rfl rfl (by kernel_rfl) (fun _ _ _ h => h) (Or.inl ⟨by rfl, ?_⟩) hHeld ?_ ?_
      rotate_left
      ·rintro w' ⟨s0, s1⟩
       go_simp
       with_reducible rfl
      rotate_left
      ·simp only [Act.put, List.setIfInBounds_toArray, List.set_cons_zero, List.set_cons_succ, i64_w, i32_w, hdd]
       rfl
      refine take_ (i := 9) (N := some 88) (v := ?_) (a' := ?_) #[true, true, true, true, true, true, true, true, true, true, false, false] rfl rfl (by kernel_rfl) (fun _ _ _ h => h) (Or.inl ⟨by rfl, ?_⟩) hHeld ?_ ?_
      rotate_left
      ·rintro w' ⟨s0, s1⟩
       go_simp
       with_reducible rfl
      rotate_left
      ·simp only [Act.put, List.setIfInBounds_toArray, List.set_cons_zero, List.set_cons_succ, i64_w, i32_w]
       rfl
      refine take_ (i := 10) (N := some 89) (v := ?_) (a' := ?_) #[true, true, true, true, true, true, true, true, true, true, true, false] rfl rfl (by kernel_rfl) (fun _ _ _ h => h) (Or.inl ⟨by rfl, ?_⟩) hHeld ?_ ?_
      rotate_left
      ·rintro w' ⟨s0, s1⟩
       go_simp
       with_reducible rfl
      rotate_left
      ·simp only [Act.put, List.setIfInBounds_toArray, List.set_cons_zero, List.set_cons_succ, i64_w, i32_w]
       rfl
      obtain ⟨ad9, e9, hy9⟩ := Kd.at_int (Kd.R_reads' R7.out).2.2 (d : Int) (by omega) (by have := L4.out; have := D4.out; omega)
      injection e9 with e9
      subst e9
      rw [show (⟨gk, 0, none⟩ : Addr).add ((d : Int).toNat) = ⟨gk, d, none⟩ by by_cases h : d = 0 <;> simp [Addr.add, h]] at hy9
      have hl9 : 0 < (x7.f2).length := by have := L4.out; omega
      obtain ⟨g_, c_, e_, _, _, cells9, hcl9⟩ := Kd.R_form R7.out hl9
      obtain rfl : gk = g_ := by injection e_ with e_ _ _; injection e_ with e_; injection e_
      have hf9 := blk_frozen hcl9 d
      refine last_ (i := 11) (N := none) #[true, true, true, true, true, true, true, true, true, true, true, true] rfl rfl (by kernel_rfl) (by decide) (fun K hK => ?_)
      refine skip_ (w1 := wD.setCell ⟨gk, d, none⟩ (.int .i64 zq)) (by rfl) rfl ?_ ?_
      ·first | (go_simp; done) | (go_simp; rfl)
      refine hK.out _ _ ?_
      clear hK K
      refine done_ (by kernel_rfl) ?_
      clear hHeld
      clear hy9 hf9 hcl9 hl9 e_
      have RP := Kd.R_putn R7.out d zq
      have KP : Kept wD (wD.setCell ⟨gk, d, none⟩ (.int .i64 zq)) (fun k => some k = (Value.slice (some ⟨gk, 0, none⟩) 4 ck).ownBlock) := (Kept.refl wD (fun k => some k = (Value.slice (some ⟨gk, 0, none⟩) 4 ck).ownBlock)).setCell (p := ⟨gk, d, none⟩) (.inl rfl) _
      have SA := Aside0.mk (BK.out _ (x7.f2.set d zq) ((BW.out.mono (fun _ h => h.elim)).then_ KP (fun j hj => .inl hj)) (Kd.R_mono RP (fun _ _ => trivial)))
      have DA := Aside0.mk (blk_kept D9.out KP (fun h_ => PK.out.2 (Option.some.inj h_).symm))
      have ZA := Aside0.mk (blk_kept Z9.out KP (fun h_ => PK.out.1.2.2 (Option.some.inj h_).symm))
      have BA := Aside0.mk (below_set B9.out (Kd.R_base R7.out gk rfl) : Below w0.heap.size w0 (wD.setCell ⟨gk, d, none⟩ (.int .i64 zq)))
      have KA := Aside0.mk (K9.out.then_ KP (fun j hj => .inl (by rw [show j = gk from Option.some.inj hj]; exact PK.out.1.1)))
      generalize wD.setCell ⟨gk, d, none⟩ (.int .i64 zq) = wA at RP KP SA DA ZA BA KA ⊢
      clear KP RP S9 D9 Z9 R7 B9 K9 BW BK hdd
      have hkC := K2L.out
      have hrdx := rd_cl_set (xs := C2) hkC (⟨x7.f0, x7.f1, x7.f2.set d zq⟩ : CL)
      have hlx : (C2.set k1 (⟨x7.f0, x7.f1, x7.f2.set d zq⟩ : CL)).length = C2.length := List.length_set
      generalize hC9 : C2.set k1 (⟨x7.f0, x7.f1, x7.f2.set d zq⟩ : CL) = C9 at SA HH hrdx hlx
      obtain ⟨_, v9, f0, f1, f2, hfr2, _, hR9, _⟩ := cs_elem SA.out (k1 : Int) (by omega) (by omega)
      simp only [Int.toNat_natCast] at f0 f1 f2 hfr2
      rw [hrdx] at f0 f1 hR9
      obtain ⟨A9, c9, rfl⟩ := Kd.R_slice hR9
      obtain ⟨ks, hks⟩ : ∃ ks, x7.f2.set d zq = ks := ⟨_, rfl⟩
      have hl9 : ks.length = 4 := by rw [← hks, List.length_set]; exact L4.out
      rw [hks] at hR9 f2 HH
      rw [hl9] at f2
      have KS := Aside0.mk (show (Kd.int .i64).C wA A9 4 ks by have h_ := (Kd.R_reads' hR9).2.2; simp only [hl9] at h_; exact h_)
      have g0 : wA.cell? ⟨db, 0, none⟩ = some (.slice (some ⟨g7, 0, none⟩) C2.length c7) := (blk_cell DA.out 0).trans rfl
      have HC9 := Aside0.mk hC9
      have HLX := Aside0.mk hlx
      have HL9 := Aside0.mk hl9
      have fz0 : wA.frozen? ⟨g7, k1 * 3, none⟩ = false := hfr2 0
      have fz1 := hfr2 1
      have fz2 := hfr2 2
      clear hR9 hfr2 hC9 hlx hl9 hks hrdx
      try go_wp2
      go_loopw [16, 97] (fun v16 vi wr => ∃ q : Nat, q ≤ 4 ∧ vi = .int .i64 q ∧ wr = wA ∧ Aside0 (∀ n : Nat, n < q → rd ks (n : Int) < 0)) (fun v16 vi _ => 4 - (intOf vi).toNat)
      case atStart => exact ⟨0, by omega, rfl, rfl, ⟨fun n h => by omega⟩⟩
      case round =>
       obtain ⟨q, hq, rfl, rfl, HN0⟩ := hrel
       have g1 : wr.cell? ⟨db, 1, none⟩ = some (.slice A1 n1 c1) := (blk_cell DA.out 1).trans rfl
       have g2 : wr.cell? ⟨db, 2, none⟩ = some (.int .i64 L) := (blk_cell DA.out 2).trans rfl
       have r0 : wr.cell? ⟨W1.heap.size, 0, none⟩ = some (.slice none 0 0) := (blk_cell ZA.out 0).trans rfl
       have r1 : wr.cell? ⟨W1.heap.size, 1, none⟩ = some (.slice none 0 0) := (blk_cell ZA.out 1).trans rfl
       have r2 : wr.cell? ⟨W1.heap.size, 2, none⟩ = some (.int .i64 0) := (blk_cell ZA.out 2).trans rfl
       have s0 := blk_frozen ZA.out 0
       have s1 := blk_frozen ZA.out 1
       have s2 := blk_frozen ZA.out 2
       by_cases hql : q < 4
       ·have hqq : ((q : Int) < 4) = True := eq_true (by omega)
        have hqq2 : (q < 4) = True := eq_true hql
        obtain ⟨adq, eq_, hyq⟩ := Kd.at_int KS.out (q : Int) (by omega) (by have := HL9.out; omega)
        subst eq_
        simp only [Int.toNat_natCast] at hyq
        obtain ⟨o, ho⟩ : ∃ o, rd ks (q : Int) = o := ⟨_, rfl⟩
        rw [ho] at hyq
        by_cases h0 : 0 ≤ o
        ·have o1 : (o ≥ 0) = True := eq_true h0
         have o2 : (0 ≤ o) = True := eq_true h0
         have hsk : someKid ks = true := some_hit (q := q) (by have := HL9.out; omega) (by rw [ho]; exact h0)
         have h := HH.out
         rw [if_pos hsk] at h
         have e_ := Option.some.inj h
         subst e_
         clear h h0 ho hsk
         go_wp2
         refine bodyPost_ret (results_ct rfl _ _ W1.heap.size 25 #[.slice (some ⟨g7, 0, none⟩) C2.length c7, .slice A1 n1 c1, .int .i64 L] (0, 0) _ rfl (put3 ZA.out _ _ _) Try.underlying25 rfl (by kernel_rfl)) rfl ?_
         have hz : xg ≤ W1.heap.size := Nat.le_of_lt XZ.out
         exact ⟨_, rfl, Kd.S_mono (far3 SA.out ZA.out) (fun k hk => hk.1.1), below3 BA.out (Nat.le_trans BX.out hz), keep3 KA.out (.inr (HXG.out ▸ hz))⟩
        ·have o1 : (o ≥ 0) = False := eq_false h0
         have o2 : (0 ≤ o) = False := eq_false h0
         have HO := Aside0.mk (show rd ks (q : Int) < 0 by omega)
         clear h0 ho
         go_wp2
         go_roundw
         case rel => exact ⟨q + 1, by omega, by go_num, (by first | trivial | rfl), ⟨fun n hn => by
          by_cases h : n = q
          ·subst h; exact HO.out
          ·exact HN0.out n (by omega)⟩⟩
         case measure => simp [intOf]; omega
       ·have hqq : ((q : Int) < 4) = False := eq_false (by omega)
        have hqq2 : (q < 4) = False := eq_false hql
        have hsk : someKid ks = false := some_miss (fun n hn => HN0.out n (by have := HL9.out; omega))
        have h := HH.out
        rw [if_neg (by rw [hsk]; decide)] at h
        have e_ := Option.some.inj h
        subst e_
        obtain ⟨wB, hwB⟩ : ∃ W, ((wr.setCell ⟨g7, k1 * 3, none⟩ (.int .i64 0)).setCell ⟨g7, k1 * 3 + 1, none⟩ (.string ⟨#[]⟩)).setCell ⟨g7, k1 * 3 + 2, none⟩ (.slice none 0 0) = W := ⟨_, rfl⟩
        have hPg := (Kd.S_R SA.out).1 g7 rfl
        have hBg := Kd.S_base SA.out g7 rfl
        have KKB : Kept wr wB (fun j => j = g7) := by rw [← hwB]; exact (((Kept.refl wr (fun j => j = g7)).setCell (p := ⟨g7, k1 * 3, none⟩) (.inl rfl) _).setCell (p := ⟨g7, k1 * 3 + 1, none⟩) (.inl rfl) _).setCell (p := ⟨g7, k1 * 3 + 2, none⟩) (.inl rfl) _
        have SB := cs_zero SA.out (k1 : Int) (by omega) (by have := K2L.out; omega)
        simp only [Int.toNat_natCast] at SB
        rw [hwB, ← HC9.out, List.set_set] at SB
        have SB := Aside0.mk SB
        have DB2 := Aside0.mk (blk_kept DA.out KKB (fun e_ => hPg.2 e_.symm))
        have ZB := Aside0.mk (blk_kept ZA.out KKB (fun e_ => hPg.1.2.2 e_.symm))
        have BB := Aside0.mk (show Below w0.heap.size w0 wB by rw [← hwB]; exact below_set (below_set (below_set BA.out hBg) hBg) hBg)
        have KB := Aside0.mk (KA.out.then_ KKB (fun j hj => .inl (by rw [hj]; exact hPg.1.1)))
        have b0 : wB.cell? ⟨db, 0, none⟩ = some (.slice (some ⟨g7, 0, none⟩) C2.length c7) := (blk_cell DB2.out 0).trans rfl
        have b1 : wB.cell? ⟨db, 1, none⟩ = some (.slice A1 n1 c1) := (blk_cell DB2.out 1).trans rfl
        have b2 : wB.cell? ⟨db, 2, none⟩ = some (.int .i64 L) := (blk_cell DB2.out 2).trans rfl
        clear r0 r1 r2 s0 s1 s2
        have r0 : wB.cell? ⟨W1.heap.size, 0, none⟩ = some (.slice none 0 0) := (blk_cell ZB.out 0).trans rfl
        have r1 : wB.cell? ⟨W1.heap.size, 1, none⟩ = some (.slice none 0 0) := (blk_cell ZB.out 1).trans rfl
        have r2 : wB.cell? ⟨W1.heap.size, 2, none⟩ = some (.int .i64 0) := (blk_cell ZB.out 2).trans rfl
        have s0 := blk_frozen ZB.out 0
        have s1 := blk_frozen ZB.out 1
        have s2 := blk_frozen ZB.out 2
        clear h hsk hPg hBg KKB hql hq HN0
        go_wp2
        refine bodyPost_ret (results_ct rfl _ _ W1.heap.size 25 #[.slice (some ⟨g7, 0, none⟩) C2.length c7, .slice A1 n1 c1, .int .i64 L] (0, 0) _ rfl (put3 ZB.out _ _ _) Try.underlying25 rfl (by kernel_rfl)) rfl ?_
        have hz : xg ≤ W1.heap.size := Nat.le_of_lt XZ.out
        exact ⟨_, rfl, Kd.S_mono (far3 SB.out ZB.out) (fun k hk => hk.1.1), below3 BB.out (Nat.le_trans BX.out hz), keep3 KB.out (.inr (HXG.out ▸ hz))⟩
     ·cases h
    ·have m0 : leaf.toList ≠ [] := fun e_ => hle (ba_nil.1 e_)
     have m1 : (leaf.toList == []) = false := beq_eq_false_iff_ne.2 m0
     have m2 : (leaf.toList = []) = False := eq_false m0
     clear hle m0
     go_enter Try.func74, Try.ntmps74
     go_wp2_with (go_at_call 88; refine T1.out.mono ?_; (first | rintro e w3 v0 rfl hS3 hB3 hK3 | rintro e w3 ⟨v0, rfl, hS3, hB3, hK3⟩); (obtain ⟨A2, c2, rfl⟩ := Kd.S_slice hS3); (replace hS3 : CS w3 w0.heap.size (fun k => P k ∧ k ≠ xg ∧ k ≠ W1.heap.size) (.slice A2 C1.length c2) C1 := hS3); (have X3 := Aside0.mk (blk_kept X2.out hK3 (fun h_ => h_.2.1 rfl))); (have Z3 := Aside0.mk (blk_kept Z2.out hK3 (fun h_ => h_.2.2 rfl))); (have K3 := Aside0.mk (K2.out.then_ hK3 (fun j hj => .inl hj.1))); (have q0 : w3.cell? ⟨xg, 0, none⟩ = some (.slice A C.length c) := (blk_cell X3.out 0).trans rfl); (have q1 : w3.cell? ⟨xg, 1, none⟩ = some (.slice A1 n1 c1) := (blk_cell X3.out 1).trans rfl); (have q2 : w3.cell? ⟨xg, 2, none⟩ = some (.int .i64 L) := (blk_cell X3.out 2).trans rfl); have u0 := blk_frozen X3.out 0; have u1 := blk_frozen X3.out 1; have u2 := blk_frozen X3.out 2; (obtain ⟨w4, hw4⟩ : ∃ W, ((w3.setCell ⟨xg, 0, none⟩ (.slice A2 C1.length c2)).setCell ⟨xg, 1, none⟩ (.slice A1 n1 c1)).setCell ⟨xg, 2, none⟩ (.int .i64 L) = W := ⟨_, rfl⟩); (have X4 := Aside0.mk (show w4.heap[xg]? = some (.cells #[.slice A2 C1.length c2, .slice A1 n1 c1, .int .i64 L] 25 (0, 0)) by rw [← hw4]; exact put3 X3.out _ _ _)); (have KK4 : Kept w3 w4 (fun j => j = xg) := by rw [← hw4]; exact keep3 (Kept.refl w3 (fun j => j = xg)) (.inl rfl)); (have Z4 := Aside0.mk (blk_kept Z3.out KK4 (by have := XZ.out; omega))); (have S4 := Aside0.mk (Kd.S_kept hS3 KK4 (fun k hk e_ => hk.2.1 e_))); (have B4 := Aside0.mk (show Below w0.heap.size w0 w4 by rw [← hw4]; exact below3 hB3 BX.out)); (have K4 := Aside0.mk (K3.out.then_ KK4 (fun j hj => .inr (by rw [hj]; exact Nat.le_of_eq HXG.out)))); (have x0 : w4.cell? ⟨xg, 0, none⟩ = some (.slice A2 C1.length c2) := (blk_cell X4.out 0).trans rfl); clear X3 Z3 K3 KK4 hS3 hB3 hK3 T1 d0 d1 d2)
     go_wp2_with (go_at_call 85; refine (TS.out _).mono ?_)
     (first | rintro e w5 rfl hdr | rintro e w5 ⟨rfl, hdr⟩)
     have hb := hdr.below
     clear hdr TS q0 u0 u1 u2 hw4 x0
     replace X4 := Aside0.mk (blk_below X4.out hb)
     replace Z4 := Aside0.mk (blk_below Z4.out hb)
     replace S4 := Aside0.mk (Kd.S_below S4.out hb)
     replace B4 := Aside0.mk (below_then B4.out B4.out.size hb)
     replace K4 := Aside0.mk (K4.out.below hb)
     clear hb
     go_wp2
     obtain ⟨g, cap, hv, _, _, _⟩ := Kd.S_form S4.out (by have := LT.out; omega)
     injection hv with hA hn_ hc
     subst hA hc
     clear hn_
     have hlt := LT.out
     obtain ⟨x, hx⟩ : ∃ x, rd_T68 C1 (k1 : Int) = x := ⟨_, rfl⟩
     rw [hx] at F4 HQ
     obtain ⟨_, v, e0, e1, e2, hfr, _, hR, _⟩ := cs_elem S4.out (k1 : Int) (by omega) (by omega)
     simp only [Int.toNat_natCast] at e0 e1 e2 hfr
     rw [hx] at hR
     obtain ⟨A5, c5, rfl⟩ := Kd.R_slice hR
     rw [F4.out] at e2
     obtain ⟨ad, e3, hy⟩ := Kd.at_int (Kd.R_reads' hR).2.2 (d : Int) (by omega) (by have := F4.out; have := D4.out; omega)
     subst e3
     simp only [Int.toNat_natCast] at hy
     obtain ⟨z, hz⟩ : ∃ z, rd x.f2 (d : Int) = z := ⟨_, rfl⟩
     rw [hz] at hy HQ
     have p1 : ((k1 : Int) < (C1.length : Int)) = True := eq_true (by omega)
     have p2 : ((d : Int) < 4) = True := eq_true (by have := D4.out; omega)
     have hdd := DD.out
     have E2 := Aside0.mk e2
     have HY := Aside0.mk hy
     clear hR hfr e0 e1 e2 hy hx
     refine start_ (n := 25) (S := fun w' => w'.cell? ⟨xg, 0, none⟩ = some (.slice (some ⟨g, 0, none⟩) C1.length c2) ∧ w'.cell? ⟨xg, 1, none⟩ = some (.slice A1 n1 c1) ∧ w'.cell? ⟨xg, 2, none⟩ = some (.int .i64 L) ∧ w'.cell? ⟨g, k1 * 3 + 2, none⟩ = some (.slice (some ad) 4 c5) ∧ w'.cell? (ad.add d) = some (.int .i64 z)) (ds := [18, 23]) #[false, false, false, false, false, false, false, false, false, false, false, false, false, false, false, false, false, false, false, false, false, false, false, false, false] (by kernel_rfl) rfl rfl ⟨(blk_cell X4.out 0).trans rfl, (blk_cell X4.out 1).trans rfl, (blk_cell X4.out 2).trans rfl, E2.out, HY.out⟩ (fun hHeld => ?_)
     replace X4 := Aside0.mk (blk_drew X4.out)
     replace Z4 := Aside0.mk (blk_drew Z4.out)
     replace S4 := Aside0.mk (Kd.S_drew S4.out)
     replace B4 := Aside0.mk (below_drew1 B4.out)
     replace K4 := Aside0.mk K4.out.drew
     replace E2 := Aside0.mk (show w5.drew.cell? ⟨g, k1 * 3 + 2, none⟩ = some (.slice (some ad) 4 c5) from E2.out)
     replace HY := Aside0.mk (show w5.drew.cell? (ad.add d) = some (.int .i64 z) from HY.out)
     generalize w5.drew = w6 at X4 Z4 S4 B4 K4 E2 HY hHeld ⊢
     refine take_ (i := 0) (N := some 58) (v := ?_) (a' := ?_) #[true, false, false, false, false, false, false, false, false, false, false, false, false, false, false, false, false, false, false, false, false, false, false, false, false] rfl rfl (by kernel_rfl) (fun _ _ _ h => h) (Or.inl ⟨by rfl, ?_⟩) hHeld ?_ ?_
     rotate_left
     ·rintro w' ⟨s0, s1, s2, s3, s4⟩
      go_simp
      with_reducible rfl
     rotate_left
     ·simp only [Act.put, List.setIfInBounds_toArray, List.set_cons_zero, List.set_cons_succ, i64_w, i32_w]
      rfl
     refine take_ (i := 1) (N := some 59) (v := ?_) (a' := ?_) #[true, true, false, false, false, false, false, false, false, false, false, false, false, false, false, false, false, false, false, false, false, false, false, false, false] rfl rfl (by kernel_rfl) (fun _ _ _ h => h) (Or.inl ⟨by rfl, ?_⟩) hHeld ?_ ?_
     rotate_left
     ·rintro w' ⟨s0, s1, s2, s3, s4⟩
      go_simp
      with_reducible rfl
     rotate_left
     ·simp only [Act.put, List.setIfInBounds_toArray, List.set_cons_zero, List.set_cons_succ, i64_w, i32_w]
      rfl
     refine take_ (i := 2) (N := some 60) (v := ?_) (a' := ?_) #[true, true, true, false, false, false, false, false, false, false, false, false, false, false, false, false, false, false, false, false, false, false, false, false, false] rfl rfl (by kernel_rfl) (fun _ _ _ h => h) (Or.inl ⟨by rfl, ?_⟩) hHeld ?_ ?_
     rotate_left
     ·rintro w' ⟨s0, s1, s2, s3, s4⟩
      go_simp
      with_reducible rfl
     rotate_left
     ·simp only [Act.put, List.setIfInBounds_toArray, List.set_cons_zero, List.set_cons_succ, i64_w, i32_w]
      rfl
     refine take_ (i := 3) (N := some 61) (v := ?_) (a' := ?_) #[true, true, true, true, false, false, false, false, false, false, false, false, false, false, false, false, false, false, false, false, false, false, false, false, false] rfl rfl (by kernel_rfl) (fun _ _ _ h => h) (Or.inl ⟨by rfl, ?_⟩) hHeld ?_ ?_
     rotate_left
     ·rintro w' ⟨s0, s1, s2, s3, s4⟩
      go_simp
      with_reducible rfl
     rotate_left
     ·simp only [Act.put, List.setIfInBounds_toArray, List.set_cons_zero, List.set_cons_succ, i64_w, i32_w]
      rfl
     refine take_ (i := 4) (N := some 62) (v := ?_) (a' := ?_) #[true, true, true, true, true, false, false, false, false, false, false, false, false, false, false, false, false, false, false, false, false, false, false, false, false] rfl rfl (by kernel_rfl) (fun _ _ _ h => h) (Or.inl ⟨by rfl, ?_⟩) hHeld ?_ ?_
     rotate_left
     ·rintro w' ⟨s0, s1, s2, s3, s4⟩
      go_simp
      with_reducible rfl
     rotate_left
     ·simp only [Act.put, List.setIfInBounds_toArray, List.set_cons_zero, List.set_cons_succ, i64_w, i32_w]
      rfl
     refine take_ (i := 5) (N := some 63) (v := ?_) (a' := ?_) #[true, true, true, true, true, true, false, false, false, false, false, false, false, false, false, false, false, false, false, false, false, false, false, false, false] rfl rfl (by kernel_rfl) (fun _ _ _ h => h) (Or.inl ⟨by rfl, ?_⟩) hHeld ?_ ?_
     rotate_left
     ·rintro w' ⟨s0, s1, s2, s3, s4⟩
      go_simp
      with_reducible rfl
     rotate_left
     ·simp only [Act.put, List.setIfInBounds_toArray, List.set_cons_zero, List.set_cons_succ, i64_w, i32_w]
      rfl
     refine take_ (i := 6) (N := some 64) (v := ?_) (a' := ?_) #[true, true, true, true, true, true, true, false, false, false, false, false, false, false, false, false, false, false, false, false, false, false, false, false, false] rfl rfl (by kernel_rfl) (fun _ _ _ h => h) (Or.inl ⟨by rfl, ?_⟩) hHeld ?_ ?_
     rotate_left
     ·rintro w' ⟨s0, s1, s2, s3, s4⟩
      go_simp
      with_reducible rfl
     rotate_left
     ·simp only [Act.put, List.setIfInBounds_toArray, List.set_cons_zero, List.set_cons_succ, i64_w, i32_w]
      rfl
     refine take_ (i := 7) (N := some 65) (v := ?_) (a' := ?_) #[true, true, true, true, true, true, true, true, false, false, false, false, false, false, false, false, false, false, false, false, false, false, false, false, false] rfl rfl (by kernel_rfl) (fun _ _ _ h => h) (Or.inl ⟨by rfl, ?_⟩) hHeld ?_ ?_
     rotate_left
     ·rintro w' ⟨s0, s1, s2, s3, s4⟩
      go_simp
      with_reducible rfl
     rotate_left
     ·simp only [Act.put, List.setIfInBounds_toArray, List.set_cons_zero, List.set_cons_succ, i64_w, i32_w]
      rfl
     refine take_ (i := 8) (N := some 66) (v := ?_) (a' := ?_) #[true, true, true, true, true, true, true, true, true, false, false, false, false, false, false, false, false, false, false, false, false, false, false, false, false] rfl rfl (by kernel_rfl) (fun _ _ _ h => h) (Or.inl ⟨by rfl, ?_⟩) hHeld ?_ ?_
     rotate_left
     ·rintro w' ⟨s0, s1, s2, s3, s4⟩
      go_simp
      with_reducible rfl
     rotate_left
     ·simp only [Act.put, List.setIfInBounds_toArray, List.set_cons_zero, List.set_cons_succ, i64_w, i32_w]
      rfl
     refine take_ (i := 9) (N := some 67) (v := ?_) (a' := ?_) #[true, true, true, true, true, true, true, true, true, true, false, false, false, false, false, false, false, false, false, false, false, false, false, false, false] rfl rfl (by kernel_rfl) (fun _ _ _ h => h) (Or.inl ⟨by rfl, ?_⟩) hHeld ?_ ?_
     rotate_left
     ·rintro w' ⟨s0, s1, s2, s3, s4⟩
      go_simp
      with_reducible rfl
     rotate_left
     ·simp only [Act.put, List.setIfInBounds_toArray, List.set_cons_zero, List.set_cons_succ, i64_w, i32_w, hdd]
      rfl
     refine take_ (i := 10) (N := some 68) (v := ?_) (a' := ?_) #[true, true, true, true, true, true, true, true, true, true, true, false, false, false, false, false, false, false, false, false, false, false, false, false, false] rfl rfl (by kernel_rfl) (fun _ _ _ h => h) (Or.inl ⟨by rfl, ?_⟩) hHeld ?_ ?_
     rotate_left
     ·rintro w' ⟨s0, s1, s2, s3, s4⟩
      go_simp
      with_reducible rfl
     rotate_left
     ·simp only [Act.put, List.setIfInBounds_toArray, List.set_cons_zero, List.set_cons_succ, i64_w, i32_w]
      rfl
     refine take_ (i := 11) (N := some 69) (v := ?_) (a' := ?_) #[true, true, true, true, true, true, true, true, true, true, true, true, false, false, false, false, false, false, false, false, false, false, false, false, false] rfl rfl (by kernel_rfl) (fun _ _ _ h => h) (Or.inl ⟨by rfl, ?_⟩) hHeld ?_ ?_
     rotate_left
     ·rintro w' ⟨s0, s1, s2, s3, s4⟩
      go_simp
      with_reducible rfl
     rotate_left
     ·simp only [Act.put, List.setIfInBounds_toArray, List.set_cons_zero, List.set_cons_succ, i64_w, i32_w]
      rfl
     refine take_ (i := 12) (N := some 70) (v := ?_) (a' := ?_) #[true, true, true, true, true, true, true, true, true, true, true, true, true, false, false, false, false, false, false, false, false, false, false, false, false] rfl rfl (by kernel_rfl) (fun _ _ _ h => h) (Or.inl ⟨by rfl, ?_⟩) hHeld ?_ ?_
     rotate_left
     ·rintro w' ⟨s0, s1, s2, s3, s4⟩
      go_simp
      with_reducible rfl
     rotate_left
     ·simp only [Act.put, List.setIfInBounds_toArray, List.set_cons_zero, List.set_cons_succ, i64_w, i32_w]
      rfl
     refine take_ (i := 13) (N := some 71) (v := ?_) (a' := ?_) #[true, true, true, true, true, true, true, true, true, true, true, true, true, true, false, false, false, false, false, false, false, false, false, false, false] rfl rfl (by kernel_rfl) (fun _ _ _ h => h) (Or.inl ⟨by rfl, ?_⟩) hHeld ?_ ?_
     rotate_left
     ·rintro w' ⟨s0, s1, s2, s3, s4⟩
      go_simp
      with_reducible rfl
     rotate_left
     ·simp only [Act.put, List.setIfInBounds_toArray, List.set_cons_zero, List.set_cons_succ, i64_w, i32_w]
      rfl
     refine take_ (i := 14) (N := some 72) (v := ?_) (a' := ?_) #[true, true, true, true, true, true, true, true, true, true, true, true, true, true, true, false, false, false, false, false, false, false, false, false, false] rfl rfl (by kernel_rfl) (fun _ _ _ h => h) (Or.inl ⟨by rfl, ?_⟩) hHeld ?_ ?_
     rotate_left
     ·rintro w' ⟨s0, s1, s2, s3, s4⟩
      go_simp
      with_reducible rfl
     rotate_left
     ·simp only [Act.put, List.setIfInBounds_toArray, List.set_cons_zero, List.set_cons_succ, i64_w, i32_w]
      rfl
     refine take_ (i := 15) (N := some 73) (v := ?_) (a' := ?_) #[true, true, true, true, true, true, true, true, true, true, true, true, true, true, true, true, false, false, false, false, false, false, false, false, false] rfl rfl (by kernel_rfl) (fun _ _ _ h => h) (Or.inl ⟨by rfl, ?_⟩) hHeld ?_ ?_
     rotate_left
     ·rintro w' ⟨s0, s1, s2, s3, s4⟩
      go_simp
      with_reducible rfl
     rotate_left
     ·simp only [Act.put, List.setIfInBounds_toArray, List.set_cons_zero, List.set_cons_succ, i64_w, i32_w]
      rfl
     refine take_ (i := 16) (N := some 74) (v := ?_) (a' := ?_) #[true, true, true, true, true, true, true, true, true, true, true, true, true, true, true, true, true, false, false, false, false, false, false, false, false] rfl rfl (by kernel_rfl) (fun _ _ _ h => h) (Or.inl ⟨by rfl, ?_⟩) hHeld ?_ ?_
     rotate_left
     ·rintro w' ⟨s0, s1, s2, s3, s4⟩
      go_simp
      with_reducible rfl
     rotate_left
     ·simp only [Act.put, List.setIfInBounds_toArray, List.set_cons_zero, List.set_cons_succ, i64_w, i32_w]
      rfl
     refine take_ (i := 17) (N := some 75) (v := ?_) (a' := ?_) #[true, true, true, true, true, true, true, true, true, true, true, true, true, true, true, true, true, true, false, false, false, false, false, false, false] rfl rfl (by kernel_rfl) (fun _ _ _ h => h) (Or.inl ⟨by rfl, ?_⟩) hHeld ?_ ?_
     rotate_left
     ·rintro w' ⟨s0, s1, s2, s3, s4⟩
      go_simp
      with_reducible rfl
     rotate_left
     ·simp only [Act.put, List.setIfInBounds_toArray, List.set_cons_zero, List.set_cons_succ, i64_w, i32_w]
      rfl
     refine join_ (σ := Nat × Option Addr × Nat) 2 #[true, true, true, true, true, true, true, true, true, true, true, true, true, true, true, true, true, true, true, true, true, true, true, false, false] (fun s_ => [(76, .tuple #[.agg #[.slice s_.2.1 C2.length s_.2.2, .slice A1 n1 c1, .int .i64 L], .int .i64 zq]), (57, .tuple #[.agg #[.slice s_.2.1 C2.length s_.2.2, .slice A1 n1 c1, .int .i64 L], .int .i64 zq]), (77, .agg #[.slice s_.2.1 C2.length s_.2.2, .slice A1 n1 c1, .int .i64 L]), (78, .int .i64 zq), (13, .pointer (some ⟨s_.1, 0, none⟩))]) (fun s_ w' => w'.heap[s_.1]? = some (.cells #[.slice none 0 0, .slice none 0 0, .int .i64 0] 25 (0, 0)) ∧ w'.heap[W1.heap.size]? = some (.cells #[.slice none 0 0, .slice none 0 0, .int .i64 0] 25 (0, 0)) ∧ CS w' w0.heap.size (fun k => (P k ∧ k ≠ xg ∧ k ≠ W1.heap.size) ∧ k ≠ s_.1) (.slice s_.2.1 C2.length s_.2.2) C2 ∧ Below w0.heap.size w0 w' ∧ Kept w w' P ∧ W1.heap.size < s_.1) ?_ ?_
     rotate_left
     ·intro hCont
      have hsz := K4.out.1
      have hzl := blk_lt Z4.out
      refine two_last (i := 18) (j := 22) (Ni := some 76) (Nj := some 13) #[true, true, true, true, true, true, true, true, true, true, true, true, true, true, true, true, true, true, true, false, false, false, false, false, false] #[true, true, true, true, true, true, true, true, true, true, true, true, true, true, true, true, true, true, false, false, false, false, true, false, false] rfl rfl rfl rfl (by kernel_rfl) (by decide) (by decide) (fun K hK => ?_) (fun K hK => ?_)
      ·refine goes_ Try.func74 (by kernel_rfl) rfl #[.agg #[.slice (some ⟨g, 0, none⟩) C1.length c2, .slice A1 n1 c1, .int .i64 L], .int .i64 z, .int .i64 (wrap64 (lv - 1)), .int .i64 (Int.tmod a_ n), .string leaf] (by rfl) rfl rfl (by (try simp only [List.map_toArray, List.map_cons, List.map_nil]); first | done | rfl) ?_
       refine (IH.out (some ⟨g, 0, none⟩) c2 C1 z (wrap64 (lv - 1)) (Int.tmod a_ n) (fun k => P k ∧ k ≠ xg ∧ k ≠ W1.heap.size) (C2, zq) w0 w6 LW.out (by have := HL.out; omega) HDIG.out B4.out S4.out (fun k hk => (have h1_ := XZ.out; have h2_ := HXG.out; ⟨FP.out k (by omega), by omega, by omega⟩)) HQ.out).mono ?_
       (first | rintro e w7 v7 rfl hS7 hB7 hK7 | rintro e w7 ⟨v7, rfl, hS7, hB7, hK7⟩)
       refine ⟨_, rfl, ?_⟩
       obtain ⟨A7, c7, rfl⟩ := Kd.S_slice hS7
       replace hS7 : CS w7 w0.heap.size (fun k => P k ∧ k ≠ xg ∧ k ≠ W1.heap.size) (.slice A7 C2.length c7) C2 := hS7
       have Z7 := blk_kept Z4.out hK7 (fun h_ => h_.2.2 rfl)
       have K7 := K4.out.then_ hK7 (fun j hj => .inl hj.1)
       have hzl7 := blk_lt Z7
       refine hK.out _ _ ?_
       clear hK K hK7
       refine norm_ (a' := ?_) ?_ ?_
       rotate_left
       ·show Act.put _ (some 76) _ = _
        simp only [Act.put, List.setIfInBounds_toArray, List.set_cons_zero, List.set_cons_succ, i64_w, i32_w]
        rfl
       refine pure_ (i := 19) (N := some 57) (v := ?_) (a' := ?_) #[true, true, true, true, true, true, true, true, true, true, true, true, true, true, true, true, true, true, true, true, false, false, false, false, false] rfl rfl (by kernel_rfl) (fun _ _ _ h => h) (Or.inl ⟨by rfl, ?_⟩) ?_ ?_
       rotate_left
       ·intro w'
        go_simp
        with_reducible rfl
       rotate_left
       ·simp only [Act.put, List.setIfInBounds_toArray, List.set_cons_zero, List.set_cons_succ, i64_w, i32_w]
        rfl
       refine pure_ (i := 20) (N := some 77) (v := ?_) (a' := ?_) #[true, true, true, true, true, true, true, true, true, true, true, true, true, true, true, true, true, true, true, true, true, false, false, false, false] rfl rfl (by kernel_rfl) (fun _ _ _ h => h) (Or.inl ⟨by rfl, ?_⟩) ?_ ?_
       rotate_left
       ·intro w'
        go_simp
        with_reducible rfl
       rotate_left
       ·simp only [Act.put, List.setIfInBounds_toArray, List.set_cons_zero, List.set_cons_succ, i64_w, i32_w]
        rfl
       refine pure_ (i := 21) (N := some 78) (v := ?_) (a' := ?_) #[true, true, true, true, true, true, true, true, true, true, true, true, true, true, true, true, true, true, true, true, true, true, false, false, false] rfl rfl (by kernel_rfl) (fun _ _ _ h => h) (Or.inl ⟨by rfl, ?_⟩) ?_ ?_
       rotate_left
       ·intro w'
        go_simp
        with_reducible rfl
       rotate_left
       ·simp only [Act.put, List.setIfInBounds_toArray, List.set_cons_zero, List.set_cons_succ, i64_w, i32_w]
        rfl
       refine one_c (i := 22) (N := some 13) #[true, true, true, true, true, true, true, true, true, true, true, true, true, true, true, true, true, true, true, true, true, true, true, false, false] rfl rfl (by kernel_rfl) (fun K hK => ?_)
       refine event_step (by rfl) (v := .pointer (some ⟨w7.heap.size, 0, none⟩)) (w1 := w7.alloc (.cells #[.slice none 0 0, .slice none 0 0, .int .i64 0] 25)) (by first | (go_simp; done) | (go_simp; rfl)) ?_
       have hba := below_alloc (Below.refl w7.heap.size w7) (.cells #[.slice none 0 0, .slice none 0 0, .int .i64 0] 25)
       refine hK.out _ _ (fun hs => ⟨cell_kept hs.1 (Kept.of_below hba (fun _ => False)) id, cell_kept hs.2.1 (Kept.of_below hba (fun _ => False)) id, cell_kept hs.2.2.1 (Kept.of_below hba (fun _ => False)) id, cell_kept hs.2.2.2.1 (Kept.of_below hba (fun _ => False)) id, cell_kept hs.2.2.2.2 (Kept.of_below hba (fun _ => False)) id⟩) ?_
       clear hK K
       exact hCont (w7.heap.size, A7, c7) _ ⟨heap_alloc_new w7 _, blk_below Z7 hba, Kd.S_below (Kd.S_mono (Kd.S_bound hS7) (fun k hk => ⟨hk.1, Nat.ne_of_lt hk.2.2.1⟩)) hba, below_then hB7 hB7.size hba, K7.below hba, hzl7⟩
      ·refine event_step (by rfl) (v := .pointer (some ⟨w6.heap.size, 0, none⟩)) (w1 := w6.alloc (.cells #[.slice none 0 0, .slice none 0 0, .int .i64 0] 25)) (by first | (go_simp; done) | (go_simp; rfl)) ?_
       have hba := below_alloc (Below.refl w6.heap.size w6) (.cells #[.slice none 0 0, .slice none 0 0, .int .i64 0] 25)
       have D7 := heap_alloc_new w6 (.cells #[.slice none 0 0, .slice none 0 0, .int .i64 0] 25)
       refine hK.out _ _ ⟨(blk_cell (blk_below X4.out hba) 0).trans rfl, (blk_cell (blk_below X4.out hba) 1).trans rfl, (blk_cell (blk_below X4.out hba) 2).trans rfl, cell_kept E2.out (Kept.of_below hba (fun _ => False)) id, cell_kept HY.out (Kept.of_below hba (fun _ => False)) id⟩ (fun hHeld => ?_)
       clear hK K
       refine norm_ (a' := ?_) ?_ ?_
       rotate_left
       ·show Act.put _ (some 13) _ = _
        simp only [Act.put, List.setIfInBounds_toArray, List.set_cons_zero, List.set_cons_succ, i64_w, i32_w]
        rfl
       refine last_ (i := 18) (N := some 76) #[true, true, true, true, true, true, true, true, true, true, true, true, true, true, true, true, true, true, true, false, false, false, true, false, false] rfl rfl (by kernel_rfl) (by decide) (fun K hK => ?_)
       refine goes_ Try.func74 (by kernel_rfl) rfl #[.agg #[.slice (some ⟨g, 0, none⟩) C1.length c2, .slice A1 n1 c1, .int .i64 L], .int .i64 z, .int .i64 (wrap64 (lv - 1)), .int .i64 (Int.tmod a_ n), .string leaf] (by rfl) rfl rfl (by (try simp only [List.map_toArray, List.map_cons, List.map_nil]); first | done | rfl) ?_
       have hds := blk_lt D7
       have hS6 := Kd.S_mono (Kd.S_bound S4.out) (fun k hk => (⟨hk.1, Nat.ne_of_lt hk.2.2.1⟩ : (P k ∧ k ≠ xg ∧ k ≠ W1.heap.size) ∧ k ≠ w6.heap.size))
       refine (IH.out (some ⟨g, 0, none⟩) c2 C1 z (wrap64 (lv - 1)) (Int.tmod a_ n) (fun k => (P k ∧ k ≠ xg ∧ k ≠ W1.heap.size) ∧ k ≠ w6.heap.size) (C2, zq) w0 _ LW.out (by have := HL.out; omega) HDIG.out (below_then B4.out B4.out.size hba) (Kd.S_below hS6 hba) (fun k hk => (have h1_ := XZ.out; have h2_ := HXG.out; ⟨⟨FP.out k (by omega), by omega, by omega⟩, by omega⟩)) HQ.out).mono ?_
       (first | rintro e w7 v7 rfl hS7 hB7 hK7 | rintro e w7 ⟨v7, rfl, hS7, hB7, hK7⟩)
       refine ⟨_, rfl, ?_⟩
       obtain ⟨A7, c7, rfl⟩ := Kd.S_slice hS7
       replace hS7 : CS w7 w0.heap.size (fun k => (P k ∧ k ≠ xg ∧ k ≠ W1.heap.size) ∧ k ≠ w6.heap.size) (.slice A7 C2.length c7) C2 := hS7
       have Z7 := blk_kept (blk_below Z4.out hba) hK7 (fun h_ => h_.1.2.2 rfl)
       have K7 := (K4.out.below hba).then_ hK7 (fun j hj => .inl hj.1.1)
       refine hK.out _ _ ?_
       clear hK K
       refine norm_ (a' := ?_) ?_ ?_
       rotate_left
       ·show Act.put _ (some 76) _ = _
        simp only [Act.put, List.setIfInBounds_toArray, List.set_cons_zero, List.set_cons_succ, i64_w, i32_w]
        rfl
       refine pure_ (i := 19) (N := some 57) (v := ?_) (a' := ?_) #[true, true, true, true, true, true, true, true, true, true, true, true, true, true, true, true, true, true, true, true, false, false, true, false, false] rfl rfl (by kernel_rfl) (fun _ _ _ h => h) (Or.inl ⟨by rfl, ?_⟩) ?_ ?_
       rotate_left
       ·intro w'
        go_simp
        with_reducible rfl
       rotate_left
       ·simp only [Act.put, List.setIfInBounds_toArray, List.set_cons_zero, List.set_cons_succ, i64_w, i32_w]
        rfl
       refine pure_ (i := 20) (N := some 77) (v := ?_) (a' := ?_) #[true, true, true, true, true, true, true, true, true, true, true, true, true, true, true, true, true, true, true, true, true, false, true, false, false] rfl rfl (by kernel_rfl) (fun _ _ _ h => h) (Or.inl ⟨by rfl, ?_⟩) ?_ ?_
       rotate_left
       ·intro w'
        go_simp
        with_reducible rfl
       rotate_left
       ·simp only [Act.put, List.setIfInBounds_toArray, List.set_cons_zero, List.set_cons_succ, i64_w, i32_w]
        rfl
       refine pure_ (i := 21) (N := some 78) (v := ?_) (a' := ?_) #[true, true, true, true, true, true, true, true, true, true, true, true, true, true, true, true, true, true, true, true, true, true, true, false, false] rfl rfl (by kernel_rfl) (fun _ _ _ h => h) (Or.inl ⟨by rfl, ?_⟩) ?_ ?_
       rotate_left
       ·intro w'
        go_simp
        with_reducible rfl
       rotate_left
       ·simp only [Act.put, List.setIfInBounds_toArray, List.set_cons_zero, List.set_cons_succ, i64_w, i32_w]
        rfl
       exact hCont (w6.heap.size, A7, c7) _ ⟨blk_kept D7 hK7 (fun h_ => h_.2 rfl), Z7, hS7, hB7, K7, hzl⟩
     rintro ⟨db, A7, c7⟩ w8 ⟨hD8, hZ8, hS8, hB8, hK8, hDZ⟩
     dsimp only at hD8 hS8 hDZ
     dsimp only [putAll]
     clear hHeld X4 Z4 S4 B4 K4 E2 HY
     refine norm_ (a' := ?_) ?_ ?_
     rotate_left
     ·simp only [Act.put, List.setIfInBounds_toArray, List.set_cons_zero, List.set_cons_succ, i64_w, i32_w]
      rfl
     have DZ := Aside0.mk hDZ
     have r0 : w8.cell? ⟨db, 0, none⟩ = some (.slice none 0 0) := (blk_cell hD8 0).trans rfl
     have r1 : w8.cell? ⟨db, 1, none⟩ = some (.slice none 0 0) := (blk_cell hD8 1).trans rfl
     have r2 : w8.cell? ⟨db, 2, none⟩ = some (.int .i64 0) := (blk_cell hD8 2).trans rfl
     have s0 := blk_frozen hD8 0
     have s1 := blk_frozen hD8 1
     have s2 := blk_frozen hD8 2
     refine last_ (i := 23) (N := none) #[true, true, true, true, true, true, true, true, true, true, true, true, true, true, true, true, true, true, true, true, true, true, true, true, false] rfl rfl (by kernel_rfl) (by decide) (fun K hK => ?_)
     refine skip_ (w1 := ((w8.setCell ⟨db, 0, none⟩ (.slice A7 C2.length c7)).setCell ⟨db, 1, none⟩ (.slice A1 n1 c1)).setCell ⟨db, 2, none⟩ (.int .i64 L)) (by rfl) rfl ?_ ?_
     ·first | (go_simp; done) | (go_simp; rfl)
     refine hK.out _ _ ?_
     clear hK K r0 r1 r2 s0 s1 s2
     have KK9 := keep3 (a := .slice A7 C2.length c7) (b := .slice A1 n1 c1) (c := .int .i64 L) (Kept.refl w8 (fun j => j = db)) (.inl rfl)
     have D9 := Aside0.mk (put3 hD8 (.slice A7 C2.length c7) (.slice A1 n1 c1) (.int .i64 L))
     have Z9 := Aside0.mk (blk_kept hZ8 KK9 (Nat.ne_of_lt hDZ))
     have S9 := Aside0.mk (Kd.S_kept hS8 KK9 (fun k hk => hk.2))
     have hdb : xg ≤ db := by have := XZ.out; omega
     have B9 := Aside0.mk (below3 (a := .slice A7 C2.length c7) (b := .slice A1 n1 c1) (c := .int .i64 L) hB8 (Nat.le_trans BX.out hdb))
     have K9 := Aside0.mk (hK8.then_ KK9 (fun j hj => .inr (by rw [hj]; exact HXG.out ▸ hdb)))
     have DB := Aside0.mk hdb
     clear KK9 hD8 hZ8 hS8 hB8 hK8 hDZ hdb
     generalize ((w8.setCell ⟨db, 0, none⟩ (.slice A7 C2.length c7)).setCell ⟨db, 1, none⟩ (.slice A1 n1 c1)).setCell ⟨db, 2, none⟩ (.int .i64 L) = w9 at D9 Z9 S9 B9 K9 ⊢
     refine pure_ (i := 24) (N := some 14) (v := ?_) (a' := ?_) #[true, true, true, true, true, true, true, true, true, true, true, true, true, true, true, true, true, true, true, true, true, true, true, true, true] rfl rfl (by kernel_rfl) (fun _ _ _ h => h) (Or.inl ⟨by rfl, ?_⟩) ?_ ?_
     rotate_left
     ·intro w'
      go_simp
      with_reducible rfl
     rotate_left
     ·simp only [Act.put, List.setIfInBounds_toArray, List.set_cons_zero, List.set_cons_succ, i64_w, i32_w]
      rfl
     refine done_ (by kernel_rfl) ?_
     have h := HH.out
     split at h
     ·rename_i hcd
      obtain ⟨hk2, hl4, hf1⟩ := hcd
      obtain ⟨g7, cap, hv, _, _, _⟩ := Kd.S_form S9.out (by omega)
      injection hv with hA hn_ hc
      subst hA hc
      clear hn_ HH
      have HH := Aside0.mk h
      have K2L := Aside0.mk hk2
      clear h
      obtain ⟨x7, hx7⟩ : ∃ x, rd_T68 C2 (k1 : Int) = x := ⟨_, rfl⟩
      rw [hx7] at hl4 hf1 HH
      obtain ⟨v7, e2, hR7, hv7, hback⟩ := cs_inner S9.out (k1 : Int) (by omega) (by omega)
      rw [hx7] at hR7 hback
      obtain ⟨gk, ck, rfl, _, _, _⟩ := Kd.R_form hR7 (by omega)
      rw [hl4] at hR7 e2 hback hv7
      simp only [Int.toNat_natCast] at e2 hback
      obtain ⟨hPk, hngk⟩ := hv7 gk rfl
      have R7 := Aside0.mk hR7
      have BK := Aside0.mk hback
      have E2 := Aside0.mk e2
      have PK := Aside0.mk hPk
      have L4 := Aside0.mk hl4
      have F1 := Aside0.mk hf1
      have p3 : ((k1 : Int) < (C2.length : Int)) = True := eq_true (by omega)
      clear hR7 hback e2 hPk hv7 hl4 hf1 hk2 hngk hx7
      try go_wp2
      refine start_ (n := 12) (S := fun w' => w'.cell? ⟨db, 0, none⟩ = some (.slice (some ⟨g7, 0, none⟩) C2.length c7) ∧ w'.cell? ⟨g7, k1 * 3 + 2, none⟩ = some (.slice (some ⟨gk, 0, none⟩) 4 ck)) (ds := [11]) #[false, false, false, false, false, false, false, false, false, false, false, false] (by kernel_rfl) rfl rfl ⟨(blk_cell D9.out 0).trans rfl, E2.out⟩ (fun hHeld => ?_)
      replace D9 := Aside0.mk (blk_drew D9.out)
      replace Z9 := Aside0.mk (blk_drew Z9.out)
      replace S9 := Aside0.mk (Kd.S_drew S9.out)
      replace R7 := Aside0.mk (Kd.R_drew R7.out)
      replace B9 := Aside0.mk (below_drew1 B9.out)
      replace K9 := Aside0.mk K9.out.drew
      have BW := Aside0.mk (show Kept w9 w9.drew (fun _ => False) from (Kept.refl _ _).drew)
      generalize w9.drew = wD at D9 Z9 S9 R7 B9 K9 BW hHeld ⊢
      clear E2
      refine take_ (i := 0) (N := some 79) (v := ?_) (a' := ?_) #[true, false, false, false, false, false, false, false, false, false, false, false] rfl rfl (by kernel_rfl) (fun _ _ _ h => h) (Or.inl ⟨by rfl, ?_⟩) hHeld ?_ ?_
      rotate_left
      ·rintro w' ⟨s0, s1⟩
       go_simp
       with_reducible rfl
      rotate_left
      ·simp only [Act.put, List.setIfInBounds_toArray, List.set_cons_zero, List.set_cons_succ, i64_w, i32_w]
       rfl
      refine take_ (i := 1) (N := some 80) (v := ?_) (a' := ?_) #[true, true, false, false, false, false, false, false, false, false, false, false] rfl rfl (by kernel_rfl) (fun _ _ _ h => h) (Or.inl ⟨by rfl, ?_⟩) hHeld ?_ ?_
      rotate_left
      ·rintro w' ⟨s0, s1⟩
       go_simp
       with_reducible rfl
      rotate_left
      ·simp only [Act.put, List.setIfInBounds_toArray, List.set_cons_zero, List.set_cons_succ, i64_w, i32_w]
       rfl
      refine take_ (i := 2) (N := some 81) (v := ?_) (a' := ?_) #[true, true, true, false, false, false, false, false, false, false, false, false] rfl rfl (by kernel_rfl) (fun _ _ _ h => h) (Or.inl ⟨by rfl, ?_⟩) hHeld ?_ ?_
      rotate_left
      ·rintro w' ⟨s0, s1⟩
       go_simp
       with_reducible rfl
      rotate_left
      ·simp only [Act.put, List.setIfInBounds_toArray, List.set_cons_zero, List.set_cons_succ, i64_w, i32_w]
       rfl
      refine take_ (i := 3) (N := some 82) (v := ?_) (a' := ?_) #[true, true, true, true, false, false, false, false, false, false, false, false] rfl rfl (by kernel_rfl) (fun _ _ _ h => h) (Or.inl ⟨by rfl, ?_⟩) hHeld ?_ ?_
      rotate_left
      ·rintro w' ⟨s0, s1⟩
       go_simp
       with_reducible rfl
      rotate_left
      ·simp only [Act.put, List.setIfInBounds_toArray, List.set_cons_zero, List.set_cons_succ, i64_w, i32_w]
       rfl
      refine take_ (i := 4) (N := some 83) (v := ?_) (a' := ?_) #[true, true, true, true, true, false, false, false, false, false, false, false] rfl rfl (by kernel_rfl) (fun _ _ _ h => h) (Or.inl ⟨by rfl, ?_⟩) hHeld ?_ ?_
      rotate_left
      ·rintro w' ⟨s0, s1⟩
       go_simp
       with_reducible rfl
      rotate_left
      ·simp only [Act.put, List.setIfInBounds_toArray, List.set_cons_zero, List.set_cons_succ, i64_w, i32_w]
       rfl
      refine take_ (i := 5) (N := some 84) (v := ?_) (a' := ?_) #[true, true, true, true, true, true, false, false, false, false, false, false] rfl rfl (by kernel_rfl) (fun _ _ _ h => h) (Or.inl ⟨by rfl, ?_⟩) hHeld ?_ ?_
      rotate_left
      ·rintro w' ⟨s0, s1⟩
       go_simp
       with_reducible rfl
      rotate_left
      ·simp only [Act.put, List.setIfInBounds_toArray, List.set_cons_zero, List.set_cons_succ, i64_w, i32_w]
       rfl
      refine take_ (i := 6) (N := some 85) (v := ?_) (a' := ?_) #[true, true, true, true, true, true, true, false, false, false, false, false] rfl rfl (by kernel_rfl) (fun _ _ _ h => h) (Or.inl ⟨by rfl, ?_⟩) hHeld ?_ ?_
      rotate_left
      ·rintro w' ⟨s0, s1⟩
       go_simp
       with_reducible rfl
      rotate_left
      ·simp only [Act.put, List.setIfInBounds_toArray, List.set_cons_zero, List.set_cons_succ, i64_w, i32_w]
       rfl
      refine take_ (i := 7) (N := some 86) (v := ?_) (a' := ?_) #[true, true, true, true, true, true, true, true, false, false, false, false] rfl rfl (by kernel_rfl) (fun _ _ _ h => h) (Or.inl ⟨by rfl, ?_⟩) hHeld ?_ ?_
      rotate_left
      ·rintro w' ⟨s0, s1⟩
       go_simp
       with_reducible rfl
      rotate_left
      ·simp only [Act.put, List.setIfInBounds_toArray, List.set_cons_zero, List.set_cons_succ, i64_w, i32_w]
       rfl
      refine take_ (i := 8) (N := some 87) (v := ?_) (a' := ?_) #[true, true, true, true, true, true, true, true, true, false, false, false] rfl rfl (by kernel_rfl) (fun _ _ _ h => h) (Or.inl ⟨by rfl, ?_⟩) hHeld ?_ ?_
      rotate_left
      ·rintro w' ⟨s0, s1⟩
       go_simp
       with_reducible rfl
      rotate_left
      ·simp only [Act.put, List.setIfInBounds_toArray, List.set_cons_zero, List.set_cons_succ, i64_w, i32_w, hdd]
       rfl
      refine take_ (i := 9) (N := some 88) (v := ?_) (a' := ?_) #[true, true, true, true, true, true, true, true, true, true, false, false] rfl rfl (by kernel_rfl) (fun _ _ _ h => h) (Or.inl ⟨by rfl, ?_⟩) hHeld ?_ ?_
      rotate_left
      ·rintro w' ⟨s0, s1⟩
       go_simp
       with_reducible rfl
      rotate_left
      ·simp only [Act.put, List.setIfInBounds_toArray, List.set_cons_zero, List.set_cons_succ, i64_w, i32_w]
       rfl
      refine take_ (i := 10) (N := some 89) (v := ?_) (a' := ?_) #[true, true, true, true, true, true, true, true, true, true, true, false] rfl rfl (by kernel_rfl) (fun _ _ _ h => h) (Or.inl ⟨by rfl, ?_⟩) hHeld ?_ ?_
      rotate_left
      ·rintro w' ⟨s0, s1⟩
       go_simp
       with_reducible rfl
      rotate_left
      ·simp only [Act.put, List.setIfInBounds_toArray, List.set_cons_zero, List.set_cons_succ, i64_w, i32_w]
       rfl
      obtain ⟨ad9, e9, hy9⟩ := Kd.at_int (Kd.R_reads' R7.out).2.2 (d : Int) (by omega) (by have := L4.out; have := D4.out; omega)
      injection e9 with e9
      subst e9
      rw [show (⟨gk, 0, none⟩ : Addr).add ((d : Int).toNat) = ⟨gk, d, none⟩ by by_cases h : d = 0 <;> simp [Addr.add, h]] at hy9
      have hl9 : 0 < (x7.f2).length := by have := L4.out; omega
      obtain ⟨g_, c_, e_, _, _, cells9, hcl9⟩ := Kd.R_form R7.out hl9
      obtain rfl : gk = g_ := by injection e_ with e_ _ _; injection e_ with e_; injection e_
      have hf9 := blk_frozen hcl9 d
      refine last_ (i := 11) (N := none) #[true, true, true, true, true, true, true, true, true, true, true, true] rfl rfl (by kernel_rfl) (by decide) (fun K hK => ?_)
      refine skip_ (w1 := wD.setCell ⟨gk, d, none⟩ (.int .i64 zq)) (by rfl) rfl ?_ ?_
      ·first | (go_simp; done) | (go_simp; rfl)
      refine hK.out _ _ ?_
      clear hK K
      refine done_ (by kernel_rfl) ?_
      clear hHeld
      clear hy9 hf9 hcl9 hl9 e_
      have RP := Kd.R_putn R7.out d zq
      have KP : Kept wD (wD.setCell ⟨gk, d, none⟩ (.int .i64 zq)) (fun k => some k = (Value.slice (some ⟨gk, 0, none⟩) 4 ck).ownBlock) := (Kept.refl wD (fun k => some k = (Value.slice (some ⟨gk, 0, none⟩) 4 ck).ownBlock)).setCell (p := ⟨gk, d, none⟩) (.inl rfl) _
      have SA := Aside0.mk (BK.out _ (x7.f2.set d zq) ((BW.out.mono (fun _ h => h.elim)).then_ KP (fun j hj => .inl hj)) (Kd.R_mono RP (fun _ _ => trivial)))
      have DA := Aside0.mk (blk_kept D9.out KP (fun h_ => PK.out.2 (Option.some.inj h_).symm))
      have ZA := Aside0.mk (blk_kept Z9.out KP (fun h_ => PK.out.1.2.2 (Option.some.inj h_).symm))
      have BA := Aside0.mk (below_set B9.out (Kd.R_base R7.out gk rfl) : Below w0.heap.size w0 (wD.setCell ⟨gk, d, none⟩ (.int .i64 zq)))
      have KA := Aside0.mk (K9.out.then_ KP (fun j hj => .inl (by rw [show j = gk from Option.some.inj hj]; exact PK.out.1.1)))
      generalize wD.setCell ⟨gk, d, none⟩ (.int .i64 zq) = wA at RP KP SA DA ZA BA KA ⊢
      clear KP RP S9 D9 Z9 R7 B9 K9 BW BK hdd
      have hkC := K2L.out
      have hrdx := rd_cl_set (xs := C2) hkC (⟨x7.f0, x7.f1, x7.f2.set d zq⟩ : CL)
      have hlx : (C2.set k1 (⟨x7.f0, x7.f1, x7.f2.set d zq⟩ : CL)).length = C2.length := List.length_set
      generalize hC9 : C2.set k1 (⟨x7.f0, x7.f1, x7.f2.set d zq⟩ : CL) = C9 at SA HH hrdx hlx
      obtain ⟨_, v9, f0, f1, f2, hfr2, _, hR9, _⟩ := cs_elem SA.out (k1 : Int) (by omega) (by omega)
      simp only [Int.toNat_natCast] at f0 f1 f2 hfr2
      rw [hrdx] at f0 f1 hR9
      obtain ⟨A9, c9, rfl⟩ := Kd.R_slice hR9
      obtain ⟨ks, hks⟩ : ∃ ks, x7.f2.set d zq = ks := ⟨_, rfl⟩
      have hl9 : ks.length = 4 := by rw [← hks, List.length_set]; exact L4.out
      rw [hks] at hR9 f2 HH
      rw [hl9] at f2
      have KS := Aside0.mk (show (Kd.int .i64).C wA A9 4 ks by have h_ := (Kd.R_reads' hR9).2.2; simp only [hl9] at h_; exact h_)
      have g0 : wA.cell? ⟨db, 0, none⟩ = some (.slice (some ⟨g7, 0, none⟩) C2.length c7) := (blk_cell DA.out 0).trans rfl
      have HC9 := Aside0.mk hC9
      have HLX := Aside0.mk hlx
      have HL9 := Aside0.mk hl9
      have fz0 : wA.frozen? ⟨g7, k1 * 3, none⟩ = false := hfr2 0
      have fz1 := hfr2 1
      have fz2 := hfr2 2
      clear hR9 hfr2 hC9 hlx hl9 hks hrdx
      try go_wp2
      go_loopw [16, 97] (fun v16 vi wr => ∃ q : Nat, q ≤ 4 ∧ vi = .int .i64 q ∧ wr = wA ∧ Aside0 (∀ n : Nat, n < q → rd ks (n : Int) < 0)) (fun v16 vi _ => 4 - (intOf vi).toNat)
      case atStart => exact ⟨0, by omega, rfl, rfl, ⟨fun n h => by omega⟩⟩
      case round =>
       obtain ⟨q, hq, rfl, rfl, HN0⟩ := hrel
       have g1 : wr.cell? ⟨db, 1, none⟩ = some (.slice A1 n1 c1) := (blk_cell DA.out 1).trans rfl
       have g2 : wr.cell? ⟨db, 2, none⟩ = some (.int .i64 L) := (blk_cell DA.out 2).trans rfl
       have r0 : wr.cell? ⟨W1.heap.size, 0, none⟩ = some (.slice none 0 0) := (blk_cell ZA.out 0).trans rfl
       have r1 : wr.cell? ⟨W1.heap.size, 1, none⟩ = some (.slice none 0 0) := (blk_cell ZA.out 1).trans rfl
       have r2 : wr.cell? ⟨W1.heap.size, 2, none⟩ = some (.int .i64 0) := (blk_cell ZA.out 2).trans rfl
       have s0 := blk_frozen ZA.out 0
       have s1 := blk_frozen ZA.out 1
       have s2 := blk_frozen ZA.out 2
       by_cases hql : q < 4
       ·have hqq : ((q : Int) < 4) = True := eq_true (by omega)
        have hqq2 : (q < 4) = True := eq_true hql
        obtain ⟨adq, eq_, hyq⟩ := Kd.at_int KS.out (q : Int) (by omega) (by have := HL9.out; omega)
        subst eq_
        simp only [Int.toNat_natCast] at hyq
        obtain ⟨o, ho⟩ : ∃ o, rd ks (q : Int) = o := ⟨_, rfl⟩
        rw [ho] at hyq
        by_cases h0 : 0 ≤ o
        ·have o1 : (o ≥ 0) = True := eq_true h0
         have o2 : (0 ≤ o) = True := eq_true h0
         have hsk : someKid ks = true := some_hit (q := q) (by have := HL9.out; omega) (by rw [ho]; exact h0)
         have h := HH.out
         rw [if_pos hsk] at h
         have e_ := Option.some.inj h
         subst e_
         clear h h0 ho hsk
         go_wp2
         refine bodyPost_ret (results_ct rfl _ _ W1.heap.size 25 #[.slice (some ⟨g7, 0, none⟩) C2.length c7, .slice A1 n1 c1, .int .i64 L] (0, 0) _ rfl (put3 ZA.out _ _ _) Try.underlying25 rfl (by kernel_rfl)) rfl ?_
         have hz : xg ≤ W1.heap.size := Nat.le_of_lt XZ.out
         exact ⟨_, rfl, Kd.S_mono (far3 SA.out ZA.out) (fun k hk => hk.1.1), below3 BA.out (Nat.le_trans BX.out hz), keep3 KA.out (.inr (HXG.out ▸ hz))⟩
        ·have o1 : (o ≥ 0) = False := eq_false h0
         have o2 : (0 ≤ o) = False := eq_false h0
         have HO := Aside0.mk (show rd ks (q : Int) < 0 by omega)
         clear h0 ho
         go_wp2
         go_roundw
         case rel => exact ⟨q + 1, by omega, by go_num, (by first | trivial | rfl), ⟨fun n hn => by
          by_cases h : n = q
          ·subst h; exact HO.out
          ·exact HN0.out n (by omega)⟩⟩
         case measure => simp [intOf]; omega
       ·have hqq : ((q : Int) < 4) = False := eq_false (by omega)
        have hqq2 : (q < 4) = False := eq_false hql
        have hsk : someKid ks = false := some_miss (fun n hn => HN0.out n (by have := HL9.out; omega))
        have h := HH.out
        rw [if_neg (by rw [hsk]; decide)] at h
        have e_ := Option.some.inj h
        subst e_
        obtain ⟨wB, hwB⟩ : ∃ W, ((wr.setCell ⟨g7, k1 * 3, none⟩ (.int .i64 0)).setCell ⟨g7, k1 * 3 + 1, none⟩ (.string ⟨#[]⟩)).setCell ⟨g7, k1 * 3 + 2, none⟩ (.slice none 0 0) = W := ⟨_, rfl⟩
        have hPg := (Kd.S_R SA.out).1 g7 rfl
        have hBg := Kd.S_base SA.out g7 rfl
        have KKB : Kept wr wB (fun j => j = g7) := by rw [← hwB]; exact (((Kept.refl wr (fun j => j = g7)).setCell (p := ⟨g7, k1 * 3, none⟩) (.inl rfl) _).setCell (p := ⟨g7, k1 * 3 + 1, none⟩) (.inl rfl) _).setCell (p := ⟨g7, k1 * 3 + 2, none⟩) (.inl rfl) _
        have SB := cs_zero SA.out (k1 : Int) (by omega) (by have := K2L.out; omega)
        simp only [Int.toNat_natCast] at SB
        rw [hwB, ← HC9.out, List.set_set] at SB
        have SB := Aside0.mk SB
        have DB2 := Aside0.mk (blk_kept DA.out KKB (fun e_ => hPg.2 e_.symm))
        have ZB := Aside0.mk (blk_kept ZA.out KKB (fun e_ => hPg.1.2.2 e_.symm))
        have BB := Aside0.mk (show Below w0.heap.size w0 wB by rw [← hwB]; exact below_set (below_set (below_set BA.out hBg) hBg) hBg)
        have KB := Aside0.mk (KA.out.then_ KKB (fun j hj => .inl (by rw [hj]; exact hPg.1.1)))
        have b0 : wB.cell? ⟨db, 0, none⟩ = some (.slice (some ⟨g7, 0, none⟩) C2.length c7) := (blk_cell DB2.out 0).trans rfl
        have b1 : wB.cell? ⟨db, 1, none⟩ = some (.slice A1 n1 c1) := (blk_cell DB2.out 1).trans rfl
        have b2 : wB.cell? ⟨db, 2, none⟩ = some (.int .i64 L) := (blk_cell DB2.out 2).trans rfl
        clear r0 r1 r2 s0 s1 s2
        have r0 : wB.cell? ⟨W1.heap.size, 0, none⟩ = some (.slice none 0 0) := (blk_cell ZB.out 0).trans rfl
        have r1 : wB.cell? ⟨W1.heap.size, 1, none⟩ = some (.slice none 0 0) := (blk_cell ZB.out 1).trans rfl
        have r2 : wB.cell? ⟨W1.heap.size, 2, none⟩ = some (.int .i64 0) := (blk_cell ZB.out 2).trans rfl
        have s0 := blk_frozen ZB.out 0
        have s1 := blk_frozen ZB.out 1
        have s2 := blk_frozen ZB.out 2
        clear h hsk hPg hBg KKB hql hq HN0
        go_wp2
        refine bodyPost_ret (results_ct rfl _ _ W1.heap.size 25 #[.slice (some ⟨g7, 0, none⟩) C2.length c7, .slice A1 n1 c1, .int .i64 L] (0, 0) _ rfl (put3 ZB.out _ _ _) Try.underlying25 rfl (by kernel_rfl)) rfl ?_
        have hz : xg ≤ W1.heap.size := Nat.le_of_lt XZ.out
        exact ⟨_, rfl, Kd.S_mono (far3 SB.out ZB.out) (fun k hk => hk.1.1), below3 BB.out (Nat.le_trans BX.out hz), keep3 KB.out (.inr (HXG.out ▸ hz))⟩
     ·cases h
   ·have h_ := (if_neg hd).symm.trans h
    cases h_
end Go.Proofs.Ytacfalpgmibfnaa.PCow
namespace Go.Proofs.Ytacfalpgmibfnaa.PCow
open Go.RowKit Go.Proofs.YtacfalpgmibfnaaW.PrintWords Go.Proofs.YtacfalpgmibfnaaW.PrintLast Go.Proofs.YtacfalpgmibfnaaW.PrintMore Go.Proofs.Ytacfalpgmibfnaa.E
set_option linter.unusedSimpArgs false
set_option linter.unusedVariables false
structure JS (w0 : World) (gb n : Nat) (box : Array Value) (b3 b7 b8 b9 b10 b11 : Bool) (v34 v38 v3 v4 : Value) (w : World) : Prop where
 below : Below w0.heap.size w0 w
 box_ : w.heap[gb]? = some (.cells box 25 (0, 0))
 r34 : b3 = true → RI w0 w v34 (List.replicate n 0) ∧ ∃ g, v34 = .slice (some ⟨g, 0, none⟩) n n
 r38 : b7 = true → RI w0 w v38 (List.replicate n 0) ∧ ∃ g, v38 = .slice (some ⟨g, 0, none⟩) n n
 ne : b3 = true → b7 = true → NeRow v34 v38
 c3 : b8 = true → ∃ b u, v3 = .pointer (some ⟨b, 0, none⟩) ∧ w0.heap.size ≤ b ∧ w.heap[b]? = some (.cells #[u] 23 (0, 0)) ∧ (b10 = true → u = v34)
 c4 : b9 = true → ∃ b u, v4 = .pointer (some ⟨b, 0, none⟩) ∧ w0.heap.size ≤ b ∧ w.heap[b]? = some (.cells #[u] 23 (0, 0)) ∧ (b11 = true → u = v38)
 ne34 : b8 = true → b9 = true → v3 ≠ v4
 k10 : b10 = true → b3 = true ∧ b8 = true ∧ b9 = true
 k11 : b11 = true → b7 = true ∧ b10 = true
section
variable {w0 : World} {gb n : Nat} {box : Array Value} {b3 b7 b8 b9 b10 b11 : Bool} {v34 v38 v3 v4 : Value} {w w1 : World} {v : Value}
theorem JS.s3 (h : JS w0 gb n box false b7 b8 b9 b10 b11 v34 v38 v3 v4 w) (hr : RI w0 w1 v (List.replicate n 0)) (hg : ∃ g, v = .slice (some ⟨g, 0, none⟩) n n ∧ w.heap.size ≤ g) (hb : Below w.heap.size w w1) : JS w0 gb n box true b7 b8 b9 b10 b11 v v38 v3 v4 w1 := by
 obtain ⟨g, hv, hle⟩ := hg
 have hk10 : b10 = true → False := fun e => by have := (h.k10 e).1; simp at this
 refine ⟨below_then h.below h.below.size hb, blk_below h.box_ hb, fun _ => ⟨hr, g, hv⟩, fun e => ⟨Kd.R_below (h.r38 e).1 hb, (h.r38 e).2⟩, fun _ e k hk hk2 => ?_, fun e => ?_, fun e => ?_, h.ne34, fun e => ((hk10 e).elim), h.k11⟩
 ·rw [hv] at hk
  have h2 := Kd.R_lt (h.r38 e).1 k hk2
  simp [Value.ownBlock] at hk
  omega
 ·obtain ⟨b, u, e1, e2, e3, e4⟩ := h.c3 e
  exact ⟨b, u, e1, e2, blk_below e3 hb, fun e5 => (hk10 e5).elim⟩
 ·obtain ⟨b, u, e1, e2, e3, e4⟩ := h.c4 e
  exact ⟨b, u, e1, e2, blk_below e3 hb, e4⟩
theorem JS.s7 (h : JS w0 gb n box b3 false b8 b9 b10 b11 v34 v38 v3 v4 w) (hr : RI w0 w1 v (List.replicate n 0)) (hg : ∃ g, v = .slice (some ⟨g, 0, none⟩) n n ∧ w.heap.size ≤ g) (hb : Below w.heap.size w w1) : JS w0 gb n box b3 true b8 b9 b10 b11 v34 v v3 v4 w1 := by
 obtain ⟨g, hv, hle⟩ := hg
 have hk11 : b11 = true → False := fun e => by have := (h.k11 e).1; simp at this
 refine ⟨below_then h.below h.below.size hb, blk_below h.box_ hb, fun e => ⟨Kd.R_below (h.r34 e).1 hb, (h.r34 e).2⟩, fun _ => ⟨hr, g, hv⟩, fun e _ k hk hk2 => ?_, fun e => ?_, fun e => ?_, h.ne34, h.k10, fun e => ((hk11 e).elim)⟩
 ·rw [hv] at hk2
  have h2 := Kd.R_lt (h.r34 e).1 k hk
  simp [Value.ownBlock] at hk2
  omega
 ·obtain ⟨b, u, e1, e2, e3, e4⟩ := h.c3 e
  exact ⟨b, u, e1, e2, blk_below e3 hb, e4⟩
 ·obtain ⟨b, u, e1, e2, e3, e4⟩ := h.c4 e
  exact ⟨b, u, e1, e2, blk_below e3 hb, fun e5 => (hk11 e5).elim⟩
theorem JS.s8 (h : JS w0 gb n box b3 b7 false b9 b10 b11 v34 v38 v3 v4 w) (u : Value) : JS w0 gb n box b3 b7 true b9 b10 b11 v34 v38 (.pointer (some ⟨w.heap.size, 0, none⟩)) v4 (w.alloc (.cells #[u] 23)) := by
 have hk10 : b10 = true → False := fun e => by have := (h.k10 e).2.1; simp at this
 have hb : Below w.heap.size w (w.alloc (.cells #[u] 23)) := below_alloc (Below.refl _ _) _
 refine ⟨below_then h.below h.below.size hb, blk_below h.box_ hb, fun e => ⟨Kd.R_below (h.r34 e).1 hb, (h.r34 e).2⟩, fun e => ⟨Kd.R_below (h.r38 e).1 hb, (h.r38 e).2⟩, h.ne, fun _ => ⟨_, u, rfl, h.below.size, blk_new _ _, fun e5 => (hk10 e5).elim⟩, fun e => ?_, fun _ e he => ?_, fun e => ((hk10 e).elim), h.k11⟩
 ·obtain ⟨b, u, e1, e2, e3, e4⟩ := h.c4 e
  exact ⟨b, u, e1, e2, blk_below e3 hb, e4⟩
 ·obtain ⟨b, u, e1, e2, e3, e4⟩ := h.c4 e
  rw [e1] at he
  have := blk_lt e3
  simp at he <;> omega
theorem JS.s9 (h : JS w0 gb n box b3 b7 b8 false b10 b11 v34 v38 v3 v4 w) (u : Value) : JS w0 gb n box b3 b7 b8 true b10 b11 v34 v38 v3 (.pointer (some ⟨w.heap.size, 0, none⟩)) (w.alloc (.cells #[u] 23)) := by
 have hk10 : b10 = true → False := fun e => by have := (h.k10 e).2.2; simp at this
 have hk11 : b11 = true → False := fun e => hk10 (h.k11 e).2
 have hb : Below w.heap.size w (w.alloc (.cells #[u] 23)) := below_alloc (Below.refl _ _) _
 refine ⟨below_then h.below h.below.size hb, blk_below h.box_ hb, fun e => ⟨Kd.R_below (h.r34 e).1 hb, (h.r34 e).2⟩, fun e => ⟨Kd.R_below (h.r38 e).1 hb, (h.r38 e).2⟩, h.ne, fun e => ?_, fun _ => ⟨_, u, rfl, h.below.size, blk_new _ _, fun e5 => (hk11 e5).elim⟩, fun e _ he => ?_, fun e => ((hk10 e).elim), fun e => (hk11 e).elim⟩
 ·obtain ⟨b, u, e1, e2, e3, e4⟩ := h.c3 e
  exact ⟨b, u, e1, e2, blk_below e3 hb, e4⟩
 ·obtain ⟨b, u, e1, e2, e3, e4⟩ := h.c3 e
  rw [e1] at he
  have := blk_lt e3
  simp at he <;> omega
theorem JS.s10 {bl : Nat} (h : JS w0 gb n box true b7 true true false b11 v34 v38 (.pointer (some ⟨bl, 0, none⟩)) v4 w) : JS w0 gb n box true b7 true true true b11 v34 v38 (.pointer (some ⟨bl, 0, none⟩)) v4 (w.setCell ⟨bl, 0, none⟩ v34) := by
 have hk11 : b11 = true → False := fun e => by have := (h.k11 e).2; simp at this
 obtain ⟨b, u, e1, e2, e3, e4⟩ := h.c3 rfl
 simp at e1
 subst e1
 refine ⟨below_set h.below e2, blk_far h.box_ (fun q => ?_) _, fun e => ⟨RI_far (h.r34 e).1 (RI_blk (h.r34 e).1 e3 (by decide)) _, (h.r34 e).2⟩, fun e => ⟨RI_far (h.r38 e).1 (RI_blk (h.r38 e).1 e3 (by decide)) _, (h.r38 e).2⟩, h.ne, fun _ => ⟨_, _, rfl, e2, blk_set e3 _ _, fun _ => rfl⟩, fun e => ?_, h.ne34, fun _ => ⟨rfl, rfl, rfl⟩, fun e => (hk11 e).elim⟩
 ·have := h.box_
  rw [q, show (⟨bl, 0, none⟩ : Addr).block = bl from rfl, e3] at this
  simp at this
 ·obtain ⟨b, u, f1, f2, f3, f4⟩ := h.c4 e
  refine ⟨b, u, f1, f2, blk_far f3 (fun q => ?_) _, f4⟩
  exact h.ne34 rfl rfl (by rw [f1, q])
theorem JS.s11 {bc : Nat} (h : JS w0 gb n box true true true true true false v34 v38 v3 (.pointer (some ⟨bc, 0, none⟩)) w) : JS w0 gb n box true true true true true true v34 v38 v3 (.pointer (some ⟨bc, 0, none⟩)) (w.setCell ⟨bc, 0, none⟩ v38) := by
 obtain ⟨b, u, e1, e2, e3, e4⟩ := h.c4 rfl
 simp at e1
 subst e1
 refine ⟨below_set h.below e2, blk_far h.box_ (fun q => ?_) _, fun e => ⟨RI_far (h.r34 e).1 (RI_blk (h.r34 e).1 e3 (by decide)) _, (h.r34 e).2⟩, fun e => ⟨RI_far (h.r38 e).1 (RI_blk (h.r38 e).1 e3 (by decide)) _, (h.r38 e).2⟩, h.ne, fun e => ?_, fun _ => ⟨_, _, rfl, e2, blk_set e3 _ _, fun _ => rfl⟩, h.ne34, h.k10, fun _ => ⟨rfl, rfl⟩⟩
 ·have := h.box_
  rw [q, show (⟨bc, 0, none⟩ : Addr).block = bc from rfl, e3] at this
  simp at this
 ·obtain ⟨b, u, f1, f2, f3, f4⟩ := h.c3 e
  refine ⟨b, u, f1, f2, blk_far f3 (fun q => ?_) _, f4⟩
  exact h.ne34 rfl rfl (by rw [f1, q])
end
def act4 (t0 : Array Value) (d : List Deferred) (x34 x38 x3 x4 : Value) : Act := ⟨(((t0.setIfInBounds 34 x34).setIfInBounds 38 x38).setIfInBounds 3 x3).setIfInBounds 4 x4, d⟩
section
variable {t0 : Array Value} {d : List Deferred} {x34 x38 x3 x4 : Value} (v : Value)
theorem act4_34 : (act4 t0 d x34 x38 x3 x4).put (some 34) v = act4 t0 d v x38 x3 x4 := by
 simp only [act4, Act.put, Act.mk.injEq, and_true]
 refine Array.ext_getElem? (fun i => ?_)
 simp only [Array.getElem?_setIfInBounds, Array.size_setIfInBounds]
 (repeat' split) <;> first | rfl | omega
theorem act4_38 : (act4 t0 d x34 x38 x3 x4).put (some 38) v = act4 t0 d x34 v x3 x4 := by
 simp only [act4, Act.put, Act.mk.injEq, and_true]
 refine Array.ext_getElem? (fun i => ?_)
 simp only [Array.getElem?_setIfInBounds, Array.size_setIfInBounds]
 (repeat' split) <;> first | rfl | omega
theorem act4_3 : (act4 t0 d x34 x38 x3 x4).put (some 3) v = act4 t0 d x34 x38 v x4 := by
 simp only [act4, Act.put, Act.mk.injEq, and_true]
 refine Array.ext_getElem? (fun i => ?_)
 simp only [Array.getElem?_setIfInBounds, Array.size_setIfInBounds]
 (repeat' split) <;> first | rfl | omega
theorem act4_4 : (act4 t0 d x34 x38 x3 x4).put (some 4) v = act4 t0 d x34 x38 x3 v := by
 simp only [act4, Act.put, Act.mk.injEq, and_true]
 refine Array.ext_getElem? (fun i => ?_)
 simp only [Array.getElem?_setIfInBounds, Array.size_setIfInBounds]
 (repeat' split) <;> first | rfl | omega
theorem act4_e (h : 38 < t0.size) : (act4 t0 d x34 x38 x3 x4).eval (.tmp 34) = x34 ∧ (act4 t0 d x34 x38 x3 x4).eval (.tmp 38) = x38 ∧ (act4 t0 d x34 x38 x3 x4).eval (.tmp 3) = x3 ∧ (act4 t0 d x34 x38 x3 x4).eval (.tmp 4) = x4 := by
 refine ⟨?_, ?_, ?_, ?_⟩ <;> · simp [act4, Act.eval, Array.getElem?_setIfInBounds]; grind
theorem act4_f : (act4 t0 d x34 x38 x3 x4).eval (.tmp 33) = (Act.mk t0 d).eval (.tmp 33) ∧ (act4 t0 d x34 x38 x3 x4).eval (.tmp 37) = (Act.mk t0 d).eval (.tmp 37) := by
 refine ⟨?_, ?_⟩ <;> simp [act4, Act.eval, Array.getElem?_setIfInBounds]
end
def RD (b3 b7 b8 b9 b10 b11 : Bool) : List Nat :=
 (if b3 then [] else [3]) ++ (if b7 then [] else [7]) ++ (if b8 then [] else [8]) ++ (if b9 then [] else [9]) ++ (if b10 = false ∧ b3 = true ∧ b8 = true ∧ b9 = true then [10] else []) ++ (if b11 = false ∧ b10 = true ∧ b3 = true ∧ b7 = true ∧ b8 = true ∧ b9 = true then [11] else [])
def cntF (b3 b7 b8 b9 b10 b11 : Bool) : Nat := (!b3).toNat + (!b7).toNat + (!b8).toNat + (!b9).toNat + (!b10).toNat + (!b11).toNat
theorem is_make (a : Act) (o : Oper) (n : Nat) (hn : n ≤ 80) (x y : Operand) (ho : o.op = .makeSlice 23 x y) (hx : a.eval x = .int .i64 (n : Int)) (hy : a.eval y = .int .i64 (n : Int)) (w0 w : World) (hw : w0.heap.size ≤ w.heap.size) :
  ∃ w1 v, (execOp a.eval o).run Try.prog w = .ok (.value v) w1 ∧ RI w0 w1 v (List.replicate n 0) ∧ (∃ g, v = .slice (some ⟨g, 0, none⟩) n n ∧ w.heap.size ≤ g) ∧ Below w.heap.size w w1 := by
 have hr := print_make (P := Try.prog) 23 3 .i64 8 (by kernel_rfl) (by kernel_rfl) (by decide) n (by omega) w
 refine ⟨w.alloc (.cells (madeCells #[.int .i64 0] n) 3), .slice (some ⟨w.heap.size, 0, none⟩) n n, by simp [execOp, ho, hx, hy, hr], ?_, ⟨_, rfl, Nat.le_refl _⟩, below_alloc (Below.refl _ _) _⟩
 exact Kd.R_of_own (own_made' w w0.heap.size 3 .i64 n hw (by omega)) (fun _ _ => trivial)
theorem is_alloc (a : Act) (o : Oper) (ho : o.op = .alloc 23) (w : World) :
  ∃ u, (execOp a.eval o).run Try.prog w = .ok (.value (.pointer (some ⟨w.heap.size, 0, none⟩))) (w.alloc (.cells #[u] 23)) := by
 have hu := Try.underlying23
 refine ⟨.slice none 0 0, ?_⟩
 simp only [execOp, ho]
 go_simp
theorem is_store (a : Act) (o : Oper) (x y : Operand) (ho : o.op = .store 23 x y) (w : World) (b : Nat) (u : Value) (g n : Nat) (hx : a.eval x = .pointer (some ⟨b, 0, none⟩)) (hy : a.eval y = .slice (some ⟨g, 0, none⟩) n n) (hb : w.heap[b]? = some (.cells #[u] 23 (0, 0))) :
  (execOp a.eval o).run Try.prog w = .ok .skip (w.setCell ⟨b, 0, none⟩ (.slice (some ⟨g, 0, none⟩) n n)) := by
 have h1 : w.cell? ⟨b, 0, none⟩ = some u := (blk_cell hb 0).trans rfl
 have h2 : w.frozen? ⟨b, 0, none⟩ = false := blk_frozen hb 0
 simp only [execOp, ho, hx, hy]
 go_simp
theorem reg_any {ops : Array Oper} {Q : Exit → Act → World → Prop} {S : World → Prop} {w0 : World} {gb n : Nat} {box : Array Value} {t0 : Array Value} {d : List Deferred} (hn : n ≤ 80) (hsz : 38 < t0.size)
  (hrd : ∀ b3 b7 b8 b9 b10 b11, Region.ready .any ops #[true, true, true, b3, true, true, true, b7, b8, b9, b10, b11] = RD b3 b7 b8 b9 b10 b11)
  (h3 : ∃ o, ops[3]? = some o ∧ o.op = .makeSlice 23 (.tmp 33) (.tmp 33) ∧ o.dst = some 34 ∧ o.guard = none) (h7 : ∃ o, ops[7]? = some o ∧ o.op = .makeSlice 23 (.tmp 37) (.tmp 37) ∧ o.dst = some 38 ∧ o.guard = none)
  (h8 : ∃ o, ops[8]? = some o ∧ o.op = .alloc 23 ∧ o.dst = some 3 ∧ o.guard = none) (h9 : ∃ o, ops[9]? = some o ∧ o.op = .alloc 23 ∧ o.dst = some 4 ∧ o.guard = none)
  (h10 : ∃ o, ops[10]? = some o ∧ o.op = .store 23 (.tmp 3) (.tmp 34) ∧ o.dst = none ∧ o.guard = none) (h11 : ∃ o, ops[11]? = some o ∧ o.op = .store 23 (.tmp 4) (.tmp 38) ∧ o.dst = none ∧ o.guard = none)
  (he33 : (Act.mk t0 d).eval (.tmp 33) = .int .i64 (n : Int)) (he37 : (Act.mk t0 d).eval (.tmp 37) = .int .i64 (n : Int))
  (hS : ∀ w', w'.heap[gb]? = some (.cells box 25 (0, 0)) → S w')
  (hQ : ∀ x34 x38 x3 x4 w', JS w0 gb n box true true true true true true x34 x38 x3 x4 w' → Q .normal (act4 t0 d x34 x38 x3 x4) w') :
  ∀ (fuel : Nat) (b3 b7 b8 b9 b10 b11 : Bool) (x34 x38 x3 x4 : Value) (w : World), cntF b3 b7 b8 b9 b10 b11 = fuel → JS w0 gb n box b3 b7 b8 b9 b10 b11 x34 x38 x3 x4 w →
   wpAnyLast Try.prog .any ops Q S [] fuel #[true, true, true, b3, true, true, true, b7, b8, b9, b10, b11] (act4 t0 d x34 x38 x3 x4) w := by
 have hnil : ∀ b3 b7 b8 b9 b10 b11 : Bool, RD b3 b7 b8 b9 b10 b11 = [] → b3 = true ∧ b7 = true ∧ b8 = true ∧ b9 = true ∧ b10 = true ∧ b11 = true := by decide
 have h0 : ∀ b3 b7 b8 b9 b10 b11 : Bool, cntF b3 b7 b8 b9 b10 b11 = 0 → b3 = true ∧ b7 = true ∧ b8 = true ∧ b9 = true ∧ b10 = true ∧ b11 = true := by decide
 have hmem0 : ∀ b3 b7 b8 b9 b10 b11 : Bool, (RD b3 b7 b8 b9 b10 b11).all (fun i => decide ((i = 3 ∧ b3 = false) ∨ (i = 7 ∧ b7 = false) ∨ (i = 8 ∧ b8 = false) ∨ (i = 9 ∧ b9 = false) ∨ (i = 10 ∧ b10 = false ∧ b3 = true ∧ b8 = true ∧ b9 = true) ∨ (i = 11 ∧ b11 = false ∧ b10 = true ∧ b3 = true ∧ b7 = true ∧ b8 = true ∧ b9 = true))) = true := by decide
 have hmem : ∀ b3 b7 b8 b9 b10 b11 : Bool, ∀ i ∈ RD b3 b7 b8 b9 b10 b11, (i = 3 ∧ b3 = false) ∨ (i = 7 ∧ b7 = false) ∨ (i = 8 ∧ b8 = false) ∨ (i = 9 ∧ b9 = false) ∨ (i = 10 ∧ b10 = false ∧ b3 = true ∧ b8 = true ∧ b9 = true) ∨ (i = 11 ∧ b11 = false ∧ b10 = true ∧ b3 = true ∧ b7 = true ∧ b8 = true ∧ b9 = true) := fun b3 b7 b8 b9 b10 b11 i hi => of_decide_eq_true (List.all_eq_true.1 (hmem0 b3 b7 b8 b9 b10 b11) i hi)
 intro fuel
 induction fuel with
 | zero =>
  intro b3 b7 b8 b9 b10 b11 x34 x38 x3 x4 w hc hj
  obtain ⟨rfl, rfl, rfl, rfl, rfl, rfl⟩ := h0 _ _ _ _ _ _ hc
  exact ⟨by rw [hrd]; rfl, hQ _ _ _ _ _ hj⟩
 | succ fuel ih =>
  intro b3 b7 b8 b9 b10 b11 x34 x38 x3 x4 w hc hj
  refine ⟨fun hr => ?_, fun i hi => ?_⟩
  ·rw [hrd] at hr
   obtain ⟨rfl, rfl, rfl, rfl, rfl, rfl⟩ := hnil _ _ _ _ _ _ hr
   exact hQ _ _ _ _ _ hj
  ·rw [hrd] at hi
   obtain ⟨e34, e38, e3, e4⟩ := act4_e (d := d) (x34 := x34) (x38 := x38) (x3 := x3) (x4 := x4) hsz
   obtain ⟨f33, f37⟩ := act4_f (t0 := t0) (d := d) (x34 := x34) (x38 := x38) (x3 := x3) (x4 := x4)
   rcases hmem _ _ _ _ _ _ i hi with ⟨rfl, rfl⟩ | ⟨rfl, rfl⟩ | ⟨rfl, rfl⟩ | ⟨rfl, rfl⟩ | ⟨rfl, rfl, rfl, rfl, rfl⟩ | ⟨rfl, rfl, rfl, rfl, rfl, rfl, rfl⟩
   ·obtain ⟨o, ho, hop, hd, hg⟩ := h3
    obtain ⟨w1, v, hrun, hri, hgv, hb⟩ := is_make (act4 t0 d x34 x38 x3 x4) o n hn _ _ hop (f33.trans he33) (f33.trans he33) w0 w hj.below.size
    have hj' := hj.s3 hri hgv hb
    simp only [wpOp, ho, Region.wanted, hg, if_true]
    refine Or.inl ?_
    rw [Oper.wp, hrun, Oper.upon_value, hd, act4_34]
    exact ⟨fun _ _ => hS _ hj'.box_, ih _ _ _ _ _ _ _ _ _ _ _ (by simp [cntF] at hc ⊢; omega) hj'⟩
   ·obtain ⟨o, ho, hop, hd, hg⟩ := h7
    obtain ⟨w1, v, hrun, hri, hgv, hb⟩ := is_make (act4 t0 d x34 x38 x3 x4) o n hn _ _ hop (f37.trans he37) (f37.trans he37) w0 w hj.below.size
    have hj' := hj.s7 hri hgv hb
    simp only [wpOp, ho, Region.wanted, hg, if_true]
    refine Or.inl ?_
    rw [Oper.wp, hrun, Oper.upon_value, hd, act4_38]
    exact ⟨fun _ _ => hS _ hj'.box_, ih _ _ _ _ _ _ _ _ _ _ _ (by simp [cntF] at hc ⊢; omega) hj'⟩
   ·obtain ⟨o, ho, hop, hd, hg⟩ := h8
    obtain ⟨u, hrun⟩ := is_alloc (act4 t0 d x34 x38 x3 x4) o hop w
    have hj' := hj.s8 u
    simp only [wpOp, ho, Region.wanted, hg, if_true]
    refine Or.inl ?_
    rw [Oper.wp, hrun, Oper.upon_value, hd, act4_3]
    exact ⟨fun _ _ => hS _ hj'.box_, ih _ _ _ _ _ _ _ _ _ _ _ (by simp [cntF] at hc ⊢; omega) hj'⟩
   ·obtain ⟨o, ho, hop, hd, hg⟩ := h9
    obtain ⟨u, hrun⟩ := is_alloc (act4 t0 d x34 x38 x3 x4) o hop w
    have hj' := hj.s9 u
    simp only [wpOp, ho, Region.wanted, hg, if_true]
    refine Or.inl ?_
    rw [Oper.wp, hrun, Oper.upon_value, hd, act4_4]
    exact ⟨fun _ _ => hS _ hj'.box_, ih _ _ _ _ _ _ _ _ _ _ _ (by simp [cntF] at hc ⊢; omega) hj'⟩
   ·obtain ⟨o, ho, hop, hd, hg⟩ := h10
    obtain ⟨bl, u, rfl, g1, g2, g3⟩ := hj.c3 rfl
    obtain ⟨_, g, rfl⟩ := hj.r34 rfl
    have hrun := is_store (act4 t0 d (.slice (some ⟨g, 0, none⟩) n n) x38 (.pointer (some ⟨bl, 0, none⟩)) x4) o _ _ hop w bl u g n e3 e34 g2
    have hj' := hj.s10
    simp only [wpOp, ho, Region.wanted, hg, if_true]
    refine Or.inl ?_
    rw [Oper.wp, hrun, Oper.upon_skip, hd]
    exact ⟨fun _ _ => hS _ hj'.box_, ih _ _ _ _ _ _ _ _ _ _ _ (by simp [cntF] at hc ⊢; omega) hj'⟩
   ·obtain ⟨o, ho, hop, hd, hg⟩ := h11
    obtain ⟨bl, u, rfl, g1, g2, g3⟩ := hj.c4 rfl
    obtain ⟨_, g, rfl⟩ := hj.r38 rfl
    have hrun := is_store (act4 t0 d x34 (.slice (some ⟨g, 0, none⟩) n n) x3 (.pointer (some ⟨bl, 0, none⟩))) o _ _ hop w bl u g n e4 e38 g2
    have hj' := hj.s11
    simp only [wpOp, ho, Region.wanted, hg, if_true]
    refine Or.inl ?_
    rw [Oper.wp, hrun, Oper.upon_skip, hd]
    exact ⟨fun _ _ => hS _ hj'.box_, ih _ _ _ _ _ _ _ _ _ _ _ (by simp [cntF] at hc ⊢; omega) hj'⟩
end Go.Proofs.Ytacfalpgmibfnaa.PCow
namespace Go.Proofs.Ytacfalpgmibfnaa.PCow
open Go.RowKit Go.Proofs.YtacfalpgmibfnaaW.PrintWords Go.Proofs.YtacfalpgmibfnaaW.PrintLast Go.Proofs.YtacfalpgmibfnaaW.PrintMore Go.Proofs.Ytacfalpgmibfnaa.E
set_option linter.unusedSimpArgs false
set_option linter.unusedVariables false
theorem referM_len (C : List S68) (k own : Int) (cnt lev line : List Int) : (referM C k own cnt lev line).2.1.length = cnt.length ∧ (referM C k own cnt lev line).2.2.1.length = lev.length := by
 unfold referM
 (repeat' split) <;> simp
theorem act4_of (t0 : Array Value) (d : List Deferred) (h34 : t0[34]? = some undef) (h38 : t0[38]? = some undef) (h3 : t0[3]? = some undef) (h4 : t0[4]? = some undef) : Act.mk t0 d = act4 t0 d undef undef undef undef := by
 simp only [act4, Act.mk.injEq, and_true]
 refine Array.ext_getElem? (fun i => ?_)
 simp only [Array.getElem?_setIfInBounds, Array.size_setIfInBounds]
 by_cases e4 : 4 = i
 ·subst e4; rw [h4]; simp; have := (Array.getElem?_eq_some_iff.1 h4).1; omega
 by_cases e3 : 3 = i
 ·subst e3; rw [h3]; simp; have := (Array.getElem?_eq_some_iff.1 h3).1; omega
 by_cases e38 : 38 = i
 ·subst e38; rw [h38]; simp; have := (Array.getElem?_eq_some_iff.1 h38).1; omega
 by_cases e34 : 34 = i
 ·subst e34; rw [h34]; simp; have := (Array.getElem?_eq_some_iff.1 h34).1; omega
 simp [e4, e3, e38, e34]
abbrev St := List Int × List Int × List Int
def loopS (F : Int → St → Option (Bool × St)) : List Int → St → Option (Bool × St)
 | [], s => some (true, s)
 | q :: r, s => (F q s).bind fun t => if t.1 = true then loopS F r t.2 else some (false, t.2)
def rootF (C : List S68) (L k : Int) (s : St) : Option (Bool × St) := if s.2.2.length ≤ 1000000 then some (referM C k L s.1 s.2.1 s.2.2) else none
def kidF (C : List S68) (i : Int) (k : Int) (s : St) : Option (Bool × St) :=
 if s.2.2.length ≤ 1000000 ∧ i < (s.2.2.length : Int) ∧ 0 ≤ rd s.2.2 i ∧ rd s.2.2 i < (C.length : Int) then some (referM C k (wrap64 (rd s.2.1 (rd s.2.2 i) - 1)) s.1 s.2.1 s.2.2) else none
def lineM (C : List S68) : Nat → Nat → St → Option (Bool × St)
 | 0, _, _ => none
 | f + 1, i, s =>
  if (i : Int) < (s.2.2.length : Int) then
   (if s.2.2.length ≤ 1000000 ∧ 0 ≤ rd s.2.2 (i : Int) ∧ rd s.2.2 (i : Int) < (C.length : Int) then
    (loopS (kidF C (i : Int)) (rd_T68 C (rd s.2.2 (i : Int))).f2 s).bind fun t => if t.1 = true then lineM C f (i + 1) t.2 else some (false, t.2)
   else none)
  else some (true, s)
def okEnd (x : S68) (c : Int) : Bool := if x.f0 = c then (if x.f0 = 0 then (if x.f1.size = 0 then decide (x.f2.length = 0) else false) else true) else false
def endM (C : List S68) (cnt : List Int) : Nat → Nat → Bool
 | 0, _ => true
 | f + 1, i => if okEnd (rd_T68 C (i : Int)) (rd cnt (i : Int)) = true then endM C cnt f (i + 1) else false
def inR (a b c : Int) : Bool := decide (b ≤ a ∧ a ≤ c)
theorem within_inR (a b c : Int) : impl_within.f a b c = some (inR a b c) := within_dec a b c
def finM (C : List S68) (fuel : Nat) (t : Bool × St) : Option Bool := if t.1 = true then ((lineM C fuel 0 t.2).bind fun q => if q.1 = true then some (endM C q.2.1 C.length 0) else some false) else some false
def goodC (fuel : Nat) (C : List S68) (roots : List Int) (L : Int) : Option Bool :=
 if inR L 1 3 = true then (if (C.length : Int) > 80 then some false else if inR (roots.length : Int) 1 8 = true then
  (loopS (rootF C L) roots (List.replicate C.length 0, List.replicate C.length 0, [])).bind fun t => if t.1 = true then
   ((lineM C fuel 0 t.2).bind fun q => if q.1 = true then some (endM C q.2.1 C.length 0) else some false) else some false
  else some false) else some false
set_option maxHeartbeats 4000000 in
set_option maxRecDepth 100000 in
theorem goodC_calls (fuel : Nat) (A0 : Option Addr) (c0 : Nat) (C : List S68) (A1 : Option Addr) (c1 : Nat) (roots : List Int) (L : Int) (r : Bool) (w : World) (hr0 : Kd.C k68 w A0 C.length C) (hc0 : C.length ≤ c0) (hr1 : (Kd.int .i64).C w A1 roots.length roots) (hc1 : roots.length ≤ c1) (h : goodC fuel C roots L = some r) :
  Calls Try.prog 22 #[.agg #[.slice A0 C.length c0, .slice A1 roots.length c1, .int .i64 L]] w fun e w' => e = .returned (.bool r) ∧ Below w.heap.size w w' := by
 have hu25 := Try.underlying25
 have hu68 := Try.underlying68
 have HR0 := Aside0.mk hr0
 have HR1 := Aside0.mk hr1
 have H := Aside0.mk h
 have hn0 : C.length ≤ 9223372036854775807 := hr0.2.1
 have hn1 : roots.length ≤ 9223372036854775807 := hr1.2.1
 clear hr0 hr1 h
 cases hL : inR L 1 3 with
 | false =>
  have hr : r = false := by have := H.out; unfold goodC at this; rw [hL, if_neg (by simp)] at this; exact (Option.some.inj this).symm
  subst hr
  go_enter Try.func22, Try.ntmps22
  go_wp2_with (go_at_call 45; refine (impl_within.calls _ _ _ _ _ (within_inR L 1 3)).mono ?_)
  (first | rintro e w' rfl ⟨⟨nd, rfl⟩⟩ | rintro e w' ⟨rfl, ⟨⟨nd, rfl⟩⟩⟩)
  go_wp2
  go_ret
  exact ⟨rfl, pw_below_drewN ((Below.refl _ _).alloc (Nat.le_refl _) _) nd⟩
 | true =>
  by_cases h80 : (C.length : Int) > 80
  ·have hr : r = false := by have := H.out; unfold goodC at this; rw [hL, if_pos rfl, if_pos h80] at this; exact (Option.some.inj this).symm
   subst hr
   have hd : decide (80 < (C.length : Int)) = true := decide_eq_true h80
   clear h80
   go_enter Try.func22, Try.ntmps22
   go_wp2_with (go_at_call 45; refine (impl_within.calls _ _ _ _ _ (within_inR L 1 3)).mono ?_)
   (first | rintro e w' rfl ⟨⟨nd, rfl⟩⟩ | rintro e w' ⟨rfl, ⟨⟨nd, rfl⟩⟩⟩)
   go_wp2
   go_ret
   exact ⟨rfl, pw_below_drewN ((Below.refl _ _).alloc (Nat.le_refl _) _) nd⟩
  ·have hd : decide (80 < (C.length : Int)) = false := decide_eq_false h80
   cases hR8 : inR (roots.length : Int) 1 8 with
   | false =>
    have hr : r = false := by have := H.out; unfold goodC at this; rw [hL, if_pos rfl, if_neg h80, hR8, if_neg (by simp)] at this; exact (Option.some.inj this).symm
    subst hr
    clear h80
    go_enter Try.func22, Try.ntmps22
    go_wp2_with (go_at_call 45; refine (impl_within.calls _ _ _ _ _ (within_inR L 1 3)).mono ?_)
    (first | rintro e w' rfl ⟨⟨nd, rfl⟩⟩ | rintro e w' ⟨rfl, ⟨⟨nd, rfl⟩⟩⟩)
    go_wp2_with (go_at_call 45; refine (impl_within.calls _ _ _ _ _ (within_inR (roots.length : Int) 1 8)).mono ?_)
    (first | rintro e w' rfl ⟨⟨nd2, rfl⟩⟩ | rintro e w' ⟨rfl, ⟨⟨nd2, rfl⟩⟩⟩)
    go_wp2
    go_ret
    exact ⟨rfl, by first | exact pw_below_drewN (pw_below_drewN ((Below.refl _ _).alloc (Nat.le_refl _) _) nd) nd2 | exact pw_below_drewN ((Below.refl _ _).alloc (Nat.le_refl _) _) _⟩
   | true =>
    have H2 := Aside0.mk (show ((loopS (rootF C L) roots (List.replicate C.length 0, List.replicate C.length 0, [])).bind fun t => if t.1 = true then ((lineM C fuel 0 t.2).bind fun q => if q.1 = true then some (endM C q.2.1 C.length 0) else some false) else some false) = some r by
     have := H.out
     unfold goodC at this
     rwa [hL, if_pos rfl, if_neg h80, hR8, if_pos rfl] at this)
    have H80 := Aside0.mk (show (C.length : Int) ≤ 80 by omega)
    clear h80 H
    go_enter Try.func22, Try.ntmps22
    go_wp2_with (go_at_call 45; refine (impl_within.calls _ _ _ _ _ (within_inR L 1 3)).mono ?_)
    (first | rintro e w' rfl ⟨⟨nd, rfl⟩⟩ | rintro e w' ⟨rfl, ⟨⟨nd, rfl⟩⟩⟩)
    go_wp2_with (go_at_call 45; refine (impl_within.calls _ _ _ _ _ (within_inR (roots.length : Int) 1 8)).mono ?_)
    (first | rintro e w' rfl ⟨⟨nd2, rfl⟩⟩ | rintro e w' ⟨rfl, ⟨⟨nd2, rfl⟩⟩⟩)
    go_wp2
    have hb1 : Below w.heap.size w ((w.alloc (.cells #[.slice A0 C.length c0, .slice A1 roots.length c1, .int .i64 L] 25)).drewN (nd + nd2)) := pw_below_drewN ((Below.refl _ _).alloc (Nat.le_refl _) _) _
    have hx1 : ((w.alloc (.cells #[.slice A0 C.length c0, .slice A1 roots.length c1, .int .i64 L] 25)).drewN (nd + nd2)).heap[w.heap.size]? = some (.cells #[.slice A0 C.length c0, .slice A1 roots.length c1, .int .i64 L] 25 (0, 0)) := blk_drewN (blk_new _ _) _
    generalize ((w.alloc (.cells #[.slice A0 C.length c0, .slice A1 roots.length c1, .int .i64 L] 25)).drewN (nd + nd2)) = w1 at hb1 hx1 ⊢
    have HB1 := Aside0.mk hb1
    have HX1 := Aside0.mk hx1
    clear hb1 hx1
    refine start_ (n := 12) (S := fun w' => w'.cell? ⟨w.heap.size, 0, none⟩ = some (.slice A0 C.length c0)) (ds := []) #[false, false, false, false, false, false, false, false, false, false, false, false] (by kernel_rfl) rfl rfl ((blk_cell HX1.out 0).trans rfl) (fun hHeld => ?_)
    have HB2 := Aside0.mk (below_drew HB1.out)
    have HX2 := Aside0.mk (blk_drew HX1.out)
    clear HB1 HX1
    generalize w1.drew = w2 at HB2 HX2 hHeld ⊢
    refine take_ (i := 0) (N := some 31) (v := ?_) (a' := ?_) #[true, false, false, false, false, false, false, false, false, false, false, false] rfl rfl (by kernel_rfl) (fun _ _ _ h => h) (Or.inl ⟨by rfl, ?_⟩) hHeld ?_ ?_
    rotate_left
    ·rintro w' s0
     go_simp
     with_reducible rfl
    rotate_left
    ·simp only [Act.put, List.setIfInBounds_toArray, List.set_cons_zero, List.set_cons_succ, i64_w, i32_w]
     rfl
    refine take_ (i := 1) (N := some 32) (v := ?_) (a' := ?_) #[true, true, false, false, false, false, false, false, false, false, false, false] rfl rfl (by kernel_rfl) (fun _ _ _ h => h) (Or.inl ⟨by rfl, ?_⟩) hHeld ?_ ?_
    rotate_left
    ·rintro w' s0
     go_simp
     with_reducible rfl
    rotate_left
    ·simp only [Act.put, List.setIfInBounds_toArray, List.set_cons_zero, List.set_cons_succ, i64_w, i32_w]
     rfl
    refine take_ (i := 2) (N := some 33) (v := ?_) (a' := ?_) #[true, true, true, false, false, false, false, false, false, false, false, false] rfl rfl (by kernel_rfl) (fun _ _ _ h => h) (Or.inl ⟨by rfl, ?_⟩) hHeld ?_ ?_
    rotate_left
    ·rintro w' s0
     go_simp
     with_reducible rfl
    rotate_left
    ·simp only [Act.put, List.setIfInBounds_toArray, List.set_cons_zero, List.set_cons_succ, i64_w, i32_w]
     rfl
    refine take_ (i := 4) (N := some 35) (v := ?_) (a' := ?_) #[true, true, true, false, true, false, false, false, false, false, false, false] rfl rfl (by kernel_rfl) (fun _ _ _ h => h) (Or.inl ⟨by rfl, ?_⟩) hHeld ?_ ?_
    rotate_left
    ·rintro w' s0
     go_simp
     with_reducible rfl
    rotate_left
    ·simp only [Act.put, List.setIfInBounds_toArray, List.set_cons_zero, List.set_cons_succ, i64_w, i32_w]
     rfl
    refine take_ (i := 5) (N := some 36) (v := ?_) (a' := ?_) #[true, true, true, false, true, true, false, false, false, false, false, false] rfl rfl (by kernel_rfl) (fun _ _ _ h => h) (Or.inl ⟨by rfl, ?_⟩) hHeld ?_ ?_
    rotate_left
    ·rintro w' s0
     go_simp
     with_reducible rfl
    rotate_left
    ·simp only [Act.put, List.setIfInBounds_toArray, List.set_cons_zero, List.set_cons_succ, i64_w, i32_w]
     rfl
    refine take_ (i := 6) (N := some 37) (v := ?_) (a' := ?_) #[true, true, true, false, true, true, true, false, false, false, false, false] rfl rfl (by kernel_rfl) (fun _ _ _ h => h) (Or.inl ⟨by rfl, ?_⟩) hHeld ?_ ?_
    rotate_left
    ·rintro w' s0
     go_simp
     with_reducible rfl
    rotate_left
    ·simp only [Act.put, List.setIfInBounds_toArray, List.set_cons_zero, List.set_cons_succ, i64_w, i32_w]
     rfl
    refine norm_ (act4_of _ _ rfl rfl rfl rfl) ?_
    refine reg_any (w0 := w) (gb := w.heap.size) (n := C.length) (box := #[.slice A0 C.length c0, .slice A1 roots.length c1, .int .i64 L]) (by have := H80.out; omega) (by simp) (by
     intro b3 b7 b8 b9 b10 b11
     cases b3 <;> cases b7 <;> cases b8 <;> cases b9 <;> cases b10 <;> cases b11 <;> kernel_rfl) ⟨_, rfl, rfl, rfl, rfl⟩ ⟨_, rfl, rfl, rfl, rfl⟩ ⟨_, rfl, rfl, rfl, rfl⟩ ⟨_, rfl, rfl, rfl, rfl⟩ ⟨_, rfl, rfl, rfl, rfl⟩ ⟨_, rfl, rfl, rfl, rfl⟩ rfl rfl
     (fun w' hw' => (blk_cell hw' 0).trans rfl) ?_ 6 false false false false false false undef undef undef undef _ rfl
     ⟨HB2.out, HX2.out, by simp, by simp, by simp, by simp, by simp, by simp, by simp, by simp⟩
    intro x34 x38 x3 x4 w3 hj
    obtain ⟨hrl, gl, rfl⟩ := hj.r34 rfl
    obtain ⟨hrc, gc, rfl⟩ := hj.r38 rfl
    obtain ⟨bl, u1, rfl, hbl, hbl2, hu1⟩ := hj.c3 rfl
    obtain ⟨bc, u2, rfl, hbc, hbc2, hu2⟩ := hj.c4 rfl
    obtain rfl := hu1 rfl
    obtain rfl := hu2 rfl
    have hne := hj.ne rfl rfl
    have hnb : bl ≠ bc := fun e => hj.ne34 rfl rfl (by rw [e])
    have J := Aside0.mk hj
    clear hj
    simp only [act4, List.setIfInBounds_toArray, List.set_cons_zero, List.set_cons_succ]
    clear hu1 hu2 H80 hR8 HB2 HX2 hHeld
    have hcl : gc < w3.heap.size := Kd.R_lt hrc gc rfl
    have hll : gl < w3.heap.size := Kd.R_lt hrl gl rfl
    have hbcl : bc < w3.heap.size := blk_lt hbc2
    have hbll : bl < w3.heap.size := blk_lt hbl2
    have Hbx : ((w3.alloc (.cells #[] 3)).alloc (.cells #[.slice (some ⟨w3.heap.size, 0, none⟩) 0 0] 23)).cell? ⟨w.heap.size, 1, none⟩ = some (.slice A1 roots.length c1) := (blk_cell (blk_alloc (blk_alloc J.out.box_ _) _) 1).trans rfl
    have hRS : RS w w.heap.size bc bl (w3.heap.size + 1) #[.slice A0 C.length c0, .slice A1 roots.length c1, .int .i64 L] (.slice (some ⟨gc, 0, none⟩) C.length C.length) (.slice (some ⟨gl, 0, none⟩) C.length C.length) ((w3.alloc (.cells #[] 3)).alloc (.cells #[.slice (some ⟨w3.heap.size, 0, none⟩) 0 0] 23)) (List.replicate C.length 0) (List.replicate C.length 0) [] := by
     have hbs : w.heap.size ≤ w3.heap.size := J.out.below.size
     have hsz : (w3.alloc (.cells #[] 3)).heap.size = w3.heap.size + 1 := Array.size_push _
     refine ⟨below_alloc (below_alloc J.out.below _) _, blk_alloc (blk_alloc J.out.box_ _) _, blk_alloc (blk_alloc hbc2 _) _, blk_alloc (blk_alloc hbl2 _) _, ⟨.slice (some ⟨w3.heap.size, 0, none⟩) 0 0, ?_, ?_, ?_, ?_⟩, Kd.R_alloc (Kd.R_alloc hrc _) _, Kd.R_alloc (Kd.R_alloc hrl _) _, ne_symm hne, fun e => hnb e.symm, by omega, by omega, hbc, hbl, by omega⟩
     ·rw [← hsz]; exact blk_new _ _
     ·exact Kd.R_alloc (Kd.R_of_own (World.ownsRow_made w3 #[] 0 hbs (Nat.zero_le _) rfl) (fun _ _ => trivial)) _
     ·intro k hk hk2
      simp [Value.ownBlock] at hk hk2
      omega
     ·intro k hk hk2
      simp [Value.ownBlock] at hk hk2
      omega
    have HRS := Aside0.mk hRS
    have H3 := Aside0.mk (show (loopS (rootF C L) roots (List.replicate C.length 0, List.replicate C.length 0, [])).bind (finM C fuel) = some r from H2.out)
    clear hRS H2 J hrl hrc hbl2 hbc2 hne hnb hcl hll hbcl hbll hbl hbc
    go_wp2
    generalize (w3.alloc (.cells #[] 3)).alloc (.cells #[.slice (some ⟨w3.heap.size, 0, none⟩) 0 0] 23) = w4 at HRS Hbx ⊢
    obtain ⟨bn, hbn⟩ : ∃ b, w3.heap.size + 1 = b := ⟨_, rfl⟩
    rw [hbn] at HRS
    simp only [hbn]
    clear hbn Hbx
    go_loopw [44] (fun vi wr => ∃ (q : Nat) (s : St), q ≤ roots.length ∧ vi = .int .i64 q ∧ Aside0 ((loopS (rootF C L) (roots.drop q) s).bind (finM C fuel) = some r) ∧ Aside0 (RS w w.heap.size bc bl bn #[.slice A0 C.length c0, .slice A1 roots.length c1, .int .i64 L] (.slice (some ⟨gc, 0, none⟩) C.length C.length) (.slice (some ⟨gl, 0, none⟩) C.length C.length) wr s.1 s.2.1 s.2.2) ∧ Aside0 (s.1.length = C.length) ∧ Aside0 (s.2.1.length = C.length)) (fun vi _ => roots.length - (intOf vi).toNat)
    case atStart => exact ⟨0, (_, _, _), Nat.zero_le _, rfl, ⟨by rw [List.drop_zero]; exact H3.out⟩, HRS, ⟨by simp⟩, ⟨by simp⟩⟩
    case round =>
     clear HRS H3
     obtain ⟨q, ⟨cnt, lev, line⟩, hq, rfl, HL, S, L1, L2⟩ := hrel
     by_cases hql : q < roots.length
     ·obtain ⟨ad2, e3, hy⟩ := Kd.at_int (Kd.C_below HR1.out S.out.below) (q : Int) (by omega) (by omega)
      subst e3
      simp only [Int.toNat_natCast] at hy
      obtain ⟨z, hz⟩ : ∃ z, rd roots (q : Int) = z := ⟨_, rfl⟩
      rw [hz] at hy
      have hd : roots.drop q = z :: roots.drop (q + 1) := by
       rw [List.drop_eq_getElem_cons hql, ← hz]
       congr 1
       unfold rd
       rw [List.getD_eq_getElem?_getD, Int.toNat_natCast, List.getElem?_eq_getElem hql]
       rfl
      have HL2 := Aside0.mk (show ((rootF C L z (cnt, lev, line)).bind fun t => if t.1 = true then loopS (rootF C L) (roots.drop (q + 1)) t.2 else some (false, t.2)).bind (finM C fuel) = some r by
       have := HL.out
       rw [hd] at this
       exact this)
      have hline : line.length ≤ 1000000 := by
       have := HL2.out
       unfold rootF at this
       by_cases hh : line.length ≤ 1000000
       ·exact hh
       ·rw [if_neg (by simpa using hh)] at this
        simp at this
      have HL3 := Aside0.mk (show (if (referM C z L cnt lev line).1 = true then loopS (rootF C L) (roots.drop (q + 1)) (referM C z L cnt lev line).2 else some (false, (referM C z L cnt lev line).2)).bind (finM C fuel) = some r by
       have := HL2.out
       unfold rootF at this
       rw [if_pos (by simpa using hline)] at this
       exact this)
      have hcall := Aside0.mk (refer_calls C w w.heap.size bc bl bn A0 c0 (some ad2) roots.length c1 L _ _ wr cnt lev line z L HR0.out S.out L1.out L2.out (by omega))
      have hqq : ((q : Int) < (roots.length : Int)) = True := eq_true (by omega)
      have e2 : wr.cell? ⟨w.heap.size, 2, none⟩ = some (.int .i64 L) := (blk_cell S.out.box_ _).trans rfl
      clear HL HL2 hd hline hz
      have hlen := referM_len C z L cnt lev line
      obtain ⟨⟨b, cnt1, lev1, line1⟩, hR⟩ : ∃ t, referM C z L cnt lev line = t := ⟨_, rfl⟩
      rw [hR] at hcall HL3 hlen
      have L1' := Aside0.mk (hlen.1.trans L1.out)
      have L2' := Aside0.mk (hlen.2.trans L2.out)
      clear hR hlen
      go_wp2_with (go_at_call 58; (with_reducible refine hcall.out.mono ?_))
      (first | rintro e w5 rfl hS5 | rintro e w5 ⟨rfl, hS5⟩)
      have S5 := Aside0.mk hS5
      clear hS5 hcall e2 hy
      cases b with
      | true =>
       have H4 := Aside0.mk (show (loopS (rootF C L) (roots.drop (q + 1)) (cnt1, lev1, line1)).bind (finM C fuel) = some r from HL3.out)
       go_wp2
       go_roundw
       case rel => exact ⟨q + 1, (cnt1, lev1, line1), hql, by go_num, H4, S5, L1', L2'⟩
       case measure => simp [intOf]; omega
      | false =>
       have H4 : some false = some r := HL3.out
       simp only [Option.some.injEq] at H4
       subst H4
       clear HL3
       go_wp2
       go_ret
       exact ⟨rfl, S5.out.below⟩
     ·have hqq : ((q : Int) < (roots.length : Int)) = False := eq_false (by omega)
      have H4 := Aside0.mk (show finM C fuel (true, (cnt, lev, line)) = some r by
       have := HL.out
       rw [List.drop_of_length_le (by omega)] at this
       exact this)
      have H5 := Aside0.mk (show ((lineM C fuel 0 (cnt, lev, line)).bind fun q => if q.1 = true then some (endM C q.2.1 C.length 0) else some false) = some r from H4.out)
      clear HL H4 hql hq
      obtain ⟨vn, hnb, hnr, hnc, hnl⟩ := S.out.nb
      have NB := Aside0.mk hnb
      have c5 : wr.cell? ⟨bn, 0, none⟩ = some vn := (blk_cell hnb _).trans rfl
      clear hnb hnr hnc hnl
      go_wp2
      clear c5 hqq NB vn
      go_loopg [9] fuel (fun kq vi w5 => ∃ (i : Nat) (s : St), vi = .int .i64 i ∧ Aside0 (((lineM C kq i s).bind fun q => if q.1 = true then some (endM C q.2.1 C.length 0) else some false) = some r) ∧ Aside0 (kq ≤ fuel) ∧ Aside0 (RS w w.heap.size bc bl bn #[.slice A0 C.length c0, .slice A1 roots.length c1, .int .i64 L] (.slice (some ⟨gc, 0, none⟩) C.length C.length) (.slice (some ⟨gl, 0, none⟩) C.length C.length) w5 s.1 s.2.1 s.2.2) ∧ Aside0 (s.1.length = C.length) ∧ Aside0 (s.2.1.length = C.length))
      case atStart => exact ⟨0, (cnt, lev, line), rfl, H5, ⟨Nat.le_refl _⟩, S, L1, L2⟩
      case round =>
       clear S L1 L2 H5 cnt lev line
       obtain ⟨i, ⟨cnt, lev, line⟩, rfl, HL, HK1, S, L1, L2⟩ := hrel
       cases gk with
       | zero => exact absurd HL.out (by simp [lineM])
       | succ k1 =>
        obtain ⟨vn, hnb, hnr, hnc, hnl⟩ := S.out.nb
        have c5 : wr.cell? ⟨bn, 0, none⟩ = some vn := (blk_cell hnb _).trans rfl
        by_cases hil : (i : Int) < (line.length : Int)
        ·have hg : line.length ≤ 1000000 ∧ 0 ≤ rd line (i : Int) ∧ rd line (i : Int) < (C.length : Int) := by
          have h1 := HL.out
          unfold lineM at h1
          rw [if_pos hil] at h1
          by_cases hh : line.length ≤ 1000000 ∧ 0 ≤ rd line (i : Int) ∧ rd line (i : Int) < (C.length : Int)
          ·exact hh
          ·rw [if_neg hh] at h1
           simp at h1
         obtain ⟨k, hk⟩ : ∃ k, rd line (i : Int) = k := ⟨_, rfl⟩
         obtain ⟨x, hx⟩ : ∃ x, rd_T68 C k = x := ⟨_, rfl⟩
         have HLn := Aside0.mk (show ((loopS (kidF C (i : Int)) x.f2 (cnt, lev, line)).bind fun t => if t.1 = true then lineM C k1 (i + 1) t.2 else some (false, t.2)).bind (fun q => if q.1 = true then some (endM C q.2.1 C.length 0) else some false) = some r by
          have h1 := HL.out
          unfold lineM at h1
          rw [if_pos hil, if_pos hg] at h1
          rw [← hx, ← hk]
          exact h1)
         rw [hk] at hg
         obtain ⟨hl6, hk0, hk1⟩ := hg
         obtain ⟨ad, A2, c2, hA0, hx0, hx1, hx2, hxl, hxC⟩ := at_T68 HR0.out k hk0 hk1
         subst hA0
         rw [hx] at hx0 hx1 hx2 hxl hxC
         have hl0 : 0 < line.length := by omega
         obtain ⟨gn, cn, hvn, hgn1, hgn2, csn, hgnb⟩ := Kd.R_form hnr hl0
         subst hvn
         have c6 : wr.cell? ⟨gn, i, none⟩ = some (.int .i64 k) := by
          have := (Kd.R_celln (d := (0 : Int)) hnr (i : Int) (by omega) hil).1
          rw [show rdOf (0 : Int) line (i : Int) = k from hk] at this
          exact this
         have c7 : wr.cell? ⟨w.heap.size, 0, none⟩ = some (.slice (some ad) C.length c0) := (blk_cell S.out.box_ _).trans rfl
         have c8 := pw_cell_below S.out.below hx2
         have hxm : x.f2.length ≤ 9223372036854775807 := hxC.2.1
         have XC := Aside0.mk hxC
         have hi6 : (i : Int) ≤ 1000000 := by omega
         have hp1 : (0 ≤ k) = True := eq_true hk0
         have hp2 : (k < (C.length : Int)) = True := eq_true hk1
         have hp3 : ((i : Int) < (line.length : Int)) = True := eq_true hil
         clear hnb hnr hnc hnl hgn1 hgn2 hgnb hx0 hx1 hx2 hxC HL hil hl6 hk0 hk1 csn
         go_wp2
         go_quiet (fail)
         try go_wp2
         have S1 := Aside0.mk (S.out.below_ (pw_below_drewN (Below.refl _ _) nq))
         clear S c5 c6 c7 c8 hp3 hp1 hp2
         generalize wr.drewN nq = wr1 at S1 ⊢
         go_loopw [71] (fun vi w6 => ∃ (q2 : Nat) (s : St), q2 ≤ x.f2.length ∧ vi = .int .i64 q2 ∧ Aside0 (((loopS (kidF C (i : Int)) (x.f2.drop q2) s).bind fun t => if t.1 = true then lineM C k1 (i + 1) t.2 else some (false, t.2)).bind (fun q => if q.1 = true then some (endM C q.2.1 C.length 0) else some false) = some r) ∧ Aside0 (RS w w.heap.size bc bl bn #[.slice (some ad) C.length c0, .slice A1 roots.length c1, .int .i64 L] (.slice (some ⟨gc, 0, none⟩) C.length C.length) (.slice (some ⟨gl, 0, none⟩) C.length C.length) w6 s.1 s.2.1 s.2.2) ∧ Aside0 (s.1.length = C.length) ∧ Aside0 (s.2.1.length = C.length)) (fun vi _ => x.f2.length - (intOf vi).toNat)
         case atStart => exact ⟨0, (cnt, lev, line), Nat.zero_le _, rfl, ⟨by rw [List.drop_zero]; exact HLn.out⟩, S1, L1, L2⟩
         case round =>
          clear S1 L1 L2 HLn hk
          obtain ⟨q2, ⟨cnt2, lev2, line2⟩, hq2, rfl, HL2, S2, M1, M2⟩ := hrel
          by_cases hql2 : q2 < x.f2.length
          ·obtain ⟨ad2, e3, hy⟩ := Kd.at_int (Kd.C_below XC.out S2.out.below) (q2 : Int) (by omega) (by omega)
           subst e3
           simp only [Int.toNat_natCast] at hy
           obtain ⟨z, hz⟩ : ∃ z, rd x.f2 (q2 : Int) = z := ⟨_, rfl⟩
           rw [hz] at hy
           have hd : x.f2.drop q2 = z :: x.f2.drop (q2 + 1) := by
            rw [List.drop_eq_getElem_cons hql2, ← hz]
            congr 1
            unfold rd
            rw [List.getD_eq_getElem?_getD, Int.toNat_natCast, List.getElem?_eq_getElem hql2]
            rfl
           have HL3 := Aside0.mk (show (((kidF C (i : Int) z (cnt2, lev2, line2)).bind fun t => if t.1 = true then loopS (kidF C (i : Int)) (x.f2.drop (q2 + 1)) t.2 else some (false, t.2)).bind fun t => if t.1 = true then lineM C k1 (i + 1) t.2 else some (false, t.2)).bind (fun q => if q.1 = true then some (endM C q.2.1 C.length 0) else some false) = some r by
            have := HL2.out
            rw [hd] at this
            exact this)
           have hg2 : line2.length ≤ 1000000 ∧ (i : Int) < (line2.length : Int) ∧ 0 ≤ rd line2 (i : Int) ∧ rd line2 (i : Int) < (C.length : Int) := by
            have h1 := HL3.out
            unfold kidF at h1
            by_cases hh : line2.length ≤ 1000000 ∧ (i : Int) < (line2.length : Int) ∧ 0 ≤ rd line2 (i : Int) ∧ rd line2 (i : Int) < (C.length : Int)
            ·exact hh
            ·rw [if_neg (by simpa using hh)] at h1
             simp at h1
           obtain ⟨k2, hk2⟩ : ∃ k2, rd line2 (i : Int) = k2 := ⟨_, rfl⟩
           obtain ⟨own, hown⟩ : ∃ o, wrap64 (rd lev2 k2 - 1) = o := ⟨_, rfl⟩
           have HL4 := Aside0.mk (show ((if (referM C z own cnt2 lev2 line2).1 = true then loopS (kidF C (i : Int)) (x.f2.drop (q2 + 1)) (referM C z own cnt2 lev2 line2).2 else some (false, (referM C z own cnt2 lev2 line2).2)).bind fun t => if t.1 = true then lineM C k1 (i + 1) t.2 else some (false, t.2)).bind (fun q => if q.1 = true then some (endM C q.2.1 C.length 0) else some false) = some r by
            have h1 := HL3.out
            unfold kidF at h1
            rw [if_pos (by simpa using hg2)] at h1
            rw [← hown, ← hk2]
            exact h1)
           rw [hk2] at hg2
           obtain ⟨hl6, hil2, hk0, hk1⟩ := hg2
           obtain ⟨vn2, hnb2, hnr2, hnc2, hnl2⟩ := S2.out.nb
           have hl0 : 0 < line2.length := by omega
           obtain ⟨gn2, cn2, hvn2, hgn3, hgn4, csn2, hgnb2⟩ := Kd.R_form hnr2 hl0
           subst hvn2
           have d2 : wr.cell? ⟨gn2, i, none⟩ = some (.int .i64 k2) := by
            have := (Kd.R_celln (d := (0 : Int)) hnr2 (i : Int) (by omega) hil2).1
            rw [show rdOf (0 : Int) line2 (i : Int) = k2 from hk2] at this
            exact this
           have d1 : wr.cell? ⟨bn, 0, none⟩ = some (.slice (some ⟨gn2, 0, none⟩) line2.length cn2) := (blk_cell hnb2 _).trans rfl
           have d0 : wr.cell? ⟨bl, 0, none⟩ = some (.slice (some ⟨gl, 0, none⟩) C.length C.length) := (blk_cell S2.out.lb _).trans rfl
           have d3 : wr.cell? ⟨gl, k2.toNat, none⟩ = some (.int .i64 (rd lev2 k2)) := (Kd.R_celln (d := (0 : Int)) S2.out.rl k2 hk0 hk1).1
           have D0 := Aside0.mk d0
           have D1 := Aside0.mk d1
           have D2 := Aside0.mk d2
           have D3 := Aside0.mk d3
           have hp0 : ((q2 : Int) < (x.f2.length : Int)) = True := eq_true (by omega)
           have hp1 : (0 ≤ k2) = True := eq_true hk0
           have hp2 : (k2 < (C.length : Int)) = True := eq_true hk1
           have hp3 : ((i : Int) < (line2.length : Int)) = True := eq_true hil2
           have hlen := referM_len C z own cnt2 lev2 line2
           have H6 := Aside0.mk hl6
           clear hnb2 hnr2 hnc2 hnl2 hgn3 hgn4 hgnb2 csn2 hd hz HL3 HL2 d0 d1 d2 d3 hk0 hk1 hil2 hl0 hl6
           go_wp2
           have S3 := Aside0.mk (S2.out.below_ (below_drew (Below.refl _ _)))
           have d0 : wr.drew.cell? ⟨bl, 0, none⟩ = some (.slice (some ⟨gl, 0, none⟩) C.length C.length) := D0.out
           have d1 : wr.drew.cell? ⟨bn, 0, none⟩ = some (.slice (some ⟨gn2, 0, none⟩) line2.length cn2) := D1.out
           have d2 : wr.drew.cell? ⟨gn2, i, none⟩ = some (.int .i64 k2) := D2.out
           have d3 : wr.drew.cell? ⟨gl, k2.toNat, none⟩ = some (.int .i64 (rd lev2 k2)) := D3.out
           refine wp_region_still_tail 10 (by kernel_rfl) (by kernel_rfl) ?_
           simp only [List.take_succ_cons, List.take_zero, List.drop_succ_cons, List.drop_zero]
           change wpStill _ _ wr.drew (fun a' => wpList _ _ _ _ a' wr.drew) _ _
           generalize wr.drew = w7 at S3 d0 d1 d2 d3 ⊢
           have hcall := Aside0.mk (refer_calls C w w.heap.size bc bl bn (some ad) c0 A1 roots.length c1 L _ _ w7 cnt2 lev2 line2 z own HR0.out S3.out M1.out M2.out (by have := H6.out; omega))
           obtain ⟨⟨b, cnt3, lev3, line3⟩, hR⟩ : ∃ t, referM C z own cnt2 lev2 line2 = t := ⟨_, rfl⟩
           rw [hR] at hcall HL4 hlen
           have N1 := Aside0.mk (hlen.1.trans M1.out)
           have N2 := Aside0.mk (hlen.2.trans M2.out)
           clear hR hlen S2 M1 M2
           repeat still_step
           try refine wpStill_nil ?_
           clear d0 d1 d2 d3 D0 D1 D2 D3
           go_wp2_with (go_at_call 58; (with_reducible refine hcall.out.mono ?_))
           (first | rintro e w8 rfl hS8 | rintro e w8 ⟨rfl, hS8⟩)
           have S8 := Aside0.mk hS8
           clear hS8 hcall
           cases b with
           | true =>
            have H4 := Aside0.mk (show ((loopS (kidF C (i : Int)) (x.f2.drop (q2 + 1)) (cnt3, lev3, line3)).bind fun t => if t.1 = true then lineM C k1 (i + 1) t.2 else some (false, t.2)).bind (fun q => if q.1 = true then some (endM C q.2.1 C.length 0) else some false) = some r from HL4.out)
            go_wp2
            go_roundw
            case rel => exact ⟨q2 + 1, (cnt3, lev3, line3), hql2, by go_num, H4, S8, N1, N2⟩
            case measure => simp [intOf]; omega
           | false =>
            have H4 : some false = some r := HL4.out
            simp only [Option.some.injEq] at H4
            subst H4
            clear HL4
            go_wp2
            go_ret
            exact ⟨rfl, S8.out.below⟩
          ·have hp0 : ((q2 : Int) < (x.f2.length : Int)) = False := eq_false (by omega)
           have H6 := Aside0.mk (show (lineM C k1 (i + 1) (cnt2, lev2, line2)).bind (fun q => if q.1 = true then some (endM C q.2.1 C.length 0) else some false) = some r by
            have := HL2.out
            rw [List.drop_of_length_le (by omega)] at this
            exact this)
           clear HL2 hql2 hq2
           go_wp2
           go_roundg k1
           case measure => have := HK1.out; omega
           case rel => exact ⟨i + 1, (cnt2, lev2, line2), by go_num, H6, ⟨by have := HK1.out; omega⟩, S2, M1, M2⟩
        ·have hp3 : ((i : Int) < (line.length : Int)) = False := eq_false hil
         have H7 := Aside0.mk (show endM C cnt (C.length - 0) 0 = r by
          have h1 := HL.out
          unfold lineM at h1
          rw [if_neg hil] at h1
          exact Option.some.inj h1)
         have c7 : wr.cell? ⟨w.heap.size, 0, none⟩ = some (.slice A0 C.length c0) := (blk_cell S.out.box_ _).trans rfl
         obtain ⟨A4, c4, hv⟩ := own_slice (Kd.own_of_R hnr)
         subst hv
         clear hnb hnr hnc hnl HL hil
         go_wp2
         clear c5 c7 hp3
         go_loopw [91] (fun vi w6 => ∃ j : Nat, j ≤ C.length ∧ vi = .int .i64 j ∧ Aside0 (endM C cnt (C.length - j) j = r) ∧ Aside0 (RS w w.heap.size bc bl bn #[.slice A0 C.length c0, .slice A1 roots.length c1, .int .i64 L] (.slice (some ⟨gc, 0, none⟩) C.length C.length) (.slice (some ⟨gl, 0, none⟩) C.length C.length) w6 cnt lev line)) (fun vi _ => C.length - (intOf vi).toNat)
         case atStart => exact ⟨0, Nat.zero_le _, rfl, H7, S⟩
         case round =>
          clear H7 S
          obtain ⟨j, hj, rfl, H7, S⟩ := hrel
          by_cases hjl : j < C.length
          ·obtain ⟨x, hx⟩ : ∃ x, rd_T68 C (j : Int) = x := ⟨_, rfl⟩
           obtain ⟨cj, hcj⟩ : ∃ c, rd cnt (j : Int) = c := ⟨_, rfl⟩
           obtain ⟨ad, A2, c2, hA0, hx0, hx1, hx2, hxl, hxC⟩ := at_T68 HR0.out (j : Int) (by omega) (by omega)
           subst hA0
           rw [hx] at hx0 hx1 hx2 hxl hxC
           have y0 := pw_cell_below S.out.below hx0
           have y1 := pw_cell_below S.out.below hx1
           have y2 := pw_cell_below S.out.below hx2
           simp only [Int.toNat_natCast] at y0 y1 y2
           have hxm : x.f2.length ≤ 9223372036854775807 := hxC.2.1
           have D4 : ∀ o, (wr.alloc o).cell? ⟨bc, 0, none⟩ = some (.slice (some ⟨gc, 0, none⟩) C.length C.length) := fun o => (blk_cell (blk_alloc S.out.cb o) 0).trans rfl
           have D5 : ∀ o, (wr.alloc o).cell? ⟨gc, j, none⟩ = some (.int .i64 cj) := fun o => by
            have := (Kd.R_celln (d := (0 : Int)) (Kd.R_alloc S.out.rc o) (j : Int) (by omega) (by omega)).1
            rw [show rdOf (0 : Int) cnt (j : Int) = cj from hcj] at this
            exact this
           have hp0 : ((j : Int) < (C.length : Int)) = True := eq_true (by omega)
           clear hx0 hx1 hx2 hxC
           by_cases q0 : x.f0 = cj
           ·subst q0
            by_cases q1 : x.f0 = 0
            ·have q1' : rd cnt (j : Int) = 0 := hcj.trans q1
             rw [q1] at y0 D5
             by_cases q2 : x.f1.size = 0
             ·have q3 : x.f1.toList = [] := ba_nil.2 q2
              have q6 : (x.f1.toList = []) = True := eq_true q3
              have q7 : x.f1.toList.isEmpty = true := by rw [q3]; rfl
              have q8 : (x.f1.toList == []) = true := by rw [q3]; rfl
              clear q3
              by_cases q4 : x.f2.length = 0
              ·have q5 : (0 < (x.f2.length : Int)) = False := eq_false (by omega)
               have H8 := Aside0.mk (show endM C cnt (C.length - (j + 1)) (j + 1) = r by
                have h1 := H7.out
                rw [show C.length - j = C.length - (j + 1) + 1 by omega] at h1
                unfold endM at h1
                rw [if_pos (by rw [hx, hcj]; unfold okEnd; rw [if_pos rfl]; first | (rw [if_pos q1, if_pos q2]; exact decide_eq_true q4) | (rw [if_neg q1]))] at h1
                exact h1)
               clear H7
               go_wp2
               go_quiet (fail)
               try go_wp2
               go_roundw
               case rel => exact ⟨j + 1, hjl, by go_num, H8, ⟨S.out.below_ (pw_below_drewN (below_alloc (Below.refl _ _) _) nq)⟩⟩
               case measure => simp [intOf]; omega
              ·have q5 : (0 < (x.f2.length : Int)) = True := eq_true (by omega)
               have H8 : r = false := by
                have h1 := H7.out
                rw [show C.length - j = C.length - (j + 1) + 1 by omega] at h1
                unfold endM at h1
                rw [if_neg (by rw [hx, hcj]; unfold okEnd; first | (rw [if_pos rfl, if_pos q1, if_pos q2, decide_eq_false q4]; simp; done) | (rw [if_pos rfl, if_pos q1, if_neg q2]; simp; done) | (rw [if_neg q0]; simp))] at h1
                exact h1.symm
               subst H8
               clear H7
               go_wp2
               go_quiet (fail)
               try go_wp2
               go_ret
               exact ⟨rfl, pw_below_drewN (below_alloc S.out.below _) nq⟩
             ·have q3 : (x.f1.toList = []) = False := eq_false (fun e => q2 (ba_nil.1 e))
              have q4 : x.f1.toList.isEmpty = false := by cases h : x.f1.toList with | nil => exact absurd h (fun e => q2 (ba_nil.1 e)) | cons _ _ => rfl
              have q5 : (x.f1.toList == []) = false := beq_eq_false_iff_ne.2 (fun e => q2 (ba_nil.1 e))
              have H8 : r = false := by
               have h1 := H7.out
               rw [show C.length - j = C.length - (j + 1) + 1 by omega] at h1
               unfold endM at h1
               rw [if_neg (by rw [hx, hcj]; unfold okEnd; first | (rw [if_pos rfl, if_pos q1, if_pos q2, decide_eq_false q4]; simp; done) | (rw [if_pos rfl, if_pos q1, if_neg q2]; simp; done) | (rw [if_neg q0]; simp))] at h1
               exact h1.symm
              subst H8
              clear H7
              go_wp2
              go_quiet (fail)
              try go_wp2
              go_ret
              exact ⟨rfl, pw_below_drewN (below_alloc S.out.below _) nq⟩
            ·have q2 : (x.f0 == 0) = false := beq_eq_false_iff_ne.2 q1
             have q3 : (x.f0 != 0) = true := bne_iff_ne.2 q1
             have q4 : (x.f0 = 0) = False := eq_false q1
             have H8 := Aside0.mk (show endM C cnt (C.length - (j + 1)) (j + 1) = r by
              have h1 := H7.out
              rw [show C.length - j = C.length - (j + 1) + 1 by omega] at h1
              unfold endM at h1
              rw [if_pos (by rw [hx, hcj]; unfold okEnd; rw [if_pos rfl]; first | (rw [if_pos q1, if_pos q2]; exact decide_eq_true q4) | (rw [if_neg q1]))] at h1
              exact h1)
             clear H7
             go_wp2
             go_quiet (fail)
             try go_wp2
             go_roundw
             case rel => exact ⟨j + 1, hjl, by go_num, H8, ⟨S.out.below_ (pw_below_drewN (below_alloc (Below.refl _ _) _) nq)⟩⟩
             case measure => simp [intOf]; omega
           ·have q1 : (x.f0 == cj) = false := beq_eq_false_iff_ne.2 q0
            have q2 : (x.f0 != cj) = true := bne_iff_ne.2 q0
            have q3 : (x.f0 = cj) = False := eq_false q0
            have H8 : r = false := by
             have h1 := H7.out
             rw [show C.length - j = C.length - (j + 1) + 1 by omega] at h1
             unfold endM at h1
             rw [if_neg (by rw [hx, hcj]; unfold okEnd; first | (rw [if_pos rfl, if_pos q1, if_pos q2, decide_eq_false q4]; simp; done) | (rw [if_pos rfl, if_pos q1, if_neg q2]; simp; done) | (rw [if_neg q0]; simp))] at h1
             exact h1.symm
            subst H8
            clear H7
            go_wp2
            go_quiet (fail)
            try go_wp2
            go_ret
            exact ⟨rfl, pw_below_drewN (below_alloc S.out.below _) nq⟩
          ·have hp0 : ((j : Int) < (C.length : Int)) = False := eq_false (by omega)
           have H8 : r = true := by
            have h1 := H7.out
            rw [show C.length - j = 0 by omega] at h1
            exact h1.symm
           subst H8
           clear H7
           go_wp2
           go_ret
           exact ⟨rfl, S.out.below⟩
def impl_GoodCow.f (l0_0 : List S68) (l0_1 : List Int) (a0_2 : Int) : Option Bool := goodC 100 l0_0 l0_1 a0_2
theorem impl_GoodCow.calls (A0_0 : Option Addr) (c0_0 : Nat) (l0_0 : List S68) (A0_1 : Option Addr) (c0_1 : Nat) (l0_1 : List Int) (a0_2 : Int) (r : Bool) (w : World) (hr0_0 : Kd.C k68 w A0_0 l0_0.length l0_0) (hc0_0 : l0_0.length ≤ c0_0) (hr0_1 : (Kd.int .i64).C w A0_1 l0_1.length l0_1) (hc0_1 : l0_1.length ≤ c0_1) (h : impl_GoodCow.f l0_0 l0_1 a0_2 = some r) :
  Calls Try.prog 22 #[.agg #[.slice A0_0 l0_0.length c0_0, .slice A0_1 l0_1.length c0_1, .int .i64 a0_2]] w fun e w' => e = .returned (.bool r) ∧ Below w.heap.size w w' :=
 goodC_calls 100 A0_0 c0_0 l0_0 A0_1 c0_1 l0_1 a0_2 r w hr0_0 hc0_0 hr0_1 hc0_1 h
end Go.Proofs.Ytacfalpgmibfnaa.PCow
namespace Go.Proofs.Ytacfalpgmibfnaa.PCow
open Go.RowKit Go.Proofs.YtacfalpgmibfnaaW.PrintWords Go.Proofs.YtacfalpgmibfnaaW.PrintLast Go.Proofs.YtacfalpgmibfnaaW.PrintMore
attribute [local go_sem] max2_int min2_int max_two min_two max_three min_three max_four min_four
set_option linter.unusedVariables false
set_option linter.unusedSimpArgs false
def impl_isRoot.f (l0_0 : List (S68)) (l0_1 : List Int) (a0_2 : Int) (a1 : Int) : Option (Bool) := (impl_GoodCow.f l0_0 l0_1 a0_2).bind fun t221 => (if t221 = true then ((impl_within.f a1 0 (wrap64 ((l0_1.length : Int) - 1))).bind fun t222 => (some t222)) else (some false))
set_option maxHeartbeats 8000000 in
set_option maxRecDepth 100000 in
theorem impl_isRoot.calls (A0_0 : Option Addr) (c0_0 : Nat) (l0_0 : List (S68)) (A0_1 : Option Addr) (c0_1 : Nat) (l0_1 : List Int) (a0_2 : Int) (a1 : Int) (r : Bool) (w : World) (hr0_0 : Kd.C k68 w A0_0 l0_0.length l0_0) (hc0_0 : l0_0.length ≤ c0_0) (hr0_1 : Kd.C (Kd.int .i64) w A0_1 l0_1.length l0_1) (hc0_1 : l0_1.length ≤ c0_1) (h : impl_isRoot.f l0_0 l0_1 a0_2 a1 = some r) :
  Calls Try.prog 63 #[.agg #[.slice A0_0 l0_0.length c0_0, .slice A0_1 l0_1.length c0_1, .int .i64 a0_2], .int .i64 a1] w fun e w' => e = .returned (.bool r) ∧ Below w.heap.size w w' := by
 have hu25 := Try.underlying25
 have HR0_0 := Aside0.mk hr0_0
 have HC0_0 := Aside0.mk hc0_0
 clear hr0_0 hc0_0
 have HR0_1 := Aside0.mk hr0_1
 have HC0_1 := Aside0.mk hc0_1
 clear hr0_1 hc0_1
 have HB := Aside0.mk (Below.refl w.heap.size w)
 have H : ((impl_GoodCow.f l0_0 l0_1 a0_2).bind fun t221 => (if t221 = true then ((impl_within.f a1 0 (wrap64 ((l0_1.length : Int) - 1))).bind fun t222 => (some t222)) else (some false))) = some r := h
 clear h
 replace H := Option.bind_eq_some_iff.mp H
 obtain ⟨t221, A30, H⟩ := H
 replace H : (if t221 = true then ((impl_within.f a1 0 (wrap64 ((l0_1.length : Int) - 1))).bind fun t222 => (some t222)) else (some false)) = some r := H
 have A3 := Aside0.mk A30
 clear A30
 by_cases c4 : t221 = true
 ·subst c4
  have H1 : ((impl_within.f a1 0 (wrap64 ((l0_1.length : Int) - 1))).bind fun t222 => (some t222)) = some r := by rw [if_pos rfl] at H; exact H
  clear H
  have H := H1
  clear H1
  replace H := Option.bind_eq_some_iff.mp H
  obtain ⟨t222, A50, H⟩ := H
  replace H : (some t222) = some r := H
  have A5 := Aside0.mk A50
  clear A50
  obtain rfl := Option.some.inj H
  go_enter Try.func63, Try.ntmps63
  go_wp2_with (first | ((with_reducible refine gate_dst (N := 2) rfl ?_); (try (refine gate_guard (by rfl) ?_; dsimp only)); refine box_event ?hg (N := 2) ?hd (cs := #[.slice A0_0 l0_0.length c0_0, .slice A0_1 l0_1.length c0_1, .int .i64 a0_2]) (t := 25) ?hr ?_; (case hd => rfl); (case hg => rfl); (case hr => first | (go_simp; done) | (go_simp; rfl)); intro gb220 hg w6 hbox hb; have BK220 := Aside0.mk (hbox); have GW220 := Aside0.mk ((by rw [hg]; exact (below_size (by with_reducible repeat (first | exact HB.out | apply below_alloc | apply pw_below_drewN | apply below_drew1))) : w.heap.size ≤ gb220)); have GE220 := Aside0.mk ((by rw [hg]; exact (below_size (by with_reducible repeat (first | exact HB.out | apply below_alloc | apply pw_below_drewN | apply below_drew1))) : w.heap.size ≤ gb220)); replace HB := Aside0.mk (below_step (by with_reducible repeat (first | exact HB.out | apply below_alloc | apply pw_below_drewN | apply below_drew1)) hb); clear hb hbox hg; have hcz7_0 : w6.cell? ⟨gb220, 0, none⟩ = some (.slice A0_0 l0_0.length c0_0) := (blk_cell BK220.out 0).trans rfl; have hcz7_1 : w6.cell? ⟨gb220, 1, none⟩ = some (.slice A0_1 l0_1.length c0_1) := (blk_cell BK220.out 1).trans rfl; have hcz7_2 : w6.cell? ⟨gb220, 2, none⟩ = some (.int .i64 a0_2) := (blk_cell BK220.out 2).trans rfl; have hfz7_0 := blk_frozen BK220.out 0; have hfz7_1 := blk_frozen BK220.out 1; have hfz7_2 := blk_frozen BK220.out 2) | ((with_reducible refine gate_callee (f := 22) rfl ?_); refine goesL_ (some 6) rfl rfl Try.func22 (by kernel_rfl) rfl #[.agg #[.slice A0_0 l0_0.length c0_0, .slice A0_1 l0_1.length c0_1, .int .i64 a0_2]] rfl (by (try simp only [List.map_toArray, List.map_cons, List.map_nil]); first | done | rfl | (simp only [List.length_drop, List.length_take]; rfl)) ?_; (with_reducible refine (impl_GoodCow.calls _ _ l0_0 _ _ l0_1 a0_2 true _ ?side1 ?side2 ?side3 ?side4 A3.out).mono ?_); (case side1 => repeat (first | exact (Kd.C_below HR0_0.out HB.out) | (with_reducible refine Kd.C_alloc ?_ _) | (with_reducible refine Kd.C_drewN ?_ _) | (with_reducible refine Kd.C_drew ?_))); (case side2 => exact HC0_0.out); (case side3 => repeat (first | exact (Kd.C_below HR0_1.out HB.out) | (with_reducible refine Kd.C_alloc ?_ _) | (with_reducible refine Kd.C_drewN ?_ _) | (with_reducible refine Kd.C_drew ?_))); (case side4 => exact HC0_1.out); rintro e w8 ⟨rfl, hb⟩; refine ⟨_, rfl, ?_⟩; replace BK220 := Aside0.mk (blk_below (g := gb220) (o := .cells #[.slice A0_0 l0_0.length c0_0, .slice A0_1 l0_1.length c0_1, .int .i64 a0_2] 25 (0, 0)) (by (with_reducible repeat (first | refine blk_drewN ?_ _ | refine blk_drew ?_ | refine blk_alloc ?_ _)); exact BK220.out) hb); replace HB := Aside0.mk (below_step (by with_reducible repeat (first | exact HB.out | apply below_alloc | apply pw_below_drewN | apply below_drew1 | refine below_set ?_ GE220.out)) hb); (try clear hb); (try clear hb2); (try clear hk); (try clear hi); have hcz9_0 : w8.cell? ⟨gb220, 0, none⟩ = some (.slice A0_0 l0_0.length c0_0) := (blk_cell BK220.out 0).trans rfl; have hcz9_1 : w8.cell? ⟨gb220, 1, none⟩ = some (.slice A0_1 l0_1.length c0_1) := (blk_cell BK220.out 1).trans rfl; have hcz9_2 : w8.cell? ⟨gb220, 2, none⟩ = some (.int .i64 a0_2) := (blk_cell BK220.out 2).trans rfl; have hfz9_0 := blk_frozen BK220.out 0; have hfz9_1 := blk_frozen BK220.out 1; have hfz9_2 := blk_frozen BK220.out 2) | (go_at_call 45; (with_reducible refine (impl_within.calls a1 0 (wrap64 ((l0_1.length : Int) - 1)) t222 _ A5.out).mono ?_); rintro e w' ⟨rfl, ⟨nd, rfl⟩⟩))
  go_ret
  exact ⟨by first | rfl | (simp [errW_none, errW_some] <;> rfl) | (simp [*, errW_none, errW_some] <;> rfl) | (simp [E.isEmpty_bne]; done) | (rw [E.bne_empty]), by with_reducible repeat (first | exact HB.out | apply below_alloc | apply pw_below_drewN | apply below_drew1 | refine below_set ?_ GE220.out)⟩
 ·replace c4 := Bool.eq_false_iff.mpr c4
  subst c4
  have H1 : (some false) = some r := by rw [if_neg (show ¬ (false = true) by decide)] at H; exact H
  clear H
  have H := H1
  clear H1
  obtain rfl := Option.some.inj H
  go_enter Try.func63, Try.ntmps63
  go_wp2_with (first | ((with_reducible refine gate_dst (N := 2) rfl ?_); (try (refine gate_guard (by rfl) ?_; dsimp only)); refine box_event ?hg (N := 2) ?hd (cs := #[.slice A0_0 l0_0.length c0_0, .slice A0_1 l0_1.length c0_1, .int .i64 a0_2]) (t := 25) ?hr ?_; (case hd => rfl); (case hg => rfl); (case hr => first | (go_simp; done) | (go_simp; rfl)); intro gb220 hg w10 hbox hb; have BK220 := Aside0.mk (hbox); have GW220 := Aside0.mk ((by rw [hg]; exact (below_size (by with_reducible repeat (first | exact HB.out | apply below_alloc | apply pw_below_drewN | apply below_drew1))) : w.heap.size ≤ gb220)); have GE220 := Aside0.mk ((by rw [hg]; exact (below_size (by with_reducible repeat (first | exact HB.out | apply below_alloc | apply pw_below_drewN | apply below_drew1))) : w.heap.size ≤ gb220)); replace HB := Aside0.mk (below_step (by with_reducible repeat (first | exact HB.out | apply below_alloc | apply pw_below_drewN | apply below_drew1)) hb); clear hb hbox hg; have hcz11_0 : w10.cell? ⟨gb220, 0, none⟩ = some (.slice A0_0 l0_0.length c0_0) := (blk_cell BK220.out 0).trans rfl; have hcz11_1 : w10.cell? ⟨gb220, 1, none⟩ = some (.slice A0_1 l0_1.length c0_1) := (blk_cell BK220.out 1).trans rfl; have hcz11_2 : w10.cell? ⟨gb220, 2, none⟩ = some (.int .i64 a0_2) := (blk_cell BK220.out 2).trans rfl; have hfz11_0 := blk_frozen BK220.out 0; have hfz11_1 := blk_frozen BK220.out 1; have hfz11_2 := blk_frozen BK220.out 2) | ((with_reducible refine gate_callee (f := 22) rfl ?_); refine goesL_ (some 6) rfl rfl Try.func22 (by kernel_rfl) rfl #[.agg #[.slice A0_0 l0_0.length c0_0, .slice A0_1 l0_1.length c0_1, .int .i64 a0_2]] rfl (by (try simp only [List.map_toArray, List.map_cons, List.map_nil]); first | done | rfl | (simp only [List.length_drop, List.length_take]; rfl)) ?_; (with_reducible refine (impl_GoodCow.calls _ _ l0_0 _ _ l0_1 a0_2 false _ ?side1 ?side2 ?side3 ?side4 A3.out).mono ?_); (case side1 => repeat (first | exact (Kd.C_below HR0_0.out HB.out) | (with_reducible refine Kd.C_alloc ?_ _) | (with_reducible refine Kd.C_drewN ?_ _) | (with_reducible refine Kd.C_drew ?_))); (case side2 => exact HC0_0.out); (case side3 => repeat (first | exact (Kd.C_below HR0_1.out HB.out) | (with_reducible refine Kd.C_alloc ?_ _) | (with_reducible refine Kd.C_drewN ?_ _) | (with_reducible refine Kd.C_drew ?_))); (case side4 => exact HC0_1.out); rintro e w12 ⟨rfl, hb⟩; refine ⟨_, rfl, ?_⟩; replace BK220 := Aside0.mk (blk_below (g := gb220) (o := .cells #[.slice A0_0 l0_0.length c0_0, .slice A0_1 l0_1.length c0_1, .int .i64 a0_2] 25 (0, 0)) (by (with_reducible repeat (first | refine blk_drewN ?_ _ | refine blk_drew ?_ | refine blk_alloc ?_ _)); exact BK220.out) hb); replace HB := Aside0.mk (below_step (by with_reducible repeat (first | exact HB.out | apply below_alloc | apply pw_below_drewN | apply below_drew1 | refine below_set ?_ GE220.out)) hb); (try clear hb); (try clear hb2); (try clear hk); (try clear hi)))
  go_ret
  exact ⟨by first | rfl | (simp [errW_none, errW_some] <;> rfl) | (simp [*, errW_none, errW_some] <;> rfl) | (simp [E.isEmpty_bne]; done) | (rw [E.bne_empty]), by with_reducible repeat (first | exact HB.out | apply below_alloc | apply pw_below_drewN | apply below_drew1 | refine below_set ?_ GE220.out)⟩
end Go.Proofs.Ytacfalpgmibfnaa.PCow
