import Derived.Test.YtacfalpgmibfnaaFPic4
namespace Go.Proofs.Ytacfalpgmibfnaa.PCow
open Go.RowKit Go.Proofs.YtacfalpgmibfnaaW.PrintWords Go.Proofs.YtacfalpgmibfnaaW.PrintLast Go.Proofs.YtacfalpgmibfnaaW.PrintMore Go.Proofs.Ytacfalpgmibfnaa.E
set_option linter.unusedSimpArgs false
set_option linter.unusedVariables false
def DigS (K : Nat) (dg : Nat → Int) : Nat → Int → Prop
 | 0, _ => True
 | 1, _ => True
 | l + 2, a => ∃ s n, spec_l14Size.f K ((l + 2 : Nat) : Int) = some s ∧ wrap64 (Int.tdiv s 4) = n ∧ n ≠ 0 ∧ wrap64 (Int.tdiv a n) = dg (l + 2) ∧ DigS K dg (l + 1) (Int.tmod a n)
theorem some_hit {ks : List Int} {q : Nat} (h : q < ks.length) (h0 : 0 ≤ rd ks (q : Int)) : someKid ks = true := by
 unfold someKid
 refine List.any_eq_true.2 ⟨ks[q], List.getElem_mem h, ?_⟩
 have e : rd ks (q : Int) = ks[q] := by
  unfold rd
  rw [List.getD_eq_getElem?_getD, Int.toNat_natCast, List.getElem?_eq_getElem h]
  rfl
 rw [e] at h0
 exact decide_eq_true h0
theorem some_miss {ks : List Int} (h : ∀ n : Nat, n < ks.length → rd ks (n : Int) < 0) : someKid ks = false := by
 unfold someKid
 refine List.any_eq_false.2 fun x hx => ?_
 obtain ⟨n, hn, rfl⟩ := List.mem_iff_getElem.1 hx
 have h1 := h n hn
 have e : rd ks (n : Int) = ks[n] := by
  unfold rd
  rw [List.getD_eq_getElem?_getD, Int.toNat_natCast, List.getElem?_eq_getElem hn]
  rfl
 rw [e] at h1
 simpa using h1
set_option maxHeartbeats 16000000 in
set_option maxRecDepth 100000 in
theorem sput_calls (L : Int) (n1 c1 : Nat) (A1 : Option Addr) (leaf : ByteArray) (K : Nat) (dg : Nat → Int) : ∀ (l : Nat) (A : Option Addr) (c : Nat) (C : List CL) (k lv a_ : Int) (P : Nat → Prop) (r : List CL × Int) (w0 w : World) (hlv : lv = (l : Int)) (hl : l ≤ 1000) (hdg : DigS K dg l a_) (hB : Below w0.heap.size w0 w) (hS : CS w w0.heap.size P (.slice A C.length c) C) (hfP : ∀ k, w.heap.size ≤ k → P k) (h : putM dg leaf l C k = some r),
  Calls Try.prog 74 #[.agg #[.slice A C.length c, .slice A1 n1 c1, .int .i64 L], .int .i64 k, .int .i64 lv, .int .i64 a_, .string leaf] w fun e w' => ∃ v0, e = .returned (.tuple #[.agg #[v0, .slice A1 n1 c1, .int .i64 L], .int .i64 r.2]) ∧ CS w' w0.heap.size P v0 r.1 ∧ Below w0.heap.size w0 w' ∧ Kept w w' P := by
 intro l
 induction l with
 | zero =>
  intro A c C k lv a_ P r w0 w hlv hl hdg hB hS hfP h
  simp only [putM] at h
  cases h
 | succ l ih =>
  intro A c C k lv a_ P r w0 w hlv hl hdg hB hS hfP h
  have hu25 := Try.underlying25
  have hu68 := Try.underlying68
  have hu22 := Try.underlying22
  have hu23 := Try.underlying23
  have IH := Aside0.mk ih
  have DG := Aside0.mk hdg
  clear ih hdg
  simp only [putM] at h
  by_cases hlk : leaf.size = 0 ∧ k < 0
  ·rw [if_pos hlk] at h
   cases h
  rw [if_neg hlk] at h
  obtain ⟨⟨C1, k1⟩, ho, h⟩ := Option.bind_eq_some_iff.1 h
  simp only at h
  have hlt : k1 < C1.length := ownM_lt C k (l + 1) _ ho
  obtain ⟨xg, hxg⟩ : ∃ xg, w.heap.size = xg := ⟨_, rfl⟩
  have FP := Aside0.mk (show ∀ k, xg ≤ k → P k from fun k hk => hfP k (hxg ▸ hk))
  have BX := Aside0.mk (show w0.heap.size ≤ xg from hxg ▸ hB.size)
  obtain ⟨W1, hW1⟩ : ∃ W, w.alloc (.cells #[.slice A C.length c, .slice A1 n1 c1, .int .i64 L] 25) = W := ⟨_, rfl⟩
  obtain ⟨W2, hW2⟩ : ∃ W, W1.alloc (.cells #[.slice none 0 0, .slice none 0 0, .int .i64 0] 25) = W := ⟨_, rfl⟩
  have hb1 : Below w.heap.size w W1 := by rw [← hW1]; exact below_alloc (Below.refl _ _) _
  have hb2 : Below W1.heap.size W1 W2 := by rw [← hW2]; exact below_alloc (Below.refl _ _) _
  have X1 : W1.heap[xg]? = some (.cells #[.slice A C.length c, .slice A1 n1 c1, .int .i64 L] 25 (0, 0)) := by rw [← hW1, ← hxg]; exact heap_alloc_new w _
  have Z2 := Aside0.mk (show W2.heap[W1.heap.size]? = some (.cells #[.slice none 0 0, .slice none 0 0, .int .i64 0] 25 (0, 0)) by rw [← hW2]; exact heap_alloc_new W1 _)
  have hb := below_step hb1 hb2
  have XZ := Aside0.mk (show xg < W1.heap.size from blk_lt X1)
  have ZW := Aside0.mk (show W1.heap.size < W2.heap.size from blk_lt Z2.out)
  have X2 := Aside0.mk (blk_below X1 hb2)
  have S2 := Aside0.mk (show CS W2 w0.heap.size (fun k => P k ∧ k < xg) (.slice A C.length c) C from Kd.S_below (Kd.S_mono (Kd.S_bound hS) (fun k hk => ⟨hk.1, hxg ▸ hk.2.2.1⟩)) hb)
  have B2 := Aside0.mk (below_then hB hB.size hb)
  have K2 := Aside0.mk (Kept.of_below hb P)
  have HXG := Aside0.mk hxg
  clear hb1 hb2 hb X1 hB hfP hS
  have d0 : W2.cell? ⟨xg, 0, none⟩ = some (.slice A C.length c) := (blk_cell X2.out 0).trans rfl
  have d1 : W2.cell? ⟨xg, 1, none⟩ = some (.slice A1 n1 c1) := (blk_cell X2.out 1).trans rfl
  have d2 : W2.cell? ⟨xg, 2, none⟩ = some (.int .i64 L) := (blk_cell X2.out 2).trans rfl
  have xf0 := blk_frozen X2.out 0
  have T1 := ours_calls L n1 c1 c A1 A C (fun k => P k ∧ k ≠ xg ∧ k ≠ W1.heap.size) k (l + 1) _ w0 W2 B2.out (Kd.S_mono S2.out (fun k hk => (have h_ := hk.2; have h1_ := XZ.out; ⟨hk.1, by omega, by omega⟩))) (fun k hk => (have h1_ := XZ.out; have h2_ := ZW.out; ⟨FP.out k (by omega), by omega, by omega⟩)) ⟨hl, by omega⟩ ho
  rw [← hlv] at T1
  replace T1 := Aside0.mk T1
  have LT := Aside0.mk hlt
  have HL := Aside0.mk hl
  have HH := Aside0.mk h
  have NLK := Aside0.mk hlk
  clear ho hlt hl h xf0 hlk
  by_cases hl0 : l = 0
  ·subst hl0
   have h := HH.out
   rw [if_pos rfl] at h
   obtain rfl : lv = 1 := by omega
   clear hlv
   by_cases hle : leaf.size = 0
   ·rw [if_pos hle] at h
    have e_ := Option.some.inj h
    subst e_
    obtain rfl := empty_of_size hle
    have hk0 := NLK.out
    have t1 : (k < 0) = False := eq_false (fun e_ => hk0 ⟨rfl, e_⟩)
    clear h HH hle hk0
    go_enter Try.func74, Try.ntmps74
    go_wp2_with (go_at_call 88; refine T1.out.mono ?_; (first | rintro e w3 v0 rfl hS3 hB3 hK3 | rintro e w3 ⟨v0, rfl, hS3, hB3, hK3⟩); (obtain ⟨A2, c2, rfl⟩ := Kd.S_slice hS3); (replace hS3 : CS w3 w0.heap.size (fun k => P k ∧ k ≠ xg ∧ k ≠ W1.heap.size) (.slice A2 C1.length c2) C1 := hS3); (have X3 := Aside0.mk (blk_kept X2.out hK3 (fun h_ => h_.2.1 rfl))); (have Z3 := Aside0.mk (blk_kept Z2.out hK3 (fun h_ => h_.2.2 rfl))); (have K3 := Aside0.mk (K2.out.then_ hK3 (fun j hj => .inl hj.1))); (have q0 : w3.cell? ⟨xg, 0, none⟩ = some (.slice A C.length c) := (blk_cell X3.out 0).trans rfl); (have q1 : w3.cell? ⟨xg, 1, none⟩ = some (.slice A1 n1 c1) := (blk_cell X3.out 1).trans rfl); (have q2 : w3.cell? ⟨xg, 2, none⟩ = some (.int .i64 L) := (blk_cell X3.out 2).trans rfl); have u0 := blk_frozen X3.out 0; have u1 := blk_frozen X3.out 1; have u2 := blk_frozen X3.out 2; (obtain ⟨w4, hw4⟩ : ∃ W, ((w3.setCell ⟨xg, 0, none⟩ (.slice A2 C1.length c2)).setCell ⟨xg, 1, none⟩ (.slice A1 n1 c1)).setCell ⟨xg, 2, none⟩ (.int .i64 L) = W := ⟨_, rfl⟩); (have X4 := Aside0.mk (show w4.heap[xg]? = some (.cells #[.slice A2 C1.length c2, .slice A1 n1 c1, .int .i64 L] 25 (0, 0)) by rw [← hw4]; exact put3 X3.out _ _ _)); (have KK4 : Kept w3 w4 (fun j => j = xg) := by rw [← hw4]; exact keep3 (Kept.refl w3 (fun j => j = xg)) (.inl rfl)); (have Z4 := Aside0.mk (blk_kept Z3.out KK4 (by have := XZ.out; omega))); (have S4 := Aside0.mk (Kd.S_kept hS3 KK4 (fun k hk e_ => hk.2.1 e_))); (have B4 := Aside0.mk (show Below w0.heap.size w0 w4 by rw [← hw4]; exact below3 hB3 BX.out)); (have K4 := Aside0.mk (K3.out.then_ KK4 (fun j hj => .inr (by rw [hj]; exact Nat.le_of_eq HXG.out)))); (have x0 : w4.cell? ⟨xg, 0, none⟩ = some (.slice A2 C1.length c2) := (blk_cell X4.out 0).trans rfl); clear X3 Z3 K3 KK4 hS3 hB3 hK3 T1 d0 d1 d2; (obtain ⟨g, cap, hv, _, _, _⟩ := Kd.S_form S4.out (by have := LT.out; omega)); (injection hv with hA hn_ hc); (subst hA hc); (clear hn_); (obtain ⟨x, hx⟩ : ∃ x, rd_T68 C1 (k1 : Int) = x := ⟨_, rfl⟩); (obtain ⟨_, v_, e0, e1, e2, hfr, _, _, _⟩ := cs_elem S4.out (k1 : Int) (by omega) (by have := LT.out; omega)); (simp only [Int.toNat_natCast] at e0 e1 e2 hfr); (have fr0 : w4.frozen? ⟨g, k1 * 3, none⟩ = false := hfr 0); (have fr1 := hfr 1); (have fr2 := hfr 2); (have p1 : ((k1 : Int) < (C1.length : Int)) = True := eq_true (by have := LT.out; omega)); (obtain ⟨W5, hW5⟩ : ∃ W, ((w4.setCell ⟨g, k1 * 3, none⟩ (.int .i64 0)).setCell ⟨g, k1 * 3 + 1, none⟩ (.string ⟨#[]⟩)).setCell ⟨g, k1 * 3 + 2, none⟩ (.slice none 0 0) = W := ⟨_, rfl⟩); (have hPg := (Kd.S_R S4.out).1 g rfl); (have KK5 : Kept w4 W5 (fun j => j = g) := by rw [← hW5]; exact (((Kept.refl w4 (fun j => j = g)).setCell (p := ⟨g, k1 * 3, none⟩) (.inl rfl) _).setCell (p := ⟨g, k1 * 3 + 1, none⟩) (.inl rfl) _).setCell (p := ⟨g, k1 * 3 + 2, none⟩) (.inl rfl) _); (have X5 := Aside0.mk (blk_kept X4.out KK5 (fun e_ => hPg.2.1 e_.symm))); (have Z5 := Aside0.mk (blk_kept Z4.out KK5 (fun e_ => hPg.2.2 e_.symm))); (have S5 := cs_zero S4.out (k1 : Int) (by omega) (by have := LT.out; omega)); (simp only [Int.toNat_natCast] at S5); (rw [hW5] at S5); (have B5 := Aside0.mk (show Below w0.heap.size w0 W5 by have h_ := Kd.S_base S4.out g rfl; rw [← hW5]; exact below_set (below_set (below_set B4.out h_) h_) h_)); (have K5 := Aside0.mk (K4.out.then_ KK5 (fun j hj => .inl (by rw [hj]; exact hPg.1)))); (have S5 := Aside0.mk S5); (have xx0 : W5.cell? ⟨xg, 0, none⟩ = some (.slice (some ⟨g, 0, none⟩) C1.length c2) := (blk_cell X5.out 0).trans rfl); (have xx1 : W5.cell? ⟨xg, 1, none⟩ = some (.slice A1 n1 c1) := (blk_cell X5.out 1).trans rfl); (have xx2 : W5.cell? ⟨xg, 2, none⟩ = some (.int .i64 L) := (blk_cell X5.out 2).trans rfl); (have r0 : W5.cell? ⟨W1.heap.size, 0, none⟩ = some (.slice none 0 0) := (blk_cell Z5.out 0).trans rfl); (have r1 : W5.cell? ⟨W1.heap.size, 1, none⟩ = some (.slice none 0 0) := (blk_cell Z5.out 1).trans rfl); (have r2 : W5.cell? ⟨W1.heap.size, 2, none⟩ = some (.int .i64 0) := (blk_cell Z5.out 2).trans rfl); (have s0 := blk_frozen Z5.out 0); (have s1 := blk_frozen Z5.out 1); (have s2 := blk_frozen Z5.out 2); (clear hfr hPg KK5 X4 Z4 S4 B4 K4 X2 Z2 S2 B2 K2))
    refine bodyPost_ret (results_ct rfl _ _ W1.heap.size 25 #[.slice (some ⟨g, 0, none⟩) C1.length c2, .slice A1 n1 c1, .int .i64 L] (0, 0) _ rfl (put3 Z5.out _ _ _) Try.underlying25 rfl (by kernel_rfl)) rfl ?_
    have hz : xg ≤ W1.heap.size := Nat.le_of_lt XZ.out
    have hlen : C1.length = (C1.set k1 z68).length := List.length_set.symm
    refine ⟨_, rfl, ?_, below3 B5.out (Nat.le_trans BX.out hz), keep3 K5.out (.inr (HXG.out ▸ hz))⟩
    exact Kd.S_mono (far3 S5.out Z5.out) (fun k hk => hk.1)
   ·rw [if_neg hle] at h
    have m0 : leaf.toList ≠ [] := fun e_ => hle (ba_nil.1 e_)
    have m1 : (leaf.toList == []) = false := beq_eq_false_iff_ne.2 m0
    have m2 : (leaf.toList = []) = False := eq_false m0
    have e_ := Option.some.inj h
    subst e_
    clear h HH hle m0
    go_enter Try.func74, Try.ntmps74
    go_wp2_with (go_at_call 88; refine T1.out.mono ?_; (first | rintro e w3 v0 rfl hS3 hB3 hK3 | rintro e w3 ⟨v0, rfl, hS3, hB3, hK3⟩); (obtain ⟨A2, c2, rfl⟩ := Kd.S_slice hS3); (replace hS3 : CS w3 w0.heap.size (fun k => P k ∧ k ≠ xg ∧ k ≠ W1.heap.size) (.slice A2 C1.length c2) C1 := hS3); (have X3 := Aside0.mk (blk_kept X2.out hK3 (fun h_ => h_.2.1 rfl))); (have Z3 := Aside0.mk (blk_kept Z2.out hK3 (fun h_ => h_.2.2 rfl))); (have K3 := Aside0.mk (K2.out.then_ hK3 (fun j hj => .inl hj.1))); (have q0 : w3.cell? ⟨xg, 0, none⟩ = some (.slice A C.length c) := (blk_cell X3.out 0).trans rfl); (have q1 : w3.cell? ⟨xg, 1, none⟩ = some (.slice A1 n1 c1) := (blk_cell X3.out 1).trans rfl); (have q2 : w3.cell? ⟨xg, 2, none⟩ = some (.int .i64 L) := (blk_cell X3.out 2).trans rfl); have u0 := blk_frozen X3.out 0; have u1 := blk_frozen X3.out 1; have u2 := blk_frozen X3.out 2; (obtain ⟨w4, hw4⟩ : ∃ W, ((w3.setCell ⟨xg, 0, none⟩ (.slice A2 C1.length c2)).setCell ⟨xg, 1, none⟩ (.slice A1 n1 c1)).setCell ⟨xg, 2, none⟩ (.int .i64 L) = W := ⟨_, rfl⟩); (have X4 := Aside0.mk (show w4.heap[xg]? = some (.cells #[.slice A2 C1.length c2, .slice A1 n1 c1, .int .i64 L] 25 (0, 0)) by rw [← hw4]; exact put3 X3.out _ _ _)); (have KK4 : Kept w3 w4 (fun j => j = xg) := by rw [← hw4]; exact keep3 (Kept.refl w3 (fun j => j = xg)) (.inl rfl)); (have Z4 := Aside0.mk (blk_kept Z3.out KK4 (by have := XZ.out; omega))); (have S4 := Aside0.mk (Kd.S_kept hS3 KK4 (fun k hk e_ => hk.2.1 e_))); (have B4 := Aside0.mk (show Below w0.heap.size w0 w4 by rw [← hw4]; exact below3 hB3 BX.out)); (have K4 := Aside0.mk (K3.out.then_ KK4 (fun j hj => .inr (by rw [hj]; exact Nat.le_of_eq HXG.out)))); (have x0 : w4.cell? ⟨xg, 0, none⟩ = some (.slice A2 C1.length c2) := (blk_cell X4.out 0).trans rfl); clear X3 Z3 K3 KK4 hS3 hB3 hK3 T1 d0 d1 d2; (obtain ⟨g, cap, hv, _, _, _⟩ := Kd.S_form S4.out (by have := LT.out; omega)); (injection hv with hA hn_ hc); (subst hA hc); (clear hn_); (obtain ⟨x, hx⟩ : ∃ x, rd_T68 C1 (k1 : Int) = x := ⟨_, rfl⟩); (obtain ⟨_, v_, e0, e1, e2, hfr, _, _, _⟩ := cs_elem S4.out (k1 : Int) (by omega) (by have := LT.out; omega)); (simp only [Int.toNat_natCast] at e0 e1 e2 hfr); (have fr0 : w4.frozen? ⟨g, k1 * 3, none⟩ = false := hfr 0); (have fr1 := hfr 1); (have fr2 := hfr 2); (have p1 : ((k1 : Int) < (C1.length : Int)) = True := eq_true (by have := LT.out; omega)); (obtain ⟨W5, hW5⟩ : ∃ W, w4.setCell ⟨g, k1 * 3 + 1, none⟩ (.string leaf) = W := ⟨_, rfl⟩); (have hPg := (Kd.S_R S4.out).1 g rfl); (have KK5 : Kept w4 W5 (fun j => j = g) := by rw [← hW5]; exact (Kept.refl w4 (fun j => j = g)).setCell (p := ⟨g, k1 * 3 + 1, none⟩) (.inl rfl) _); (have X5 := Aside0.mk (blk_kept X4.out KK5 (fun e_ => hPg.2.1 e_.symm))); (have Z5 := Aside0.mk (blk_kept Z4.out KK5 (fun e_ => hPg.2.2 e_.symm))); (have S5 := cs_put1 S4.out (k1 : Int) (by omega) (by have := LT.out; omega) leaf); (simp only [Int.toNat_natCast] at S5); (rw [hW5, hx] at S5); (have B5 := Aside0.mk (show Below w0.heap.size w0 W5 by have h_ := Kd.S_base S4.out g rfl; rw [← hW5]; exact below_set B4.out h_)); (have K5 := Aside0.mk (K4.out.then_ KK5 (fun j hj => .inl (by rw [hj]; exact hPg.1)))); (have S5 := Aside0.mk S5); (have xx0 : W5.cell? ⟨xg, 0, none⟩ = some (.slice (some ⟨g, 0, none⟩) C1.length c2) := (blk_cell X5.out 0).trans rfl); (have xx1 : W5.cell? ⟨xg, 1, none⟩ = some (.slice A1 n1 c1) := (blk_cell X5.out 1).trans rfl); (have xx2 : W5.cell? ⟨xg, 2, none⟩ = some (.int .i64 L) := (blk_cell X5.out 2).trans rfl); (have r0 : W5.cell? ⟨W1.heap.size, 0, none⟩ = some (.slice none 0 0) := (blk_cell Z5.out 0).trans rfl); (have r1 : W5.cell? ⟨W1.heap.size, 1, none⟩ = some (.slice none 0 0) := (blk_cell Z5.out 1).trans rfl); (have r2 : W5.cell? ⟨W1.heap.size, 2, none⟩ = some (.int .i64 0) := (blk_cell Z5.out 2).trans rfl); (have s0 := blk_frozen Z5.out 0); (have s1 := blk_frozen Z5.out 1); (have s2 := blk_frozen Z5.out 2); (clear hfr hPg KK5 X4 Z4 S4 B4 K4 X2 Z2 S2 B2 K2))
    refine bodyPost_ret (results_ct rfl _ _ W1.heap.size 25 #[.slice (some ⟨g, 0, none⟩) C1.length c2, .slice A1 n1 c1, .int .i64 L] (0, 0) _ rfl (put3 Z5.out _ _ _) Try.underlying25 rfl (by kernel_rfl)) rfl ?_
    have hz : xg ≤ W1.heap.size := Nat.le_of_lt XZ.out
    rw [hx]
    refine ⟨_, rfl, ?_, below3 B5.out (Nat.le_trans BX.out hz), keep3 K5.out (.inr (HXG.out ▸ hz))⟩
    exact Kd.S_mono (far3 S5.out Z5.out) (fun k hk => hk.1)
  ·have h := HH.out
   rw [if_neg hl0] at h
   obtain ⟨l, rfl⟩ : ∃ m, l = m + 1 := ⟨l - 1, by omega⟩
   obtain ⟨sz, n, hsz, hszn, hn0, hdd, hdig⟩ := DG.out
   by_cases hd : 0 ≤ dg (l + 2) ∧ dg (l + 2) < 4 ∧ (rd_T68 C1 (k1 : Int)).f2.length = 4
   ·replace h := (if_pos hd).symm.trans h
    obtain ⟨⟨C2, zq⟩, hq, h⟩ := Option.bind_eq_some_iff.1 h
    simp only at h
    obtain ⟨d, hdn⟩ : ∃ d : Nat, dg (l + 2) = (d : Int) := ⟨(dg (l + 2)).toNat, by omega⟩
    rw [show l + 1 + 1 = l + 2 by omega, hdn] at hq h
    rw [hdn] at hdd hd
    simp only [Int.toNat_natCast] at h
    have D4 := Aside0.mk (show d < 4 by omega)
    have F4 := Aside0.mk hd.2.2
    have HQ := Aside0.mk hq
    replace HH := Aside0.mk h
    have HDIG := Aside0.mk hdig
    have LW := Aside0.mk (show wrap64 (lv - 1) = ((l + 1 : Nat) : Int) by rw [w64 (x := lv - 1) (by have := HL.out; omega) (by have := HL.out; omega)]; omega)
    have TS := Aside0.mk (fun W => spec_l14Size.calls K lv sz W (by rw [hlv]; exact hsz))
    have LV := Aside0.mk hlv
    have q1 : (lv = 1) = False := eq_false (by omega)
    have q2 : (lv == 1) = false := beq_eq_false_iff_ne.2 (by omega)
    have qn : (n = 0) = False := eq_false hn0
    have qn2 : (n == 0) = false := beq_eq_false_iff_ne.2 hn0
    have DD := Aside0.mk hdd
    clear h hq hd hdn hlv hl0 hsz hdig hn0 DG
    by_cases hle : leaf.size = 0
    ·obtain rfl := empty_of_size hle
     have hk0 := NLK.out
     have t1 : (k < 0) = False := eq_false (fun e_ => hk0 ⟨rfl, e_⟩)
     clear hk0 hle
     go_enter Try.func74, Try.ntmps74
     go_wp2_with (go_at_call 88; refine T1.out.mono ?_; (first | rintro e w3 v0 rfl hS3 hB3 hK3 | rintro e w3 ⟨v0, rfl, hS3, hB3, hK3⟩); (obtain ⟨A2, c2, rfl⟩ := Kd.S_slice hS3); (replace hS3 : CS w3 w0.heap.size (fun k => P k ∧ k ≠ xg ∧ k ≠ W1.heap.size) (.slice A2 C1.length c2) C1 := hS3); (have X3 := Aside0.mk (blk_kept X2.out hK3 (fun h_ => h_.2.1 rfl))); (have Z3 := Aside0.mk (blk_kept Z2.out hK3 (fun h_ => h_.2.2 rfl))); (have K3 := Aside0.mk (K2.out.then_ hK3 (fun j hj => .inl hj.1))); (have q0 : w3.cell? ⟨xg, 0, none⟩ = some (.slice A C.length c) := (blk_cell X3.out 0).trans rfl); (have q1 : w3.cell? ⟨xg, 1, none⟩ = some (.slice A1 n1 c1) := (blk_cell X3.out 1).trans rfl); (have q2 : w3.cell? ⟨xg, 2, none⟩ = some (.int .i64 L) := (blk_cell X3.out 2).trans rfl); have u0 := blk_frozen X3.out 0; have u1 := blk_frozen X3.out 1; have u2 := blk_frozen X3.out 2; (obtain ⟨w4, hw4⟩ : ∃ W, ((w3.setCell ⟨xg, 0, none⟩ (.slice A2 C1.length c2)).setCell ⟨xg, 1, none⟩ (.slice A1 n1 c1)).setCell ⟨xg, 2, none⟩ (.int .i64 L) = W := ⟨_, rfl⟩); (have X4 := Aside0.mk (show w4.heap[xg]? = some (.cells #[.slice A2 C1.length c2, .slice A1 n1 c1, .int .i64 L] 25 (0, 0)) by rw [← hw4]; exact put3 X3.out _ _ _)); (have KK4 : Kept w3 w4 (fun j => j = xg) := by rw [← hw4]; exact keep3 (Kept.refl w3 (fun j => j = xg)) (.inl rfl)); (have Z4 := Aside0.mk (blk_kept Z3.out KK4 (by have := XZ.out; omega))); (have S4 := Aside0.mk (Kd.S_kept hS3 KK4 (fun k hk e_ => hk.2.1 e_))); (have B4 := Aside0.mk (show Below w0.heap.size w0 w4 by rw [← hw4]; exact below3 hB3 BX.out)); (have K4 := Aside0.mk (K3.out.then_ KK4 (fun j hj => .inr (by rw [hj]; exact Nat.le_of_eq HXG.out)))); (have x0 : w4.cell? ⟨xg, 0, none⟩ = some (.slice A2 C1.length c2) := (blk_cell X4.out 0).trans rfl); clear X3 Z3 K3 KK4 hS3 hB3 hK3 T1 d0 d1 d2)
     go_wp2_with (go_at_call 85; refine (TS.out _).mono ?_)
     (first | rintro e w5 rfl hdr | rintro e w5 ⟨rfl, hdr⟩)
     have hb := hdr.below
     clear hdr TS q0 u0 u1 u2 hw4 x0
     replace X4 := Aside0.mk (blk_below X4.out hb)
     replace Z4 := Aside0.mk (blk_below Z4.out hb)
     replace S4 := Aside0.mk (Kd.S_below S4.out hb)
     replace B4 := Aside0.mk (below_then B4.out B4.out.size hb)
     replace K4 := Aside0.mk (K4.out.below hb)
     clear hb
     go_wp2
     obtain ⟨g, cap, hv, _, _, _⟩ := Kd.S_form S4.out (by have := LT.out; omega)
     injection hv with hA hn_ hc
     subst hA hc
     clear hn_
     have hlt := LT.out
     obtain ⟨x, hx⟩ : ∃ x, rd_T68 C1 (k1 : Int) = x := ⟨_, rfl⟩
     rw [hx] at F4 HQ
     obtain ⟨_, v, e0, e1, e2, hfr, _, hR, _⟩ := cs_elem S4.out (k1 : Int) (by omega) (by omega)
     simp only [Int.toNat_natCast] at e0 e1 e2 hfr
     rw [hx] at hR
     obtain ⟨A5, c5, rfl⟩ := Kd.R_slice hR
     rw [F4.out] at e2
     obtain ⟨ad, e3, hy⟩ := Kd.at_int (Kd.R_reads' hR).2.2 (d : Int) (by omega) (by have := F4.out; have := D4.out; omega)
     subst e3
     simp only [Int.toNat_natCast] at hy
     obtain ⟨z, hz⟩ : ∃ z, rd x.f2 (d : Int) = z := ⟨_, rfl⟩
     rw [hz] at hy HQ
     have p1 : ((k1 : Int) < (C1.length : Int)) = True := eq_true (by omega)
     have p2 : ((d : Int) < 4) = True := eq_true (by have := D4.out; omega)
     have hdd := DD.out
     have E2 := Aside0.mk e2
     have HY := Aside0.mk hy
     clear hR hfr e0 e1 e2 hy hx
     refine start_ (n := 25) (S := fun w' => w'.cell? ⟨xg, 0, none⟩ = some (.slice (some ⟨g, 0, none⟩) C1.length c2) ∧ w'.cell? ⟨xg, 1, none⟩ = some (.slice A1 n1 c1) ∧ w'.cell? ⟨xg, 2, none⟩ = some (.int .i64 L) ∧ w'.cell? ⟨g, k1 * 3 + 2, none⟩ = some (.slice (some ad) 4 c5) ∧ w'.cell? (ad.add d) = some (.int .i64 z)) (ds := [18, 23]) #[false, false, false, false, false, false, false, false, false, false, false, false, false, false, false, false, false, false, false, false, false, false, false, false, false] (by kernel_rfl) rfl rfl ⟨(blk_cell X4.out 0).trans rfl, (blk_cell X4.out 1).trans rfl, (blk_cell X4.out 2).trans rfl, E2.out, HY.out⟩ (fun hHeld => ?_)
     replace X4 := Aside0.mk (blk_drew X4.out)
     replace Z4 := Aside0.mk (blk_drew Z4.out)
     replace S4 := Aside0.mk (Kd.S_drew S4.out)
     replace B4 := Aside0.mk (below_drew1 B4.out)
     replace K4 := Aside0.mk K4.out.drew
     replace E2 := Aside0.mk (show w5.drew.cell? ⟨g, k1 * 3 + 2, none⟩ = some (.slice (some ad) 4 c5) from E2.out)
     replace HY := Aside0.mk (show w5.drew.cell? (ad.add d) = some (.int .i64 z) from HY.out)
     generalize w5.drew = w6 at X4 Z4 S4 B4 K4 E2 HY hHeld ⊢
     refine take_ (i := 0) (N := some 58) (v := ?_) (a' := ?_) #[true, false, false, false, false, false, false, false, false, false, false, false, false, false, false, false, false, false, false, false, false, false, false, false, false] rfl rfl (by kernel_rfl) (fun _ _ _ h => h) (Or.inl ⟨by rfl, ?_⟩) hHeld ?_ ?_
     rotate_left
     ·rintro w' ⟨s0, s1, s2, s3, s4⟩
      go_simp
      with_reducible rfl
     rotate_left
     ·simp only [apu_]
      rfl
     refine take_ (i := 1) (N := some 59) (v := ?_) (a' := ?_) #[true, true, false, false, false, false, false, false, false, false, false, false, false, false, false, false, false, false, false, false, false, false, false, false, false] rfl rfl (by kernel_rfl) (fun _ _ _ h => h) (Or.inl ⟨by rfl, ?_⟩) hHeld ?_ ?_
     rotate_left
     ·rintro w' ⟨s0, s1, s2, s3, s4⟩
      go_simp
      with_reducible rfl
     rotate_left
     ·simp only [apu_]
      rfl
     refine take_ (i := 2) (N := some 60) (v := ?_) (a' := ?_) #[true, true, true, false, false, false, false, false, false, false, false, false, false, false, false, false, false, false, false, false, false, false, false, false, false] rfl rfl (by kernel_rfl) (fun _ _ _ h => h) (Or.inl ⟨by rfl, ?_⟩) hHeld ?_ ?_
     rotate_left
     ·rintro w' ⟨s0, s1, s2, s3, s4⟩
      go_simp
      with_reducible rfl
     rotate_left
     ·simp only [apu_]
      rfl
     refine take_ (i := 3) (N := some 61) (v := ?_) (a' := ?_) #[true, true, true, true, false, false, false, false, false, false, false, false, false, false, false, false, false, false, false, false, false, false, false, false, false] rfl rfl (by kernel_rfl) (fun _ _ _ h => h) (Or.inl ⟨by rfl, ?_⟩) hHeld ?_ ?_
     rotate_left
     ·rintro w' ⟨s0, s1, s2, s3, s4⟩
      go_simp
      with_reducible rfl
     rotate_left
     ·simp only [apu_]
      rfl
     refine take_ (i := 4) (N := some 62) (v := ?_) (a' := ?_) #[true, true, true, true, true, false, false, false, false, false, false, false, false, false, false, false, false, false, false, false, false, false, false, false, false] rfl rfl (by kernel_rfl) (fun _ _ _ h => h) (Or.inl ⟨by rfl, ?_⟩) hHeld ?_ ?_
     rotate_left
     ·rintro w' ⟨s0, s1, s2, s3, s4⟩
      go_simp
      with_reducible rfl
     rotate_left
     ·simp only [apu_]
      rfl
     refine take_ (i := 5) (N := some 63) (v := ?_) (a' := ?_) #[true, true, true, true, true, true, false, false, false, false, false, false, false, false, false, false, false, false, false, false, false, false, false, false, false] rfl rfl (by kernel_rfl) (fun _ _ _ h => h) (Or.inl ⟨by rfl, ?_⟩) hHeld ?_ ?_
     rotate_left
     ·rintro w' ⟨s0, s1, s2, s3, s4⟩
      go_simp
      with_reducible rfl
     rotate_left
     ·simp only [apu_]
      rfl
     refine take_ (i := 6) (N := some 64) (v := ?_) (a' := ?_) #[true, true, true, true, true, true, true, false, false, false, false, false, false, false, false, false, false, false, false, false, false, false, false, false, false] rfl rfl (by kernel_rfl) (fun _ _ _ h => h) (Or.inl ⟨by rfl, ?_⟩) hHeld ?_ ?_
     rotate_left
     ·rintro w' ⟨s0, s1, s2, s3, s4⟩
      go_simp
      with_reducible rfl
     rotate_left
     ·simp only [apu_]
      rfl
     refine take_ (i := 7) (N := some 65) (v := ?_) (a' := ?_) #[true, true, true, true, true, true, true, true, false, false, false, false, false, false, false, false, false, false, false, false, false, false, false, false, false] rfl rfl (by kernel_rfl) (fun _ _ _ h => h) (Or.inl ⟨by rfl, ?_⟩) hHeld ?_ ?_
     rotate_left
     ·rintro w' ⟨s0, s1, s2, s3, s4⟩
      go_simp
      with_reducible rfl
     rotate_left
     ·simp only [apu_]
      rfl
     refine take_ (i := 8) (N := some 66) (v := ?_) (a' := ?_) #[true, true, true, true, true, true, true, true, true, false, false, false, false, false, false, false, false, false, false, false, false, false, false, false, false] rfl rfl (by kernel_rfl) (fun _ _ _ h => h) (Or.inl ⟨by rfl, ?_⟩) hHeld ?_ ?_
     rotate_left
     ·rintro w' ⟨s0, s1, s2, s3, s4⟩
      go_simp
      with_reducible rfl
     rotate_left
     ·simp only [apu_]
      rfl
     refine take_ (i := 9) (N := some 67) (v := ?_) (a' := ?_) #[true, true, true, true, true, true, true, true, true, true, false, false, false, false, false, false, false, false, false, false, false, false, false, false, false] rfl rfl (by kernel_rfl) (fun _ _ _ h => h) (Or.inl ⟨by rfl, ?_⟩) hHeld ?_ ?_
     rotate_left
     ·rintro w' ⟨s0, s1, s2, s3, s4⟩
      go_simp
      with_reducible rfl
     rotate_left
     ·simp only [Act.put, List.setIfInBounds_toArray, List.set_cons_zero, List.set_cons_succ, i64_w, i32_w, hdd]
      rfl
     refine take_ (i := 10) (N := some 68) (v := ?_) (a' := ?_) #[true, true, true, true, true, true, true, true, true, true, true, false, false, false, false, false, false, false, false, false, false, false, false, false, false] rfl rfl (by kernel_rfl) (fun _ _ _ h => h) (Or.inl ⟨by rfl, ?_⟩) hHeld ?_ ?_
     rotate_left
     ·rintro w' ⟨s0, s1, s2, s3, s4⟩
      go_simp
      with_reducible rfl
     rotate_left
     ·simp only [apu_]
      rfl
     refine take_ (i := 11) (N := some 69) (v := ?_) (a' := ?_) #[true, true, true, true, true, true, true, true, true, true, true, true, false, false, false, false, false, false, false, false, false, false, false, false, false] rfl rfl (by kernel_rfl) (fun _ _ _ h => h) (Or.inl ⟨by rfl, ?_⟩) hHeld ?_ ?_
     rotate_left
     ·rintro w' ⟨s0, s1, s2, s3, s4⟩
      go_simp
      with_reducible rfl
     rotate_left
     ·simp only [apu_]
      rfl
     refine take_ (i := 12) (N := some 70) (v := ?_) (a' := ?_) #[true, true, true, true, true, true, true, true, true, true, true, true, true, false, false, false, false, false, false, false, false, false, false, false, false] rfl rfl (by kernel_rfl) (fun _ _ _ h => h) (Or.inl ⟨by rfl, ?_⟩) hHeld ?_ ?_
     rotate_left
     ·rintro w' ⟨s0, s1, s2, s3, s4⟩
      go_simp
      with_reducible rfl
     rotate_left
     ·simp only [apu_]
      rfl
     refine take_ (i := 13) (N := some 71) (v := ?_) (a' := ?_) #[true, true, true, true, true, true, true, true, true, true, true, true, true, true, false, false, false, false, false, false, false, false, false, false, false] rfl rfl (by kernel_rfl) (fun _ _ _ h => h) (Or.inl ⟨by rfl, ?_⟩) hHeld ?_ ?_
     rotate_left
     ·rintro w' ⟨s0, s1, s2, s3, s4⟩
      go_simp
      with_reducible rfl
     rotate_left
     ·simp only [apu_]
      rfl
     refine take_ (i := 14) (N := some 72) (v := ?_) (a' := ?_) #[true, true, true, true, true, true, true, true, true, true, true, true, true, true, true, false, false, false, false, false, false, false, false, false, false] rfl rfl (by kernel_rfl) (fun _ _ _ h => h) (Or.inl ⟨by rfl, ?_⟩) hHeld ?_ ?_
     rotate_left
     ·rintro w' ⟨s0, s1, s2, s3, s4⟩
      go_simp
      with_reducible rfl
     rotate_left
     ·simp only [apu_]
      rfl
     refine take_ (i := 15) (N := some 73) (v := ?_) (a' := ?_) #[true, true, true, true, true, true, true, true, true, true, true, true, true, true, true, true, false, false, false, false, false, false, false, false, false] rfl rfl (by kernel_rfl) (fun _ _ _ h => h) (Or.inl ⟨by rfl, ?_⟩) hHeld ?_ ?_
     rotate_left
     ·rintro w' ⟨s0, s1, s2, s3, s4⟩
      go_simp
      with_reducible rfl
     rotate_left
     ·simp only [apu_]
      rfl
     refine take_ (i := 16) (N := some 74) (v := ?_) (a' := ?_) #[true, true, true, true, true, true, true, true, true, true, true, true, true, true, true, true, true, false, false, false, false, false, false, false, false] rfl rfl (by kernel_rfl) (fun _ _ _ h => h) (Or.inl ⟨by rfl, ?_⟩) hHeld ?_ ?_
     rotate_left
     ·rintro w' ⟨s0, s1, s2, s3, s4⟩
      go_simp
      with_reducible rfl
     rotate_left
     ·simp only [apu_]
      rfl
     refine take_ (i := 17) (N := some 75) (v := ?_) (a' := ?_) #[true, true, true, true, true, true, true, true, true, true, true, true, true, true, true, true, true, true, false, false, false, false, false, false, false] rfl rfl (by kernel_rfl) (fun _ _ _ h => h) (Or.inl ⟨by rfl, ?_⟩) hHeld ?_ ?_
     rotate_left
     ·rintro w' ⟨s0, s1, s2, s3, s4⟩
      go_simp
      with_reducible rfl
     rotate_left
     ·simp only [apu_]
      rfl
     refine join_ (σ := Nat × Option Addr × Nat) 2 #[true, true, true, true, true, true, true, true, true, true, true, true, true, true, true, true, true, true, true, true, true, true, true, false, false] (fun s_ => [(76, .tuple #[.agg #[.slice s_.2.1 C2.length s_.2.2, .slice A1 n1 c1, .int .i64 L], .int .i64 zq]), (57, .tuple #[.agg #[.slice s_.2.1 C2.length s_.2.2, .slice A1 n1 c1, .int .i64 L], .int .i64 zq]), (77, .agg #[.slice s_.2.1 C2.length s_.2.2, .slice A1 n1 c1, .int .i64 L]), (78, .int .i64 zq), (13, .pointer (some ⟨s_.1, 0, none⟩))]) (fun s_ w' => w'.heap[s_.1]? = some (.cells #[.slice none 0 0, .slice none 0 0, .int .i64 0] 25 (0, 0)) ∧ w'.heap[W1.heap.size]? = some (.cells #[.slice none 0 0, .slice none 0 0, .int .i64 0] 25 (0, 0)) ∧ CS w' w0.heap.size (fun k => (P k ∧ k ≠ xg ∧ k ≠ W1.heap.size) ∧ k ≠ s_.1) (.slice s_.2.1 C2.length s_.2.2) C2 ∧ Below w0.heap.size w0 w' ∧ Kept w w' P ∧ W1.heap.size < s_.1) ?_ ?_
     rotate_left
     ·intro hCont
      have hsz := K4.out.1
      have hzl := blk_lt Z4.out
      refine two_last (i := 18) (j := 22) (Ni := some 76) (Nj := some 13) #[true, true, true, true, true, true, true, true, true, true, true, true, true, true, true, true, true, true, true, false, false, false, false, false, false] #[true, true, true, true, true, true, true, true, true, true, true, true, true, true, true, true, true, true, false, false, false, false, true, false, false] rfl rfl rfl rfl (by kernel_rfl) (by decide) (by decide) (fun K hK => ?_) (fun K hK => ?_)
      ·refine goes_ Try.func74 (by kernel_rfl) rfl #[.agg #[.slice (some ⟨g, 0, none⟩) C1.length c2, .slice A1 n1 c1, .int .i64 L], .int .i64 z, .int .i64 (wrap64 (lv - 1)), .int .i64 (Int.tmod a_ n), .string ⟨#[]⟩] (by rfl) rfl rfl (by (try simp only [List.map_toArray, List.map_cons, List.map_nil]); first | done | rfl) ?_
       refine (IH.out (some ⟨g, 0, none⟩) c2 C1 z (wrap64 (lv - 1)) (Int.tmod a_ n) (fun k => P k ∧ k ≠ xg ∧ k ≠ W1.heap.size) (C2, zq) w0 w6 LW.out (by have := HL.out; omega) HDIG.out B4.out S4.out (fun k hk => (have h1_ := XZ.out; have h2_ := HXG.out; ⟨FP.out k (by omega), by omega, by omega⟩)) HQ.out).mono ?_
       (first | rintro e w7 v7 rfl hS7 hB7 hK7 | rintro e w7 ⟨v7, rfl, hS7, hB7, hK7⟩)
       refine ⟨_, rfl, ?_⟩
       obtain ⟨A7, c7, rfl⟩ := Kd.S_slice hS7
       replace hS7 : CS w7 w0.heap.size (fun k => P k ∧ k ≠ xg ∧ k ≠ W1.heap.size) (.slice A7 C2.length c7) C2 := hS7
       have Z7 := blk_kept Z4.out hK7 (fun h_ => h_.2.2 rfl)
       have K7 := K4.out.then_ hK7 (fun j hj => .inl hj.1)
       have hzl7 := blk_lt Z7
       refine hK.out _ _ ?_
       clear hK K hK7
       refine norm_ (a' := ?_) ?_ ?_
       rotate_left
       ·show Act.put _ (some 76) _ = _
        simp only [apu_]
        rfl
       refine pure_ (i := 19) (N := some 57) (v := ?_) (a' := ?_) #[true, true, true, true, true, true, true, true, true, true, true, true, true, true, true, true, true, true, true, true, false, false, false, false, false] rfl rfl (by kernel_rfl) (fun _ _ _ h => h) (Or.inl ⟨by rfl, ?_⟩) ?_ ?_
       rotate_left
       ·intro w'
        go_simp
        with_reducible rfl
       rotate_left
       ·simp only [apu_]
        rfl
       refine pure_ (i := 20) (N := some 77) (v := ?_) (a' := ?_) #[true, true, true, true, true, true, true, true, true, true, true, true, true, true, true, true, true, true, true, true, true, false, false, false, false] rfl rfl (by kernel_rfl) (fun _ _ _ h => h) (Or.inl ⟨by rfl, ?_⟩) ?_ ?_
       rotate_left
       ·intro w'
        go_simp
        with_reducible rfl
       rotate_left
       ·simp only [apu_]
        rfl
       refine pure_ (i := 21) (N := some 78) (v := ?_) (a' := ?_) #[true, true, true, true, true, true, true, true, true, true, true, true, true, true, true, true, true, true, true, true, true, true, false, false, false] rfl rfl (by kernel_rfl) (fun _ _ _ h => h) (Or.inl ⟨by rfl, ?_⟩) ?_ ?_
       rotate_left
       ·intro w'
        go_simp
        with_reducible rfl
       rotate_left
       ·simp only [apu_]
        rfl
       refine one_c (i := 22) (N := some 13) #[true, true, true, true, true, true, true, true, true, true, true, true, true, true, true, true, true, true, true, true, true, true, true, false, false] rfl rfl (by kernel_rfl) (fun K hK => ?_)
       refine event_step (by rfl) (v := .pointer (some ⟨w7.heap.size, 0, none⟩)) (w1 := w7.alloc (.cells #[.slice none 0 0, .slice none 0 0, .int .i64 0] 25)) (by first | (go_simp; done) | (go_simp; rfl)) ?_
       have hba := below_alloc (Below.refl w7.heap.size w7) (.cells #[.slice none 0 0, .slice none 0 0, .int .i64 0] 25)
       refine hK.out _ _ (fun hs => ⟨cell_kept hs.1 (Kept.of_below hba (fun _ => False)) id, cell_kept hs.2.1 (Kept.of_below hba (fun _ => False)) id, cell_kept hs.2.2.1 (Kept.of_below hba (fun _ => False)) id, cell_kept hs.2.2.2.1 (Kept.of_below hba (fun _ => False)) id, cell_kept hs.2.2.2.2 (Kept.of_below hba (fun _ => False)) id⟩) ?_
       clear hK K
       exact hCont (w7.heap.size, A7, c7) _ ⟨heap_alloc_new w7 _, blk_below Z7 hba, Kd.S_below (Kd.S_mono (Kd.S_bound hS7) (fun k hk => ⟨hk.1, Nat.ne_of_lt hk.2.2.1⟩)) hba, below_then hB7 hB7.size hba, K7.below hba, hzl7⟩
      ·refine event_step (by rfl) (v := .pointer (some ⟨w6.heap.size, 0, none⟩)) (w1 := w6.alloc (.cells #[.slice none 0 0, .slice none 0 0, .int .i64 0] 25)) (by first | (go_simp; done) | (go_simp; rfl)) ?_
       have hba := below_alloc (Below.refl w6.heap.size w6) (.cells #[.slice none 0 0, .slice none 0 0, .int .i64 0] 25)
       have D7 := heap_alloc_new w6 (.cells #[.slice none 0 0, .slice none 0 0, .int .i64 0] 25)
       refine hK.out _ _ ⟨(blk_cell (blk_below X4.out hba) 0).trans rfl, (blk_cell (blk_below X4.out hba) 1).trans rfl, (blk_cell (blk_below X4.out hba) 2).trans rfl, cell_kept E2.out (Kept.of_below hba (fun _ => False)) id, cell_kept HY.out (Kept.of_below hba (fun _ => False)) id⟩ (fun hHeld => ?_)
       clear hK K
       refine norm_ (a' := ?_) ?_ ?_
       rotate_left
       ·show Act.put _ (some 13) _ = _
        simp only [apu_]
        rfl
       refine last_ (i := 18) (N := some 76) #[true, true, true, true, true, true, true, true, true, true, true, true, true, true, true, true, true, true, true, false, false, false, true, false, false] rfl rfl (by kernel_rfl) (by decide) (fun K hK => ?_)
       refine goes_ Try.func74 (by kernel_rfl) rfl #[.agg #[.slice (some ⟨g, 0, none⟩) C1.length c2, .slice A1 n1 c1, .int .i64 L], .int .i64 z, .int .i64 (wrap64 (lv - 1)), .int .i64 (Int.tmod a_ n), .string ⟨#[]⟩] (by rfl) rfl rfl (by (try simp only [List.map_toArray, List.map_cons, List.map_nil]); first | done | rfl) ?_
       have hds := blk_lt D7
       have hS6 := Kd.S_mono (Kd.S_bound S4.out) (fun k hk => (⟨hk.1, Nat.ne_of_lt hk.2.2.1⟩ : (P k ∧ k ≠ xg ∧ k ≠ W1.heap.size) ∧ k ≠ w6.heap.size))
       refine (IH.out (some ⟨g, 0, none⟩) c2 C1 z (wrap64 (lv - 1)) (Int.tmod a_ n) (fun k => (P k ∧ k ≠ xg ∧ k ≠ W1.heap.size) ∧ k ≠ w6.heap.size) (C2, zq) w0 _ LW.out (by have := HL.out; omega) HDIG.out (below_then B4.out B4.out.size hba) (Kd.S_below hS6 hba) (fun k hk => (have h1_ := XZ.out; have h2_ := HXG.out; ⟨⟨FP.out k (by omega), by omega, by omega⟩, by omega⟩)) HQ.out).mono ?_
       (first | rintro e w7 v7 rfl hS7 hB7 hK7 | rintro e w7 ⟨v7, rfl, hS7, hB7, hK7⟩)
       refine ⟨_, rfl, ?_⟩
       obtain ⟨A7, c7, rfl⟩ := Kd.S_slice hS7
       replace hS7 : CS w7 w0.heap.size (fun k => (P k ∧ k ≠ xg ∧ k ≠ W1.heap.size) ∧ k ≠ w6.heap.size) (.slice A7 C2.length c7) C2 := hS7
       have Z7 := blk_kept (blk_below Z4.out hba) hK7 (fun h_ => h_.1.2.2 rfl)
       have K7 := (K4.out.below hba).then_ hK7 (fun j hj => .inl hj.1.1)
       refine hK.out _ _ ?_
       clear hK K
       refine norm_ (a' := ?_) ?_ ?_
       rotate_left
       ·show Act.put _ (some 76) _ = _
        simp only [apu_]
        rfl
       refine pure_ (i := 19) (N := some 57) (v := ?_) (a' := ?_) #[true, true, true, true, true, true, true, true, true, true, true, true, true, true, true, true, true, true, true, true, false, false, true, false, false] rfl rfl (by kernel_rfl) (fun _ _ _ h => h) (Or.inl ⟨by rfl, ?_⟩) ?_ ?_
       rotate_left
       ·intro w'
        go_simp
        with_reducible rfl
       rotate_left
       ·simp only [apu_]
        rfl
       refine pure_ (i := 20) (N := some 77) (v := ?_) (a' := ?_) #[true, true, true, true, true, true, true, true, true, true, true, true, true, true, true, true, true, true, true, true, true, false, true, false, false] rfl rfl (by kernel_rfl) (fun _ _ _ h => h) (Or.inl ⟨by rfl, ?_⟩) ?_ ?_
       rotate_left
       ·intro w'
        go_simp
        with_reducible rfl
       rotate_left
       ·simp only [apu_]
        rfl
       refine pure_ (i := 21) (N := some 78) (v := ?_) (a' := ?_) #[true, true, true, true, true, true, true, true, true, true, true, true, true, true, true, true, true, true, true, true, true, true, true, false, false] rfl rfl (by kernel_rfl) (fun _ _ _ h => h) (Or.inl ⟨by rfl, ?_⟩) ?_ ?_
       rotate_left
       ·intro w'
        go_simp
        with_reducible rfl
       rotate_left
       ·simp only [apu_]
        rfl
       exact hCont (w6.heap.size, A7, c7) _ ⟨blk_kept D7 hK7 (fun h_ => h_.2 rfl), Z7, hS7, hB7, K7, hzl⟩
     rintro ⟨db, A7, c7⟩ w8 ⟨hD8, hZ8, hS8, hB8, hK8, hDZ⟩
     dsimp only at hD8 hS8 hDZ
     dsimp only [putAll]
     clear hHeld X4 Z4 S4 B4 K4 E2 HY
     refine norm_ (a' := ?_) ?_ ?_
     rotate_left
     ·simp only [apu_]
      rfl
     have DZ := Aside0.mk hDZ
     have r0 : w8.cell? ⟨db, 0, none⟩ = some (.slice none 0 0) := (blk_cell hD8 0).trans rfl
     have r1 : w8.cell? ⟨db, 1, none⟩ = some (.slice none 0 0) := (blk_cell hD8 1).trans rfl
     have r2 : w8.cell? ⟨db, 2, none⟩ = some (.int .i64 0) := (blk_cell hD8 2).trans rfl
     have s0 := blk_frozen hD8 0
     have s1 := blk_frozen hD8 1
     have s2 := blk_frozen hD8 2
     refine last_ (i := 23) (N := none) #[true, true, true, true, true, true, true, true, true, true, true, true, true, true, true, true, true, true, true, true, true, true, true, true, false] rfl rfl (by kernel_rfl) (by decide) (fun K hK => ?_)
     refine skip_ (w1 := ((w8.setCell ⟨db, 0, none⟩ (.slice A7 C2.length c7)).setCell ⟨db, 1, none⟩ (.slice A1 n1 c1)).setCell ⟨db, 2, none⟩ (.int .i64 L)) (by rfl) rfl ?_ ?_
     ·first | (go_simp; done) | (go_simp; rfl)
     refine hK.out _ _ ?_
     clear hK K r0 r1 r2 s0 s1 s2
     have KK9 := keep3 (a := .slice A7 C2.length c7) (b := .slice A1 n1 c1) (c := .int .i64 L) (Kept.refl w8 (fun j => j = db)) (.inl rfl)
     have D9 := Aside0.mk (put3 hD8 (.slice A7 C2.length c7) (.slice A1 n1 c1) (.int .i64 L))
     have Z9 := Aside0.mk (blk_kept hZ8 KK9 (Nat.ne_of_lt hDZ))
     have S9 := Aside0.mk (Kd.S_kept hS8 KK9 (fun k hk => hk.2))
     have hdb : xg ≤ db := by have := XZ.out; omega
     have B9 := Aside0.mk (below3 (a := .slice A7 C2.length c7) (b := .slice A1 n1 c1) (c := .int .i64 L) hB8 (Nat.le_trans BX.out hdb))
     have K9 := Aside0.mk (hK8.then_ KK9 (fun j hj => .inr (by rw [hj]; exact HXG.out ▸ hdb)))
     have DB := Aside0.mk hdb
     clear KK9 hD8 hZ8 hS8 hB8 hK8 hDZ hdb
     generalize ((w8.setCell ⟨db, 0, none⟩ (.slice A7 C2.length c7)).setCell ⟨db, 1, none⟩ (.slice A1 n1 c1)).setCell ⟨db, 2, none⟩ (.int .i64 L) = w9 at D9 Z9 S9 B9 K9 ⊢
     refine pure_ (i := 24) (N := some 14) (v := ?_) (a' := ?_) #[true, true, true, true, true, true, true, true, true, true, true, true, true, true, true, true, true, true, true, true, true, true, true, true, true] rfl rfl (by kernel_rfl) (fun _ _ _ h => h) (Or.inl ⟨by rfl, ?_⟩) ?_ ?_
     rotate_left
     ·intro w'
      go_simp
      with_reducible rfl
     rotate_left
     ·simp only [apu_]
      rfl
     refine done_ (by kernel_rfl) ?_
     have h := HH.out
     split at h
     ·rename_i hcd
      obtain ⟨hk2, hl4, hf1⟩ := hcd
      obtain ⟨g7, cap, hv, _, _, _⟩ := Kd.S_form S9.out (by omega)
      injection hv with hA hn_ hc
      subst hA hc
      clear hn_ HH
      have HH := Aside0.mk h
      have K2L := Aside0.mk hk2
      clear h
      obtain ⟨x7, hx7⟩ : ∃ x, rd_T68 C2 (k1 : Int) = x := ⟨_, rfl⟩
      rw [hx7] at hl4 hf1 HH
      obtain ⟨v7, e2, hR7, hv7, hback⟩ := cs_inner S9.out (k1 : Int) (by omega) (by omega)
      rw [hx7] at hR7 hback
      obtain ⟨gk, ck, rfl, _, _, _⟩ := Kd.R_form hR7 (by omega)
      rw [hl4] at hR7 e2 hback hv7
      simp only [Int.toNat_natCast] at e2 hback
      obtain ⟨hPk, hngk⟩ := hv7 gk rfl
      have R7 := Aside0.mk hR7
      have BK := Aside0.mk hback
      have E2 := Aside0.mk e2
      have PK := Aside0.mk hPk
      have L4 := Aside0.mk hl4
      have F1 := Aside0.mk hf1
      have p3 : ((k1 : Int) < (C2.length : Int)) = True := eq_true (by omega)
      clear hR7 hback e2 hPk hv7 hl4 hf1 hk2 hngk hx7
      try go_wp2
      refine start_ (n := 12) (S := fun w' => w'.cell? ⟨db, 0, none⟩ = some (.slice (some ⟨g7, 0, none⟩) C2.length c7) ∧ w'.cell? ⟨g7, k1 * 3 + 2, none⟩ = some (.slice (some ⟨gk, 0, none⟩) 4 ck)) (ds := [11]) #[false, false, false, false, false, false, false, false, false, false, false, false] (by kernel_rfl) rfl rfl ⟨(blk_cell D9.out 0).trans rfl, E2.out⟩ (fun hHeld => ?_)
      replace D9 := Aside0.mk (blk_drew D9.out)
      replace Z9 := Aside0.mk (blk_drew Z9.out)
      replace S9 := Aside0.mk (Kd.S_drew S9.out)
      replace R7 := Aside0.mk (Kd.R_drew R7.out)
      replace B9 := Aside0.mk (below_drew1 B9.out)
      replace K9 := Aside0.mk K9.out.drew
      have BW := Aside0.mk (show Kept w9 w9.drew (fun _ => False) from (Kept.refl _ _).drew)
      generalize w9.drew = wD at D9 Z9 S9 R7 B9 K9 BW hHeld ⊢
      clear E2
      refine take_ (i := 0) (N := some 79) (v := ?_) (a' := ?_) #[true, false, false, false, false, false, false, false, false, false, false, false] rfl rfl (by kernel_rfl) (fun _ _ _ h => h) (Or.inl ⟨by rfl, ?_⟩) hHeld ?_ ?_
      rotate_left
      ·rintro w' ⟨s0, s1⟩
       go_simp
       with_reducible rfl
      rotate_left
      ·simp only [apu_]
       rfl
      refine take_ (i := 1) (N := some 80) (v := ?_) (a' := ?_) #[true, true, false, false, false, false, false, false, false, false, false, false] rfl rfl (by kernel_rfl) (fun _ _ _ h => h) (Or.inl ⟨by rfl, ?_⟩) hHeld ?_ ?_
      rotate_left
      ·rintro w' ⟨s0, s1⟩
       go_simp
       with_reducible rfl
      rotate_left
      ·simp only [apu_]
       rfl
      refine take_ (i := 2) (N := some 81) (v := ?_) (a' := ?_) #[true, true, true, false, false, false, false, false, false, false, false, false] rfl rfl (by kernel_rfl) (fun _ _ _ h => h) (Or.inl ⟨by rfl, ?_⟩) hHeld ?_ ?_
      rotate_left
      ·rintro w' ⟨s0, s1⟩
       go_simp
       with_reducible rfl
      rotate_left
      ·simp only [apu_]
       rfl
      refine take_ (i := 3) (N := some 82) (v := ?_) (a' := ?_) #[true, true, true, true, false, false, false, false, false, false, false, false] rfl rfl (by kernel_rfl) (fun _ _ _ h => h) (Or.inl ⟨by rfl, ?_⟩) hHeld ?_ ?_
      rotate_left
      ·rintro w' ⟨s0, s1⟩
       go_simp
       with_reducible rfl
      rotate_left
      ·simp only [apu_]
       rfl
      refine take_ (i := 4) (N := some 83) (v := ?_) (a' := ?_) #[true, true, true, true, true, false, false, false, false, false, false, false] rfl rfl (by kernel_rfl) (fun _ _ _ h => h) (Or.inl ⟨by rfl, ?_⟩) hHeld ?_ ?_
      rotate_left
      ·rintro w' ⟨s0, s1⟩
       go_simp
       with_reducible rfl
      rotate_left
      ·simp only [apu_]
       rfl
      refine take_ (i := 5) (N := some 84) (v := ?_) (a' := ?_) #[true, true, true, true, true, true, false, false, false, false, false, false] rfl rfl (by kernel_rfl) (fun _ _ _ h => h) (Or.inl ⟨by rfl, ?_⟩) hHeld ?_ ?_
      rotate_left
      ·rintro w' ⟨s0, s1⟩
       go_simp
       with_reducible rfl
      rotate_left
      ·simp only [apu_]
       rfl
      refine take_ (i := 6) (N := some 85) (v := ?_) (a' := ?_) #[true, true, true, true, true, true, true, false, false, false, false, false] rfl rfl (by kernel_rfl) (fun _ _ _ h => h) (Or.inl ⟨by rfl, ?_⟩) hHeld ?_ ?_
      rotate_left
      ·rintro w' ⟨s0, s1⟩
       go_simp
       with_reducible rfl
      rotate_left
      ·simp only [apu_]
       rfl
      refine take_ (i := 7) (N := some 86) (v := ?_) (a' := ?_) #[true, true, true, true, true, true, true, true, false, false, false, false] rfl rfl (by kernel_rfl) (fun _ _ _ h => h) (Or.inl ⟨by rfl, ?_⟩) hHeld ?_ ?_
      rotate_left
      ·rintro w' ⟨s0, s1⟩
       go_simp
       with_reducible rfl
      rotate_left
      ·simp only [apu_]
       rfl
      refine take_ (i := 8) (N := some 87) (v := ?_) (a' := ?_) #[true, true, true, true, true, true, true, true, true, false, false, false] rfl rfl (by kernel_rfl) (fun _ _ _ h => h) (Or.inl ⟨by rfl, ?_⟩) hHeld ?_ ?_
      rotate_left
      ·rintro w' ⟨s0, s1⟩
       go_simp
       with_reducible rfl
      rotate_left
      ·simp only [Act.put, List.setIfInBounds_toArray, List.set_cons_zero, List.set_cons_succ, i64_w, i32_w, hdd]
       rfl
      refine take_ (i := 9) (N := some 88) (v := ?_) (a' := ?_) #[true, true, true, true, true, true, true, true, true, true, false, false] rfl rfl (by kernel_rfl) (fun _ _ _ h => h) (Or.inl ⟨by rfl, ?_⟩) hHeld ?_ ?_
      rotate_left
      ·rintro w' ⟨s0, s1⟩
       go_simp
       with_reducible rfl
      rotate_left
      ·simp only [apu_]
       rfl
      refine take_ (i := 10) (N := some 89) (v := ?_) (a' := ?_) #[true, true, true, true, true, true, true, true, true, true, true, false] rfl rfl (by kernel_rfl) (fun _ _ _ h => h) (Or.inl ⟨by rfl, ?_⟩) hHeld ?_ ?_
      rotate_left
      ·rintro w' ⟨s0, s1⟩
       go_simp
       with_reducible rfl
      rotate_left
      ·simp only [apu_]
       rfl
      obtain ⟨ad9, e9, hy9⟩ := Kd.at_int (Kd.R_reads' R7.out).2.2 (d : Int) (by omega) (by have := L4.out; have := D4.out; omega)
      injection e9 with e9
      subst e9
      rw [show (⟨gk, 0, none⟩ : Addr).add ((d : Int).toNat) = ⟨gk, d, none⟩ by by_cases h : d = 0 <;> simp [Addr.add, h]] at hy9
      have hl9 : 0 < (x7.f2).length := by have := L4.out; omega
      obtain ⟨g_, c_, e_, _, _, cells9, hcl9⟩ := Kd.R_form R7.out hl9
      obtain rfl : gk = g_ := by injection e_ with e_ _ _; injection e_ with e_; injection e_
      have hf9 := blk_frozen hcl9 d
      refine last_ (i := 11) (N := none) #[true, true, true, true, true, true, true, true, true, true, true, true] rfl rfl (by kernel_rfl) (by decide) (fun K hK => ?_)
      refine skip_ (w1 := wD.setCell ⟨gk, d, none⟩ (.int .i64 zq)) (by rfl) rfl ?_ ?_
      ·first | (go_simp; done) | (go_simp; rfl)
      refine hK.out _ _ ?_
      clear hK K
      refine done_ (by kernel_rfl) ?_
      clear hHeld
      clear hy9 hf9 hcl9 hl9 e_
      have RP := Kd.R_putn R7.out d zq
      have KP : Kept wD (wD.setCell ⟨gk, d, none⟩ (.int .i64 zq)) (fun k => some k = (Value.slice (some ⟨gk, 0, none⟩) 4 ck).ownBlock) := (Kept.refl wD (fun k => some k = (Value.slice (some ⟨gk, 0, none⟩) 4 ck).ownBlock)).setCell (p := ⟨gk, d, none⟩) (.inl rfl) _
      have SA := Aside0.mk (BK.out _ (x7.f2.set d zq) ((BW.out.mono (fun _ h => h.elim)).then_ KP (fun j hj => .inl hj)) (Kd.R_mono RP (fun _ _ => trivial)))
      have DA := Aside0.mk (blk_kept D9.out KP (fun h_ => PK.out.2 (Option.some.inj h_).symm))
      have ZA := Aside0.mk (blk_kept Z9.out KP (fun h_ => PK.out.1.2.2 (Option.some.inj h_).symm))
      have BA := Aside0.mk (below_set B9.out (Kd.R_base R7.out gk rfl) : Below w0.heap.size w0 (wD.setCell ⟨gk, d, none⟩ (.int .i64 zq)))
      have KA := Aside0.mk (K9.out.then_ KP (fun j hj => .inl (by rw [show j = gk from Option.some.inj hj]; exact PK.out.1.1)))
      generalize wD.setCell ⟨gk, d, none⟩ (.int .i64 zq) = wA at RP KP SA DA ZA BA KA ⊢
      clear KP RP S9 D9 Z9 R7 B9 K9 BW BK hdd
      have hkC := K2L.out
      have hrdx := rd_cl_set (xs := C2) hkC (⟨x7.f0, x7.f1, x7.f2.set d zq⟩ : CL)
      have hlx : (C2.set k1 (⟨x7.f0, x7.f1, x7.f2.set d zq⟩ : CL)).length = C2.length := List.length_set
      generalize hC9 : C2.set k1 (⟨x7.f0, x7.f1, x7.f2.set d zq⟩ : CL) = C9 at SA HH hrdx hlx
      obtain ⟨_, v9, f0, f1, f2, hfr2, _, hR9, _⟩ := cs_elem SA.out (k1 : Int) (by omega) (by omega)
      simp only [Int.toNat_natCast] at f0 f1 f2 hfr2
      rw [hrdx] at f0 f1 hR9
      obtain ⟨A9, c9, rfl⟩ := Kd.R_slice hR9
      obtain ⟨ks, hks⟩ : ∃ ks, x7.f2.set d zq = ks := ⟨_, rfl⟩
      have hl9 : ks.length = 4 := by rw [← hks, List.length_set]; exact L4.out
      rw [hks] at hR9 f2 HH
      rw [hl9] at f2
      have KS := Aside0.mk (show (Kd.int .i64).C wA A9 4 ks by have h_ := (Kd.R_reads' hR9).2.2; simp only [hl9] at h_; exact h_)
      have g0 : wA.cell? ⟨db, 0, none⟩ = some (.slice (some ⟨g7, 0, none⟩) C2.length c7) := (blk_cell DA.out 0).trans rfl
      have HC9 := Aside0.mk hC9
      have HLX := Aside0.mk hlx
      have HL9 := Aside0.mk hl9
      have fz0 : wA.frozen? ⟨g7, k1 * 3, none⟩ = false := hfr2 0
      have fz1 := hfr2 1
      have fz2 := hfr2 2
      clear hR9 hfr2 hC9 hlx hl9 hks hrdx
      try go_wp2
      go_loopw [16, 97] (fun v16 vi wr => ∃ q : Nat, q ≤ 4 ∧ vi = .int .i64 q ∧ wr = wA ∧ Aside0 (∀ n : Nat, n < q → rd ks (n : Int) < 0)) (fun v16 vi _ => 4 - (intOf vi).toNat)
      case atStart => exact ⟨0, by omega, rfl, rfl, ⟨fun n h => by omega⟩⟩
      case round =>
       obtain ⟨q, hq, rfl, rfl, HN0⟩ := hrel
       have g1 : wr.cell? ⟨db, 1, none⟩ = some (.slice A1 n1 c1) := (blk_cell DA.out 1).trans rfl
       have g2 : wr.cell? ⟨db, 2, none⟩ = some (.int .i64 L) := (blk_cell DA.out 2).trans rfl
       have r0 : wr.cell? ⟨W1.heap.size, 0, none⟩ = some (.slice none 0 0) := (blk_cell ZA.out 0).trans rfl
       have r1 : wr.cell? ⟨W1.heap.size, 1, none⟩ = some (.slice none 0 0) := (blk_cell ZA.out 1).trans rfl
       have r2 : wr.cell? ⟨W1.heap.size, 2, none⟩ = some (.int .i64 0) := (blk_cell ZA.out 2).trans rfl
       have s0 := blk_frozen ZA.out 0
       have s1 := blk_frozen ZA.out 1
       have s2 := blk_frozen ZA.out 2
       by_cases hql : q < 4
       ·have hqq : ((q : Int) < 4) = True := eq_true (by omega)
        have hqq2 : (q < 4) = True := eq_true hql
        obtain ⟨adq, eq_, hyq⟩ := Kd.at_int KS.out (q : Int) (by omega) (by have := HL9.out; omega)
        subst eq_
        simp only [Int.toNat_natCast] at hyq
        obtain ⟨o, ho⟩ : ∃ o, rd ks (q : Int) = o := ⟨_, rfl⟩
        rw [ho] at hyq
        by_cases h0 : 0 ≤ o
        ·have o1 : (o ≥ 0) = True := eq_true h0
         have o2 : (0 ≤ o) = True := eq_true h0
         have hsk : someKid ks = true := some_hit (q := q) (by have := HL9.out; omega) (by rw [ho]; exact h0)
         have h := HH.out
         rw [if_pos hsk] at h
         have e_ := Option.some.inj h
         subst e_
         clear h h0 ho hsk
         go_wp2
         refine bodyPost_ret (results_ct rfl _ _ W1.heap.size 25 #[.slice (some ⟨g7, 0, none⟩) C2.length c7, .slice A1 n1 c1, .int .i64 L] (0, 0) _ rfl (put3 ZA.out _ _ _) Try.underlying25 rfl (by kernel_rfl)) rfl ?_
         have hz : xg ≤ W1.heap.size := Nat.le_of_lt XZ.out
         exact ⟨_, rfl, Kd.S_mono (far3 SA.out ZA.out) (fun k hk => hk.1.1), below3 BA.out (Nat.le_trans BX.out hz), keep3 KA.out (.inr (HXG.out ▸ hz))⟩
        ·have o1 : (o ≥ 0) = False := eq_false h0
         have o2 : (0 ≤ o) = False := eq_false h0
         have HO := Aside0.mk (show rd ks (q : Int) < 0 by omega)
         clear h0 ho
         go_wp2
         go_roundw
         case rel => exact ⟨q + 1, by omega, by go_num, (by first | trivial | rfl), ⟨fun n hn => by
          by_cases h : n = q
          ·subst h; exact HO.out
          ·exact HN0.out n (by omega)⟩⟩
         case measure => simp [intOf]; omega
       ·have hqq : ((q : Int) < 4) = False := eq_false (by omega)
        have hqq2 : (q < 4) = False := eq_false hql
        have hsk : someKid ks = false := some_miss (fun n hn => HN0.out n (by have := HL9.out; omega))
        have h := HH.out
        rw [if_neg (by rw [hsk]; decide)] at h
        have e_ := Option.some.inj h
        subst e_
        obtain ⟨wB, hwB⟩ : ∃ W, ((wr.setCell ⟨g7, k1 * 3, none⟩ (.int .i64 0)).setCell ⟨g7, k1 * 3 + 1, none⟩ (.string ⟨#[]⟩)).setCell ⟨g7, k1 * 3 + 2, none⟩ (.slice none 0 0) = W := ⟨_, rfl⟩
        have hPg := (Kd.S_R SA.out).1 g7 rfl
        have hBg := Kd.S_base SA.out g7 rfl
        have KKB : Kept wr wB (fun j => j = g7) := by rw [← hwB]; exact (((Kept.refl wr (fun j => j = g7)).setCell (p := ⟨g7, k1 * 3, none⟩) (.inl rfl) _).setCell (p := ⟨g7, k1 * 3 + 1, none⟩) (.inl rfl) _).setCell (p := ⟨g7, k1 * 3 + 2, none⟩) (.inl rfl) _
        have SB := cs_zero SA.out (k1 : Int) (by omega) (by have := K2L.out; omega)
        simp only [Int.toNat_natCast] at SB
        rw [hwB, ← HC9.out, List.set_set] at SB
        have SB := Aside0.mk SB
        have DB2 := Aside0.mk (blk_kept DA.out KKB (fun e_ => hPg.2 e_.symm))
        have ZB := Aside0.mk (blk_kept ZA.out KKB (fun e_ => hPg.1.2.2 e_.symm))
        have BB := Aside0.mk (show Below w0.heap.size w0 wB by rw [← hwB]; exact below_set (below_set (below_set BA.out hBg) hBg) hBg)
        have KB := Aside0.mk (KA.out.then_ KKB (fun j hj => .inl (by rw [hj]; exact hPg.1.1)))
        have b0 : wB.cell? ⟨db, 0, none⟩ = some (.slice (some ⟨g7, 0, none⟩) C2.length c7) := (blk_cell DB2.out 0).trans rfl
        have b1 : wB.cell? ⟨db, 1, none⟩ = some (.slice A1 n1 c1) := (blk_cell DB2.out 1).trans rfl
        have b2 : wB.cell? ⟨db, 2, none⟩ = some (.int .i64 L) := (blk_cell DB2.out 2).trans rfl
        clear r0 r1 r2 s0 s1 s2
        have r0 : wB.cell? ⟨W1.heap.size, 0, none⟩ = some (.slice none 0 0) := (blk_cell ZB.out 0).trans rfl
        have r1 : wB.cell? ⟨W1.heap.size, 1, none⟩ = some (.slice none 0 0) := (blk_cell ZB.out 1).trans rfl
        have r2 : wB.cell? ⟨W1.heap.size, 2, none⟩ = some (.int .i64 0) := (blk_cell ZB.out 2).trans rfl
        have s0 := blk_frozen ZB.out 0
        have s1 := blk_frozen ZB.out 1
        have s2 := blk_frozen ZB.out 2
        clear h hsk hPg hBg KKB hql hq HN0
        go_wp2
        refine bodyPost_ret (results_ct rfl _ _ W1.heap.size 25 #[.slice (some ⟨g7, 0, none⟩) C2.length c7, .slice A1 n1 c1, .int .i64 L] (0, 0) _ rfl (put3 ZB.out _ _ _) Try.underlying25 rfl (by kernel_rfl)) rfl ?_
        have hz : xg ≤ W1.heap.size := Nat.le_of_lt XZ.out
        exact ⟨_, rfl, Kd.S_mono (far3 SB.out ZB.out) (fun k hk => hk.1.1), below3 BB.out (Nat.le_trans BX.out hz), keep3 KB.out (.inr (HXG.out ▸ hz))⟩
     ·cases h
    ·have m0 : leaf.toList ≠ [] := fun e_ => hle (ba_nil.1 e_)
     have m1 : (leaf.toList == []) = false := beq_eq_false_iff_ne.2 m0
     have m2 : (leaf.toList = []) = False := eq_false m0
     clear hle m0
     go_enter Try.func74, Try.ntmps74
     go_wp2_with (go_at_call 88; refine T1.out.mono ?_; (first | rintro e w3 v0 rfl hS3 hB3 hK3 | rintro e w3 ⟨v0, rfl, hS3, hB3, hK3⟩); (obtain ⟨A2, c2, rfl⟩ := Kd.S_slice hS3); (replace hS3 : CS w3 w0.heap.size (fun k => P k ∧ k ≠ xg ∧ k ≠ W1.heap.size) (.slice A2 C1.length c2) C1 := hS3); (have X3 := Aside0.mk (blk_kept X2.out hK3 (fun h_ => h_.2.1 rfl))); (have Z3 := Aside0.mk (blk_kept Z2.out hK3 (fun h_ => h_.2.2 rfl))); (have K3 := Aside0.mk (K2.out.then_ hK3 (fun j hj => .inl hj.1))); (have q0 : w3.cell? ⟨xg, 0, none⟩ = some (.slice A C.length c) := (blk_cell X3.out 0).trans rfl); (have q1 : w3.cell? ⟨xg, 1, none⟩ = some (.slice A1 n1 c1) := (blk_cell X3.out 1).trans rfl); (have q2 : w3.cell? ⟨xg, 2, none⟩ = some (.int .i64 L) := (blk_cell X3.out 2).trans rfl); have u0 := blk_frozen X3.out 0; have u1 := blk_frozen X3.out 1; have u2 := blk_frozen X3.out 2; (obtain ⟨w4, hw4⟩ : ∃ W, ((w3.setCell ⟨xg, 0, none⟩ (.slice A2 C1.length c2)).setCell ⟨xg, 1, none⟩ (.slice A1 n1 c1)).setCell ⟨xg, 2, none⟩ (.int .i64 L) = W := ⟨_, rfl⟩); (have X4 := Aside0.mk (show w4.heap[xg]? = some (.cells #[.slice A2 C1.length c2, .slice A1 n1 c1, .int .i64 L] 25 (0, 0)) by rw [← hw4]; exact put3 X3.out _ _ _)); (have KK4 : Kept w3 w4 (fun j => j = xg) := by rw [← hw4]; exact keep3 (Kept.refl w3 (fun j => j = xg)) (.inl rfl)); (have Z4 := Aside0.mk (blk_kept Z3.out KK4 (by have := XZ.out; omega))); (have S4 := Aside0.mk (Kd.S_kept hS3 KK4 (fun k hk e_ => hk.2.1 e_))); (have B4 := Aside0.mk (show Below w0.heap.size w0 w4 by rw [← hw4]; exact below3 hB3 BX.out)); (have K4 := Aside0.mk (K3.out.then_ KK4 (fun j hj => .inr (by rw [hj]; exact Nat.le_of_eq HXG.out)))); (have x0 : w4.cell? ⟨xg, 0, none⟩ = some (.slice A2 C1.length c2) := (blk_cell X4.out 0).trans rfl); clear X3 Z3 K3 KK4 hS3 hB3 hK3 T1 d0 d1 d2)
     go_wp2_with (go_at_call 85; refine (TS.out _).mono ?_)
     (first | rintro e w5 rfl hdr | rintro e w5 ⟨rfl, hdr⟩)
     have hb := hdr.below
     clear hdr TS q0 u0 u1 u2 hw4 x0
     replace X4 := Aside0.mk (blk_below X4.out hb)
     replace Z4 := Aside0.mk (blk_below Z4.out hb)
     replace S4 := Aside0.mk (Kd.S_below S4.out hb)
     replace B4 := Aside0.mk (below_then B4.out B4.out.size hb)
     replace K4 := Aside0.mk (K4.out.below hb)
     clear hb
     go_wp2
     obtain ⟨g, cap, hv, _, _, _⟩ := Kd.S_form S4.out (by have := LT.out; omega)
     injection hv with hA hn_ hc
     subst hA hc
     clear hn_
     have hlt := LT.out
     obtain ⟨x, hx⟩ : ∃ x, rd_T68 C1 (k1 : Int) = x := ⟨_, rfl⟩
     rw [hx] at F4 HQ
     obtain ⟨_, v, e0, e1, e2, hfr, _, hR, _⟩ := cs_elem S4.out (k1 : Int) (by omega) (by omega)
     simp only [Int.toNat_natCast] at e0 e1 e2 hfr
     rw [hx] at hR
     obtain ⟨A5, c5, rfl⟩ := Kd.R_slice hR
     rw [F4.out] at e2
     obtain ⟨ad, e3, hy⟩ := Kd.at_int (Kd.R_reads' hR).2.2 (d : Int) (by omega) (by have := F4.out; have := D4.out; omega)
     subst e3
     simp only [Int.toNat_natCast] at hy
     obtain ⟨z, hz⟩ : ∃ z, rd x.f2 (d : Int) = z := ⟨_, rfl⟩
     rw [hz] at hy HQ
     have p1 : ((k1 : Int) < (C1.length : Int)) = True := eq_true (by omega)
     have p2 : ((d : Int) < 4) = True := eq_true (by have := D4.out; omega)
     have hdd := DD.out
     have E2 := Aside0.mk e2
     have HY := Aside0.mk hy
     clear hR hfr e0 e1 e2 hy hx
     refine start_ (n := 25) (S := fun w' => w'.cell? ⟨xg, 0, none⟩ = some (.slice (some ⟨g, 0, none⟩) C1.length c2) ∧ w'.cell? ⟨xg, 1, none⟩ = some (.slice A1 n1 c1) ∧ w'.cell? ⟨xg, 2, none⟩ = some (.int .i64 L) ∧ w'.cell? ⟨g, k1 * 3 + 2, none⟩ = some (.slice (some ad) 4 c5) ∧ w'.cell? (ad.add d) = some (.int .i64 z)) (ds := [18, 23]) #[false, false, false, false, false, false, false, false, false, false, false, false, false, false, false, false, false, false, false, false, false, false, false, false, false] (by kernel_rfl) rfl rfl ⟨(blk_cell X4.out 0).trans rfl, (blk_cell X4.out 1).trans rfl, (blk_cell X4.out 2).trans rfl, E2.out, HY.out⟩ (fun hHeld => ?_)
     replace X4 := Aside0.mk (blk_drew X4.out)
     replace Z4 := Aside0.mk (blk_drew Z4.out)
     replace S4 := Aside0.mk (Kd.S_drew S4.out)
     replace B4 := Aside0.mk (below_drew1 B4.out)
     replace K4 := Aside0.mk K4.out.drew
     replace E2 := Aside0.mk (show w5.drew.cell? ⟨g, k1 * 3 + 2, none⟩ = some (.slice (some ad) 4 c5) from E2.out)
     replace HY := Aside0.mk (show w5.drew.cell? (ad.add d) = some (.int .i64 z) from HY.out)
     generalize w5.drew = w6 at X4 Z4 S4 B4 K4 E2 HY hHeld ⊢
     refine take_ (i := 0) (N := some 58) (v := ?_) (a' := ?_) #[true, false, false, false, false, false, false, false, false, false, false, false, false, false, false, false, false, false, false, false, false, false, false, false, false] rfl rfl (by kernel_rfl) (fun _ _ _ h => h) (Or.inl ⟨by rfl, ?_⟩) hHeld ?_ ?_
     rotate_left
     ·rintro w' ⟨s0, s1, s2, s3, s4⟩
      go_simp
      with_reducible rfl
     rotate_left
     ·simp only [apu_]
      rfl
     refine take_ (i := 1) (N := some 59) (v := ?_) (a' := ?_) #[true, true, false, false, false, false, false, false, false, false, false, false, false, false, false, false, false, false, false, false, false, false, false, false, false] rfl rfl (by kernel_rfl) (fun _ _ _ h => h) (Or.inl ⟨by rfl, ?_⟩) hHeld ?_ ?_
     rotate_left
     ·rintro w' ⟨s0, s1, s2, s3, s4⟩
      go_simp
      with_reducible rfl
     rotate_left
     ·simp only [apu_]
      rfl
     refine take_ (i := 2) (N := some 60) (v := ?_) (a' := ?_) #[true, true, true, false, false, false, false, false, false, false, false, false, false, false, false, false, false, false, false, false, false, false, false, false, false] rfl rfl (by kernel_rfl) (fun _ _ _ h => h) (Or.inl ⟨by rfl, ?_⟩) hHeld ?_ ?_
     rotate_left
     ·rintro w' ⟨s0, s1, s2, s3, s4⟩
      go_simp
      with_reducible rfl
     rotate_left
     ·simp only [apu_]
      rfl
     refine take_ (i := 3) (N := some 61) (v := ?_) (a' := ?_) #[true, true, true, true, false, false, false, false, false, false, false, false, false, false, false, false, false, false, false, false, false, false, false, false, false] rfl rfl (by kernel_rfl) (fun _ _ _ h => h) (Or.inl ⟨by rfl, ?_⟩) hHeld ?_ ?_
     rotate_left
     ·rintro w' ⟨s0, s1, s2, s3, s4⟩
      go_simp
      with_reducible rfl
     rotate_left
     ·simp only [apu_]
      rfl
     refine take_ (i := 4) (N := some 62) (v := ?_) (a' := ?_) #[true, true, true, true, true, false, false, false, false, false, false, false, false, false, false, false, false, false, false, false, false, false, false, false, false] rfl rfl (by kernel_rfl) (fun _ _ _ h => h) (Or.inl ⟨by rfl, ?_⟩) hHeld ?_ ?_
     rotate_left
     ·rintro w' ⟨s0, s1, s2, s3, s4⟩
      go_simp
      with_reducible rfl
     rotate_left
     ·simp only [apu_]
      rfl
     refine take_ (i := 5) (N := some 63) (v := ?_) (a' := ?_) #[true, true, true, true, true, true, false, false, false, false, false, false, false, false, false, false, false, false, false, false, false, false, false, false, false] rfl rfl (by kernel_rfl) (fun _ _ _ h => h) (Or.inl ⟨by rfl, ?_⟩) hHeld ?_ ?_
     rotate_left
     ·rintro w' ⟨s0, s1, s2, s3, s4⟩
      go_simp
      with_reducible rfl
     rotate_left
     ·simp only [apu_]
      rfl
     refine take_ (i := 6) (N := some 64) (v := ?_) (a' := ?_) #[true, true, true, true, true, true, true, false, false, false, false, false, false, false, false, false, false, false, false, false, false, false, false, false, false] rfl rfl (by kernel_rfl) (fun _ _ _ h => h) (Or.inl ⟨by rfl, ?_⟩) hHeld ?_ ?_
     rotate_left
     ·rintro w' ⟨s0, s1, s2, s3, s4⟩
      go_simp
      with_reducible rfl
     rotate_left
     ·simp only [apu_]
      rfl
     refine take_ (i := 7) (N := some 65) (v := ?_) (a' := ?_) #[true, true, true, true, true, true, true, true, false, false, false, false, false, false, false, false, false, false, false, false, false, false, false, false, false] rfl rfl (by kernel_rfl) (fun _ _ _ h => h) (Or.inl ⟨by rfl, ?_⟩) hHeld ?_ ?_
     rotate_left
     ·rintro w' ⟨s0, s1, s2, s3, s4⟩
      go_simp
      with_reducible rfl
     rotate_left
     ·simp only [apu_]
      rfl
     refine take_ (i := 8) (N := some 66) (v := ?_) (a' := ?_) #[true, true, true, true, true, true, true, true, true, false, false, false, false, false, false, false, false, false, false, false, false, false, false, false, false] rfl rfl (by kernel_rfl) (fun _ _ _ h => h) (Or.inl ⟨by rfl, ?_⟩) hHeld ?_ ?_
     rotate_left
     ·rintro w' ⟨s0, s1, s2, s3, s4⟩
      go_simp
      with_reducible rfl
     rotate_left
     ·simp only [apu_]
      rfl
     refine take_ (i := 9) (N := some 67) (v := ?_) (a' := ?_) #[true, true, true, true, true, true, true, true, true, true, false, false, false, false, false, false, false, false, false, false, false, false, false, false, false] rfl rfl (by kernel_rfl) (fun _ _ _ h => h) (Or.inl ⟨by rfl, ?_⟩) hHeld ?_ ?_
     rotate_left
     ·rintro w' ⟨s0, s1, s2, s3, s4⟩
      go_simp
      with_reducible rfl
     rotate_left
     ·simp only [Act.put, List.setIfInBounds_toArray, List.set_cons_zero, List.set_cons_succ, i64_w, i32_w, hdd]
      rfl
     refine take_ (i := 10) (N := some 68) (v := ?_) (a' := ?_) #[true, true, true, true, true, true, true, true, true, true, true, false, false, false, false, false, false, false, false, false, false, false, false, false, false] rfl rfl (by kernel_rfl) (fun _ _ _ h => h) (Or.inl ⟨by rfl, ?_⟩) hHeld ?_ ?_
     rotate_left
     ·rintro w' ⟨s0, s1, s2, s3, s4⟩
      go_simp
      with_reducible rfl
     rotate_left
     ·simp only [apu_]
      rfl
     refine take_ (i := 11) (N := some 69) (v := ?_) (a' := ?_) #[true, true, true, true, true, true, true, true, true, true, true, true, false, false, false, false, false, false, false, false, false, false, false, false, false] rfl rfl (by kernel_rfl) (fun _ _ _ h => h) (Or.inl ⟨by rfl, ?_⟩) hHeld ?_ ?_
     rotate_left
     ·rintro w' ⟨s0, s1, s2, s3, s4⟩
      go_simp
      with_reducible rfl
     rotate_left
     ·simp only [apu_]
      rfl
     refine take_ (i := 12) (N := some 70) (v := ?_) (a' := ?_) #[true, true, true, true, true, true, true, true, true, true, true, true, true, false, false, false, false, false, false, false, false, false, false, false, false] rfl rfl (by kernel_rfl) (fun _ _ _ h => h) (Or.inl ⟨by rfl, ?_⟩) hHeld ?_ ?_
     rotate_left
     ·rintro w' ⟨s0, s1, s2, s3, s4⟩
      go_simp
      with_reducible rfl
     rotate_left
     ·simp only [apu_]
      rfl
     refine take_ (i := 13) (N := some 71) (v := ?_) (a' := ?_) #[true, true, true, true, true, true, true, true, true, true, true, true, true, true, false, false, false, false, false, false, false, false, false, false, false] rfl rfl (by kernel_rfl) (fun _ _ _ h => h) (Or.inl ⟨by rfl, ?_⟩) hHeld ?_ ?_
     rotate_left
     ·rintro w' ⟨s0, s1, s2, s3, s4⟩
      go_simp
      with_reducible rfl
     rotate_left
     ·simp only [apu_]
      rfl
     refine take_ (i := 14) (N := some 72) (v := ?_) (a' := ?_) #[true, true, true, true, true, true, true, true, true, true, true, true, true, true, true, false, false, false, false, false, false, false, false, false, false] rfl rfl (by kernel_rfl) (fun _ _ _ h => h) (Or.inl ⟨by rfl, ?_⟩) hHeld ?_ ?_
     rotate_left
     ·rintro w' ⟨s0, s1, s2, s3, s4⟩
      go_simp
      with_reducible rfl
     rotate_left
     ·simp only [apu_]
      rfl
     refine take_ (i := 15) (N := some 73) (v := ?_) (a' := ?_) #[true, true, true, true, true, true, true, true, true, true, true, true, true, true, true, true, false, false, false, false, false, false, false, false, false] rfl rfl (by kernel_rfl) (fun _ _ _ h => h) (Or.inl ⟨by rfl, ?_⟩) hHeld ?_ ?_
     rotate_left
     ·rintro w' ⟨s0, s1, s2, s3, s4⟩
      go_simp
      with_reducible rfl
     rotate_left
     ·simp only [apu_]
      rfl
     refine take_ (i := 16) (N := some 74) (v := ?_) (a' := ?_) #[true, true, true, true, true, true, true, true, true, true, true, true, true, true, true, true, true, false, false, false, false, false, false, false, false] rfl rfl (by kernel_rfl) (fun _ _ _ h => h) (Or.inl ⟨by rfl, ?_⟩) hHeld ?_ ?_
     rotate_left
     ·rintro w' ⟨s0, s1, s2, s3, s4⟩
      go_simp
      with_reducible rfl
     rotate_left
     ·simp only [apu_]
      rfl
     refine take_ (i := 17) (N := some 75) (v := ?_) (a' := ?_) #[true, true, true, true, true, true, true, true, true, true, true, true, true, true, true, true, true, true, false, false, false, false, false, false, false] rfl rfl (by kernel_rfl) (fun _ _ _ h => h) (Or.inl ⟨by rfl, ?_⟩) hHeld ?_ ?_
     rotate_left
     ·rintro w' ⟨s0, s1, s2, s3, s4⟩
      go_simp
      with_reducible rfl
     rotate_left
     ·simp only [apu_]
      rfl
     refine join_ (σ := Nat × Option Addr × Nat) 2 #[true, true, true, true, true, true, true, true, true, true, true, true, true, true, true, true, true, true, true, true, true, true, true, false, false] (fun s_ => [(76, .tuple #[.agg #[.slice s_.2.1 C2.length s_.2.2, .slice A1 n1 c1, .int .i64 L], .int .i64 zq]), (57, .tuple #[.agg #[.slice s_.2.1 C2.length s_.2.2, .slice A1 n1 c1, .int .i64 L], .int .i64 zq]), (77, .agg #[.slice s_.2.1 C2.length s_.2.2, .slice A1 n1 c1, .int .i64 L]), (78, .int .i64 zq), (13, .pointer (some ⟨s_.1, 0, none⟩))]) (fun s_ w' => w'.heap[s_.1]? = some (.cells #[.slice none 0 0, .slice none 0 0, .int .i64 0] 25 (0, 0)) ∧ w'.heap[W1.heap.size]? = some (.cells #[.slice none 0 0, .slice none 0 0, .int .i64 0] 25 (0, 0)) ∧ CS w' w0.heap.size (fun k => (P k ∧ k ≠ xg ∧ k ≠ W1.heap.size) ∧ k ≠ s_.1) (.slice s_.2.1 C2.length s_.2.2) C2 ∧ Below w0.heap.size w0 w' ∧ Kept w w' P ∧ W1.heap.size < s_.1) ?_ ?_
     rotate_left
     ·intro hCont
      have hsz := K4.out.1
      have hzl := blk_lt Z4.out
      refine two_last (i := 18) (j := 22) (Ni := some 76) (Nj := some 13) #[true, true, true, true, true, true, true, true, true, true, true, true, true, true, true, true, true, true, true, false, false, false, false, false, false] #[true, true, true, true, true, true, true, true, true, true, true, true, true, true, true, true, true, true, false, false, false, false, true, false, false] rfl rfl rfl rfl (by kernel_rfl) (by decide) (by decide) (fun K hK => ?_) (fun K hK => ?_)
      ·refine goes_ Try.func74 (by kernel_rfl) rfl #[.agg #[.slice (some ⟨g, 0, none⟩) C1.length c2, .slice A1 n1 c1, .int .i64 L], .int .i64 z, .int .i64 (wrap64 (lv - 1)), .int .i64 (Int.tmod a_ n), .string leaf] (by rfl) rfl rfl (by (try simp only [List.map_toArray, List.map_cons, List.map_nil]); first | done | rfl) ?_
       refine (IH.out (some ⟨g, 0, none⟩) c2 C1 z (wrap64 (lv - 1)) (Int.tmod a_ n) (fun k => P k ∧ k ≠ xg ∧ k ≠ W1.heap.size) (C2, zq) w0 w6 LW.out (by have := HL.out; omega) HDIG.out B4.out S4.out (fun k hk => (have h1_ := XZ.out; have h2_ := HXG.out; ⟨FP.out k (by omega), by omega, by omega⟩)) HQ.out).mono ?_
       (first | rintro e w7 v7 rfl hS7 hB7 hK7 | rintro e w7 ⟨v7, rfl, hS7, hB7, hK7⟩)
       refine ⟨_, rfl, ?_⟩
       obtain ⟨A7, c7, rfl⟩ := Kd.S_slice hS7
       replace hS7 : CS w7 w0.heap.size (fun k => P k ∧ k ≠ xg ∧ k ≠ W1.heap.size) (.slice A7 C2.length c7) C2 := hS7
       have Z7 := blk_kept Z4.out hK7 (fun h_ => h_.2.2 rfl)
       have K7 := K4.out.then_ hK7 (fun j hj => .inl hj.1)
       have hzl7 := blk_lt Z7
       refine hK.out _ _ ?_
       clear hK K hK7
       refine norm_ (a' := ?_) ?_ ?_
       rotate_left
       ·show Act.put _ (some 76) _ = _
        simp only [apu_]
        rfl
       refine pure_ (i := 19) (N := some 57) (v := ?_) (a' := ?_) #[true, true, true, true, true, true, true, true, true, true, true, true, true, true, true, true, true, true, true, true, false, false, false, false, false] rfl rfl (by kernel_rfl) (fun _ _ _ h => h) (Or.inl ⟨by rfl, ?_⟩) ?_ ?_
       rotate_left
       ·intro w'
        go_simp
        with_reducible rfl
       rotate_left
       ·simp only [apu_]
        rfl
       refine pure_ (i := 20) (N := some 77) (v := ?_) (a' := ?_) #[true, true, true, true, true, true, true, true, true, true, true, true, true, true, true, true, true, true, true, true, true, false, false, false, false] rfl rfl (by kernel_rfl) (fun _ _ _ h => h) (Or.inl ⟨by rfl, ?_⟩) ?_ ?_
       rotate_left
       ·intro w'
        go_simp
        with_reducible rfl
       rotate_left
       ·simp only [apu_]
        rfl
       refine pure_ (i := 21) (N := some 78) (v := ?_) (a' := ?_) #[true, true, true, true, true, true, true, true, true, true, true, true, true, true, true, true, true, true, true, true, true, true, false, false, false] rfl rfl (by kernel_rfl) (fun _ _ _ h => h) (Or.inl ⟨by rfl, ?_⟩) ?_ ?_
       rotate_left
       ·intro w'
        go_simp
        with_reducible rfl
       rotate_left
       ·simp only [apu_]
        rfl
       refine one_c (i := 22) (N := some 13) #[true, true, true, true, true, true, true, true, true, true, true, true, true, true, true, true, true, true, true, true, true, true, true, false, false] rfl rfl (by kernel_rfl) (fun K hK => ?_)
       refine event_step (by rfl) (v := .pointer (some ⟨w7.heap.size, 0, none⟩)) (w1 := w7.alloc (.cells #[.slice none 0 0, .slice none 0 0, .int .i64 0] 25)) (by first | (go_simp; done) | (go_simp; rfl)) ?_
       have hba := below_alloc (Below.refl w7.heap.size w7) (.cells #[.slice none 0 0, .slice none 0 0, .int .i64 0] 25)
       refine hK.out _ _ (fun hs => ⟨cell_kept hs.1 (Kept.of_below hba (fun _ => False)) id, cell_kept hs.2.1 (Kept.of_below hba (fun _ => False)) id, cell_kept hs.2.2.1 (Kept.of_below hba (fun _ => False)) id, cell_kept hs.2.2.2.1 (Kept.of_below hba (fun _ => False)) id, cell_kept hs.2.2.2.2 (Kept.of_below hba (fun _ => False)) id⟩) ?_
       clear hK K
       exact hCont (w7.heap.size, A7, c7) _ ⟨heap_alloc_new w7 _, blk_below Z7 hba, Kd.S_below (Kd.S_mono (Kd.S_bound hS7) (fun k hk => ⟨hk.1, Nat.ne_of_lt hk.2.2.1⟩)) hba, below_then hB7 hB7.size hba, K7.below hba, hzl7⟩
      ·refine event_step (by rfl) (v := .pointer (some ⟨w6.heap.size, 0, none⟩)) (w1 := w6.alloc (.cells #[.slice none 0 0, .slice none 0 0, .int .i64 0] 25)) (by first | (go_simp; done) | (go_simp; rfl)) ?_
       have hba := below_alloc (Below.refl w6.heap.size w6) (.cells #[.slice none 0 0, .slice none 0 0, .int .i64 0] 25)
       have D7 := heap_alloc_new w6 (.cells #[.slice none 0 0, .slice none 0 0, .int .i64 0] 25)
       refine hK.out _ _ ⟨(blk_cell (blk_below X4.out hba) 0).trans rfl, (blk_cell (blk_below X4.out hba) 1).trans rfl, (blk_cell (blk_below X4.out hba) 2).trans rfl, cell_kept E2.out (Kept.of_below hba (fun _ => False)) id, cell_kept HY.out (Kept.of_below hba (fun _ => False)) id⟩ (fun hHeld => ?_)
       clear hK K
       refine norm_ (a' := ?_) ?_ ?_
       rotate_left
       ·show Act.put _ (some 13) _ = _
        simp only [apu_]
        rfl
       refine last_ (i := 18) (N := some 76) #[true, true, true, true, true, true, true, true, true, true, true, true, true, true, true, true, true, true, true, false, false, false, true, false, false] rfl rfl (by kernel_rfl) (by decide) (fun K hK => ?_)
       refine goes_ Try.func74 (by kernel_rfl) rfl #[.agg #[.slice (some ⟨g, 0, none⟩) C1.length c2, .slice A1 n1 c1, .int .i64 L], .int .i64 z, .int .i64 (wrap64 (lv - 1)), .int .i64 (Int.tmod a_ n), .string leaf] (by rfl) rfl rfl (by (try simp only [List.map_toArray, List.map_cons, List.map_nil]); first | done | rfl) ?_
       have hds := blk_lt D7
       have hS6 := Kd.S_mono (Kd.S_bound S4.out) (fun k hk => (⟨hk.1, Nat.ne_of_lt hk.2.2.1⟩ : (P k ∧ k ≠ xg ∧ k ≠ W1.heap.size) ∧ k ≠ w6.heap.size))
       refine (IH.out (some ⟨g, 0, none⟩) c2 C1 z (wrap64 (lv - 1)) (Int.tmod a_ n) (fun k => (P k ∧ k ≠ xg ∧ k ≠ W1.heap.size) ∧ k ≠ w6.heap.size) (C2, zq) w0 _ LW.out (by have := HL.out; omega) HDIG.out (below_then B4.out B4.out.size hba) (Kd.S_below hS6 hba) (fun k hk => (have h1_ := XZ.out; have h2_ := HXG.out; ⟨⟨FP.out k (by omega), by omega, by omega⟩, by omega⟩)) HQ.out).mono ?_
       (first | rintro e w7 v7 rfl hS7 hB7 hK7 | rintro e w7 ⟨v7, rfl, hS7, hB7, hK7⟩)
       refine ⟨_, rfl, ?_⟩
       obtain ⟨A7, c7, rfl⟩ := Kd.S_slice hS7
       replace hS7 : CS w7 w0.heap.size (fun k => (P k ∧ k ≠ xg ∧ k ≠ W1.heap.size) ∧ k ≠ w6.heap.size) (.slice A7 C2.length c7) C2 := hS7
       have Z7 := blk_kept (blk_below Z4.out hba) hK7 (fun h_ => h_.1.2.2 rfl)
       have K7 := (K4.out.below hba).then_ hK7 (fun j hj => .inl hj.1.1)
       refine hK.out _ _ ?_
       clear hK K
       refine norm_ (a' := ?_) ?_ ?_
       rotate_left
       ·show Act.put _ (some 76) _ = _
        simp only [apu_]
        rfl
       refine pure_ (i := 19) (N := some 57) (v := ?_) (a' := ?_) #[true, true, true, true, true, true, true, true, true, true, true, true, true, true, true, true, true, true, true, true, false, false, true, false, false] rfl rfl (by kernel_rfl) (fun _ _ _ h => h) (Or.inl ⟨by rfl, ?_⟩) ?_ ?_
       rotate_left
       ·intro w'
        go_simp
        with_reducible rfl
       rotate_left
       ·simp only [apu_]
        rfl
       refine pure_ (i := 20) (N := some 77) (v := ?_) (a' := ?_) #[true, true, true, true, true, true, true, true, true, true, true, true, true, true, true, true, true, true, true, true, true, false, true, false, false] rfl rfl (by kernel_rfl) (fun _ _ _ h => h) (Or.inl ⟨by rfl, ?_⟩) ?_ ?_
       rotate_left
       ·intro w'
        go_simp
        with_reducible rfl
       rotate_left
       ·simp only [apu_]
        rfl
       refine pure_ (i := 21) (N := some 78) (v := ?_) (a' := ?_) #[true, true, true, true, true, true, true, true, true, true, true, true, true, true, true, true, true, true, true, true, true, true, true, false, false] rfl rfl (by kernel_rfl) (fun _ _ _ h => h) (Or.inl ⟨by rfl, ?_⟩) ?_ ?_
       rotate_left
       ·intro w'
        go_simp
        with_reducible rfl
       rotate_left
       ·simp only [apu_]
        rfl
       exact hCont (w6.heap.size, A7, c7) _ ⟨blk_kept D7 hK7 (fun h_ => h_.2 rfl), Z7, hS7, hB7, K7, hzl⟩
     rintro ⟨db, A7, c7⟩ w8 ⟨hD8, hZ8, hS8, hB8, hK8, hDZ⟩
     dsimp only at hD8 hS8 hDZ
     dsimp only [putAll]
     clear hHeld X4 Z4 S4 B4 K4 E2 HY
     refine norm_ (a' := ?_) ?_ ?_
     rotate_left
     ·simp only [apu_]
      rfl
     have DZ := Aside0.mk hDZ
     have r0 : w8.cell? ⟨db, 0, none⟩ = some (.slice none 0 0) := (blk_cell hD8 0).trans rfl
     have r1 : w8.cell? ⟨db, 1, none⟩ = some (.slice none 0 0) := (blk_cell hD8 1).trans rfl
     have r2 : w8.cell? ⟨db, 2, none⟩ = some (.int .i64 0) := (blk_cell hD8 2).trans rfl
     have s0 := blk_frozen hD8 0
     have s1 := blk_frozen hD8 1
     have s2 := blk_frozen hD8 2
     refine last_ (i := 23) (N := none) #[true, true, true, true, true, true, true, true, true, true, true, true, true, true, true, true, true, true, true, true, true, true, true, true, false] rfl rfl (by kernel_rfl) (by decide) (fun K hK => ?_)
     refine skip_ (w1 := ((w8.setCell ⟨db, 0, none⟩ (.slice A7 C2.length c7)).setCell ⟨db, 1, none⟩ (.slice A1 n1 c1)).setCell ⟨db, 2, none⟩ (.int .i64 L)) (by rfl) rfl ?_ ?_
     ·first | (go_simp; done) | (go_simp; rfl)
     refine hK.out _ _ ?_
     clear hK K r0 r1 r2 s0 s1 s2
     have KK9 := keep3 (a := .slice A7 C2.length c7) (b := .slice A1 n1 c1) (c := .int .i64 L) (Kept.refl w8 (fun j => j = db)) (.inl rfl)
     have D9 := Aside0.mk (put3 hD8 (.slice A7 C2.length c7) (.slice A1 n1 c1) (.int .i64 L))
     have Z9 := Aside0.mk (blk_kept hZ8 KK9 (Nat.ne_of_lt hDZ))
     have S9 := Aside0.mk (Kd.S_kept hS8 KK9 (fun k hk => hk.2))
     have hdb : xg ≤ db := by have := XZ.out; omega
     have B9 := Aside0.mk (below3 (a := .slice A7 C2.length c7) (b := .slice A1 n1 c1) (c := .int .i64 L) hB8 (Nat.le_trans BX.out hdb))
     have K9 := Aside0.mk (hK8.then_ KK9 (fun j hj => .inr (by rw [hj]; exact HXG.out ▸ hdb)))
     have DB := Aside0.mk hdb
     clear KK9 hD8 hZ8 hS8 hB8 hK8 hDZ hdb
     generalize ((w8.setCell ⟨db, 0, none⟩ (.slice A7 C2.length c7)).setCell ⟨db, 1, none⟩ (.slice A1 n1 c1)).setCell ⟨db, 2, none⟩ (.int .i64 L) = w9 at D9 Z9 S9 B9 K9 ⊢
     refine pure_ (i := 24) (N := some 14) (v := ?_) (a' := ?_) #[true, true, true, true, true, true, true, true, true, true, true, true, true, true, true, true, true, true, true, true, true, true, true, true, true] rfl rfl (by kernel_rfl) (fun _ _ _ h => h) (Or.inl ⟨by rfl, ?_⟩) ?_ ?_
     rotate_left
     ·intro w'
      go_simp
      with_reducible rfl
     rotate_left
     ·simp only [apu_]
      rfl
     refine done_ (by kernel_rfl) ?_
     have h := HH.out
     split at h
     ·rename_i hcd
      obtain ⟨hk2, hl4, hf1⟩ := hcd
      obtain ⟨g7, cap, hv, _, _, _⟩ := Kd.S_form S9.out (by omega)
      injection hv with hA hn_ hc
      subst hA hc
      clear hn_ HH
      have HH := Aside0.mk h
      have K2L := Aside0.mk hk2
      clear h
      obtain ⟨x7, hx7⟩ : ∃ x, rd_T68 C2 (k1 : Int) = x := ⟨_, rfl⟩
      rw [hx7] at hl4 hf1 HH
      obtain ⟨v7, e2, hR7, hv7, hback⟩ := cs_inner S9.out (k1 : Int) (by omega) (by omega)
      rw [hx7] at hR7 hback
      obtain ⟨gk, ck, rfl, _, _, _⟩ := Kd.R_form hR7 (by omega)
      rw [hl4] at hR7 e2 hback hv7
      simp only [Int.toNat_natCast] at e2 hback
      obtain ⟨hPk, hngk⟩ := hv7 gk rfl
      have R7 := Aside0.mk hR7
      have BK := Aside0.mk hback
      have E2 := Aside0.mk e2
      have PK := Aside0.mk hPk
      have L4 := Aside0.mk hl4
      have F1 := Aside0.mk hf1
      have p3 : ((k1 : Int) < (C2.length : Int)) = True := eq_true (by omega)
      clear hR7 hback e2 hPk hv7 hl4 hf1 hk2 hngk hx7
      try go_wp2
      refine start_ (n := 12) (S := fun w' => w'.cell? ⟨db, 0, none⟩ = some (.slice (some ⟨g7, 0, none⟩) C2.length c7) ∧ w'.cell? ⟨g7, k1 * 3 + 2, none⟩ = some (.slice (some ⟨gk, 0, none⟩) 4 ck)) (ds := [11]) #[false, false, false, false, false, false, false, false, false, false, false, false] (by kernel_rfl) rfl rfl ⟨(blk_cell D9.out 0).trans rfl, E2.out⟩ (fun hHeld => ?_)
      replace D9 := Aside0.mk (blk_drew D9.out)
      replace Z9 := Aside0.mk (blk_drew Z9.out)
      replace S9 := Aside0.mk (Kd.S_drew S9.out)
      replace R7 := Aside0.mk (Kd.R_drew R7.out)
      replace B9 := Aside0.mk (below_drew1 B9.out)
      replace K9 := Aside0.mk K9.out.drew
      have BW := Aside0.mk (show Kept w9 w9.drew (fun _ => False) from (Kept.refl _ _).drew)
      generalize w9.drew = wD at D9 Z9 S9 R7 B9 K9 BW hHeld ⊢
      clear E2
      refine take_ (i := 0) (N := some 79) (v := ?_) (a' := ?_) #[true, false, false, false, false, false, false, false, false, false, false, false] rfl rfl (by kernel_rfl) (fun _ _ _ h => h) (Or.inl ⟨by rfl, ?_⟩) hHeld ?_ ?_
      rotate_left
      ·rintro w' ⟨s0, s1⟩
       go_simp
       with_reducible rfl
      rotate_left
      ·simp only [apu_]
       rfl
      refine take_ (i := 1) (N := some 80) (v := ?_) (a' := ?_) #[true, true, false, false, false, false, false, false, false, false, false, false] rfl rfl (by kernel_rfl) (fun _ _ _ h => h) (Or.inl ⟨by rfl, ?_⟩) hHeld ?_ ?_
      rotate_left
      ·rintro w' ⟨s0, s1⟩
       go_simp
       with_reducible rfl
      rotate_left
      ·simp only [apu_]
       rfl
      refine take_ (i := 2) (N := some 81) (v := ?_) (a' := ?_) #[true, true, true, false, false, false, false, false, false, false, false, false] rfl rfl (by kernel_rfl) (fun _ _ _ h => h) (Or.inl ⟨by rfl, ?_⟩) hHeld ?_ ?_
      rotate_left
      ·rintro w' ⟨s0, s1⟩
       go_simp
       with_reducible rfl
      rotate_left
      ·simp only [apu_]
       rfl
      refine take_ (i := 3) (N := some 82) (v := ?_) (a' := ?_) #[true, true, true, true, false, false, false, false, false, false, false, false] rfl rfl (by kernel_rfl) (fun _ _ _ h => h) (Or.inl ⟨by rfl, ?_⟩) hHeld ?_ ?_
      rotate_left
      ·rintro w' ⟨s0, s1⟩
       go_simp
       with_reducible rfl
      rotate_left
      ·simp only [apu_]
       rfl
      refine take_ (i := 4) (N := some 83) (v := ?_) (a' := ?_) #[true, true, true, true, true, false, false, false, false, false, false, false] rfl rfl (by kernel_rfl) (fun _ _ _ h => h) (Or.inl ⟨by rfl, ?_⟩) hHeld ?_ ?_
      rotate_left
      ·rintro w' ⟨s0, s1⟩
       go_simp
       with_reducible rfl
      rotate_left
      ·simp only [apu_]
       rfl
      refine take_ (i := 5) (N := some 84) (v := ?_) (a' := ?_) #[true, true, true, true, true, true, false, false, false, false, false, false] rfl rfl (by kernel_rfl) (fun _ _ _ h => h) (Or.inl ⟨by rfl, ?_⟩) hHeld ?_ ?_
      rotate_left
      ·rintro w' ⟨s0, s1⟩
       go_simp
       with_reducible rfl
      rotate_left
      ·simp only [apu_]
       rfl
      refine take_ (i := 6) (N := some 85) (v := ?_) (a' := ?_) #[true, true, true, true, true, true, true, false, false, false, false, false] rfl rfl (by kernel_rfl) (fun _ _ _ h => h) (Or.inl ⟨by rfl, ?_⟩) hHeld ?_ ?_
      rotate_left
      ·rintro w' ⟨s0, s1⟩
       go_simp
       with_reducible rfl
      rotate_left
      ·simp only [apu_]
       rfl
      refine take_ (i := 7) (N := some 86) (v := ?_) (a' := ?_) #[true, true, true, true, true, true, true, true, false, false, false, false] rfl rfl (by kernel_rfl) (fun _ _ _ h => h) (Or.inl ⟨by rfl, ?_⟩) hHeld ?_ ?_
      rotate_left
      ·rintro w' ⟨s0, s1⟩
       go_simp
       with_reducible rfl
      rotate_left
      ·simp only [apu_]
       rfl
      refine take_ (i := 8) (N := some 87) (v := ?_) (a' := ?_) #[true, true, true, true, true, true, true, true, true, false, false, false] rfl rfl (by kernel_rfl) (fun _ _ _ h => h) (Or.inl ⟨by rfl, ?_⟩) hHeld ?_ ?_
      rotate_left
      ·rintro w' ⟨s0, s1⟩
       go_simp
       with_reducible rfl
      rotate_left
      ·simp only [Act.put, List.setIfInBounds_toArray, List.set_cons_zero, List.set_cons_succ, i64_w, i32_w, hdd]
       rfl
      refine take_ (i := 9) (N := some 88) (v := ?_) (a' := ?_) #[true, true, true, true, true, true, true, true, true, true, false, false] rfl rfl (by kernel_rfl) (fun _ _ _ h => h) (Or.inl ⟨by rfl, ?_⟩) hHeld ?_ ?_
      rotate_left
      ·rintro w' ⟨s0, s1⟩
       go_simp
       with_reducible rfl
      rotate_left
      ·simp only [apu_]
       rfl
      refine take_ (i := 10) (N := some 89) (v := ?_) (a' := ?_) #[true, true, true, true, true, true, true, true, true, true, true, false] rfl rfl (by kernel_rfl) (fun _ _ _ h => h) (Or.inl ⟨by rfl, ?_⟩) hHeld ?_ ?_
      rotate_left
      ·rintro w' ⟨s0, s1⟩
       go_simp
       with_reducible rfl
      rotate_left
      ·simp only [apu_]
       rfl
      obtain ⟨ad9, e9, hy9⟩ := Kd.at_int (Kd.R_reads' R7.out).2.2 (d : Int) (by omega) (by have := L4.out; have := D4.out; omega)
      injection e9 with e9
      subst e9
      rw [show (⟨gk, 0, none⟩ : Addr).add ((d : Int).toNat) = ⟨gk, d, none⟩ by by_cases h : d = 0 <;> simp [Addr.add, h]] at hy9
      have hl9 : 0 < (x7.f2).length := by have := L4.out; omega
      obtain ⟨g_, c_, e_, _, _, cells9, hcl9⟩ := Kd.R_form R7.out hl9
      obtain rfl : gk = g_ := by injection e_ with e_ _ _; injection e_ with e_; injection e_
      have hf9 := blk_frozen hcl9 d
      refine last_ (i := 11) (N := none) #[true, true, true, true, true, true, true, true, true, true, true, true] rfl rfl (by kernel_rfl) (by decide) (fun K hK => ?_)
      refine skip_ (w1 := wD.setCell ⟨gk, d, none⟩ (.int .i64 zq)) (by rfl) rfl ?_ ?_
      ·first | (go_simp; done) | (go_simp; rfl)
      refine hK.out _ _ ?_
      clear hK K
      refine done_ (by kernel_rfl) ?_
      clear hHeld
      clear hy9 hf9 hcl9 hl9 e_
      have RP := Kd.R_putn R7.out d zq
      have KP : Kept wD (wD.setCell ⟨gk, d, none⟩ (.int .i64 zq)) (fun k => some k = (Value.slice (some ⟨gk, 0, none⟩) 4 ck).ownBlock) := (Kept.refl wD (fun k => some k = (Value.slice (some ⟨gk, 0, none⟩) 4 ck).ownBlock)).setCell (p := ⟨gk, d, none⟩) (.inl rfl) _
      have SA := Aside0.mk (BK.out _ (x7.f2.set d zq) ((BW.out.mono (fun _ h => h.elim)).then_ KP (fun j hj => .inl hj)) (Kd.R_mono RP (fun _ _ => trivial)))
      have DA := Aside0.mk (blk_kept D9.out KP (fun h_ => PK.out.2 (Option.some.inj h_).symm))
      have ZA := Aside0.mk (blk_kept Z9.out KP (fun h_ => PK.out.1.2.2 (Option.some.inj h_).symm))
      have BA := Aside0.mk (below_set B9.out (Kd.R_base R7.out gk rfl) : Below w0.heap.size w0 (wD.setCell ⟨gk, d, none⟩ (.int .i64 zq)))
      have KA := Aside0.mk (K9.out.then_ KP (fun j hj => .inl (by rw [show j = gk from Option.some.inj hj]; exact PK.out.1.1)))
      generalize wD.setCell ⟨gk, d, none⟩ (.int .i64 zq) = wA at RP KP SA DA ZA BA KA ⊢
      clear KP RP S9 D9 Z9 R7 B9 K9 BW BK hdd
      have hkC := K2L.out
      have hrdx := rd_cl_set (xs := C2) hkC (⟨x7.f0, x7.f1, x7.f2.set d zq⟩ : CL)
      have hlx : (C2.set k1 (⟨x7.f0, x7.f1, x7.f2.set d zq⟩ : CL)).length = C2.length := List.length_set
      generalize hC9 : C2.set k1 (⟨x7.f0, x7.f1, x7.f2.set d zq⟩ : CL) = C9 at SA HH hrdx hlx
      obtain ⟨_, v9, f0, f1, f2, hfr2, _, hR9, _⟩ := cs_elem SA.out (k1 : Int) (by omega) (by omega)
      simp only [Int.toNat_natCast] at f0 f1 f2 hfr2
      rw [hrdx] at f0 f1 hR9
      obtain ⟨A9, c9, rfl⟩ := Kd.R_slice hR9
      obtain ⟨ks, hks⟩ : ∃ ks, x7.f2.set d zq = ks := ⟨_, rfl⟩
      have hl9 : ks.length = 4 := by rw [← hks, List.length_set]; exact L4.out
      rw [hks] at hR9 f2 HH
      rw [hl9] at f2
      have KS := Aside0.mk (show (Kd.int .i64).C wA A9 4 ks by have h_ := (Kd.R_reads' hR9).2.2; simp only [hl9] at h_; exact h_)
      have g0 : wA.cell? ⟨db, 0, none⟩ = some (.slice (some ⟨g7, 0, none⟩) C2.length c7) := (blk_cell DA.out 0).trans rfl
      have HC9 := Aside0.mk hC9
      have HLX := Aside0.mk hlx
      have HL9 := Aside0.mk hl9
      have fz0 : wA.frozen? ⟨g7, k1 * 3, none⟩ = false := hfr2 0
      have fz1 := hfr2 1
      have fz2 := hfr2 2
      clear hR9 hfr2 hC9 hlx hl9 hks hrdx
      try go_wp2
      go_loopw [16, 97] (fun v16 vi wr => ∃ q : Nat, q ≤ 4 ∧ vi = .int .i64 q ∧ wr = wA ∧ Aside0 (∀ n : Nat, n < q → rd ks (n : Int) < 0)) (fun v16 vi _ => 4 - (intOf vi).toNat)
      case atStart => exact ⟨0, by omega, rfl, rfl, ⟨fun n h => by omega⟩⟩
      case round =>
       obtain ⟨q, hq, rfl, rfl, HN0⟩ := hrel
       have g1 : wr.cell? ⟨db, 1, none⟩ = some (.slice A1 n1 c1) := (blk_cell DA.out 1).trans rfl
       have g2 : wr.cell? ⟨db, 2, none⟩ = some (.int .i64 L) := (blk_cell DA.out 2).trans rfl
       have r0 : wr.cell? ⟨W1.heap.size, 0, none⟩ = some (.slice none 0 0) := (blk_cell ZA.out 0).trans rfl
       have r1 : wr.cell? ⟨W1.heap.size, 1, none⟩ = some (.slice none 0 0) := (blk_cell ZA.out 1).trans rfl
       have r2 : wr.cell? ⟨W1.heap.size, 2, none⟩ = some (.int .i64 0) := (blk_cell ZA.out 2).trans rfl
       have s0 := blk_frozen ZA.out 0
       have s1 := blk_frozen ZA.out 1
       have s2 := blk_frozen ZA.out 2
       by_cases hql : q < 4
       ·have hqq : ((q : Int) < 4) = True := eq_true (by omega)
        have hqq2 : (q < 4) = True := eq_true hql
        obtain ⟨adq, eq_, hyq⟩ := Kd.at_int KS.out (q : Int) (by omega) (by have := HL9.out; omega)
        subst eq_
        simp only [Int.toNat_natCast] at hyq
        obtain ⟨o, ho⟩ : ∃ o, rd ks (q : Int) = o := ⟨_, rfl⟩
        rw [ho] at hyq
        by_cases h0 : 0 ≤ o
        ·have o1 : (o ≥ 0) = True := eq_true h0
         have o2 : (0 ≤ o) = True := eq_true h0
         have hsk : someKid ks = true := some_hit (q := q) (by have := HL9.out; omega) (by rw [ho]; exact h0)
         have h := HH.out
         rw [if_pos hsk] at h
         have e_ := Option.some.inj h
         subst e_
         clear h h0 ho hsk
         go_wp2
         refine bodyPost_ret (results_ct rfl _ _ W1.heap.size 25 #[.slice (some ⟨g7, 0, none⟩) C2.length c7, .slice A1 n1 c1, .int .i64 L] (0, 0) _ rfl (put3 ZA.out _ _ _) Try.underlying25 rfl (by kernel_rfl)) rfl ?_
         have hz : xg ≤ W1.heap.size := Nat.le_of_lt XZ.out
         exact ⟨_, rfl, Kd.S_mono (far3 SA.out ZA.out) (fun k hk => hk.1.1), below3 BA.out (Nat.le_trans BX.out hz), keep3 KA.out (.inr (HXG.out ▸ hz))⟩
        ·have o1 : (o ≥ 0) = False := eq_false h0
         have o2 : (0 ≤ o) = False := eq_false h0
         have HO := Aside0.mk (show rd ks (q : Int) < 0 by omega)
         clear h0 ho
         go_wp2
         go_roundw
         case rel => exact ⟨q + 1, by omega, by go_num, (by first | trivial | rfl), ⟨fun n hn => by
          by_cases h : n = q
          ·subst h; exact HO.out
          ·exact HN0.out n (by omega)⟩⟩
         case measure => simp [intOf]; omega
       ·have hqq : ((q : Int) < 4) = False := eq_false (by omega)
        have hqq2 : (q < 4) = False := eq_false hql
        have hsk : someKid ks = false := some_miss (fun n hn => HN0.out n (by have := HL9.out; omega))
        have h := HH.out
        rw [if_neg (by rw [hsk]; decide)] at h
        have e_ := Option.some.inj h
        subst e_
        obtain ⟨wB, hwB⟩ : ∃ W, ((wr.setCell ⟨g7, k1 * 3, none⟩ (.int .i64 0)).setCell ⟨g7, k1 * 3 + 1, none⟩ (.string ⟨#[]⟩)).setCell ⟨g7, k1 * 3 + 2, none⟩ (.slice none 0 0) = W := ⟨_, rfl⟩
        have hPg := (Kd.S_R SA.out).1 g7 rfl
        have hBg := Kd.S_base SA.out g7 rfl
        have KKB : Kept wr wB (fun j => j = g7) := by rw [← hwB]; exact (((Kept.refl wr (fun j => j = g7)).setCell (p := ⟨g7, k1 * 3, none⟩) (.inl rfl) _).setCell (p := ⟨g7, k1 * 3 + 1, none⟩) (.inl rfl) _).setCell (p := ⟨g7, k1 * 3 + 2, none⟩) (.inl rfl) _
        have SB := cs_zero SA.out (k1 : Int) (by omega) (by have := K2L.out; omega)
        simp only [Int.toNat_natCast] at SB
        rw [hwB, ← HC9.out, List.set_set] at SB
        have SB := Aside0.mk SB
        have DB2 := Aside0.mk (blk_kept DA.out KKB (fun e_ => hPg.2 e_.symm))
        have ZB := Aside0.mk (blk_kept ZA.out KKB (fun e_ => hPg.1.2.2 e_.symm))
        have BB := Aside0.mk (show Below w0.heap.size w0 wB by rw [← hwB]; exact below_set (below_set (below_set BA.out hBg) hBg) hBg)
        have KB := Aside0.mk (KA.out.then_ KKB (fun j hj => .inl (by rw [hj]; exact hPg.1.1)))
        have b0 : wB.cell? ⟨db, 0, none⟩ = some (.slice (some ⟨g7, 0, none⟩) C2.length c7) := (blk_cell DB2.out 0).trans rfl
        have b1 : wB.cell? ⟨db, 1, none⟩ = some (.slice A1 n1 c1) := (blk_cell DB2.out 1).trans rfl
        have b2 : wB.cell? ⟨db, 2, none⟩ = some (.int .i64 L) := (blk_cell DB2.out 2).trans rfl
        clear r0 r1 r2 s0 s1 s2
        have r0 : wB.cell? ⟨W1.heap.size, 0, none⟩ = some (.slice none 0 0) := (blk_cell ZB.out 0).trans rfl
        have r1 : wB.cell? ⟨W1.heap.size, 1, none⟩ = some (.slice none 0 0) := (blk_cell ZB.out 1).trans rfl
        have r2 : wB.cell? ⟨W1.heap.size, 2, none⟩ = some (.int .i64 0) := (blk_cell ZB.out 2).trans rfl
        have s0 := blk_frozen ZB.out 0
        have s1 := blk_frozen ZB.out 1
        have s2 := blk_frozen ZB.out 2
        clear h hsk hPg hBg KKB hql hq HN0
        go_wp2
        refine bodyPost_ret (results_ct rfl _ _ W1.heap.size 25 #[.slice (some ⟨g7, 0, none⟩) C2.length c7, .slice A1 n1 c1, .int .i64 L] (0, 0) _ rfl (put3 ZB.out _ _ _) Try.underlying25 rfl (by kernel_rfl)) rfl ?_
        have hz : xg ≤ W1.heap.size := Nat.le_of_lt XZ.out
        exact ⟨_, rfl, Kd.S_mono (far3 SB.out ZB.out) (fun k hk => hk.1.1), below3 BB.out (Nat.le_trans BX.out hz), keep3 KB.out (.inr (HXG.out ▸ hz))⟩
     ·cases h
   ·have h_ := (if_neg hd).symm.trans h
    cases h_
def dgI (a : Int) (j : Nat) : Int := (impl_digit.f a (j : Int)).getD 0
theorem dgI_some (a : Int) (j : Nat) (h2 : 2 ≤ j) (h : j ≤ 1000) : impl_digit.f a (j : Int) = some (dgI a j) := by
 unfold dgI
 have e : ∃ r, impl_digit.f a (j : Int) = some r := by
  unfold impl_digit.f
  rw [if_pos (by rw [w64 (x := (j : Int) - 2) (by omega) (by omega), w64 (by omega) (by omega)]; omega)]
  exact ⟨_, rfl⟩
 obtain ⟨r, e⟩ := e
 rw [e]
 rfl
def putR (at_ : Int) (leaf lf : ByteArray) (C : List CL) (R : List Int) (L root : Int) : Option (List CL × List Int) :=
 if lf = leaf then some (C, R) else (if 0 ≤ root ∧ root < (R.length : Int) then (putM (dgI at_) leaf L.toNat C (rd R root)).bind fun q => some (q.1, R.set root.toNat q.2) else none)
def putI (k : Nat) (C : List CL) (R : List Int) (L root at_ : Int) (leaf : ByteArray) : Option (List CL × List Int × Int × Bool) :=
 if ownB C R = true ∧ 0 ≤ L ∧ L ≤ 1000 then ((impl_Cow_leafAt.f k C R L root at_).bind fun lf => (putR at_ leaf lf C R L root).bind fun o => (impl_GoodCow.f o.1 o.2 L).bind fun g => if g = true then some (o.1, o.2, L, true) else some ([], [], 0, false)) else none
def impl_PutLeaf.f (k : Nat) (C : List CL) (R : List Int) (L root at_ : Int) (leaf : ByteArray) : Option (List CL × List Int × Int × Bool) :=
 (impl_isRoot.f C R L root).bind fun b => if b = true then ((impl_Cow_places.f C R L).bind fun p => (impl_within.f at_ 0 (wrap64 (p - 1))).bind fun t => if t = true then (if (leaf.size : Int) > 8 then some ([], [], 0, false) else putI k C R L root at_ leaf) else some ([], [], 0, false)) else some ([], [], 0, false)
set_option maxHeartbeats 16000000 in
set_option maxRecDepth 100000 in
theorem impl_PutLeaf.calls (k_ : Nat) (A0 : Option Addr) (c0 : Nat) (C : List CL) (A1 : Option Addr) (c1 : Nat) (R : List Int) (L root at_ : Int) (leaf : ByteArray) (r1 : List CL) (r2 : List Int) (r3 : Int) (r4 : Bool) (w : World) (hr0 : Kd.C k68 w A0 C.length C) (hc0 : C.length ≤ c0) (hr1 : Kd.C (Kd.int .i64) w A1 R.length R) (hc1 : R.length ≤ c1) (h : impl_PutLeaf.f k_ C R L root at_ leaf = some (r1, r2, r3, r4)) :
  Calls Try.prog 39 #[.agg #[.slice A0 C.length c0, .slice A1 R.length c1, .int .i64 L], .int .i64 root, .int .i64 at_, .string leaf] w fun e w' => ∃ v0_ v1_ : Value, e = .returned (.tuple #[.agg #[v0_, v1_, .int .i64 r3], .bool r4]) ∧ Kd.S k68 68 w' w.heap.size (fun k_ => some k_ ≠ (v1_ : Value).ownBlock) v0_ r1 ∧ Kd.R (Kd.int .i64) 3 w' w.heap.size (fun _ => True) v1_ r2 ∧ Below w.heap.size w w' := by
 have hu25 := Try.underlying25
 have hu68 := Try.underlying68
 have hu22 := Try.underlying22
 have HR0 := Aside0.mk hr0
 have HR1 := Aside0.mk hr1
 have HC0 := Aside0.mk hc0
 have HC1 := Aside0.mk hc1
 have hl : R.length ≤ 9223372036854775807 := hr1.2.1
 have hlc : C.length ≤ 9223372036854775807 := hr0.2.1
 clear hr0 hr1 hc0 hc1
 obtain ⟨b, hb, h⟩ := Option.bind_eq_some_iff.1 h
 have HBB := Aside0.mk hb
 clear hb
 obtain ⟨W1, hW1⟩ : ∃ W, w.alloc (.cells #[.slice A0 C.length c0, .slice A1 R.length c1, .int .i64 L] 25) = W := ⟨_, rfl⟩
 obtain ⟨W2, hW2⟩ : ∃ W, W1.alloc (.cells #[.slice none 0 0, .slice none 0 0, .int .i64 0] 25) = W := ⟨_, rfl⟩
 have hb1 : Below w.heap.size w W1 := by rw [← hW1]; exact below_alloc (Below.refl _ _) _
 have hb2 : Below W1.heap.size W1 W2 := by rw [← hW2]; exact below_alloc (Below.refl _ _) _
 have X1 : W1.heap[w.heap.size]? = some (.cells #[.slice A0 C.length c0, .slice A1 R.length c1, .int .i64 L] 25 (0, 0)) := by rw [← hW1]; exact heap_alloc_new w _
 have Z1 : W2.heap[W1.heap.size]? = some (.cells #[.slice none 0 0, .slice none 0 0, .int .i64 0] 25 (0, 0)) := by rw [← hW2]; exact heap_alloc_new W1 _
 have B2 := Aside0.mk (below_step hb1 hb2)
 have X2 := Aside0.mk (blk_below X1 hb2)
 have Z2 := Aside0.mk Z1
 have ZG := Aside0.mk (show w.heap.size ≤ W1.heap.size from hb1.size)
 have ZN := Aside0.mk (show w.heap.size ≠ W1.heap.size by have := blk_lt X1; omega)
 clear hb1 hb2 X1 Z1
 have d0 : W2.cell? ⟨w.heap.size, 0, none⟩ = some (.slice A0 C.length c0) := (blk_cell X2.out 0).trans rfl
 have d1 : W2.cell? ⟨w.heap.size, 1, none⟩ = some (.slice A1 R.length c1) := (blk_cell X2.out 1).trans rfl
 have d2 : W2.cell? ⟨w.heap.size, 2, none⟩ = some (.int .i64 L) := (blk_cell X2.out 2).trans rfl
 have TT := Aside0.mk (impl_isRoot.calls A0 c0 C A1 c1 R L root b W2 (Kd.C_below HR0.out B2.out) HC0.out (Kd.C_below HR1.out B2.out) HC1.out HBB.out)
 have HH := Aside0.mk h
 clear h
 go_enter Try.func39, Try.ntmps39
 go_wp2_with (go_at_call 63; refine TT.out.mono ?_)
 (first | rintro e w3 rfl hb | rintro e w3 ⟨rfl, hb⟩)
 clear TT hW1 d0 d1 d2
 generalize hgz : W1.heap.size = gz at *
 clear hgz hW2
 have B3 := Aside0.mk (below_step B2.out hb)
 have X3 := Aside0.mk (blk_below X2.out hb)
 have Z3 := Aside0.mk (blk_below Z2.out hb)
 clear B2 X2 Z2 hb
 have d0 : w3.cell? ⟨w.heap.size, 0, none⟩ = some (.slice A0 C.length c0) := (blk_cell X3.out 0).trans rfl
 have d1 : w3.cell? ⟨w.heap.size, 1, none⟩ = some (.slice A1 R.length c1) := (blk_cell X3.out 1).trans rfl
 have d2 : w3.cell? ⟨w.heap.size, 2, none⟩ = some (.int .i64 L) := (blk_cell X3.out 2).trans rfl
 have z0 : w3.cell? ⟨gz, 0, none⟩ = some (.slice none 0 0) := (blk_cell Z3.out 0).trans rfl
 have z1 : w3.cell? ⟨gz, 1, none⟩ = some (.slice none 0 0) := (blk_cell Z3.out 1).trans rfl
 have z2 : w3.cell? ⟨gz, 2, none⟩ = some (.int .i64 0) := (blk_cell Z3.out 2).trans rfl
 have y0 := blk_frozen Z3.out 0
 have y1 := blk_frozen Z3.out 1
 have y2 := blk_frozen Z3.out 2
 cases b with
 | false =>
  have h : some (([] : List CL), ([] : List Int), (0 : Int), false) = some (r1, r2, r3, r4) := HH.out
  simp only [Option.some.injEq, Prod.mk.injEq] at h
  obtain ⟨rfl, rfl, rfl, rfl⟩ := h
  go_wp2
  refine bodyPost_ret (results_ct rfl _ _ gz 25 #[.slice none 0 0, .slice none 0 0, .int .i64 0] (0, 0) _ rfl (put3 Z3.out _ _ _) Try.underlying25 rfl (by kernel_rfl)) rfl ?_
  exact ⟨_, _, rfl, Kd.S_nil _ _ _ _ _, Kd.R_nil _ _ _ _ _, below_set (below_set (below_set B3.out ZG.out) ZG.out) ZG.out⟩
 | true =>
  have h : ((impl_Cow_places.f C R L).bind fun p => (impl_within.f at_ 0 (wrap64 (p - 1))).bind fun t => if t = true then (if (leaf.size : Int) > 8 then some (([] : List CL), ([] : List Int), (0 : Int), false) else putI k_ C R L root at_ leaf) else some (([] : List CL), ([] : List Int), (0 : Int), false)) = some (r1, r2, r3, r4) := HH.out
  obtain ⟨p, hp, h⟩ := Option.bind_eq_some_iff.1 h
  obtain ⟨t, ht, h⟩ := Option.bind_eq_some_iff.1 h
  have TT := Aside0.mk (impl_Cow_places.calls A0 c0 C A1 c1 R L p w3 (Kd.C_below HR0.out B3.out) HC0.out (Kd.C_below HR1.out B3.out) HC1.out hp)
  replace HH := Aside0.mk h
  have HT := Aside0.mk ht
  clear h hp ht
  go_wp2_with (go_at_call 64; refine TT.out.mono ?_)
  (first | rintro e w4 rfl hb | rintro e w4 ⟨rfl, hb⟩)
  have B4 := Aside0.mk (below_step B3.out hb)
  have X4 := Aside0.mk (blk_below X3.out hb)
  have Z4 := Aside0.mk (blk_below Z3.out hb)
  clear TT hb d0 d1 d2 z0 z1 z2 y0 y1 y2 B3 X3 Z3
  have TT := Aside0.mk (impl_within.calls at_ 0 (wrap64 (p - 1)) t w4 HT.out)
  go_wp2_with (go_at_call 45; refine TT.out.mono ?_)
  (first | rintro e w5 rfl hd | rintro e w5 ⟨rfl, hd⟩)
  have hb := hd.below
  have B5 := Aside0.mk (below_step B4.out hb)
  have X5 := Aside0.mk (blk_below X4.out hb)
  have Z5 := Aside0.mk (blk_below Z4.out hb)
  clear TT hb hd HT B4 X4 Z4
  have d0 : w5.cell? ⟨w.heap.size, 0, none⟩ = some (.slice A0 C.length c0) := (blk_cell X5.out 0).trans rfl
  have d1 : w5.cell? ⟨w.heap.size, 1, none⟩ = some (.slice A1 R.length c1) := (blk_cell X5.out 1).trans rfl
  have d2 : w5.cell? ⟨w.heap.size, 2, none⟩ = some (.int .i64 L) := (blk_cell X5.out 2).trans rfl
  have z0 : w5.cell? ⟨gz, 0, none⟩ = some (.slice none 0 0) := (blk_cell Z5.out 0).trans rfl
  have z1 : w5.cell? ⟨gz, 1, none⟩ = some (.slice none 0 0) := (blk_cell Z5.out 1).trans rfl
  have z2 : w5.cell? ⟨gz, 2, none⟩ = some (.int .i64 0) := (blk_cell Z5.out 2).trans rfl
  have y0 := blk_frozen Z5.out 0
  have y1 := blk_frozen Z5.out 1
  have y2 := blk_frozen Z5.out 2
  cases t with
  | false =>
   have h : some (([] : List CL), ([] : List Int), (0 : Int), false) = some (r1, r2, r3, r4) := HH.out
   simp only [Option.some.injEq, Prod.mk.injEq] at h
   obtain ⟨rfl, rfl, rfl, rfl⟩ := h
   go_wp2
   refine bodyPost_ret (results_ct rfl _ _ gz 25 #[.slice none 0 0, .slice none 0 0, .int .i64 0] (0, 0) _ rfl (put3 Z5.out _ _ _) Try.underlying25 rfl (by kernel_rfl)) rfl ?_
   exact ⟨_, _, rfl, Kd.S_nil _ _ _ _ _, Kd.R_nil _ _ _ _ _, below_set (below_set (below_set B5.out ZG.out) ZG.out) ZG.out⟩
  | true =>
   have h : (if (leaf.size : Int) > 8 then some (([] : List CL), ([] : List Int), (0 : Int), false) else putI k_ C R L root at_ leaf) = some (r1, r2, r3, r4) := HH.out
   by_cases h8 : (leaf.size : Int) > 8
   ·rw [if_pos h8] at h
    have q1 : ((leaf.size : Int) > 8) = True := eq_true h8
    have q2 : (8 < (leaf.size : Int)) = True := eq_true h8
    have q3 : (8 < leaf.size) = True := eq_true (by omega)
    clear h8 HH
    simp only [Option.some.injEq, Prod.mk.injEq] at h
    obtain ⟨rfl, rfl, rfl, rfl⟩ := h
    go_wp2
    refine bodyPost_ret (results_ct rfl _ _ gz 25 #[.slice none 0 0, .slice none 0 0, .int .i64 0] (0, 0) _ rfl (put3 Z5.out _ _ _) Try.underlying25 rfl (by kernel_rfl)) rfl ?_
    exact ⟨_, _, rfl, Kd.S_nil _ _ _ _ _, Kd.R_nil _ _ _ _ _, below_set (below_set (below_set B5.out ZG.out) ZG.out) ZG.out⟩
   ·rw [if_neg h8] at h
    have q1 : ((leaf.size : Int) > 8) = False := eq_false h8
    have q2 : (8 < (leaf.size : Int)) = False := eq_false h8
    have q3 : (8 < leaf.size) = False := eq_false (by omega)
    clear h8 HH
    unfold putI at h
    split at h
    ·rename_i hown
     obtain ⟨o1, o2, o3⟩ := ownB_out hown.1
     have TT := Aside0.mk (ownCow_calls A0 c0 C A1 c1 R L w5 (Kd.C_below HR0.out B5.out) HC0.out (Kd.C_below HR1.out B5.out) HC1.out o1 o3 o2)
     obtain ⟨lf, hlf, h⟩ := Option.bind_eq_some_iff.1 h
     obtain ⟨⟨C1, R1⟩, hpr, h⟩ := Option.bind_eq_some_iff.1 h
     obtain ⟨g, hg, h⟩ := Option.bind_eq_some_iff.1 h
     have HLF := Aside0.mk hlf
     have HPR := Aside0.mk hpr
     have HG := Aside0.mk hg
     have HH := Aside0.mk h
     have HOW := Aside0.mk hown
     clear hlf hpr hg h hown o1 o2 o3
     go_wp2_with (go_at_call 70; refine TT.out.mono ?_)
     (first | rintro e w6 ⟨gb, v0, v1, rfl, hO, hb⟩ | rintro e w6 rfl hO hb)
     clear d0 d1 d2 z0 z1 z2 y0 y1 y2
     clear TT
     obtain ⟨A5, c5, rfl⟩ := Kd.S_slice hO.cs
     obtain ⟨A6, c6, rfl⟩ := Kd.R_slice hO.rs
     have B6 := Aside0.mk (below_step B5.out hb)
     have X6 := Aside0.mk (blk_below X5.out hb)
     have Z6 := Aside0.mk (blk_below Z5.out hb)
     have G6 := Aside0.mk hO.box
     have LG := Aside0.mk (show w5.heap.size ≤ gb from hO.ge)
     have LX := Aside0.mk (show w.heap.size < w5.heap.size from blk_lt X5.out)
     have LZ := Aside0.mk (show gz < w5.heap.size from blk_lt Z5.out)
     have S6 := Aside0.mk (Kd.S_lower (Kd.S_mono (Kd.S_bound hO.cs) (fun k h_ => (⟨h_.1, h_.2.1⟩ : (k ≠ gb ∧ some k ≠ (Value.slice A6 R.length c6).ownBlock) ∧ w5.heap.size ≤ k))) B5.out.size)
     have R6 := Aside0.mk (Kd.R_lower (Kd.R_mono (Kd.R_bound hO.rs) (fun k h_ => (⟨h_.1, h_.2.1⟩ : k ≠ gb ∧ w5.heap.size ≤ k))) B5.out.size : IR w6 w.heap.size (fun k => k ≠ gb ∧ w5.heap.size ≤ k) (.slice A6 R.length c6) R)
     clear hO hb B5 X5 Z5
     have d0 : w6.cell? ⟨w.heap.size, 0, none⟩ = some (.slice A0 C.length c0) := (blk_cell X6.out 0).trans rfl
     have d1 : w6.cell? ⟨w.heap.size, 1, none⟩ = some (.slice A1 R.length c1) := (blk_cell X6.out 1).trans rfl
     have d2 : w6.cell? ⟨w.heap.size, 2, none⟩ = some (.int .i64 L) := (blk_cell X6.out 2).trans rfl
     have z0 : w6.cell? ⟨gz, 0, none⟩ = some (.slice none 0 0) := (blk_cell Z6.out 0).trans rfl
     have z1 : w6.cell? ⟨gz, 1, none⟩ = some (.slice none 0 0) := (blk_cell Z6.out 1).trans rfl
     have z2 : w6.cell? ⟨gz, 2, none⟩ = some (.int .i64 0) := (blk_cell Z6.out 2).trans rfl
     have y0 := blk_frozen Z6.out 0
     have y1 := blk_frozen Z6.out 1
     have y2 := blk_frozen Z6.out 2
     have TT := Aside0.mk (impl_Cow_leafAt.calls k_ A0 c0 C A1 c1 R L root at_ lf w6 (Kd.C_below HR0.out B6.out) HC0.out (Kd.C_below HR1.out B6.out) HC1.out HLF.out)
     go_wp2_with (go_at_call 65; refine TT.out.mono ?_)
     (first | rintro e w7 rfl hb | rintro e w7 ⟨rfl, hb⟩)
     clear d0 d1 d2 z0 z1 z2 y0 y1 y2
     have B7 := Aside0.mk (below_step B6.out hb)
     have X7 := Aside0.mk (blk_below X6.out hb)
     have Z7 := Aside0.mk (blk_below Z6.out hb)
     have G7 := Aside0.mk (blk_below G6.out hb)
     have S7 := Aside0.mk (Kd.S_below S6.out hb)
     have R7 := Aside0.mk (Kd.R_below R6.out hb)
     clear TT hb B6 X6 Z6 G6 S6 R6 HLF
     have h := HPR.out
     unfold putR at h
     by_cases hle : lf = leaf
     ·rw [if_pos hle] at h
      simp only [Option.some.injEq, Prod.mk.injEq] at h
      obtain ⟨rfl, rfl⟩ := h
      subst hle
      have n1 : (lf.toList == lf.toList) = true := by simp
      have g0 : w7.cell? ⟨gb, 0, none⟩ = some (.slice A5 C.length c5) := (blk_cell G7.out 0).trans rfl
      have g1 : w7.cell? ⟨gb, 1, none⟩ = some (.slice A6 R.length c6) := (blk_cell G7.out 1).trans rfl
      have g2 : w7.cell? ⟨gb, 2, none⟩ = some (.int .i64 L) := (blk_cell G7.out 2).trans rfl
      have z0 : w7.cell? ⟨gz, 0, none⟩ = some (.slice none 0 0) := (blk_cell Z7.out 0).trans rfl
      have z1 : w7.cell? ⟨gz, 1, none⟩ = some (.slice none 0 0) := (blk_cell Z7.out 1).trans rfl
      have z2 : w7.cell? ⟨gz, 2, none⟩ = some (.int .i64 0) := (blk_cell Z7.out 2).trans rfl
      have y0 := blk_frozen Z7.out 0
      have y1 := blk_frozen Z7.out 1
      have y2 := blk_frozen Z7.out 2
      have TT := Aside0.mk (impl_GoodCow.calls _ c5 C _ c6 R L g w7 (Kd.S_reads' S7.out).2.2 (Kd.S_reads' S7.out).2.1 (Kd.R_reads' R7.out).2.2 (by have h_ := (Kd.R_reads' R7.out).2.1; simpa using h_) HG.out)
      clear HG
      go_wp2_with (go_at_call 22; with_reducible refine TT.out.mono ?_)
      (first | rintro e w20 rfl hb | rintro e w20 ⟨rfl, hb⟩)
      clear g0 g1 g2 z0 z1 z2 y0 y1 y2 TT
      have B20 := Aside0.mk (below_step B7.out hb)
      have Z20 := Aside0.mk (blk_below Z7.out hb)
      have G20 := Aside0.mk (blk_below G7.out hb)
      have S20 := Aside0.mk (Kd.S_below S7.out hb)
      have R20 := Aside0.mk (Kd.R_below R7.out hb)
      clear hb B7 X7 Z7 G7 S7 R7
      have g0 : w20.cell? ⟨gb, 0, none⟩ = some (.slice A5 C.length c5) := (blk_cell G20.out 0).trans rfl
      have g1 : w20.cell? ⟨gb, 1, none⟩ = some (.slice A6 R.length c6) := (blk_cell G20.out 1).trans rfl
      have g2 : w20.cell? ⟨gb, 2, none⟩ = some (.int .i64 L) := (blk_cell G20.out 2).trans rfl
      have z0 : w20.cell? ⟨gz, 0, none⟩ = some (.slice none 0 0) := (blk_cell Z20.out 0).trans rfl
      have z1 : w20.cell? ⟨gz, 1, none⟩ = some (.slice none 0 0) := (blk_cell Z20.out 1).trans rfl
      have z2 : w20.cell? ⟨gz, 2, none⟩ = some (.int .i64 0) := (blk_cell Z20.out 2).trans rfl
      have y0 := blk_frozen Z20.out 0
      have y1 := blk_frozen Z20.out 1
      have y2 := blk_frozen Z20.out 2
      cases g with
      | false =>
       have h : some (([] : List CL), ([] : List Int), (0 : Int), false) = some (r1, r2, r3, r4) := HH.out
       simp only [Option.some.injEq, Prod.mk.injEq] at h
       obtain ⟨rfl, rfl, rfl, rfl⟩ := h
       go_wp2
       refine bodyPost_ret (results_ct rfl _ _ gz 25 #[.slice none 0 0, .slice none 0 0, .int .i64 0] (0, 0) _ rfl (put3 Z20.out _ _ _) Try.underlying25 rfl (by kernel_rfl)) rfl ?_
       exact ⟨_, _, rfl, Kd.S_nil _ _ _ _ _, Kd.R_nil _ _ _ _ _, below_set (below_set (below_set B20.out ZG.out) ZG.out) ZG.out⟩
      | true =>
       have h : some (C, R, L, true) = some (r1, r2, r3, r4) := HH.out
       simp only [Option.some.injEq, Prod.mk.injEq] at h
       obtain ⟨rfl, rfl, rfl, rfl⟩ := h
       go_wp2
       refine bodyPost_ret (results_ct rfl _ _ gz 25 #[.slice A5 C.length c5, .slice A6 R.length c6, .int .i64 L] (0, 0) _ rfl (put3 Z20.out _ _ _) Try.underlying25 rfl (by kernel_rfl)) rfl ?_
       obtain ⟨r1_, r2_, r3_⟩ := ret_cow (x := .slice A5 C.length c5) (y := .slice A6 R.length c6) (z := .int .i64 L) Z20.out ZG.out S20.out (fun k_ h_ => h_.1.2) R20.out B20.out
       exact ⟨_, _, rfl, r1_, r2_, r3_⟩
     ·rw [if_neg hle] at h
      have n0 : lf.toList ≠ leaf.toList := fun e_ => hle (ba_eq.1 e_)
      have n1 : (lf.toList == leaf.toList) = false := beq_eq_false_iff_ne.2 n0
      have n2 : (lf.toList = leaf.toList) = False := eq_false n0
      split at h
      ·rename_i hrt
       obtain ⟨⟨C2, zq⟩, hq, h⟩ := Option.bind_eq_some_iff.1 h
       simp only [Option.some.injEq, Prod.mk.injEq] at h
       obtain ⟨rfl, rfl⟩ := h
       have hq := Aside0.mk hq
       obtain ⟨ri, hri⟩ : ∃ ri : Nat, root = (ri : Int) := ⟨root.toNat, by omega⟩
       subst hri
       simp only [Int.toNat_natCast] at HG HH
       have HRT := Aside0.mk (show ri < R.length by omega)
       obtain ⟨gr, cap6, hv6, _, _, _⟩ := Kd.R_form R7.out (by omega)
       injection hv6 with hA6 hn6 hc6
       subst hA6 hc6
       clear hn6
       obtain ⟨k, hk⟩ : ∃ k, rd R (ri : Int) = k := ⟨_, rfl⟩
       rw [hk] at hq
       have RC := Aside0.mk (show ∀ W, IR W w.heap.size (fun k => k ≠ gb ∧ w5.heap.size ≤ k) (.slice (some ⟨gr, 0, none⟩) R.length c6) R → W.cell? ⟨gr, ri, none⟩ = some (.int .i64 k) from fun W hW => by
        obtain ⟨ad9, e9, hy9⟩ := Kd.at_int (Kd.R_reads' hW).2.2 (ri : Int) (by omega) (by have := HRT.out; omega)
        injection e9 with e9
        subst e9
        rw [show (⟨gr, 0, none⟩ : Addr).add ((ri : Int).toNat) = ⟨gr, ri, none⟩ by by_cases h : ri = 0 <;> simp [Addr.add, h], hk] at hy9
        exact hy9)
       have p1 : ((ri : Int) < (R.length : Int)) = True := eq_true (by omega)
       have LV := Aside0.mk (show L = ((L.toNat : Nat) : Int) by have := HOW.out.2.1; omega)
       clear hrt hle n0
       go_wp2
       clear n1 n2
       refine start_ (n := 20) (S := fun w' => w'.cell? ⟨gb, 1, none⟩ = some (.slice (some ⟨gr, 0, none⟩) R.length c6) ∧ w'.cell? ⟨gr, ri, none⟩ = some (.int .i64 k) ∧ w'.cell? ⟨w.heap.size, 2, none⟩ = some (.int .i64 L)) (ds := [19]) #[false, false, false, false, false, false, false, false, false, false, false, false, false, false, false, false, false, false, false, false] (by kernel_rfl) rfl rfl ⟨(blk_cell G7.out 1).trans rfl, RC.out w7 R7.out, (blk_cell X7.out 2).trans rfl⟩ (fun hHeld => ?_)
       replace B7 := Aside0.mk (below_drew1 B7.out)
       replace X7 := Aside0.mk (blk_drew X7.out)
       replace Z7 := Aside0.mk (blk_drew Z7.out)
       replace G7 := Aside0.mk (blk_drew G7.out)
       replace S7 := Aside0.mk (Kd.S_drew S7.out)
       replace R7 := Aside0.mk (Kd.R_drew R7.out)
       generalize w7.drew = w8 at B7 X7 Z7 G7 S7 R7 hHeld ⊢
       refine take_ (i := 0) (N := some 37) (v := ?_) (a' := ?_) #[true, false, false, false, false, false, false, false, false, false, false, false, false, false, false, false, false, false, false, false] rfl rfl (by kernel_rfl) (fun _ _ _ h => h) (Or.inl ⟨by rfl, ?_⟩) hHeld ?_ ?_
       rotate_left
       ·rintro w' ⟨s0, s1, s2⟩
        go_simp
        with_reducible rfl
       rotate_left
       ·simp only [apu_]
        rfl
       refine take_ (i := 1) (N := some 38) (v := ?_) (a' := ?_) #[true, true, false, false, false, false, false, false, false, false, false, false, false, false, false, false, false, false, false, false] rfl rfl (by kernel_rfl) (fun _ _ _ h => h) (Or.inl ⟨by rfl, ?_⟩) hHeld ?_ ?_
       rotate_left
       ·rintro w' ⟨s0, s1, s2⟩
        go_simp
        with_reducible rfl
       rotate_left
       ·simp only [apu_]
        rfl
       refine take_ (i := 2) (N := some 39) (v := ?_) (a' := ?_) #[true, true, true, false, false, false, false, false, false, false, false, false, false, false, false, false, false, false, false, false] rfl rfl (by kernel_rfl) (fun _ _ _ h => h) (Or.inl ⟨by rfl, ?_⟩) hHeld ?_ ?_
       rotate_left
       ·rintro w' ⟨s0, s1, s2⟩
        go_simp
        with_reducible rfl
       rotate_left
       ·simp only [apu_]
        rfl
       refine take_ (i := 3) (N := some 40) (v := ?_) (a' := ?_) #[true, true, true, true, false, false, false, false, false, false, false, false, false, false, false, false, false, false, false, false] rfl rfl (by kernel_rfl) (fun _ _ _ h => h) (Or.inl ⟨by rfl, ?_⟩) hHeld ?_ ?_
       rotate_left
       ·rintro w' ⟨s0, s1, s2⟩
        go_simp
        with_reducible rfl
       rotate_left
       ·simp only [apu_]
        rfl
       refine take_ (i := 4) (N := some 41) (v := ?_) (a' := ?_) #[true, true, true, true, true, false, false, false, false, false, false, false, false, false, false, false, false, false, false, false] rfl rfl (by kernel_rfl) (fun _ _ _ h => h) (Or.inl ⟨by rfl, ?_⟩) hHeld ?_ ?_
       rotate_left
       ·rintro w' ⟨s0, s1, s2⟩
        go_simp
        with_reducible rfl
       rotate_left
       ·simp only [apu_]
        rfl
       refine take_ (i := 5) (N := some 42) (v := ?_) (a' := ?_) #[true, true, true, true, true, true, false, false, false, false, false, false, false, false, false, false, false, false, false, false] rfl rfl (by kernel_rfl) (fun _ _ _ h => h) (Or.inl ⟨by rfl, ?_⟩) hHeld ?_ ?_
       rotate_left
       ·rintro w' ⟨s0, s1, s2⟩
        go_simp
        with_reducible rfl
       rotate_left
       ·simp only [apu_]
        rfl
       refine take_ (i := 6) (N := some 43) (v := ?_) (a' := ?_) #[true, true, true, true, true, true, true, false, false, false, false, false, false, false, false, false, false, false, false, false] rfl rfl (by kernel_rfl) (fun _ _ _ h => h) (Or.inl ⟨by rfl, ?_⟩) hHeld ?_ ?_
       rotate_left
       ·rintro w' ⟨s0, s1, s2⟩
        go_simp
        with_reducible rfl
       rotate_left
       ·simp only [apu_]
        rfl
       refine take_ (i := 7) (N := some 44) (v := ?_) (a' := ?_) #[true, true, true, true, true, true, true, true, false, false, false, false, false, false, false, false, false, false, false, false] rfl rfl (by kernel_rfl) (fun _ _ _ h => h) (Or.inl ⟨by rfl, ?_⟩) hHeld ?_ ?_
       rotate_left
       ·rintro w' ⟨s0, s1, s2⟩
        go_simp
        with_reducible rfl
       rotate_left
       ·simp only [apu_]
        rfl
       refine take_ (i := 8) (N := some 45) (v := ?_) (a' := ?_) #[true, true, true, true, true, true, true, true, true, false, false, false, false, false, false, false, false, false, false, false] rfl rfl (by kernel_rfl) (fun _ _ _ h => h) (Or.inl ⟨by rfl, ?_⟩) hHeld ?_ ?_
       rotate_left
       ·rintro w' ⟨s0, s1, s2⟩
        go_simp
        with_reducible rfl
       rotate_left
       ·simp only [apu_]
        rfl
       refine take_ (i := 9) (N := some 46) (v := ?_) (a' := ?_) #[true, true, true, true, true, true, true, true, true, true, false, false, false, false, false, false, false, false, false, false] rfl rfl (by kernel_rfl) (fun _ _ _ h => h) (Or.inl ⟨by rfl, ?_⟩) hHeld ?_ ?_
       rotate_left
       ·rintro w' ⟨s0, s1, s2⟩
        go_simp
        with_reducible rfl
       rotate_left
       ·simp only [apu_]
        rfl
       refine take_ (i := 10) (N := some 47) (v := ?_) (a' := ?_) #[true, true, true, true, true, true, true, true, true, true, true, false, false, false, false, false, false, false, false, false] rfl rfl (by kernel_rfl) (fun _ _ _ h => h) (Or.inl ⟨by rfl, ?_⟩) hHeld ?_ ?_
       rotate_left
       ·rintro w' ⟨s0, s1, s2⟩
        go_simp
        with_reducible rfl
       rotate_left
       ·simp only [apu_]
        rfl
       refine take_ (i := 11) (N := some 48) (v := ?_) (a' := ?_) #[true, true, true, true, true, true, true, true, true, true, true, true, false, false, false, false, false, false, false, false] rfl rfl (by kernel_rfl) (fun _ _ _ h => h) (Or.inl ⟨by rfl, ?_⟩) hHeld ?_ ?_
       rotate_left
       ·rintro w' ⟨s0, s1, s2⟩
        go_simp
        with_reducible rfl
       rotate_left
       ·simp only [apu_]
        rfl
       refine take_ (i := 12) (N := some 49) (v := ?_) (a' := ?_) #[true, true, true, true, true, true, true, true, true, true, true, true, true, false, false, false, false, false, false, false] rfl rfl (by kernel_rfl) (fun _ _ _ h => h) (Or.inl ⟨by rfl, ?_⟩) hHeld ?_ ?_
       rotate_left
       ·rintro w' ⟨s0, s1, s2⟩
        go_simp
        with_reducible rfl
       rotate_left
       ·simp only [apu_]
        rfl
       refine take_ (i := 13) (N := some 50) (v := ?_) (a' := ?_) #[true, true, true, true, true, true, true, true, true, true, true, true, true, true, false, false, false, false, false, false] rfl rfl (by kernel_rfl) (fun _ _ _ h => h) (Or.inl ⟨by rfl, ?_⟩) hHeld ?_ ?_
       rotate_left
       ·rintro w' ⟨s0, s1, s2⟩
        go_simp
        with_reducible rfl
       rotate_left
       ·simp only [apu_]
        rfl
       refine take_ (i := 14) (N := some 51) (v := ?_) (a' := ?_) #[true, true, true, true, true, true, true, true, true, true, true, true, true, true, true, false, false, false, false, false] rfl rfl (by kernel_rfl) (fun _ _ _ h => h) (Or.inl ⟨by rfl, ?_⟩) hHeld ?_ ?_
       rotate_left
       ·rintro w' ⟨s0, s1, s2⟩
        go_simp
        with_reducible rfl
       rotate_left
       ·simp only [apu_]
        rfl
       refine take_ (i := 15) (N := some 52) (v := ?_) (a' := ?_) #[true, true, true, true, true, true, true, true, true, true, true, true, true, true, true, true, false, false, false, false] rfl rfl (by kernel_rfl) (fun _ _ _ h => h) (Or.inl ⟨by rfl, ?_⟩) hHeld ?_ ?_
       rotate_left
       ·rintro w' ⟨s0, s1, s2⟩
        go_simp
        with_reducible rfl
       rotate_left
       ·simp only [apu_]
        rfl
       refine take_ (i := 16) (N := some 53) (v := ?_) (a' := ?_) #[true, true, true, true, true, true, true, true, true, true, true, true, true, true, true, true, true, false, false, false] rfl rfl (by kernel_rfl) (fun _ _ _ h => h) (Or.inl ⟨by rfl, ?_⟩) hHeld ?_ ?_
       rotate_left
       ·rintro w' ⟨s0, s1, s2⟩
        go_simp
        with_reducible rfl
       rotate_left
       ·simp only [apu_]
        rfl
       refine one_ (i := 17) (N := some 54) #[true, true, true, true, true, true, true, true, true, true, true, true, true, true, true, true, true, true, false, false] rfl rfl (by kernel_rfl) (by decide) (fun K hK => ?_)
       refine goes_ Try.func75 (by kernel_rfl) rfl #[.pointer (some ⟨gb, 0, none⟩), .int .i64 k, .int .i64 L, .int .i64 at_, .string leaf] (by rfl) rfl rfl (by (try simp only [List.map_toArray, List.map_cons, List.map_nil]); first | done | rfl | (simp only [List.length_drop, List.length_take]; rfl)) ?_
       have hNR := fun k (hk : some k = (Value.slice (some ⟨gr, 0, none⟩) R.length c6).ownBlock) => (R7.out.1 k hk.symm)
       have hrw : gr < w8.heap.size := Kd.R_lt R7.out gr rfl
       have hgw := blk_lt G7.out
       refine (put_calls (.slice (some ⟨gr, 0, none⟩) R.length c6) L gb at_ (dgI at_) leaf (fun k => (k ≠ gb ∧ some k ≠ (Value.slice (some ⟨gr, 0, none⟩) R.length c6).ownBlock) ∧ w5.heap.size ≤ k) w (fun k h_ => h_.1.1) (by have := LG.out; have := LX.out; omega) L.toNat C k L (C2, zq) w8 LV.out (by have := HOW.out.2.2; omega) (fun j h1 h2 => dgI_some at_ j h1 (by have := HOW.out.2.2; omega)) B7.out ⟨_, _, G7.out, S7.out⟩ (fun k h_ => ⟨⟨by omega, fun e_ => absurd (show k = gr from Option.some.inj e_) (by omega)⟩, by have := LG.out; omega⟩) hq.out).mono ?_
       (first | rintro e w9 rfl hC hb hK | rintro e w9 ⟨rfl, hC, hb, hK⟩)
       refine ⟨_, rfl, ?_⟩
       obtain ⟨A8, c8, hG8, hS8⟩ := hC
       have hgr2 := R7.out.1 gr rfl
       have B9 := Aside0.mk hb
       have X9 := Aside0.mk (blk_kept X7.out hK (fun h_ => by have := LG.out; have := LX.out; rcases h_ with h_ | h_; omega; have := h_.2; omega))
       have Z9 := Aside0.mk (blk_kept Z7.out hK (fun h_ => by have := LG.out; have := LZ.out; rcases h_ with h_ | h_; omega; have := h_.2; omega))
       have G9 := Aside0.mk hG8
       have S9 := Aside0.mk hS8
       have R9 := Aside0.mk (Kd.R_mono (Kd.R_kept (Kd.R_of_own (Kd.own_of_R R7.out) (fun k_ h_ => h_.symm) : IR w8 w.heap.size (fun k_ => some k_ = (Value.slice (some ⟨gr, 0, none⟩) R.length c6).ownBlock) (.slice (some ⟨gr, 0, none⟩) R.length c6) R) hK (fun k_ h_ h2_ => by rcases h2_ with h2_ | h2_; exact (hNR k_ h_).1 h2_; exact h2_.1.2 h_)) (fun k_ h_ => hNR k_ h_) : IR w9 w.heap.size (fun k => k ≠ gb ∧ w5.heap.size ≤ k) (.slice (some ⟨gr, 0, none⟩) R.length c6) R)
       clear hG8 hS8 hb hK hNR hrw hgw hgr2 B7 X7 Z7 G7 S7 R7
       refine hK.out _ _ ⟨(blk_cell G9.out 1).trans rfl, RC.out w9 R9.out, (blk_cell X9.out 2).trans rfl⟩ (fun hHeld => ?_)
       clear hK K
       refine norm_ (a' := ?_) ?_ ?_
       rotate_left
       ·show Act.put _ (some 54) _ = _
        simp only [apu_]
        rfl
       refine take_ (i := 18) (N := some 55) (v := ?_) (a' := ?_) #[true, true, true, true, true, true, true, true, true, true, true, true, true, true, true, true, true, true, true, false] rfl rfl (by kernel_rfl) (fun _ _ _ h => h) (Or.inl ⟨by rfl, ?_⟩) hHeld ?_ ?_
       rotate_left
       ·rintro w' ⟨s0, s1, s2⟩
        go_simp
        with_reducible rfl
       rotate_left
       ·simp only [apu_]
        rfl
       have y9 := RC.out w9 R9.out
       obtain ⟨g_, c_, e_, _, _, cells9, hcl9⟩ := Kd.R_form R9.out (by have := HRT.out; omega)
       obtain rfl : gr = g_ := by injection e_ with e_ _ _; injection e_ with e_; injection e_
       have f9 := blk_frozen hcl9 ri
       clear e_ hcl9
       refine last_ (i := 19) (N := none) #[true, true, true, true, true, true, true, true, true, true, true, true, true, true, true, true, true, true, true, true] rfl rfl (by kernel_rfl) (by decide) (fun K hK => ?_)
       refine skip_ (w1 := w9.setCell ⟨gr, ri, none⟩ (.int .i64 zq)) (by rfl) rfl ?_ ?_
       ·first | (go_simp; done) | (go_simp; rfl)
       refine hK.out _ _ ?_
       clear hK K
       refine done_ (by kernel_rfl) ?_
       clear hHeld
       clear y9 f9
       have hgr2 := R9.out.1 gr rfl
       have RP := Kd.R_putn R9.out ri zq
       have BA := Aside0.mk (show Below w.heap.size w (w9.setCell ⟨gr, ri, none⟩ (.int .i64 zq)) from below_set B9.out (Kd.R_base R9.out gr rfl))
       have XA := Aside0.mk (blk_far X9.out (p := ⟨gr, ri, none⟩) (by have := hgr2.2; have := LX.out; show w.heap.size ≠ gr; omega) (.int .i64 zq))
       have ZA := Aside0.mk (blk_far Z9.out (p := ⟨gr, ri, none⟩) (by have := hgr2.2; have := LZ.out; show gz ≠ gr; omega) (.int .i64 zq))
       have GA := Aside0.mk (blk_far G9.out (p := ⟨gr, ri, none⟩) (Ne.symm hgr2.1) (.int .i64 zq))
       have SA := Aside0.mk (Kd.S_far (p := ⟨gr, ri, none⟩) S9.out (fun k_ h_ e_ => h_.1.2 (by rw [e_]; rfl)) (.int .i64 zq))
       have RA := Aside0.mk (show IR (w9.setCell ⟨gr, ri, none⟩ (.int .i64 zq)) w.heap.size (fun k => k ≠ gb ∧ w5.heap.size ≤ k) (.slice (some ⟨gr, 0, none⟩) R.length c6) (R.set ri zq) from RP)
       have hRl : R.length = (R.set ri zq).length := List.length_set.symm
       clear RP hgr2 B9 X9 Z9 G9 S9 R9 RC
       generalize w9.setCell ⟨gr, ri, none⟩ (.int .i64 zq) = wA at BA XA ZA GA SA RA ⊢
       have HRL := Aside0.mk hRl
       clear hRl
       have g0 : wA.cell? ⟨gb, 0, none⟩ = some (.slice A8 C2.length c8) := (blk_cell GA.out 0).trans rfl
       have g1 : wA.cell? ⟨gb, 1, none⟩ = some (.slice (some ⟨gr, 0, none⟩) R.length c6) := (blk_cell GA.out 1).trans rfl
       have g2 : wA.cell? ⟨gb, 2, none⟩ = some (.int .i64 L) := (blk_cell GA.out 2).trans rfl
       have z0 : wA.cell? ⟨gz, 0, none⟩ = some (.slice none 0 0) := (blk_cell ZA.out 0).trans rfl
       have z1 : wA.cell? ⟨gz, 1, none⟩ = some (.slice none 0 0) := (blk_cell ZA.out 1).trans rfl
       have z2 : wA.cell? ⟨gz, 2, none⟩ = some (.int .i64 0) := (blk_cell ZA.out 2).trans rfl
       have y0 := blk_frozen ZA.out 0
       have y1 := blk_frozen ZA.out 1
       have y2 := blk_frozen ZA.out 2
       have TT := Aside0.mk (impl_GoodCow.calls _ c8 C2 _ c6 (R.set ri zq) L g wA (Kd.S_reads' SA.out).2.2 (Kd.S_reads' SA.out).2.1 (Kd.R_reads' RA.out).2.2 (by have h_ := (Kd.R_reads' RA.out).2.1; simpa using h_) HG.out)
       clear HG
       rw [List.length_set] at TT
       go_wp2_with (go_at_call 22; with_reducible refine TT.out.mono ?_)
       (first | rintro e w20 rfl hb | rintro e w20 ⟨rfl, hb⟩)
       clear g0 g1 g2 z0 z1 z2 y0 y1 y2 TT
       have B20 := Aside0.mk (below_step BA.out hb)
       have Z20 := Aside0.mk (blk_below ZA.out hb)
       have G20 := Aside0.mk (blk_below GA.out hb)
       have S20 := Aside0.mk (Kd.S_below SA.out hb)
       have R20 := Aside0.mk (Kd.R_below RA.out hb)
       clear hb BA XA ZA GA SA RA
       have g0 : w20.cell? ⟨gb, 0, none⟩ = some (.slice A8 C2.length c8) := (blk_cell G20.out 0).trans rfl
       have g1 : w20.cell? ⟨gb, 1, none⟩ = some (.slice (some ⟨gr, 0, none⟩) R.length c6) := (blk_cell G20.out 1).trans rfl
       have g2 : w20.cell? ⟨gb, 2, none⟩ = some (.int .i64 L) := (blk_cell G20.out 2).trans rfl
       have z0 : w20.cell? ⟨gz, 0, none⟩ = some (.slice none 0 0) := (blk_cell Z20.out 0).trans rfl
       have z1 : w20.cell? ⟨gz, 1, none⟩ = some (.slice none 0 0) := (blk_cell Z20.out 1).trans rfl
       have z2 : w20.cell? ⟨gz, 2, none⟩ = some (.int .i64 0) := (blk_cell Z20.out 2).trans rfl
       have y0 := blk_frozen Z20.out 0
       have y1 := blk_frozen Z20.out 1
       have y2 := blk_frozen Z20.out 2
       cases g with
       | false =>
        have h : some (([] : List CL), ([] : List Int), (0 : Int), false) = some (r1, r2, r3, r4) := HH.out
        simp only [Option.some.injEq, Prod.mk.injEq] at h
        obtain ⟨rfl, rfl, rfl, rfl⟩ := h
        go_wp2
        refine bodyPost_ret (results_ct rfl _ _ gz 25 #[.slice none 0 0, .slice none 0 0, .int .i64 0] (0, 0) _ rfl (put3 Z20.out _ _ _) Try.underlying25 rfl (by kernel_rfl)) rfl ?_
        exact ⟨_, _, rfl, Kd.S_nil _ _ _ _ _, Kd.R_nil _ _ _ _ _, below_set (below_set (below_set B20.out ZG.out) ZG.out) ZG.out⟩
       | true =>
        have h : some (C2, (R.set ri zq), L, true) = some (r1, r2, r3, r4) := HH.out
        simp only [Option.some.injEq, Prod.mk.injEq] at h
        obtain ⟨rfl, rfl, rfl, rfl⟩ := h
        go_wp2
        refine bodyPost_ret (results_ct rfl _ _ gz 25 #[.slice A8 C2.length c8, .slice (some ⟨gr, 0, none⟩) R.length c6, .int .i64 L] (0, 0) _ rfl (put3 Z20.out _ _ _) Try.underlying25 rfl (by kernel_rfl)) rfl ?_
        obtain ⟨r1_, r2_, r3_⟩ := ret_cow (x := .slice A8 C2.length c8) (y := .slice (some ⟨gr, 0, none⟩) R.length c6) (z := .int .i64 L) Z20.out ZG.out S20.out (fun k_ h_ => h_.1.2) R20.out B20.out
        exact ⟨_, _, rfl, r1_, r2_, r3_⟩
      ·cases h
    ·cases h
theorem sz2 (m : Nat) : spec_l14Size.f (m + 10) 2 = some 4 := by
 unfold spec_l14Size.f
 rw [spec_l14Size.l0.eq_2, if_pos (by omega), show wrap64 (2 - 1) = 1 by decide +kernel, show wrap64 (1 * 4) = 4 by decide +kernel, spec_l14Size.l0.eq_2, if_neg (by omega)]
theorem sz3 (m : Nat) : spec_l14Size.f (m + 10) 3 = some 16 := by
 unfold spec_l14Size.f
 rw [spec_l14Size.l0.eq_2, if_pos (by omega), show wrap64 (3 - 1) = 2 by decide +kernel, show wrap64 (1 * 4) = 4 by decide +kernel, spec_l14Size.l0.eq_2, if_pos (by omega), show wrap64 (2 - 1) = 1 by decide +kernel, show wrap64 (4 * 4) = 16 by decide +kernel, spec_l14Size.l0.eq_2, if_neg (by omega)]
theorem digs2 (m : Nat) (dg : Nat → Int) (a : Int) (h0 : 0 ≤ a) (h1 : a < 4) (h : dg 2 = a) : DigS (m + 10) dg 2 a :=
 ⟨4, 1, sz2 m, by decide +kernel, by omega, by rw [tdiv_pos (by omega), Int.ediv_one, w64 (by omega) (by omega)]; exact h.symm, trivial⟩
theorem digs (k : Nat) (L a : Int) (hk : 10 ≤ k) (h1 : 1 ≤ L) (h3 : L ≤ 3) (h0 : 0 ≤ a) (hp : a < plc L) : DigS k (dgI a) L.toNat a := by
 obtain ⟨m, rfl⟩ : ∃ m, k = m + 10 := ⟨k - 10, by omega⟩
 obtain rfl | rfl | rfl : L = 1 ∨ L = 2 ∨ L = 3 := by omega
 ·exact trivial
 ·have hp' : a < 4 := by simpa [plc] using hp
  refine digs2 m _ a h0 hp' ?_
  unfold dgI
  rw [show ((2 : Nat) : Int) = 2 by rfl, digit_2 a h0 (by omega)]
  show a % 4 = a
  omega
 ·have hp' : a < 16 := by simpa [plc] using hp
  have e2 : dgI a 2 = a % 4 := by
   unfold dgI
   rw [show ((2 : Nat) : Int) = 2 by rfl, digit_2 a h0 (by omega)]
   rfl
  have e3 : dgI a 3 = a / 4 := by
   unfold dgI
   rw [show ((3 : Nat) : Int) = 3 by rfl, digit_3 a h0 (by omega)]
   rfl
  refine ⟨16, 4, sz3 m, by decide +kernel, by omega, ?_, ?_⟩
  ·rw [tdiv_pos (by omega), w64 (by omega) (by omega)]
   exact e3.symm
  ·have et : Int.tmod a 4 = a % 4 := Int.tmod_eq_emod_of_nonneg h0
   rw [et]
   exact digs2 m _ (a % 4) (by omega) (by omega) e2
def putSd (K : Nat) (C : List CL) (R : List Int) (L root at_ : Int) (leaf : ByteArray) (o : List CL × List Int × Int) : Option (List CL × List Int × Int × Bool) :=
 if root < (o.2.1.length : Int) then ((putM (dgI at_) leaf L.toNat o.1 (rd R root)).bind fun q => (spec_GoodCow.f K q.1 (o.2.1.set root.toNat q.2) o.2.2).bind fun g => if g = true then some (q.1, o.2.1.set root.toNat q.2, o.2.2, true) else some ([], [], 0, false)) else none
def putSp (K : Nat) (C : List CL) (R : List Int) (L root at_ : Int) (leaf : ByteArray) : Option (List CL × List Int × Int × Bool) :=
 if 0 ≤ root ∧ root < (R.length : Int) then ((spec_l14Leaf.f K C R L (rd R root) at_).bind fun lf => if lf = leaf then ((spec_l14Own.f K C R L).bind fun o => some (o.1, o.2.1, o.2.2, true)) else (if 10 ≤ K ∧ 1 ≤ L ∧ L ≤ 3 ∧ 0 ≤ at_ ∧ at_ < plc L then ((spec_l14Own.f K C R L).bind fun o => putSd K C R L root at_ leaf o) else none)) else none
def spec_PutLeaf.f (K : Nat) (C : List CL) (R : List Int) (L root at_ : Int) (leaf : ByteArray) : Option (List CL × List Int × Int × Bool) :=
 (spec_GoodCow.f K C R L).bind fun b => if b = true then ((spec_l1In.f root 0 (wrap64 ((R.length : Int) - 1))).bind fun t => if t = true then ((spec_l14Places.f K C R L).bind fun p => (spec_l1In.f at_ 0 (wrap64 (p - 1))).bind fun t2 => if t2 = true then (if (leaf.size : Int) > 8 then some ([], [], 0, false) else putSp K C R L root at_ leaf) else some ([], [], 0, false)) else some ([], [], 0, false)) else some ([], [], 0, false)
set_option maxHeartbeats 16000000 in
set_option maxRecDepth 100000 in
theorem spec_PutLeaf.calls (k_ : Nat) (A0 : Option Addr) (c0 : Nat) (C : List CL) (A1 : Option Addr) (c1 : Nat) (R : List Int) (L root at_ : Int) (leaf : ByteArray) (r1 : List CL) (r2 : List Int) (r3 : Int) (r4 : Bool) (w : World) (hr0 : Kd.C k68 w A0 C.length C) (hc0 : C.length ≤ c0) (hr1 : Kd.C (Kd.int .i64) w A1 R.length R) (hc1 : R.length ≤ c1) (h : spec_PutLeaf.f k_ C R L root at_ leaf = some (r1, r2, r3, r4)) :
  Calls Try.prog 38 #[.agg #[.slice A0 C.length c0, .slice A1 R.length c1, .int .i64 L], .int .i64 root, .int .i64 at_, .string leaf] w fun e w' => ∃ v0_ v1_ : Value, e = .returned (.tuple #[.agg #[v0_, v1_, .int .i64 r3], .bool r4]) ∧ Kd.S k68 68 w' w.heap.size (fun k_ => some k_ ≠ (v1_ : Value).ownBlock) v0_ r1 ∧ Kd.R (Kd.int .i64) 3 w' w.heap.size (fun _ => True) v1_ r2 ∧ Below w.heap.size w w' := by
 have hu25 := Try.underlying25
 have hu68 := Try.underlying68
 have hu22 := Try.underlying22
 have HR0 := Aside0.mk hr0
 have HR1 := Aside0.mk hr1
 have HC0 := Aside0.mk hc0
 have HC1 := Aside0.mk hc1
 have hl : R.length ≤ 9223372036854775807 := hr1.2.1
 have hlc : C.length ≤ 9223372036854775807 := hr0.2.1
 clear hr0 hr1 hc0 hc1
 obtain ⟨b, hb, h⟩ := Option.bind_eq_some_iff.1 h
 have HBB := Aside0.mk hb
 clear hb
 obtain ⟨W1, hW1⟩ : ∃ W, w.alloc (.cells #[.slice A0 C.length c0, .slice A1 R.length c1, .int .i64 L] 25) = W := ⟨_, rfl⟩
 obtain ⟨W2, hW2⟩ : ∃ W, W1.alloc (.cells #[.slice none 0 0, .slice none 0 0, .int .i64 0] 25) = W := ⟨_, rfl⟩
 have hb1 : Below w.heap.size w W1 := by rw [← hW1]; exact below_alloc (Below.refl _ _) _
 have hb2 : Below W1.heap.size W1 W2 := by rw [← hW2]; exact below_alloc (Below.refl _ _) _
 have X1 : W1.heap[w.heap.size]? = some (.cells #[.slice A0 C.length c0, .slice A1 R.length c1, .int .i64 L] 25 (0, 0)) := by rw [← hW1]; exact heap_alloc_new w _
 have Z1 : W2.heap[W1.heap.size]? = some (.cells #[.slice none 0 0, .slice none 0 0, .int .i64 0] 25 (0, 0)) := by rw [← hW2]; exact heap_alloc_new W1 _
 have B2 := Aside0.mk (below_step hb1 hb2)
 have X2 := Aside0.mk (blk_below X1 hb2)
 have Z2 := Aside0.mk Z1
 have ZG := Aside0.mk (show w.heap.size ≤ W1.heap.size from hb1.size)
 have ZN := Aside0.mk (show w.heap.size ≠ W1.heap.size by have := blk_lt X1; omega)
 clear hb1 hb2 X1 Z1
 have d0 : W2.cell? ⟨w.heap.size, 0, none⟩ = some (.slice A0 C.length c0) := (blk_cell X2.out 0).trans rfl
 have d1 : W2.cell? ⟨w.heap.size, 1, none⟩ = some (.slice A1 R.length c1) := (blk_cell X2.out 1).trans rfl
 have d2 : W2.cell? ⟨w.heap.size, 2, none⟩ = some (.int .i64 L) := (blk_cell X2.out 2).trans rfl
 have TT := Aside0.mk (spec_GoodCow.calls k_ A0 c0 C A1 c1 R L b W2 (Kd.C_below HR0.out B2.out) HC0.out (Kd.C_below HR1.out B2.out) HC1.out HBB.out)
 have HH := Aside0.mk h
 clear h
 go_enter Try.func38, Try.ntmps38
 go_wp2_with (go_at_call 20; refine TT.out.mono ?_)
 (first | rintro e w3 rfl hb | rintro e w3 ⟨rfl, hb⟩)
 clear TT hW1 d0 d1 d2
 generalize hgz : W1.heap.size = gz at *
 clear hgz hW2
 have B3 := Aside0.mk (below_step B2.out hb)
 have X3 := Aside0.mk (blk_below X2.out hb)
 have Z3 := Aside0.mk (blk_below Z2.out hb)
 clear B2 X2 Z2 hb
 have d0 : w3.cell? ⟨w.heap.size, 0, none⟩ = some (.slice A0 C.length c0) := (blk_cell X3.out 0).trans rfl
 have d1 : w3.cell? ⟨w.heap.size, 1, none⟩ = some (.slice A1 R.length c1) := (blk_cell X3.out 1).trans rfl
 have d2 : w3.cell? ⟨w.heap.size, 2, none⟩ = some (.int .i64 L) := (blk_cell X3.out 2).trans rfl
 have z0 : w3.cell? ⟨gz, 0, none⟩ = some (.slice none 0 0) := (blk_cell Z3.out 0).trans rfl
 have z1 : w3.cell? ⟨gz, 1, none⟩ = some (.slice none 0 0) := (blk_cell Z3.out 1).trans rfl
 have z2 : w3.cell? ⟨gz, 2, none⟩ = some (.int .i64 0) := (blk_cell Z3.out 2).trans rfl
 have y0 := blk_frozen Z3.out 0
 have y1 := blk_frozen Z3.out 1
 have y2 := blk_frozen Z3.out 2
 cases b with
 | false =>
  have h : some (([] : List CL), ([] : List Int), (0 : Int), false) = some (r1, r2, r3, r4) := HH.out
  simp only [Option.some.injEq, Prod.mk.injEq] at h
  obtain ⟨rfl, rfl, rfl, rfl⟩ := h
  go_wp2
  refine bodyPost_ret (results_ct rfl _ _ gz 25 #[.slice none 0 0, .slice none 0 0, .int .i64 0] (0, 0) _ rfl (put3 Z3.out _ _ _) Try.underlying25 rfl (by kernel_rfl)) rfl ?_
  exact ⟨_, _, rfl, Kd.S_nil _ _ _ _ _, Kd.R_nil _ _ _ _ _, below_set (below_set (below_set B3.out ZG.out) ZG.out) ZG.out⟩
 | true =>
  have h : ((spec_l1In.f root 0 (wrap64 ((R.length : Int) - 1))).bind fun t => if t = true then ((spec_l14Places.f k_ C R L).bind fun p => (spec_l1In.f at_ 0 (wrap64 (p - 1))).bind fun t2 => if t2 = true then (if (leaf.size : Int) > 8 then some (([] : List CL), ([] : List Int), (0 : Int), false) else putSp k_ C R L root at_ leaf) else some (([] : List CL), ([] : List Int), (0 : Int), false)) else some (([] : List CL), ([] : List Int), (0 : Int), false)) = some (r1, r2, r3, r4) := HH.out
  obtain ⟨t, ht, h⟩ := Option.bind_eq_some_iff.1 h
  rw [w64 (x := (R.length : Int) - 1) (by omega) (by omega)] at ht
  have TT := Aside0.mk (spec_l1In.calls root 0 ((R.length : Int) - 1) t w3 ht)
  replace HH := Aside0.mk h
  clear h ht
  go_wp2_with (go_at_call 44; refine TT.out.mono ?_)
  (first | rintro e w4 rfl hd | rintro e w4 ⟨rfl, hd⟩)
  have hb := hd.below
  have B4 := Aside0.mk (below_step B3.out hb)
  have X4 := Aside0.mk (blk_below X3.out hb)
  have Z4 := Aside0.mk (blk_below Z3.out hb)
  clear TT hd hb d0 d1 d2 z0 z1 z2 y0 y1 y2 B3 X3 Z3
  have d0 : w4.cell? ⟨w.heap.size, 0, none⟩ = some (.slice A0 C.length c0) := (blk_cell X4.out 0).trans rfl
  have d1 : w4.cell? ⟨w.heap.size, 1, none⟩ = some (.slice A1 R.length c1) := (blk_cell X4.out 1).trans rfl
  have d2 : w4.cell? ⟨w.heap.size, 2, none⟩ = some (.int .i64 L) := (blk_cell X4.out 2).trans rfl
  have z0 : w4.cell? ⟨gz, 0, none⟩ = some (.slice none 0 0) := (blk_cell Z4.out 0).trans rfl
  have z1 : w4.cell? ⟨gz, 1, none⟩ = some (.slice none 0 0) := (blk_cell Z4.out 1).trans rfl
  have z2 : w4.cell? ⟨gz, 2, none⟩ = some (.int .i64 0) := (blk_cell Z4.out 2).trans rfl
  have y0 := blk_frozen Z4.out 0
  have y1 := blk_frozen Z4.out 1
  have y2 := blk_frozen Z4.out 2
  cases t with
  | false =>
   have h : some (([] : List CL), ([] : List Int), (0 : Int), false) = some (r1, r2, r3, r4) := HH.out
   simp only [Option.some.injEq, Prod.mk.injEq] at h
   obtain ⟨rfl, rfl, rfl, rfl⟩ := h
   go_wp2
   refine bodyPost_ret (results_ct rfl _ _ gz 25 #[.slice none 0 0, .slice none 0 0, .int .i64 0] (0, 0) _ rfl (put3 Z4.out _ _ _) Try.underlying25 rfl (by kernel_rfl)) rfl ?_
   exact ⟨_, _, rfl, Kd.S_nil _ _ _ _ _, Kd.R_nil _ _ _ _ _, below_set (below_set (below_set B4.out ZG.out) ZG.out) ZG.out⟩
  | true =>
   have h : ((spec_l14Places.f k_ C R L).bind fun p => (spec_l1In.f at_ 0 (wrap64 (p - 1))).bind fun t2 => if t2 = true then (if (leaf.size : Int) > 8 then some (([] : List CL), ([] : List Int), (0 : Int), false) else putSp k_ C R L root at_ leaf) else some (([] : List CL), ([] : List Int), (0 : Int), false)) = some (r1, r2, r3, r4) := HH.out
   obtain ⟨p, hp, h⟩ := Option.bind_eq_some_iff.1 h
   obtain ⟨t2, ht, h⟩ := Option.bind_eq_some_iff.1 h
   have TT := Aside0.mk (spec_l14Places.calls k_ A0 c0 C A1 c1 R L p w4 (Kd.C_below HR0.out B4.out) HC0.out (Kd.C_below HR1.out B4.out) HC1.out hp)
   replace HH := Aside0.mk h
   have HT := Aside0.mk ht
   clear h hp ht
   go_wp2_with (go_at_call 61; refine TT.out.mono ?_)
   (first | rintro e w5 rfl hb | rintro e w5 ⟨rfl, hb⟩)
   have B5 := Aside0.mk (below_step B4.out hb)
   have X5 := Aside0.mk (blk_below X4.out hb)
   have Z5 := Aside0.mk (blk_below Z4.out hb)
   clear TT hb d0 d1 d2 z0 z1 z2 y0 y1 y2 B4 X4 Z4
   have TT := Aside0.mk (spec_l1In.calls at_ 0 (wrap64 (p - 1)) t2 w5 HT.out)
   go_wp2_with (go_at_call 44; refine TT.out.mono ?_)
   (first | rintro e w6 rfl hd | rintro e w6 ⟨rfl, hd⟩)
   have hb := hd.below
   have B6 := Aside0.mk (below_step B5.out hb)
   have X6 := Aside0.mk (blk_below X5.out hb)
   have Z6 := Aside0.mk (blk_below Z5.out hb)
   clear TT hb hd HT B5 X5 Z5
   have d0 : w6.cell? ⟨w.heap.size, 0, none⟩ = some (.slice A0 C.length c0) := (blk_cell X6.out 0).trans rfl
   have d1 : w6.cell? ⟨w.heap.size, 1, none⟩ = some (.slice A1 R.length c1) := (blk_cell X6.out 1).trans rfl
   have d2 : w6.cell? ⟨w.heap.size, 2, none⟩ = some (.int .i64 L) := (blk_cell X6.out 2).trans rfl
   have z0 : w6.cell? ⟨gz, 0, none⟩ = some (.slice none 0 0) := (blk_cell Z6.out 0).trans rfl
   have z1 : w6.cell? ⟨gz, 1, none⟩ = some (.slice none 0 0) := (blk_cell Z6.out 1).trans rfl
   have z2 : w6.cell? ⟨gz, 2, none⟩ = some (.int .i64 0) := (blk_cell Z6.out 2).trans rfl
   have y0 := blk_frozen Z6.out 0
   have y1 := blk_frozen Z6.out 1
   have y2 := blk_frozen Z6.out 2
   cases t2 with
   | false =>
    have h : some (([] : List CL), ([] : List Int), (0 : Int), false) = some (r1, r2, r3, r4) := HH.out
    simp only [Option.some.injEq, Prod.mk.injEq] at h
    obtain ⟨rfl, rfl, rfl, rfl⟩ := h
    go_wp2
    refine bodyPost_ret (results_ct rfl _ _ gz 25 #[.slice none 0 0, .slice none 0 0, .int .i64 0] (0, 0) _ rfl (put3 Z6.out _ _ _) Try.underlying25 rfl (by kernel_rfl)) rfl ?_
    exact ⟨_, _, rfl, Kd.S_nil _ _ _ _ _, Kd.R_nil _ _ _ _ _, below_set (below_set (below_set B6.out ZG.out) ZG.out) ZG.out⟩
   | true =>
    have h : (if (leaf.size : Int) > 8 then some (([] : List CL), ([] : List Int), (0 : Int), false) else putSp k_ C R L root at_ leaf) = some (r1, r2, r3, r4) := HH.out
    by_cases h8 : (leaf.size : Int) > 8
    ·rw [if_pos h8] at h
     have q1 : ((leaf.size : Int) > 8) = True := eq_true h8
     have q2 : (8 < (leaf.size : Int)) = True := eq_true h8
     have q3 : (8 < leaf.size) = True := eq_true (by omega)
     clear h8 HH
     simp only [Option.some.injEq, Prod.mk.injEq] at h
     obtain ⟨rfl, rfl, rfl, rfl⟩ := h
     go_wp2
     refine bodyPost_ret (results_ct rfl _ _ gz 25 #[.slice none 0 0, .slice none 0 0, .int .i64 0] (0, 0) _ rfl (put3 Z6.out _ _ _) Try.underlying25 rfl (by kernel_rfl)) rfl ?_
     exact ⟨_, _, rfl, Kd.S_nil _ _ _ _ _, Kd.R_nil _ _ _ _ _, below_set (below_set (below_set B6.out ZG.out) ZG.out) ZG.out⟩
    ·rw [if_neg h8] at h
     have q1 : ((leaf.size : Int) > 8) = False := eq_false h8
     have q2 : (8 < (leaf.size : Int)) = False := eq_false h8
     have q3 : (8 < leaf.size) = False := eq_false (by omega)
     clear h8 HH
     unfold putSp at h
     split at h
     ·rename_i hrt
      obtain ⟨lf, hlf, h⟩ := Option.bind_eq_some_iff.1 h
      have HLF := Aside0.mk hlf
      have HH := Aside0.mk h
      obtain ⟨ri, hri⟩ : ∃ ri : Nat, root = (ri : Int) := ⟨root.toNat, by omega⟩
      subst hri
      have HRT := Aside0.mk (show ri < R.length by omega)
      obtain ⟨k, hk⟩ : ∃ k, rd R (ri : Int) = k := ⟨_, rfl⟩
      rw [hk] at HLF
      obtain ⟨ad, e5, hx⟩ := Kd.at_int (Kd.C_below HR1.out B6.out) (ri : Int) (by omega) (by omega)
      subst e5
      have HIX := Aside0.mk (show ∀ W, Below w.heap.size w W → W.cell? (ad.add ri) = some (.int .i64 k) from fun W hW => by
       obtain ⟨ad', e', hx'⟩ := Kd.at_int (Kd.C_below HR1.out hW) (ri : Int) (by omega) (by have := HRT.out; omega)
       cases e'
       rw [hk, Int.toNat_natCast] at hx'
       exact hx')
      have HKK := Aside0.mk hk
      have p1 : (0 ≤ (ri : Int)) = True := eq_true (by omega)
      have p2 : ((ri : Int) < (R.length : Int)) = True := eq_true (by omega)
      clear hlf h hrt hk hx
      go_wp2
      clear d0 d1 d2 z0 z1 z2 y0 y1 y2
      refine start_ (n := 10) (S := fun w' => w'.cell? ⟨w.heap.size, 0, none⟩ = some (.slice A0 C.length c0) ∧ w'.cell? ⟨w.heap.size, 1, none⟩ = some (.slice (some ad) R.length c1) ∧ w'.cell? ⟨w.heap.size, 2, none⟩ = some (.int .i64 L) ∧ w'.cell? (ad.add ri) = some (.int .i64 k)) (ds := []) #[false, false, false, false, false, false, false, false, false, false] (by kernel_rfl) rfl rfl ⟨(blk_cell X6.out 0).trans rfl, (blk_cell X6.out 1).trans rfl, (blk_cell X6.out 2).trans rfl, HIX.out w6 B6.out⟩ (fun hHeld => ?_)
      replace B6 := Aside0.mk (below_drew1 B6.out)
      replace X6 := Aside0.mk (blk_drew X6.out)
      replace Z6 := Aside0.mk (blk_drew Z6.out)
      generalize w6.drew = w7 at B6 X6 Z6 hHeld ⊢
      refine take_ (i := 0) (N := some 38) (v := ?_) (a' := ?_) #[true, false, false, false, false, false, false, false, false, false] rfl rfl (by kernel_rfl) (fun _ _ _ h => h) (Or.inl ⟨by rfl, ?_⟩) hHeld ?_ ?_
      rotate_left
      ·rintro w' ⟨s0, s1, s2, s3⟩
       go_simp
       with_reducible rfl
      rotate_left
      ·simp only [apu_]
       rfl
      refine take_ (i := 1) (N := some 39) (v := ?_) (a' := ?_) #[true, true, false, false, false, false, false, false, false, false] rfl rfl (by kernel_rfl) (fun _ _ _ h => h) (Or.inl ⟨by rfl, ?_⟩) hHeld ?_ ?_
      rotate_left
      ·rintro w' ⟨s0, s1, s2, s3⟩
       go_simp
       with_reducible rfl
      rotate_left
      ·simp only [apu_]
       rfl
      refine take_ (i := 2) (N := some 40) (v := ?_) (a' := ?_) #[true, true, true, false, false, false, false, false, false, false] rfl rfl (by kernel_rfl) (fun _ _ _ h => h) (Or.inl ⟨by rfl, ?_⟩) hHeld ?_ ?_
      rotate_left
      ·rintro w' ⟨s0, s1, s2, s3⟩
       go_simp
       with_reducible rfl
      rotate_left
      ·simp only [apu_]
       rfl
      refine take_ (i := 3) (N := some 41) (v := ?_) (a' := ?_) #[true, true, true, true, false, false, false, false, false, false] rfl rfl (by kernel_rfl) (fun _ _ _ h => h) (Or.inl ⟨by rfl, ?_⟩) hHeld ?_ ?_
      rotate_left
      ·rintro w' ⟨s0, s1, s2, s3⟩
       go_simp
       with_reducible rfl
      rotate_left
      ·simp only [apu_]
       rfl
      refine take_ (i := 4) (N := some 42) (v := ?_) (a' := ?_) #[true, true, true, true, true, false, false, false, false, false] rfl rfl (by kernel_rfl) (fun _ _ _ h => h) (Or.inl ⟨by rfl, ?_⟩) hHeld ?_ ?_
      rotate_left
      ·rintro w' ⟨s0, s1, s2, s3⟩
       go_simp
       with_reducible rfl
      rotate_left
      ·simp only [apu_]
       rfl
      refine take_ (i := 5) (N := some 43) (v := ?_) (a' := ?_) #[true, true, true, true, true, true, false, false, false, false] rfl rfl (by kernel_rfl) (fun _ _ _ h => h) (Or.inl ⟨by rfl, ?_⟩) hHeld ?_ ?_
      rotate_left
      ·rintro w' ⟨s0, s1, s2, s3⟩
       go_simp
       with_reducible rfl
      rotate_left
      ·simp only [apu_]
       rfl
      refine take_ (i := 6) (N := some 44) (v := ?_) (a' := ?_) #[true, true, true, true, true, true, true, false, false, false] rfl rfl (by kernel_rfl) (fun _ _ _ h => h) (Or.inl ⟨by rfl, ?_⟩) hHeld ?_ ?_
      rotate_left
      ·rintro w' ⟨s0, s1, s2, s3⟩
       go_simp
       with_reducible rfl
      rotate_left
      ·simp only [apu_]
       rfl
      refine take_ (i := 8) (N := some 46) (v := ?_) (a' := ?_) #[true, true, true, true, true, true, true, false, true, false] rfl rfl (by kernel_rfl) (fun _ _ _ h => h) (Or.inl ⟨by rfl, ?_⟩) hHeld ?_ ?_
      rotate_left
      ·rintro w' ⟨s0, s1, s2, s3⟩
       go_simp
       with_reducible rfl
      rotate_left
      ·simp only [apu_]
       rfl
      refine one_ (i := 7) (N := some 45) #[true, true, true, true, true, true, true, true, true, false] rfl rfl (by kernel_rfl) (by decide) (fun K hK => ?_)
      refine goes_ Try.func62 (by kernel_rfl) rfl #[.agg #[.slice A0 C.length c0, .slice (some ad) R.length c1, .int .i64 L], .int .i64 k, .int .i64 at_] (by rfl) rfl rfl (by (try simp only [List.map_toArray, List.map_cons, List.map_nil]); first | done | rfl | (simp only [List.length_drop, List.length_take]; rfl)) ?_
      refine (spec_l14Leaf.calls k_ A0 c0 C (some ad) c1 R L k at_ lf w7 (Kd.C_below HR0.out B6.out) HC0.out (Kd.C_below HR1.out B6.out) HC1.out HLF.out).mono ?_
      (first | rintro e w8 rfl hb | rintro e w8 ⟨rfl, hb⟩)
      refine ⟨_, rfl, ?_⟩
      have B8 := Aside0.mk (below_step B6.out hb)
      have X8 := Aside0.mk (blk_below X6.out hb)
      have Z8 := Aside0.mk (blk_below Z6.out hb)
      clear hb B6 X6 Z6
      refine hK.out _ _ ⟨(blk_cell X8.out 0).trans rfl, (blk_cell X8.out 1).trans rfl, (blk_cell X8.out 2).trans rfl, HIX.out w8 B8.out⟩ (fun hHeld => ?_)
      clear hK K
      refine norm_ (a' := ?_) ?_ ?_
      rotate_left
      ·show Act.put _ (some 45) _ = _
       simp only [apu_]
       rfl
      have h := HH.out
      by_cases hle : lf = leaf
      ·rw [if_pos hle] at h
       obtain ⟨⟨C1, R1, L1⟩, ho, h⟩ := Option.bind_eq_some_iff.1 h
       simp only [Option.some.injEq, Prod.mk.injEq] at h
       obtain ⟨rfl, rfl, rfl, rfl⟩ := h
       subst hle
       have n1 : (lf.toList == lf.toList) = true := by simp
       have TT := Aside0.mk (spec_l14Own.calls k_ A0 c0 C (some ad) c1 R L C1 R1 L1 w8 (Kd.C_below HR0.out B8.out) HC0.out (Kd.C_below HR1.out B8.out) HC1.out ho)
       clear ho HH
       refine pure_ (i := 9) (N := some 47) (v := ?_) (a' := ?_) #[true, true, true, true, true, true, true, true, true, true] rfl rfl (by kernel_rfl) (fun _ _ _ h => h) (Or.inl ⟨by rfl, ?_⟩) ?_ ?_
       rotate_left
       ·intro w'
        go_simp
        with_reducible rfl
       rotate_left
       ·simp only [Act.put, List.setIfInBounds_toArray, List.set_cons_zero, List.set_cons_succ, i64_w, i32_w, n1]
        rfl
       refine done_ (by kernel_rfl) ?_
       clear hHeld
       have d0 : w8.cell? ⟨w.heap.size, 0, none⟩ = some (.slice A0 C.length c0) := (blk_cell X8.out 0).trans rfl
       have d1 : w8.cell? ⟨w.heap.size, 1, none⟩ = some (.slice (some ad) R.length c1) := (blk_cell X8.out 1).trans rfl
       have d2 : w8.cell? ⟨w.heap.size, 2, none⟩ = some (.int .i64 L) := (blk_cell X8.out 2).trans rfl
       have z0 : w8.cell? ⟨gz, 0, none⟩ = some (.slice none 0 0) := (blk_cell Z8.out 0).trans rfl
       have z1 : w8.cell? ⟨gz, 1, none⟩ = some (.slice none 0 0) := (blk_cell Z8.out 1).trans rfl
       have z2 : w8.cell? ⟨gz, 2, none⟩ = some (.int .i64 0) := (blk_cell Z8.out 2).trans rfl
       have y0 := blk_frozen Z8.out 0
       have y1 := blk_frozen Z8.out 1
       have y2 := blk_frozen Z8.out 2
       go_wp2_with (go_at_call 69; refine TT.out.mono ?_; (first | rintro e w9 v0 v1 rfl hs hr hb | rintro e w9 ⟨v0, v1, rfl, hs, hr, hb⟩); (obtain ⟨A5, c5, rfl⟩ := Kd.S_slice hs); (obtain ⟨A6, c6, rfl⟩ := Kd.R_slice hr); (have B9 := Aside0.mk (below_step B8.out hb)); (have Z9 := Aside0.mk (blk_below Z8.out hb)); (have S9 := Aside0.mk (Kd.S_lower hs B8.out.size)); (have R9 := Aside0.mk (Kd.R_lower hr B8.out.size)); clear hs hr hb z0 z1 z2 y0 y1 y2; (have z0 : w9.cell? ⟨gz, 0, none⟩ = some (.slice none 0 0) := (blk_cell Z9.out 0).trans rfl); (have z1 : w9.cell? ⟨gz, 1, none⟩ = some (.slice none 0 0) := (blk_cell Z9.out 1).trans rfl); (have z2 : w9.cell? ⟨gz, 2, none⟩ = some (.int .i64 0) := (blk_cell Z9.out 2).trans rfl); (have y0 := blk_frozen Z9.out 0); (have y1 := blk_frozen Z9.out 1); (have y2 := blk_frozen Z9.out 2))
       refine bodyPost_ret (results_ct rfl _ _ gz 25 #[.slice A5 C1.length c5, .slice A6 R1.length c6, .int .i64 L1] (0, 0) _ rfl (put3 Z9.out _ _ _) Try.underlying25 rfl (by kernel_rfl)) rfl ?_
       obtain ⟨r1_, r2_, r3_⟩ := ret_cow (x := .slice A5 C1.length c5) (y := .slice A6 R1.length c6) (z := .int .i64 L1) Z9.out ZG.out S9.out (fun k_ h_ => h_) R9.out B9.out
       exact ⟨_, _, rfl, r1_, r2_, r3_⟩
      ·rw [if_neg hle] at h
       have n0 : lf.toList ≠ leaf.toList := fun e_ => hle (ba_eq.1 e_)
       have n1 : (lf.toList == leaf.toList) = false := beq_eq_false_iff_ne.2 n0
       have n2 : (lf.toList = leaf.toList) = False := eq_false n0
       refine pure_ (i := 9) (N := some 47) (v := ?_) (a' := ?_) #[true, true, true, true, true, true, true, true, true, true] rfl rfl (by kernel_rfl) (fun _ _ _ h => h) (Or.inl ⟨by rfl, ?_⟩) ?_ ?_
       rotate_left
       ·intro w'
        go_simp
        with_reducible rfl
       rotate_left
       ·simp only [Act.put, List.setIfInBounds_toArray, List.set_cons_zero, List.set_cons_succ, i64_w, i32_w, n1]
        rfl
       refine done_ (by kernel_rfl) ?_
       clear hHeld
       clear hle n0
       split at h
       ·rename_i hcd
        have DIG := Aside0.mk (digs k_ L at_ hcd.1 hcd.2.1 hcd.2.2.1 hcd.2.2.2.1 hcd.2.2.2.2)
        have LL := Aside0.mk (show L = ((L.toNat : Nat) : Int) ∧ L.toNat ≤ 1000 by omega)
        obtain ⟨⟨C1, R1, L1⟩, ho, h⟩ := Option.bind_eq_some_iff.1 h
        have HO := Aside0.mk ho
        unfold putSd at h
        simp only at h
        split at h
        ·rename_i hr1
         rw [HKK.out] at h
         obtain ⟨⟨C2, zq⟩, hq, h⟩ := Option.bind_eq_some_iff.1 h
         obtain ⟨g, hg, h⟩ := Option.bind_eq_some_iff.1 h
         simp only [Int.toNat_natCast] at hg h
         have HQ := Aside0.mk hq
         have HG := Aside0.mk hg
         replace HH := Aside0.mk h
         have HR1L := Aside0.mk (show ri < R1.length by omega)
         clear hcd ho hr1 hq hg h
         go_wp2
         refine start_ (n := 18) (S := fun w' => w'.cell? ⟨w.heap.size, 0, none⟩ = some (.slice A0 C.length c0) ∧ w'.cell? ⟨w.heap.size, 1, none⟩ = some (.slice (some ad) R.length c1) ∧ w'.cell? ⟨w.heap.size, 2, none⟩ = some (.int .i64 L) ∧ w'.cell? (ad.add ri) = some (.int .i64 k)) (ds := [16]) #[false, false, false, false, false, false, false, false, false, false, false, false, false, false, false, false, false, false] (by kernel_rfl) rfl rfl ⟨(blk_cell X8.out 0).trans rfl, (blk_cell X8.out 1).trans rfl, (blk_cell X8.out 2).trans rfl, HIX.out w8 B8.out⟩ (fun hHeld => ?_)
         replace B8 := Aside0.mk (below_drew1 B8.out)
         replace X8 := Aside0.mk (blk_drew X8.out)
         replace Z8 := Aside0.mk (blk_drew Z8.out)
         generalize w8.drew = wa at B8 X8 Z8 hHeld ⊢
         clear n1 n2
         refine take_ (i := 0) (N := some 51) (v := ?_) (a' := ?_) #[true, false, false, false, false, false, false, false, false, false, false, false, false, false, false, false, false, false] rfl rfl (by kernel_rfl) (fun _ _ _ h => h) (Or.inl ⟨by rfl, ?_⟩) hHeld ?_ ?_
         rotate_left
         ·rintro w' ⟨s0, s1, s2, s3⟩
          go_simp
          with_reducible rfl
         rotate_left
         ·simp only [apu_]
          rfl
         refine take_ (i := 2) (N := some 53) (v := ?_) (a' := ?_) #[true, false, true, false, false, false, false, false, false, false, false, false, false, false, false, false, false, false] rfl rfl (by kernel_rfl) (fun _ _ _ h => h) (Or.inl ⟨by rfl, ?_⟩) hHeld ?_ ?_
         rotate_left
         ·rintro w' ⟨s0, s1, s2, s3⟩
          go_simp
          with_reducible rfl
         rotate_left
         ·simp only [apu_]
          rfl
         refine take_ (i := 3) (N := some 54) (v := ?_) (a' := ?_) #[true, false, true, true, false, false, false, false, false, false, false, false, false, false, false, false, false, false] rfl rfl (by kernel_rfl) (fun _ _ _ h => h) (Or.inl ⟨by rfl, ?_⟩) hHeld ?_ ?_
         rotate_left
         ·rintro w' ⟨s0, s1, s2, s3⟩
          go_simp
          with_reducible rfl
         rotate_left
         ·simp only [apu_]
          rfl
         refine take_ (i := 4) (N := some 55) (v := ?_) (a' := ?_) #[true, false, true, true, true, false, false, false, false, false, false, false, false, false, false, false, false, false] rfl rfl (by kernel_rfl) (fun _ _ _ h => h) (Or.inl ⟨by rfl, ?_⟩) hHeld ?_ ?_
         rotate_left
         ·rintro w' ⟨s0, s1, s2, s3⟩
          go_simp
          with_reducible rfl
         rotate_left
         ·simp only [apu_]
          rfl
         refine take_ (i := 5) (N := some 56) (v := ?_) (a' := ?_) #[true, false, true, true, true, true, false, false, false, false, false, false, false, false, false, false, false, false] rfl rfl (by kernel_rfl) (fun _ _ _ h => h) (Or.inl ⟨by rfl, ?_⟩) hHeld ?_ ?_
         rotate_left
         ·rintro w' ⟨s0, s1, s2, s3⟩
          go_simp
          with_reducible rfl
         rotate_left
         ·simp only [apu_]
          rfl
         refine take_ (i := 6) (N := some 57) (v := ?_) (a' := ?_) #[true, false, true, true, true, true, true, false, false, false, false, false, false, false, false, false, false, false] rfl rfl (by kernel_rfl) (fun _ _ _ h => h) (Or.inl ⟨by rfl, ?_⟩) hHeld ?_ ?_
         rotate_left
         ·rintro w' ⟨s0, s1, s2, s3⟩
          go_simp
          with_reducible rfl
         rotate_left
         ·simp only [apu_]
          rfl
         refine take_ (i := 7) (N := some 58) (v := ?_) (a' := ?_) #[true, false, true, true, true, true, true, true, false, false, false, false, false, false, false, false, false, false] rfl rfl (by kernel_rfl) (fun _ _ _ h => h) (Or.inl ⟨by rfl, ?_⟩) hHeld ?_ ?_
         rotate_left
         ·rintro w' ⟨s0, s1, s2, s3⟩
          go_simp
          with_reducible rfl
         rotate_left
         ·simp only [apu_]
          rfl
         refine take_ (i := 8) (N := some 59) (v := ?_) (a' := ?_) #[true, false, true, true, true, true, true, true, true, false, false, false, false, false, false, false, false, false] rfl rfl (by kernel_rfl) (fun _ _ _ h => h) (Or.inl ⟨by rfl, ?_⟩) hHeld ?_ ?_
         rotate_left
         ·rintro w' ⟨s0, s1, s2, s3⟩
          go_simp
          with_reducible rfl
         rotate_left
         ·simp only [apu_]
          rfl
         refine take_ (i := 9) (N := some 60) (v := ?_) (a' := ?_) #[true, false, true, true, true, true, true, true, true, true, false, false, false, false, false, false, false, false] rfl rfl (by kernel_rfl) (fun _ _ _ h => h) (Or.inl ⟨by rfl, ?_⟩) hHeld ?_ ?_
         rotate_left
         ·rintro w' ⟨s0, s1, s2, s3⟩
          go_simp
          with_reducible rfl
         rotate_left
         ·simp only [apu_]
          rfl
         refine take_ (i := 10) (N := some 61) (v := ?_) (a' := ?_) #[true, false, true, true, true, true, true, true, true, true, true, false, false, false, false, false, false, false] rfl rfl (by kernel_rfl) (fun _ _ _ h => h) (Or.inl ⟨by rfl, ?_⟩) hHeld ?_ ?_
         rotate_left
         ·rintro w' ⟨s0, s1, s2, s3⟩
          go_simp
          with_reducible rfl
         rotate_left
         ·simp only [apu_]
          rfl
         refine join_ (σ := Nat × (Option Addr × Nat) × (Option Addr × Nat) × (Option Addr × Nat)) 2 #[true, true, true, true, true, true, true, true, true, true, true, true, true, true, true, true, false, false] (fun s_ => [(52, .agg #[.slice s_.2.1.1 C1.length s_.2.1.2, .slice s_.2.2.1.1 R1.length s_.2.2.1.2, .int .i64 L1]), (62, .tuple #[.agg #[.slice s_.2.2.2.1 C2.length s_.2.2.2.2, .slice s_.2.2.1.1 R1.length s_.2.2.1.2, .int .i64 L1], .int .i64 zq]), (50, .tuple #[.agg #[.slice s_.2.2.2.1 C2.length s_.2.2.2.2, .slice s_.2.2.1.1 R1.length s_.2.2.1.2, .int .i64 L1], .int .i64 zq]), (63, .agg #[.slice s_.2.2.2.1 C2.length s_.2.2.2.2, .slice s_.2.2.1.1 R1.length s_.2.2.1.2, .int .i64 L1]), (64, .int .i64 zq), (10, .pointer (some ⟨s_.1, 0, none⟩))]) (fun s_ w' => w'.heap[s_.1]? = some (.cells #[.slice none 0 0, .slice none 0 0, .int .i64 0] 25 (0, 0)) ∧ w'.heap[gz]? = some (.cells #[.slice none 0 0, .slice none 0 0, .int .i64 0] 25 (0, 0)) ∧ CS w' w.heap.size (fun j => some j ≠ (Value.slice s_.2.2.1.1 R1.length s_.2.2.1.2).ownBlock ∧ j ≠ s_.1) (.slice s_.2.2.2.1 C2.length s_.2.2.2.2) C2 ∧ IR w' w.heap.size (fun j => j ≠ s_.1) (.slice s_.2.2.1.1 R1.length s_.2.2.1.2) R1 ∧ Below w.heap.size w w' ∧ gz < s_.1) ?_ ?_
         rotate_left
         ·intro hCont
          refine two_ (i := 1) (j := 15) (Ni := some 52) (Nj := some 10) #[true, true, true, true, true, true, true, true, true, true, true, false, false, false, false, false, false, false] #[true, false, true, true, true, true, true, true, true, true, true, false, false, false, false, true, false, false] rfl rfl rfl rfl (by kernel_rfl) (by decide) (by decide) (fun K hK => ?_) (fun K hK => ?_)
          ·skip
           refine goes_ Try.func69 (by kernel_rfl) rfl #[.agg #[.slice A0 C.length c0, .slice (some ad) R.length c1, .int .i64 L]] (by rfl) rfl rfl (by (try simp only [List.map_toArray, List.map_cons, List.map_nil]); first | done | rfl) ?_
           refine (spec_l14Own.calls k_ A0 c0 C (some ad) c1 R L C1 R1 L1 wa (Kd.C_below HR0.out B8.out) HC0.out (Kd.C_below HR1.out B8.out) HC1.out HO.out).mono ?_
           (first | rintro e wb v0 v1 rfl hs hr hb | rintro e wb ⟨v0, v1, rfl, hs, hr, hb⟩)
           refine ⟨_, rfl, ?_⟩
           obtain ⟨A5, c5, rfl⟩ := Kd.S_slice hs
           obtain ⟨A6, c6, rfl⟩ := Kd.R_slice hr
           have BB := Aside0.mk (below_step B8.out hb)
           have XB := Aside0.mk (blk_below X8.out hb)
           have ZB := Aside0.mk (blk_below Z8.out hb)
           have SB := Aside0.mk (Kd.S_lower (Kd.S_mono (Kd.S_bound hs) (fun j h_ => (⟨h_.1, h_.2.1⟩ : some j ≠ (Value.slice A6 R1.length c6).ownBlock ∧ wa.heap.size ≤ j))) B8.out.size)
           have RB := Aside0.mk (Kd.R_lower (Kd.R_mono (Kd.R_bound hr) (fun j h_ => h_.2.1)) B8.out.size : IR wb w.heap.size (fun j => wa.heap.size ≤ j) (.slice A6 R1.length c6) R1)
           have LX := Aside0.mk (show w.heap.size < wa.heap.size from blk_lt X8.out)
           have LZ := Aside0.mk (show gz < wa.heap.size from blk_lt Z8.out)
           have WSZ := Aside0.mk (show wa.heap.size ≤ wb.heap.size from hb.size)
           clear hs hr hb
           refine hK.out _ _ ⟨(blk_cell XB.out 0).trans rfl, (blk_cell XB.out 1).trans rfl, (blk_cell XB.out 2).trans rfl, HIX.out wb BB.out⟩ (fun hHeld => ?_)
           clear hK K
           refine norm_ (a' := ?_) ?_ ?_
           rotate_left
           ·show Act.put _ (some 52) _ = _
            simp only [apu_]
            rfl
           refine two_ (i := 11) (j := 15) (Ni := some 62) (Nj := some 10) #[true, true, true, true, true, true, true, true, true, true, true, true, false, false, false, false, false, false] #[true, true, true, true, true, true, true, true, true, true, true, false, false, false, false, true, false, false] rfl rfl rfl rfl (by kernel_rfl) (by decide) (by decide) (fun K hK => ?_) (fun K hK => ?_)
           ·skip
            refine goes_ Try.func74 (by kernel_rfl) rfl #[.agg #[.slice A5 C1.length c5, .slice A6 R1.length c6, .int .i64 L1], .int .i64 k, .int .i64 L, .int .i64 at_, .string leaf] (by rfl) rfl rfl (by (try simp only [List.map_toArray, List.map_cons, List.map_nil]); first | done | rfl) ?_
            refine (sput_calls L1 R1.length c6 A6 leaf k_ (dgI at_) L.toNat A5 c5 C1 k L at_ (fun j => (some j ≠ (Value.slice A6 R1.length c6).ownBlock ∧ wa.heap.size ≤ j) ∧ True) (C2, zq) w wb LL.out.1 LL.out.2 DIG.out BB.out (Kd.S_mono SB.out (fun j hj => ⟨hj, trivial⟩)) (fun j hj => ⟨⟨fun e_ => by have := Kd.R_lt RB.out j e_.symm; omega, by have := WSZ.out; omega⟩, trivial⟩) HQ.out).mono ?_
            (first | rintro e wc v9 rfl hs hb hk | rintro e wc ⟨v9, rfl, hs, hb, hk⟩)
            refine ⟨_, rfl, ?_⟩
            obtain ⟨A9, c9, rfl⟩ := Kd.S_slice hs
            have BC := Aside0.mk hb
            have XC := Aside0.mk (blk_kept XB.out hk (fun h_ => by have := h_.1.2; have := LX.out; omega))
            have ZC := Aside0.mk (blk_kept ZB.out hk (fun h_ => by have := h_.1.2; have := LZ.out; omega))
            have SC := Aside0.mk (show CS wc w.heap.size (fun j => (some j ≠ (Value.slice A6 R1.length c6).ownBlock ∧ wa.heap.size ≤ j) ∧ True) (.slice A9 C2.length c9) C2 from hs)
            have hR_ := RB.out.1
            have RC := Aside0.mk (Kd.R_mono (Kd.R_kept (Kd.R_of_own (Kd.own_of_R RB.out) (fun j hj => hj.symm) : IR wb w.heap.size (fun j => some j = (Value.slice A6 R1.length c6).ownBlock) (.slice A6 R1.length c6) R1) hk (fun j hj h_ => h_.1.1 hj)) (fun j hj => hR_ j hj.symm) : IR wc w.heap.size (fun j => wa.heap.size ≤ j) (.slice A6 R1.length c6) R1)
            clear hs hb hk hR_
            refine hK.out _ _ ⟨(blk_cell XC.out 0).trans rfl, (blk_cell XC.out 1).trans rfl, (blk_cell XC.out 2).trans rfl, HIX.out wc BC.out⟩ (fun hHeld => ?_)
            clear hK K
            refine norm_ (a' := ?_) ?_ ?_
            rotate_left
            ·show Act.put _ (some 62) _ = _
             simp only [apu_]
             rfl
            refine pure_ (i := 12) (N := some 50) (v := ?_) (a' := ?_) #[true, true, true, true, true, true, true, true, true, true, true, true, true, false, false, false, false, false] rfl rfl (by kernel_rfl) (fun _ _ _ h => h) (Or.inl ⟨by rfl, ?_⟩) ?_ ?_
            rotate_left
            ·intro w'
             go_simp
             with_reducible rfl
            rotate_left
            ·simp only [apu_]
             rfl
            refine pure_ (i := 13) (N := some 63) (v := ?_) (a' := ?_) #[true, true, true, true, true, true, true, true, true, true, true, true, true, true, false, false, false, false] rfl rfl (by kernel_rfl) (fun _ _ _ h => h) (Or.inl ⟨by rfl, ?_⟩) ?_ ?_
            rotate_left
            ·intro w'
             go_simp
             with_reducible rfl
            rotate_left
            ·simp only [apu_]
             rfl
            refine pure_ (i := 14) (N := some 64) (v := ?_) (a' := ?_) #[true, true, true, true, true, true, true, true, true, true, true, true, true, true, true, false, false, false] rfl rfl (by kernel_rfl) (fun _ _ _ h => h) (Or.inl ⟨by rfl, ?_⟩) ?_ ?_
            rotate_left
            ·intro w'
             go_simp
             with_reducible rfl
            rotate_left
            ·simp only [apu_]
             rfl
            refine one_ (i := 15) (N := some 10) #[true, true, true, true, true, true, true, true, true, true, true, true, true, true, true, true, false, false] rfl rfl (by kernel_rfl) (by decide) (fun K hK => ?_)
            refine event_step (by rfl) (v := .pointer (some ⟨wc.heap.size, 0, none⟩)) (w1 := wc.alloc (.cells #[.slice none 0 0, .slice none 0 0, .int .i64 0] 25)) (by first | (go_simp; done) | (go_simp; rfl)) ?_
            have hba := below_alloc (Below.refl wc.heap.size wc) (.cells #[.slice none 0 0, .slice none 0 0, .int .i64 0] 25)
            have DD := Aside0.mk (heap_alloc_new wc (.cells #[.slice none 0 0, .slice none 0 0, .int .i64 0] 25))
            have BD := Aside0.mk (below_step BC.out hba)
            have XD := Aside0.mk (blk_below XC.out hba)
            have ZD := Aside0.mk (blk_below ZC.out hba)
            have SD := Aside0.mk (Kd.S_below (Kd.S_mono (Kd.S_bound SC.out) (fun j h_ => (⟨h_.1.1, Nat.ne_of_lt h_.2.2.1⟩ : (some j ≠ (Value.slice A6 R1.length c6).ownBlock ∧ wa.heap.size ≤ j) ∧ j ≠ wc.heap.size))) hba)
            have RD := Aside0.mk (Kd.R_below RC.out hba)
            refine hK.out _ _ ⟨(blk_cell XD.out 0).trans rfl, (blk_cell XD.out 1).trans rfl, (blk_cell XD.out 2).trans rfl, HIX.out _ BD.out⟩ (fun hHeld => ?_)
            clear hK K
            refine norm_ (a' := ?_) ?_ ?_
            rotate_left
            ·show Act.put _ (some 10) _ = _
             simp only [apu_]
             rfl
            exact hCont (wc.heap.size, (A5, c5), (A6, c6), (A9, c9)) _ ⟨DD.out, ZD.out, Kd.S_mono SD.out (fun j hj => ⟨hj.1.1, hj.2⟩), Kd.R_below (Kd.R_mono (Kd.R_bound RC.out) (fun j hj => Nat.ne_of_lt hj.2.2.1)) hba, BD.out, blk_lt ZC.out⟩
           ·skip
            refine event_step (by rfl) (v := .pointer (some ⟨wb.heap.size, 0, none⟩)) (w1 := wb.alloc (.cells #[.slice none 0 0, .slice none 0 0, .int .i64 0] 25)) (by first | (go_simp; done) | (go_simp; rfl)) ?_
            have hba := below_alloc (Below.refl wb.heap.size wb) (.cells #[.slice none 0 0, .slice none 0 0, .int .i64 0] 25)
            have DC := Aside0.mk (heap_alloc_new wb (.cells #[.slice none 0 0, .slice none 0 0, .int .i64 0] 25))
            have BC := Aside0.mk (below_step BB.out hba)
            have XC := Aside0.mk (blk_below XB.out hba)
            have ZC := Aside0.mk (blk_below ZB.out hba)
            have SC := Aside0.mk (Kd.S_below (Kd.S_mono (Kd.S_bound SB.out) (fun j h_ => (⟨h_.1, Nat.ne_of_lt h_.2.2.1⟩ : (some j ≠ (Value.slice A6 R1.length c6).ownBlock ∧ wa.heap.size ≤ j) ∧ j ≠ wb.heap.size))) hba)
            have RC := Aside0.mk (Kd.R_below RB.out hba)
            refine hK.out _ _ ⟨(blk_cell XC.out 0).trans rfl, (blk_cell XC.out 1).trans rfl, (blk_cell XC.out 2).trans rfl, HIX.out _ BC.out⟩ (fun hHeld => ?_)
            clear hK K
            refine norm_ (a' := ?_) ?_ ?_
            rotate_left
            ·show Act.put _ (some 10) _ = _
             simp only [apu_]
             rfl
            have RNE := Aside0.mk (show ∀ j, some j = (Value.slice A6 R1.length c6).ownBlock → j ≠ wb.heap.size from fun j hj => Nat.ne_of_lt (Kd.R_lt RB.out j hj.symm))
            obtain ⟨wc, hwc⟩ : ∃ W, wb.alloc (.cells #[.slice none 0 0, .slice none 0 0, .int .i64 0] 25) = W := ⟨_, rfl⟩
            rw [hwc] at DC BC XC ZC SC RC hHeld hba ⊢
            have WSC := Aside0.mk (show wa.heap.size ≤ wc.heap.size from Nat.le_trans WSZ.out hba.size)
            replace WSZ := WSC
            refine one_ (i := 11) (N := some 62) #[true, true, true, true, true, true, true, true, true, true, true, true, false, false, false, true, false, false] rfl rfl (by kernel_rfl) (by decide) (fun K hK => ?_)
            refine goes_ Try.func74 (by kernel_rfl) rfl #[.agg #[.slice A5 C1.length c5, .slice A6 R1.length c6, .int .i64 L1], .int .i64 k, .int .i64 L, .int .i64 at_, .string leaf] (by rfl) rfl rfl (by (try simp only [List.map_toArray, List.map_cons, List.map_nil]); first | done | rfl) ?_
            refine (sput_calls L1 R1.length c6 A6 leaf k_ (dgI at_) L.toNat A5 c5 C1 k L at_ (fun j => (some j ≠ (Value.slice A6 R1.length c6).ownBlock ∧ wa.heap.size ≤ j) ∧ j ≠ wb.heap.size) (C2, zq) w wc LL.out.1 LL.out.2 DIG.out BC.out (SC.out) (fun j hj => ⟨⟨fun e_ => by have := Kd.R_lt RC.out j e_.symm; omega, by have := WSZ.out; omega⟩, by have := blk_lt DC.out; omega⟩) HQ.out).mono ?_
            (first | rintro e wd v9 rfl hs hb hk | rintro e wd ⟨v9, rfl, hs, hb, hk⟩)
            refine ⟨_, rfl, ?_⟩
            obtain ⟨A9, c9, rfl⟩ := Kd.S_slice hs
            have BD := Aside0.mk hb
            have XD := Aside0.mk (blk_kept XC.out hk (fun h_ => by have := h_.1.2; have := LX.out; omega))
            have ZD := Aside0.mk (blk_kept ZC.out hk (fun h_ => by have := h_.1.2; have := LZ.out; omega))
            have SD := Aside0.mk (show CS wd w.heap.size (fun j => (some j ≠ (Value.slice A6 R1.length c6).ownBlock ∧ wa.heap.size ≤ j) ∧ j ≠ wb.heap.size) (.slice A9 C2.length c9) C2 from hs)
            have hR_ := RC.out.1
            have RD := Aside0.mk (Kd.R_mono (Kd.R_kept (Kd.R_of_own (Kd.own_of_R RC.out) (fun j hj => hj.symm) : IR wc w.heap.size (fun j => some j = (Value.slice A6 R1.length c6).ownBlock) (.slice A6 R1.length c6) R1) hk (fun j hj h_ => h_.1.1 hj)) (fun j hj => hR_ j hj.symm) : IR wd w.heap.size (fun j => wa.heap.size ≤ j) (.slice A6 R1.length c6) R1)
            have DD := Aside0.mk (blk_kept DC.out hk (fun h_ => h_.2 rfl))
            clear hs hb hk hR_
            refine hK.out _ _ ⟨(blk_cell XD.out 0).trans rfl, (blk_cell XD.out 1).trans rfl, (blk_cell XD.out 2).trans rfl, HIX.out wd BD.out⟩ (fun hHeld => ?_)
            clear hK K
            refine norm_ (a' := ?_) ?_ ?_
            rotate_left
            ·show Act.put _ (some 62) _ = _
             simp only [apu_]
             rfl
            refine pure_ (i := 12) (N := some 50) (v := ?_) (a' := ?_) #[true, true, true, true, true, true, true, true, true, true, true, true, true, false, false, true, false, false] rfl rfl (by kernel_rfl) (fun _ _ _ h => h) (Or.inl ⟨by rfl, ?_⟩) ?_ ?_
            rotate_left
            ·intro w'
             go_simp
             with_reducible rfl
            rotate_left
            ·simp only [apu_]
             rfl
            refine pure_ (i := 13) (N := some 63) (v := ?_) (a' := ?_) #[true, true, true, true, true, true, true, true, true, true, true, true, true, true, false, true, false, false] rfl rfl (by kernel_rfl) (fun _ _ _ h => h) (Or.inl ⟨by rfl, ?_⟩) ?_ ?_
            rotate_left
            ·intro w'
             go_simp
             with_reducible rfl
            rotate_left
            ·simp only [apu_]
             rfl
            refine pure_ (i := 14) (N := some 64) (v := ?_) (a' := ?_) #[true, true, true, true, true, true, true, true, true, true, true, true, true, true, true, true, false, false] rfl rfl (by kernel_rfl) (fun _ _ _ h => h) (Or.inl ⟨by rfl, ?_⟩) ?_ ?_
            rotate_left
            ·intro w'
             go_simp
             with_reducible rfl
            rotate_left
            ·simp only [apu_]
             rfl
            exact hCont (wb.heap.size, (A5, c5), (A6, c6), (A9, c9)) _ ⟨DD.out, ZD.out, Kd.S_mono SD.out (fun j hj => ⟨hj.1.1, hj.2⟩), Kd.R_mono (Kd.R_of_own (Kd.own_of_R RD.out) (fun j hj => hj.symm)) (fun j hj => RNE.out j hj), BD.out, blk_lt ZB.out⟩
          ·skip
           refine event_step (by rfl) (v := .pointer (some ⟨wa.heap.size, 0, none⟩)) (w1 := wa.alloc (.cells #[.slice none 0 0, .slice none 0 0, .int .i64 0] 25)) (by first | (go_simp; done) | (go_simp; rfl)) ?_
           have hba := below_alloc (Below.refl wa.heap.size wa) (.cells #[.slice none 0 0, .slice none 0 0, .int .i64 0] 25)
           have DB := Aside0.mk (heap_alloc_new wa (.cells #[.slice none 0 0, .slice none 0 0, .int .i64 0] 25))
           have BB := Aside0.mk (below_step B8.out hba)
           have XB := Aside0.mk (blk_below X8.out hba)
           have ZB := Aside0.mk (blk_below Z8.out hba)
           refine hK.out _ _ ⟨(blk_cell XB.out 0).trans rfl, (blk_cell XB.out 1).trans rfl, (blk_cell XB.out 2).trans rfl, HIX.out _ BB.out⟩ (fun hHeld => ?_)
           clear hK K
           refine norm_ (a' := ?_) ?_ ?_
           rotate_left
           ·show Act.put _ (some 10) _ = _
            simp only [apu_]
            rfl
           obtain ⟨wb, hwb⟩ : ∃ W, wa.alloc (.cells #[.slice none 0 0, .slice none 0 0, .int .i64 0] 25) = W := ⟨_, rfl⟩
           rw [hwb] at DB BB XB ZB hHeld hba ⊢
           refine one_ (i := 1) (N := some 52) #[true, true, true, true, true, true, true, true, true, true, true, false, false, false, false, true, false, false] rfl rfl (by kernel_rfl) (by decide) (fun K hK => ?_)
           refine goes_ Try.func69 (by kernel_rfl) rfl #[.agg #[.slice A0 C.length c0, .slice (some ad) R.length c1, .int .i64 L]] (by rfl) rfl rfl (by (try simp only [List.map_toArray, List.map_cons, List.map_nil]); first | done | rfl) ?_
           refine (spec_l14Own.calls k_ A0 c0 C (some ad) c1 R L C1 R1 L1 wb (Kd.C_below HR0.out BB.out) HC0.out (Kd.C_below HR1.out BB.out) HC1.out HO.out).mono ?_
           (first | rintro e wc v0 v1 rfl hs hr hb | rintro e wc ⟨v0, v1, rfl, hs, hr, hb⟩)
           refine ⟨_, rfl, ?_⟩
           obtain ⟨A5, c5, rfl⟩ := Kd.S_slice hs
           obtain ⟨A6, c6, rfl⟩ := Kd.R_slice hr
           have BC := Aside0.mk (below_step BB.out hb)
           have XC := Aside0.mk (blk_below XB.out hb)
           have ZC := Aside0.mk (blk_below ZB.out hb)
           have SC := Aside0.mk (Kd.S_lower (Kd.S_mono (Kd.S_bound hs) (fun j h_ => (⟨h_.1, h_.2.1⟩ : some j ≠ (Value.slice A6 R1.length c6).ownBlock ∧ wb.heap.size ≤ j))) BB.out.size)
           have RC := Aside0.mk (Kd.R_lower (Kd.R_mono (Kd.R_bound hr) (fun j h_ => h_.2.1)) BB.out.size : IR wc w.heap.size (fun j => wb.heap.size ≤ j) (.slice A6 R1.length c6) R1)
           have LX := Aside0.mk (show w.heap.size < wb.heap.size from blk_lt XB.out)
           have LZ := Aside0.mk (show gz < wb.heap.size from blk_lt ZB.out)
           have WSZ := Aside0.mk (show wb.heap.size ≤ wc.heap.size from hb.size)
           have LD := Aside0.mk (show wa.heap.size < wb.heap.size from blk_lt DB.out)
           have DC := Aside0.mk (blk_below DB.out hb)
           clear hs hr hb
           refine hK.out _ _ ⟨(blk_cell XC.out 0).trans rfl, (blk_cell XC.out 1).trans rfl, (blk_cell XC.out 2).trans rfl, HIX.out wc BC.out⟩ (fun hHeld => ?_)
           clear hK K
           refine norm_ (a' := ?_) ?_ ?_
           rotate_left
           ·show Act.put _ (some 52) _ = _
            simp only [apu_]
            rfl
           refine one_ (i := 11) (N := some 62) #[true, true, true, true, true, true, true, true, true, true, true, true, false, false, false, true, false, false] rfl rfl (by kernel_rfl) (by decide) (fun K hK => ?_)
           refine goes_ Try.func74 (by kernel_rfl) rfl #[.agg #[.slice A5 C1.length c5, .slice A6 R1.length c6, .int .i64 L1], .int .i64 k, .int .i64 L, .int .i64 at_, .string leaf] (by rfl) rfl rfl (by (try simp only [List.map_toArray, List.map_cons, List.map_nil]); first | done | rfl) ?_
           refine (sput_calls L1 R1.length c6 A6 leaf k_ (dgI at_) L.toNat A5 c5 C1 k L at_ (fun j => (some j ≠ (Value.slice A6 R1.length c6).ownBlock ∧ wb.heap.size ≤ j) ∧ True) (C2, zq) w wc LL.out.1 LL.out.2 DIG.out BC.out (Kd.S_mono SC.out (fun j hj => ⟨hj, trivial⟩)) (fun j hj => ⟨⟨fun e_ => by have := Kd.R_lt RC.out j e_.symm; omega, by have := WSZ.out; omega⟩, trivial⟩) HQ.out).mono ?_
           (first | rintro e wd v9 rfl hs hb hk | rintro e wd ⟨v9, rfl, hs, hb, hk⟩)
           refine ⟨_, rfl, ?_⟩
           obtain ⟨A9, c9, rfl⟩ := Kd.S_slice hs
           have BD := Aside0.mk hb
           have XD := Aside0.mk (blk_kept XC.out hk (fun h_ => by have := h_.1.2; have := LX.out; omega))
           have ZD := Aside0.mk (blk_kept ZC.out hk (fun h_ => by have := h_.1.2; have := LZ.out; omega))
           have SD := Aside0.mk (show CS wd w.heap.size (fun j => (some j ≠ (Value.slice A6 R1.length c6).ownBlock ∧ wb.heap.size ≤ j) ∧ True) (.slice A9 C2.length c9) C2 from hs)
           have hR_ := RC.out.1
           have RD := Aside0.mk (Kd.R_mono (Kd.R_kept (Kd.R_of_own (Kd.own_of_R RC.out) (fun j hj => hj.symm) : IR wc w.heap.size (fun j => some j = (Value.slice A6 R1.length c6).ownBlock) (.slice A6 R1.length c6) R1) hk (fun j hj h_ => h_.1.1 hj)) (fun j hj => hR_ j hj.symm) : IR wd w.heap.size (fun j => wb.heap.size ≤ j) (.slice A6 R1.length c6) R1)
           have DD := Aside0.mk (blk_kept DC.out hk (fun h_ => by have := h_.1.2; have := LD.out; omega))
           clear hs hb hk hR_
           refine hK.out _ _ ⟨(blk_cell XD.out 0).trans rfl, (blk_cell XD.out 1).trans rfl, (blk_cell XD.out 2).trans rfl, HIX.out wd BD.out⟩ (fun hHeld => ?_)
           clear hK K
           refine norm_ (a' := ?_) ?_ ?_
           rotate_left
           ·show Act.put _ (some 62) _ = _
            simp only [apu_]
            rfl
           refine pure_ (i := 12) (N := some 50) (v := ?_) (a' := ?_) #[true, true, true, true, true, true, true, true, true, true, true, true, true, false, false, true, false, false] rfl rfl (by kernel_rfl) (fun _ _ _ h => h) (Or.inl ⟨by rfl, ?_⟩) ?_ ?_
           rotate_left
           ·intro w'
            go_simp
            with_reducible rfl
           rotate_left
           ·simp only [apu_]
            rfl
           refine pure_ (i := 13) (N := some 63) (v := ?_) (a' := ?_) #[true, true, true, true, true, true, true, true, true, true, true, true, true, true, false, true, false, false] rfl rfl (by kernel_rfl) (fun _ _ _ h => h) (Or.inl ⟨by rfl, ?_⟩) ?_ ?_
           rotate_left
           ·intro w'
            go_simp
            with_reducible rfl
           rotate_left
           ·simp only [apu_]
            rfl
           refine pure_ (i := 14) (N := some 64) (v := ?_) (a' := ?_) #[true, true, true, true, true, true, true, true, true, true, true, true, true, true, true, true, false, false] rfl rfl (by kernel_rfl) (fun _ _ _ h => h) (Or.inl ⟨by rfl, ?_⟩) ?_ ?_
           rotate_left
           ·intro w'
            go_simp
            with_reducible rfl
           rotate_left
           ·simp only [apu_]
            rfl
           exact hCont (wa.heap.size, (A5, c5), (A6, c6), (A9, c9)) _ ⟨DD.out, ZD.out, Kd.S_mono SD.out (fun j hj => ⟨hj.1.1, by have := hj.1.2; have := LD.out; omega⟩), Kd.R_mono RD.out (fun j hj => by have := LD.out; omega), BD.out, blk_lt Z8.out⟩
         rintro ⟨db, ⟨A5, c5⟩, ⟨A6, c6⟩, ⟨A9, c9⟩⟩ we ⟨hD, hZ, hS, hR, hB, hgd⟩
         dsimp only at hD hS hR hgd
         dsimp only [putAll]
         clear hHeld X8 Z8 B8
         refine norm_ (a' := ?_) ?_ ?_
         rotate_left
         ·simp only [apu_]
          rfl
         have r0 : we.cell? ⟨db, 0, none⟩ = some (.slice none 0 0) := (blk_cell hD 0).trans rfl
         have r1 : we.cell? ⟨db, 1, none⟩ = some (.slice none 0 0) := (blk_cell hD 1).trans rfl
         have r2 : we.cell? ⟨db, 2, none⟩ = some (.int .i64 0) := (blk_cell hD 2).trans rfl
         have u0 := blk_frozen hD 0
         have u1 := blk_frozen hD 1
         have u2 := blk_frozen hD 2
         refine last_ (i := 16) (N := none) #[true, true, true, true, true, true, true, true, true, true, true, true, true, true, true, true, true, false] rfl rfl (by kernel_rfl) (by decide) (fun K hK => ?_)
         refine skip_ (w1 := ((we.setCell ⟨db, 0, none⟩ (.slice A9 C2.length c9)).setCell ⟨db, 1, none⟩ (.slice A6 R1.length c6)).setCell ⟨db, 2, none⟩ (.int .i64 L1)) (by rfl) rfl ?_ ?_
         ·first | (go_simp; done) | (go_simp; rfl)
         refine hK.out _ _ ?_
         clear hK K r0 r1 r2 u0 u1 u2
         have KK := keep3 (a := .slice A9 C2.length c9) (b := .slice A6 R1.length c6) (c := .int .i64 L1) (Kept.refl we (fun j => j = db)) (.inl rfl)
         have hwd : w.heap.size ≤ db := Nat.le_trans ZG.out (Nat.le_of_lt hgd)
         have DF := Aside0.mk (put3 hD (.slice A9 C2.length c9) (.slice A6 R1.length c6) (.int .i64 L1))
         have ZF := Aside0.mk (blk_kept hZ KK (Nat.ne_of_lt hgd))
         have SF := Aside0.mk (Kd.S_kept hS KK (fun j hj => hj.2))
         have RF := Aside0.mk (Kd.R_kept hR KK (fun j hj => hj))
         have BF := Aside0.mk (below3 (a := .slice A9 C2.length c9) (b := .slice A6 R1.length c6) (c := .int .i64 L1) hB hwd)
         have HWD := Aside0.mk hwd
         have HGD := Aside0.mk hgd
         clear KK hD hZ hS hR hB hwd hgd
         generalize ((we.setCell ⟨db, 0, none⟩ (.slice A9 C2.length c9)).setCell ⟨db, 1, none⟩ (.slice A6 R1.length c6)).setCell ⟨db, 2, none⟩ (.int .i64 L1) = wf at DF ZF SF RF BF ⊢
         refine pure_ (i := 17) (N := some 11) (v := ?_) (a' := ?_) #[true, true, true, true, true, true, true, true, true, true, true, true, true, true, true, true, true, true] rfl rfl (by kernel_rfl) (fun _ _ _ h => h) (Or.inl ⟨by rfl, ?_⟩) ?_ ?_
         rotate_left
         ·intro w'
          go_simp
          with_reducible rfl
         rotate_left
         ·simp only [apu_]
          rfl
         refine done_ (by kernel_rfl) ?_
         obtain ⟨gr, cap6, hv6, _, _, _⟩ := Kd.R_form RF.out (by have := HR1L.out; omega)
         injection hv6 with hA6 hn6 hc6
         subst hA6 hc6
         clear hn6
         obtain ⟨o_, ho_⟩ : ∃ o_, rd R1 (ri : Int) = o_ := ⟨_, rfl⟩
         obtain ⟨ad9, e9, hy9⟩ := Kd.at_int (Kd.R_reads' RF.out).2.2 (ri : Int) (by omega) (by have := HR1L.out; omega)
         injection e9 with e9
         subst e9
         rw [show (⟨gr, 0, none⟩ : Addr).add ((ri : Int).toNat) = ⟨gr, ri, none⟩ by by_cases h : ri = 0 <;> simp [Addr.add, h], ho_] at hy9
         obtain ⟨g_, c_, e_, _, _, cells9, hcl9⟩ := Kd.R_form RF.out (by have := HR1L.out; omega)
         obtain rfl : gr = g_ := by injection e_ with e_ _ _; injection e_ with e_; injection e_
         have f9 := blk_frozen hcl9 ri
         have p3 : ((ri : Int) < (R1.length : Int)) = True := eq_true (by have := HR1L.out; omega)
         have d1 : wf.cell? ⟨db, 1, none⟩ = some (.slice (some ⟨gr, 0, none⟩) R1.length c6) := (blk_cell DF.out 1).trans rfl
         obtain ⟨wA, hwA⟩ : ∃ W, wf.setCell ⟨gr, ri, none⟩ (.int .i64 zq) = W := ⟨_, rfl⟩
         have hgr2 := RF.out.1 gr rfl
         have RA := Aside0.mk (show IR wA w.heap.size (fun j => j ≠ db) (.slice (some ⟨gr, 0, none⟩) R1.length c6) (R1.set ri zq) by rw [← hwA]; exact Kd.R_putn RF.out ri zq)
         have KKA : Kept wf wA (fun j => j = gr) := by rw [← hwA]; exact (Kept.refl wf (fun j => j = gr)).setCell (p := ⟨gr, ri, none⟩) (.inl rfl) _
         have BA := Aside0.mk (show Below w.heap.size w wA by rw [← hwA]; exact below_set BF.out (Kd.R_base RF.out gr rfl))
         have DA := Aside0.mk (blk_kept DF.out KKA (fun e_ => hgr2 e_.symm))
         have ZA := Aside0.mk (blk_kept ZF.out KKA (fun e_ => by
          have h1_ := hcl9
          rw [← e_, ZF.out] at h1_
          injection h1_ with h1_
          injection h1_ with _ h2_
          exact absurd h2_ (by decide)))
         have SA := Aside0.mk (Kd.S_kept SF.out KKA (fun j hj e_ => hj.1 (by rw [e_]; rfl)))
         have HZX := Aside0.mk (show gz ≠ db from Nat.ne_of_lt HGD.out)
         clear hcl9 e_ hgr2 KKA SF RF BF ZF ho_
         have g0 : wA.cell? ⟨db, 0, none⟩ = some (.slice A9 C2.length c9) := (blk_cell DA.out 0).trans rfl
         have g1 : wA.cell? ⟨db, 1, none⟩ = some (.slice (some ⟨gr, 0, none⟩) R1.length c6) := (blk_cell DA.out 1).trans rfl
         have g2 : wA.cell? ⟨db, 2, none⟩ = some (.int .i64 L1) := (blk_cell DA.out 2).trans rfl
         have z0 : wA.cell? ⟨gz, 0, none⟩ = some (.slice none 0 0) := (blk_cell ZA.out 0).trans rfl
         have z1 : wA.cell? ⟨gz, 1, none⟩ = some (.slice none 0 0) := (blk_cell ZA.out 1).trans rfl
         have z2 : wA.cell? ⟨gz, 2, none⟩ = some (.int .i64 0) := (blk_cell ZA.out 2).trans rfl
         have y0 := blk_frozen ZA.out 0
         have y1 := blk_frozen ZA.out 1
         have y2 := blk_frozen ZA.out 2
         have TT := Aside0.mk (spec_GoodCow.calls k_ _ c9 C2 _ c6 (R1.set ri zq) L1 g wA (Kd.S_reads' SA.out).2.2 (Kd.S_reads' SA.out).2.1 (Kd.R_reads' RA.out).2.2 (by have h_ := (Kd.R_reads' RA.out).2.1; simpa using h_) HG.out)
         clear HG
         rw [List.length_set] at TT
         go_wp2_with (go_at_call 20; with_reducible refine TT.out.mono ?_)
         (first | rintro e w20 rfl hb | rintro e w20 ⟨rfl, hb⟩)
         clear g0 g1 g2 z0 z1 z2 y0 y1 y2 TT
         have B20 := Aside0.mk (below_step BA.out hb)
         have Z20 := Aside0.mk (blk_below ZA.out hb)
         have D20 := Aside0.mk (blk_below DA.out hb)
         have S20 := Aside0.mk (Kd.S_below SA.out hb)
         have R20 := Aside0.mk (Kd.R_below RA.out hb)
         clear hb BA ZA DA SA RA
         have g0 : w20.cell? ⟨db, 0, none⟩ = some (.slice A9 C2.length c9) := (blk_cell D20.out 0).trans rfl
         have g1 : w20.cell? ⟨db, 1, none⟩ = some (.slice (some ⟨gr, 0, none⟩) R1.length c6) := (blk_cell D20.out 1).trans rfl
         have g2 : w20.cell? ⟨db, 2, none⟩ = some (.int .i64 L1) := (blk_cell D20.out 2).trans rfl
         have z0 : w20.cell? ⟨gz, 0, none⟩ = some (.slice none 0 0) := (blk_cell Z20.out 0).trans rfl
         have z1 : w20.cell? ⟨gz, 1, none⟩ = some (.slice none 0 0) := (blk_cell Z20.out 1).trans rfl
         have z2 : w20.cell? ⟨gz, 2, none⟩ = some (.int .i64 0) := (blk_cell Z20.out 2).trans rfl
         have y0 := blk_frozen Z20.out 0
         have y1 := blk_frozen Z20.out 1
         have y2 := blk_frozen Z20.out 2
         cases g with
         | false =>
          have h : some (([] : List CL), ([] : List Int), (0 : Int), false) = some (r1, r2, r3, r4) := HH.out
          simp only [Option.some.injEq, Prod.mk.injEq] at h
          obtain ⟨rfl, rfl, rfl, rfl⟩ := h
          go_wp2
          refine bodyPost_ret (results_ct rfl _ _ gz 25 #[.slice none 0 0, .slice none 0 0, .int .i64 0] (0, 0) _ rfl (put3 Z20.out _ _ _) Try.underlying25 rfl (by kernel_rfl)) rfl ?_
          exact ⟨_, _, rfl, Kd.S_nil _ _ _ _ _, Kd.R_nil _ _ _ _ _, below_set (below_set (below_set B20.out ZG.out) ZG.out) ZG.out⟩
         | true =>
          have h : some (C2, (R1.set ri zq), L1, true) = some (r1, r2, r3, r4) := HH.out
          simp only [Option.some.injEq, Prod.mk.injEq] at h
          obtain ⟨rfl, rfl, rfl, rfl⟩ := h
          go_wp2
          refine bodyPost_ret (results_ct rfl _ _ gz 25 #[.slice A9 C2.length c9, .slice (some ⟨gr, 0, none⟩) R1.length c6, .int .i64 L1] (0, 0) _ rfl (put3 Z20.out _ _ _) Try.underlying25 rfl (by kernel_rfl)) rfl ?_
          obtain ⟨r1_, r2_, r3_⟩ := ret_cow (x := .slice A9 C2.length c9) (y := .slice (some ⟨gr, 0, none⟩) R1.length c6) (z := .int .i64 L1) Z20.out ZG.out S20.out (fun k_ h_ => h_.1) R20.out B20.out
          exact ⟨_, _, rfl, r1_, r2_, r3_⟩
        ·cases h
       ·cases h
     ·cases h
def rdn (C : List CL) (j : Nat) : CL := rd_T68 C (j : Int)
theorem rdn_at {C : List CL} {j : Nat} (h : j < C.length) : rdn C j = C[j] := rd_cl_nat h
theorem rdn_int (C : List CL) {k : Int} (h : 0 ≤ k) : rd_T68 C k = rdn C k.toNat := by
  unfold rdn
  rw [show ((k.toNat : Nat) : Int) = k by omega]
theorem rdn_set {C : List CL} {k : Nat} (h : k < C.length) (x : CL) (j : Nat) : rdn (C.set k x) j = if j = k then x else rdn C j := by
  unfold rdn
  simp only [rd_cl, Int.toNat_natCast, List.getD_eq_getElem?_getD, List.getElem?_set]
  by_cases e : k = j
  · subst e
    rw [if_pos rfl, if_pos h, if_pos rfl]
    rfl
  · rw [if_neg e, if_neg (Ne.symm e)]
theorem rdn_push (C : List CL) (x : CL) (j : Nat) (h : j < C.length) : rdn (C ++ [x]) j = rdn C j := by
  rw [rdn_at (by simp; omega), rdn_at h, List.getElem_append_left h]
theorem rdn_last (C : List CL) (x : CL) : rdn (C ++ [x]) C.length = x := by
  rw [rdn_at (by simp)]
  simp
def Ref (C : List CL) (v : Nat → Nat) (n : Int) (m : Nat) : Prop := n < 0 ∨ (0 ≤ n ∧ n < (C.length : Int) ∧ v n.toNat = m ∧ m ≠ 0)
structure Typed (C : List CL) (v : Nat → Nat) (N : Int) : Prop where
  cnt : ∀ j, j < C.length → v j ≠ 0 → 1 ≤ (rdn C j).f0 ∧ (rdn C j).f0 ≤ N
  one : ∀ j, j < C.length → v j = 1 → (rdn C j).f2 = []
  two : ∀ j, j < C.length → 2 ≤ v j → (rdn C j).f2.length = 4 ∧ (rdn C j).f1.size = 0 ∧ ∀ n ∈ (rdn C j).f2, Ref C v n (v j - 1)
  out : ∀ j, C.length ≤ j → v j = 0
theorem inc_some (v : Nat → Nat) : ∀ (ks : List Int) (C : List CL) (N : Int), (∀ j, j < C.length → v j ≠ 0 → 1 ≤ (rdn C j).f0 ∧ (rdn C j).f0 ≤ N) → N + ks.length ≤ 100000 → (∀ n ∈ ks, n < 0 ∨ (n < (C.length : Int) ∧ v n.toNat ≠ 0)) →
    ∃ D, incL ks C = some D ∧ D.length = C.length ∧ (∀ j, (rdn D j).f1 = (rdn C j).f1 ∧ (rdn D j).f2 = (rdn C j).f2) ∧ (∀ j, j < C.length → v j ≠ 0 → 1 ≤ (rdn D j).f0 ∧ (rdn D j).f0 ≤ N + ks.length) := by
  intro ks
  induction ks with
  | nil => intro C N hc hN hk; exact ⟨C, rfl, rfl, fun j => ⟨rfl, rfl⟩, fun j h1 h2 => by have := hc j h1 h2; simp; omega⟩
  | cons n r ih =>
    intro C N hc hN hk
    simp only [List.length_cons] at hN ⊢
    by_cases h0 : 0 ≤ n
    · rcases hk n (by simp) with e | ⟨h1, h2⟩
      · omega
      · have hl : n.toNat < C.length := by omega
        have hcn := hc n.toNat hl h2
        have ew : wrap64 ((rdn C n.toNat).f0 + 1) = (rdn C n.toNat).f0 + 1 := w64 (by omega) (by omega)
        have hset := rdn_set hl (⟨(rdn C n.toNat).f0 + 1, (rdn C n.toNat).f1, (rdn C n.toNat).f2⟩ : CL)
        obtain ⟨D, e1, e2, e3, e4⟩ := ih (C.set n.toNat ⟨(rdn C n.toNat).f0 + 1, (rdn C n.toNat).f1, (rdn C n.toNat).f2⟩) (N + 1) (fun j hj hv => by
          rw [List.length_set] at hj
          rw [hset]
          split
          · exact ⟨by show 1 ≤ (rdn C n.toNat).f0 + 1; omega, by show (rdn C n.toNat).f0 + 1 ≤ N + 1; omega⟩
          · have := hc j hj hv; omega) (by omega) (fun m hm => by rw [List.length_set]; exact hk m (by simp [hm]))
        refine ⟨D, ?_, by rw [e2, List.length_set], fun j => ?_, fun j hj hv => by have := e4 j (by rw [List.length_set]; exact hj) hv; omega⟩
        · simp only [incL]
          rw [if_pos h0, if_pos h1, rdn_int C h0, ew]
          exact e1
        · rw [(e3 j).1, (e3 j).2, hset]
          split
          · rename_i e; subst e; exact ⟨rfl, rfl⟩
          · exact ⟨rfl, rfl⟩
    · obtain ⟨D, e1, e2, e3, e4⟩ := ih C N hc (by omega) (fun m hm => hk m (by simp [hm]))
      refine ⟨D, ?_, e2, e3, fun j hj hv => by have := e4 j hj hv; omega⟩
      simp only [incL]
      rw [if_neg h0]
      exact e1
theorem new_some {D : List CL} {v : Nat → Nat} {N : Int} (hT : Typed D v N) (hN : 1 ≤ N) (x : CL) (l : Nat) (hl : 1 ≤ l) (hx0 : x.f0 = 1) (hx1 : l = 1 → x.f2 = []) (hx2 : 2 ≤ l → x.f2.length = 4 ∧ x.f1.size = 0 ∧ ∀ n ∈ x.f2, Ref D v n (l - 1)) :
    ∃ v1, Typed (newC D x).1 v1 N ∧ v1 (newC D x).2 = l ∧ (∀ j, j < D.length → v j ≠ 0 → v1 j = v j ∧ rdn (newC D x).1 j = rdn D j) ∧ rdn (newC D x).1 (newC D x).2 = x := by
  have key : ∀ (E : List CL) (k1 : Nat), D.length ≤ E.length → k1 < E.length → v k1 = 0 → (∀ j, j < E.length → j ≠ k1 → j < D.length) → (∀ j, j < D.length → j ≠ k1 → rdn E j = rdn D j) → rdn E k1 = x → ∃ v1 : Nat → Nat, Typed E v1 N ∧ v1 k1 = l ∧ (∀ j, j < D.length → v j ≠ 0 → v1 j = v j ∧ rdn E j = rdn D j) ∧ rdn E k1 = x := by
    intro E k1 h1 h2 h3 h4 h5 h6
    have hne : ∀ j, v j ≠ 0 → j ≠ k1 := fun j hj e => hj (e ▸ h3)
    have href : ∀ n m, Ref D v n m → Ref E (fun j => if j = k1 then l else v j) n m := fun n m hr => by
      rcases hr with e | ⟨r0, r1, r2, r3⟩
      · exact .inl e
      · refine .inr ⟨r0, by omega, ?_, r3⟩
        show (if n.toNat = k1 then l else v n.toNat) = m
        rw [if_neg (hne _ (by omega))]
        exact r2
    refine ⟨fun j => if j = k1 then l else v j, ⟨fun j hj hv => ?_, fun j hj hv => ?_, fun j hj hv => ?_, fun j hj => ?_⟩, if_pos rfl, fun j hj hv => ⟨if_neg (hne j hv), h5 j hj (hne j hv)⟩, h6⟩
    · by_cases e : j = k1
      · subst e; rw [h6, hx0]; omega
      · simp only [if_neg e] at hv
        rw [h5 j (h4 j hj e) e]
        exact hT.cnt j (h4 j hj e) hv
    · by_cases e : j = k1
      · subst e; simp only [if_pos] at hv; rw [h6]; exact hx1 hv
      · simp only [if_neg e] at hv
        rw [h5 j (h4 j hj e) e]
        exact hT.one j (h4 j hj e) hv
    · by_cases e : j = k1
      · subst e
        simp only [if_pos] at hv ⊢
        rw [h6]
        obtain ⟨a, b, c⟩ := hx2 hv
        exact ⟨a, b, fun n hn => href _ _ (c n hn)⟩
      · simp only [if_neg e] at hv ⊢
        rw [h5 j (h4 j hj e) e]
        obtain ⟨a, b, c⟩ := hT.two j (h4 j hj e) hv
        exact ⟨a, b, fun n hn => href _ _ (c n hn)⟩
    · show (if j = k1 then l else v j) = 0
      rw [if_neg (by omega)]
      exact hT.out j (by omega)
  unfold newC
  split
  · rename_i hf
    exact key _ _ (by simp) (by simp) (hT.out _ (Nat.le_refl _)) (fun j hj hne => by simp at hj; omega) (fun j hj _ => rdn_push D x j hj) (rdn_last D x)
  · rename_i hf
    have hlt := freeK_lt D hf
    refine key _ _ (by simp) (by simpa using hlt) ?_ (fun j hj _ => by simpa using hj) (fun j hj hne => ?_) ?_
    · rcases freeFrom_lt D 0 with e | ⟨j, hj, e, he⟩
      · exact absurd (show freeK D < 0 by unfold freeK; omega) hf
      · have ej : (freeK D).toNat = j := by unfold freeK; omega
        rw [ej]
        by_cases hv : v j = 0
        · exact hv
        · have := hT.cnt j hj hv
          rw [rdn_at hj, he] at this
          omega
    · rw [rdn_set hlt, if_neg hne]
    · rw [rdn_set hlt, if_pos rfl]
theorem own_some {C : List CL} {v : Nat → Nat} {N : Int} (hT : Typed C v N) (hN : 1 ≤ N ∧ N ≤ 90000) (hn : C.length ≤ 1000000) {k : Int} {l : Nat} (hl : 1 ≤ l) (hk : Ref C v k l) :
    ∃ C1 k1 v1, ownM C k l = some (C1, k1) ∧ Typed C1 v1 (N + 4) ∧ C.length ≤ C1.length ∧ C1.length ≤ C.length + 1 ∧ k1 < C1.length ∧ v1 k1 = l ∧ (∀ j, j < C.length → v j ≠ 0 → v1 j = v j ∧ (rdn C1 j).f1 = (rdn C j).f1 ∧ (rdn C1 j).f2 = (rdn C j).f2) ∧ (0 ≤ k → (rdn C1 k1).f2 = (rdn C k.toNat).f2) := by
  have hw : ∀ {D : List CL} {w : Nat → Nat} {M M' : Int}, Typed D w M → M ≤ M' → Typed D w M' := fun h hM => ⟨fun j hj hv => by have := h.cnt j hj hv; omega, h.one, h.two, h.out⟩
  by_cases h0 : k < 0
  · obtain ⟨v1, t1, t2, t3, t4⟩ := new_some hT hN.1 ⟨1, ⟨#[]⟩, if l = 1 then [] else [-1, -1, -1, -1]⟩ l hl rfl (fun e => by rw [if_pos e]) (fun e => by rw [if_neg (by omega)]; exact ⟨rfl, rfl, fun n hn => .inl (by simp at hn; omega)⟩)
    have hlen := newC_len C ⟨1, ⟨#[]⟩, if l = 1 then [] else [-1, -1, -1, -1]⟩
    refine ⟨_, _, v1, by unfold ownM; rw [if_pos hn, if_pos h0], hw t1 (by omega), hlen.1, hlen.2, newC_lt _ _, t2, fun j hj hv => ⟨(t3 j hj hv).1, by rw [(t3 j hj hv).2], by rw [(t3 j hj hv).2]⟩, fun h => by omega⟩
  · obtain ⟨r0, r1, r2, r3⟩ : 0 ≤ k ∧ k < (C.length : Int) ∧ v k.toNat = l ∧ l ≠ 0 := hk.resolve_left h0
    have hkl : k.toNat < C.length := by omega
    have hcn := hT.cnt k.toNat hkl (by omega)
    have hrd := rdn_int C r0
    by_cases h1 : (rdn C k.toNat).f0 = 1
    · exact ⟨C, k.toNat, v, by unfold ownM; rw [if_pos hn, if_neg h0, if_pos r1, hrd, if_pos h1], hw hT (by omega), Nat.le_refl _, by omega, hkl, r2, fun j hj hv => ⟨rfl, rfl, rfl⟩, fun _ => rfl⟩
    · have hkids : (rdn C k.toNat).f2.length ≤ 4 ∧ (∀ n ∈ (rdn C k.toNat).f2, Ref C v n (l - 1)) := by
        by_cases e1 : l = 1
        · rw [hT.one k.toNat hkl (by omega)]; simp
        · obtain ⟨a, _, c⟩ := hT.two k.toNat hkl (by omega)
          rw [r2] at c
          exact ⟨by omega, c⟩
      have ew : wrap64 ((rdn C k.toNat).f0 - 1) = (rdn C k.toNat).f0 - 1 := w64 (by omega) (by omega)
      have hset := rdn_set hkl (⟨(rdn C k.toNat).f0 - 1, (rdn C k.toNat).f1, (rdn C k.toNat).f2⟩ : CL)
      obtain ⟨D, e1, e2, e3, e4⟩ := inc_some v (rdn C k.toNat).f2 (C.set k.toNat ⟨(rdn C k.toNat).f0 - 1, (rdn C k.toNat).f1, (rdn C k.toNat).f2⟩) N (fun j hj hv => by
        rw [List.length_set] at hj
        rw [hset]
        split
        · exact ⟨by show 1 ≤ (rdn C k.toNat).f0 - 1; omega, by show (rdn C k.toNat).f0 - 1 ≤ N; omega⟩
        · exact hT.cnt j hj hv) (by omega) (fun n hn => by
        rw [List.length_set]
        rcases hkids.2 n hn with e | ⟨a, b, c, d⟩
        · exact .inl e
        · exact .inr ⟨b, by omega⟩)
      rw [List.length_set] at e2
      have hf : ∀ j, (rdn D j).f1 = (rdn C j).f1 ∧ (rdn D j).f2 = (rdn C j).f2 := fun j => by
        rw [(e3 j).1, (e3 j).2, hset]
        split
        · rename_i e; subst e; exact ⟨rfl, rfl⟩
        · exact ⟨rfl, rfl⟩
      have hrefD : ∀ n m, Ref C v n m → Ref D v n m := fun n m h => by unfold Ref at h ⊢; rw [e2]; exact h
      have hTD : Typed D v (N + 4) := ⟨fun j hj hv => by have := e4 j (by rw [List.length_set]; omega) hv; omega, fun j hj hv => by rw [(hf j).2]; exact hT.one j (by omega) hv, fun j hj hv => by
        rw [(hf j).1, (hf j).2]
        obtain ⟨a, b, c⟩ := hT.two j (by omega) hv
        exact ⟨a, b, fun n hn => hrefD _ _ (c n hn)⟩, fun j hj => hT.out j (by omega)⟩
      obtain ⟨v1, t1, t2, t3, t4⟩ := new_some hTD (by omega) ⟨1, (rdn C k.toNat).f1, (rdn C k.toNat).f2⟩ l hl rfl (fun e => hT.one k.toNat hkl (by omega)) (fun e => by
        obtain ⟨a, b, c⟩ := hT.two k.toNat hkl (by omega)
        rw [r2] at c
        exact ⟨a, b, fun n hn => hrefD _ _ (c n hn)⟩)
      have hlen := newC_len D ⟨1, (rdn C k.toNat).f1, (rdn C k.toNat).f2⟩
      refine ⟨_, _, v1, ?_, t1, by omega, by omega, newC_lt _ _, t2, fun j hj hv => ⟨(t3 j (by omega) hv).1, by rw [(t3 j (by omega) hv).2]; exact (hf j).1, by rw [(t3 j (by omega) hv).2]; exact (hf j).2⟩, fun _ => by rw [t4]⟩
      unfold ownM
      rw [if_pos hn, if_neg h0, if_pos r1, hrd, if_neg h1, if_pos (by omega), ew, e1]
      rfl
def leafZ (dg : Nat → Int) (C : List CL) : Nat → Int → Prop
  | 0, _ => True
  | l + 1, k => 0 ≤ k ∧ (l = 0 ∨ leafZ dg C l (rd (rdn C k.toNat).f2 (dg (l + 1))))
theorem rd_memI {ks : List Int} {d : Int} (h0 : 0 ≤ d) (h : d < (ks.length : Int)) : rd ks d ∈ ks := by
  have hl : d.toNat < ks.length := by omega
  have e := rd_getD hl
  rw [show ((d.toNat : Nat) : Int) = d by omega] at e
  rw [e]
  exact List.getElem_mem hl
theorem leafZ_eq (dg : Nat → Int) {C C1 : List CL} {v : Nat → Nat} {N : Int} (hT : Typed C v N) (hd : ∀ j, 2 ≤ j → j ≤ 3 → 0 ≤ dg j ∧ dg j < 4) (hf : ∀ j, j < C.length → v j ≠ 0 → (rdn C1 j).f2 = (rdn C j).f2) : ∀ (l : Nat) (k : Int), l ≤ 3 → Ref C v k l → leafZ dg C l k → leafZ dg C1 l k := by
  intro l
  induction l with
  | zero => intro k _ _ _; trivial
  | succ l ih =>
    rintro k hl hk ⟨h0, h1⟩
    refine ⟨h0, h1.imp id (fun h2 => ?_)⟩
    obtain ⟨r0, r1, r2, r3⟩ : 0 ≤ k ∧ k < (C.length : Int) ∧ v k.toNat = l + 1 ∧ l + 1 ≠ 0 := hk.resolve_left (by omega)
    rw [hf k.toNat (by omega) (by omega)]
    by_cases e : l = 0
    · subst e; trivial
    · obtain ⟨a, _, c⟩ := hT.two k.toNat (by omega) (by omega)
      have hdg := hd (l + 1) (by omega) (by omega)
      have h3 := c _ (rd_memI hdg.1 (by omega))
      rw [r2] at h3
      exact ih _ (by omega) h3 h2
theorem put_some (dg : Nat → Int) (leaf : ByteArray) (hd : ∀ j, 2 ≤ j → j ≤ 3 → 0 ≤ dg j ∧ dg j < 4) : ∀ (l : Nat) (C : List CL) (v : Nat → Nat) (k : Int) (N : Int), 1 ≤ l → l ≤ 3 → Typed C v N → 1 ≤ N ∧ N + 4 * l ≤ 90000 → C.length + l ≤ 1000000 → Ref C v k l → (leaf.size = 0 → leafZ dg C l k) →
    ∃ C2 z2, putM dg leaf l C k = some (C2, z2) ∧ C.length ≤ C2.length ∧ ∀ j, j < C.length → l < v j → (rdn C2 j).f1 = (rdn C j).f1 ∧ (rdn C2 j).f2 = (rdn C j).f2 := by
  intro l
  induction l with
  | zero => intro C v k N h1; omega
  | succ l ih =>
    intro C v k N _ hl3 hT hN hn hk hz
    obtain ⟨C1, k1, v1, e1, t1, t2, t3, t4, t5, t6, t7⟩ := own_some hT ⟨hN.1, by omega⟩ (by omega) (l := l + 1) (by omega) hk
    have hlk : ¬ (leaf.size = 0 ∧ k < 0) := fun h => by have := (hz h.1).1; omega
    simp only [putM]
    rw [if_neg hlk, e1, Option.bind_some]
    simp only
    have far : ∀ j, j < C.length → l + 1 < v j → j ≠ k1 := fun j hj hv e => by have := (t6 j hj (by omega)).1; rw [e, t5] at this; rw [e] at hv; omega
    have rk : rd_T68 C1 (k1 : Int) = rdn C1 k1 := rfl
    by_cases h0 : l = 0
    · rw [if_pos h0]
      have fin : ∀ x : CL, C.length ≤ (C1.set k1 x).length ∧ ∀ j, j < C.length → l + 1 < v j → (rdn (C1.set k1 x) j).f1 = (rdn C j).f1 ∧ (rdn (C1.set k1 x) j).f2 = (rdn C j).f2 := fun x => ⟨by rw [List.length_set]; exact t2, fun j hj hv => by rw [rdn_set t4, if_neg (far j hj hv)]; exact (t6 j hj (by omega)).2⟩
      split
      · exact ⟨_, _, rfl, fin _⟩
      · exact ⟨_, _, rfl, fin _⟩
    · rw [if_neg h0]
      have hdg := hd (l + 1) (by omega) (by omega)
      obtain ⟨a, b, c⟩ := t1.two k1 t4 (by omega)
      rw [t5] at c
      rw [rk, if_pos ⟨hdg.1, hdg.2, a⟩]
      have hkid := c _ (rd_memI hdg.1 (by omega))
      obtain ⟨C2, z2, q1, q2, q3⟩ := ih C1 v1 (rd (rdn C1 k1).f2 (dg (l + 1))) (N + 4) (by omega) (by omega) t1 ⟨by omega, by omega⟩ (by omega) hkid (fun h => by
        obtain ⟨p0, p1⟩ := hz h
        rw [t7 p0]
        obtain ⟨r0, r1, r2, r3⟩ : 0 ≤ k ∧ k < (C.length : Int) ∧ v k.toNat = l + 1 ∧ l + 1 ≠ 0 := hk.resolve_left (by omega)
        obtain ⟨a', _, c'⟩ := hT.two k.toNat (by omega) (by omega)
        have h3 := c' _ (rd_memI hdg.1 (by omega))
        rw [r2] at h3
        exact leafZ_eq dg hT hd (fun j hj hv => (t6 j hj hv).2.2) l _ (by omega) h3 (p1.resolve_left h0))
      rw [q1, Option.bind_some]
      simp only
      obtain ⟨s1, s2⟩ := q3 k1 t4 (by omega)
      have rk2 : rd_T68 C2 (k1 : Int) = rdn C2 k1 := rfl
      have hk2 : k1 < C2.length := by omega
      rw [rk2, if_pos ⟨hk2, by rw [s2]; exact a, by rw [s1]; exact b⟩]
      have fin : ∀ x : CL, C.length ≤ (C2.set k1 x).length ∧ ∀ j, j < C.length → l + 1 < v j → (rdn (C2.set k1 x) j).f1 = (rdn C j).f1 ∧ (rdn (C2.set k1 x) j).f2 = (rdn C j).f2 := fun x => ⟨by rw [List.length_set]; omega, fun j hj hv => by
        rw [rdn_set hk2, if_neg (far j hj hv)]
        have h6 := t6 j hj (by omega)
        have h7 := q3 j (by omega) (by omega)
        exact ⟨h7.1.trans h6.2.1, h7.2.trans h6.2.2⟩⟩
      split
      · exact ⟨_, _, rfl, fin _⟩
      · exact ⟨_, _, rfl, fin _⟩
section
variable {C : List CL} {roots : List Int} {L : Int} {V c v : List Int}
theorem cnt_le (hI : Inv C roots L V [] c v) (hn : C.length ≤ 80) (hr : roots.length ≤ 8) (k : Int) (h0 : 0 ≤ k) (h1 : k < (C.length : Int)) : rd c k ≤ 328 := by
  have h2 := hI.cnts k h0 h1
  have h3 : roots.count k ≤ roots.length := List.count_le_length
  have h4 : (V.flatMap (kidsOf C)).count k ≤ (V.flatMap (kidsOf C)).length := List.count_le_length
  have h5 := flat_len (kidsOf C) V (fun z hz => by
    obtain ⟨z0, z1⟩ := hI.vin z hz
    have hg := hI.good z hz
    exact (goodB_kids hg.1).1)
  have h6 := hI.len
  simp only [List.map_nil, List.count_nil] at h2
  omega
def vOf (C : List CL) (v : List Int) (j : Nat) : Nat := if j < C.length then (rd v (j : Int)).toNat else 0
theorem ref_of {m : Nat} {k : Int} (hk : RefOK C v (k, (m : Int))) : Ref C (vOf C v) k m := by
  rcases hk with e | ⟨h0, h1, h2, h3⟩
  · simp only at e; exact .inl (by omega)
  · simp only at h0 h1 h2 h3
    refine .inr ⟨h0, h1, ?_, by omega⟩
    unfold vOf
    rw [if_pos (by omega), show ((k.toNat : Nat) : Int) = k by omega, h2]
    omega
theorem typed_of (hI : Inv C roots L V [] c v) (hE : endM C c C.length 0 = true) (hn : C.length ≤ 80) (hr : roots.length ≤ 8) (h1 : 1 ≤ L) : Typed C (vOf C v) 328 := by
  have hc : ∀ j, j < C.length → (rdn C j).f0 = rd c (j : Int) := by
    have gen : ∀ f i, endM C c f i = true → ∀ j, i ≤ j → j < i + f → (rdn C j).f0 = rd c (j : Int) := by
      intro f
      induction f with
      | zero => intro i _ j h1 h2; omega
      | succ f ih =>
        intro i h j h1 h2
        unfold endM at h
        split at h
        · rename_i ho
          by_cases e : j = i
          · subst e
            unfold okEnd at ho
            split at ho
            · assumption
            · cases ho
          · exact ih (i + 1) h j (by omega) (by omega)
        · cases h
    exact fun j hj => gen _ _ hE j (by omega) (by omega)
  have hv : ∀ j, j < C.length → vOf C v j ≠ 0 → (j : Int) ∈ V ∧ 1 ≤ rd v (j : Int) ∧ vOf C v j = (rd v (j : Int)).toNat := fun j hj h => by
    unfold vOf at h ⊢
    rw [if_pos hj] at h ⊢
    have hm := (hI.vl (j : Int) (by omega) (by omega)).1 (by omega)
    exact ⟨hm, (hI.good _ hm).2.1, rfl⟩
  refine ⟨fun j hj h => ?_, fun j hj h => ?_, fun j hj h => ?_, fun j hj => by unfold vOf; rw [if_neg (by omega)]⟩
  · rw [hc j hj]
    exact ⟨(hI.pos (j : Int) (by omega) (by omega)).1 (hv j hj h).1, cnt_le hI hn hr _ (by omega) (by omega)⟩
  · obtain ⟨hm, h2, h3⟩ := hv j hj (by omega)
    have hk : RefOK C v ((j : Int), ((0 : Nat) : Int) + 1) := .inr ⟨by show (0 : Int) ≤ j; omega, by show (j : Int) < C.length; omega, by show rd v (j : Int) = _; omega, by show ((0 : Nat) : Int) + 1 ≠ 0; omega⟩
    exact (hI.below hk (by omega)).2.2.2.2.1 rfl
  · obtain ⟨hm, h2, h3⟩ := hv j hj (by omega)
    obtain ⟨m, hm2⟩ : ∃ m : Nat, rd v (j : Int) = (m : Int) + 1 := ⟨(rd v (j : Int)).toNat - 1, by omega⟩
    have hk : RefOK C v ((j : Int), (m : Int) + 1) := .inr ⟨by show (0 : Int) ≤ j; omega, by show (j : Int) < C.length; omega, hm2, by show (m : Int) + 1 ≠ 0; omega⟩
    obtain ⟨_, _, g, _, _, g2, g3⟩ := hI.below hk (by omega)
    refine ⟨g2 (by omega), ?_, fun n hn => ?_⟩
    · have := good_node g (by omega)
      unfold okNode at this
      split at this
      · split at this
        · exact of_decide_eq_true this
        · cases this
      · cases this
    · rw [h3, show (rd v (j : Int)).toNat - 1 = m by omega]
      exact ref_of (g3 n hn)
theorem kids_of (hI : Inv C roots L V [] c v) (hE : endM C c C.length 0 = true) : ∀ x ∈ C, x.f2.length ≤ 4 := by
  have gen : ∀ f i, endM C c f i = true → ∀ j, i ≤ j → j < i + f → okEnd (rdn C j) (rd c (j : Int)) = true := by
    intro f
    induction f with
    | zero => intro i _ j h1 h2; omega
    | succ f ih =>
      intro i h j h1 h2
      unfold endM at h
      split at h
      · rename_i ho
        by_cases e : j = i
        · subst e; exact ho
        · exact ih (i + 1) h j (by omega) (by omega)
      · cases h
  intro x hx
  obtain ⟨j, hj, rfl⟩ := List.mem_iff_getElem.1 hx
  rw [← rdn_at hj]
  have ho := gen _ _ hE j (by omega) (by omega)
  by_cases hm : (j : Int) ∈ V
  · exact (goodB_kids (hI.good _ hm).1).1
  · have h0 := (hI.pos (j : Int) (by omega) (by omega)).2 hm
    unfold okEnd at ho
    split at ho
    · rename_i e
      rw [h0] at e
      rw [if_pos e] at ho
      split at ho
      · have := of_decide_eq_true ho; omega
      · cases ho
    · cases ho
theorem dg_bound (q : Int) (h0 : 0 ≤ q) (h1 : q < 16) : ∀ j, 2 ≤ j → j ≤ 3 → 0 ≤ dgI q j ∧ dgI q j < 4 := by
  intro j h2 h3
  obtain rfl | rfl : j = 2 ∨ j = 3 := by omega
  · unfold dgI
    rw [show ((2 : Nat) : Int) = 2 by rfl, digit_2 q h0 h1]
    show 0 ≤ q % 4 ∧ q % 4 < 4
    omega
  · unfold dgI
    rw [show ((3 : Nat) : Int) = 3 by rfl, digit_3 q h0 h1]
    show 0 ≤ q / 4 ∧ q / 4 < 4
    omega
theorem path_empty (hI : Inv C roots L V [] c v) (q : Int) (h0 : 0 ≤ q) (h1 : q < 16) : ∀ (l : Nat) (k : Int), 1 ≤ l → l ≤ 3 → RefOK C v (k, (l : Int)) → ¬ leafZ (dgI q) C l k → Ev (fun n => impl_Cow_leafAt.l0 n q k (l : Int) C roots L) ⟨#[]⟩ := by
  intro l
  induction l with
  | zero => intro k h; omega
  | succ l ih =>
    intro k _ hl hk hz
    by_cases hk0 : k < 0
    · exact Ev.step (fun _ => impl_Cow_leafAt.l0.eq_2 ..) (ev_neg (by omega) (ev_pos (by omega) (ev_ret rfl)))
    · by_cases e : l = 0
      · subst e
        exact absurd ⟨by omega, .inl rfl⟩ hz
      · obtain ⟨k0, k1, _, _, _, k6, k7⟩ := hI.below (m := l) (by simpa using hk) (by omega)
        have kl := k6 e
        have hdg := dg_bound q h0 h1 (l + 1) (by omega) (by omega)
        have hm := rd_memI hdg.1 (by rw [kl]; omega : dgI q (l + 1) < ((rd_T68 C k).f2.length : Int))
        have ew : wrap64 (((l + 1 : Nat) : Int) - 1) = (l : Int) := by rw [w64 (by omega) (by omega)]; omega
        have hr := ih _ (by omega) (by omega) (k7 _ hm) (fun h => hz ⟨by omega, .inr (by rw [rdn_int C k0] at h; exact h)⟩)
        refine Ev.step (fun _ => impl_Cow_leafAt.l0.eq_2 ..) (ev_pos k0 (ev_pos (by omega) (ev_pos k0 (ev_pos k1 (ev_bindc (dgI_some q (l + 1) (by omega) (by omega)) (ev_pos hdg.1 (ev_pos (by rw [kl]; omega) ?_)))))))
        rw [ew]
        exact hr
end
theorem ev_ten {α : Type} {f : Nat → Option α} {A : Prop} [Decidable A] {r : α} (hA : A) (h : Ev f r) : Ev (fun k => if 10 ≤ k ∧ A then f k else none) r := by
  obtain ⟨k0, h⟩ := h
  exact ⟨max k0 10, fun k hk => by
    show (if 10 ≤ k ∧ A then f k else none) = some r
    rw [if_pos ⟨by omega, hA⟩]
    exact h k (by omega)⟩
theorem put_full (C : List CL) (roots : List Int) (L a q : Int) (leaf : ByteArray) (hk : ∀ x ∈ C, x.f2.length ≤ 1048576) : ∃ C1 R1 L1 b, C1.length ≤ 80 ∧ R1.length ≤ 8 ∧ (∀ x ∈ C1, x.f2.length ≤ 1048576) ∧ (b = true → 1 ≤ R1.length ∧ 1 ≤ L1 ∧ L1 ≤ 3) ∧ Ev (fun k => spec_PutLeaf.f k C roots L a q leaf) (C1, R1, L1, b) ∧ Ev (fun k => impl_PutLeaf.f k C roots L a q leaf) (C1, R1, L1, b) := by
  obtain ⟨g, hb1, hb2⟩ := spec_impl C roots L
  unfold spec_PutLeaf.f impl_PutLeaf.f
  cases g with
  | false => exact ⟨[], [], 0, false, by simp, by simp, by simp, by simp, Ev.bind hb1 (ev_false rfl (ev_ret rfl)), ev_bindc (is_root C roots L a false (by simp) hb2) (ev_false rfl (ev_ret rfl))⟩
  | true =>
    obtain ⟨hL1, hL3, hn, hr1, hr8, V, c, v, hI, hE⟩ := good_tree hb2
    have hR := is_root C roots L a true (fun _ => hr8) hb2
    have hS := l1In_root a roots hr8
    by_cases ha : 0 ≤ a ∧ a < (roots.length : Int)
    · have da := decide_eq_true ha
      obtain ⟨hp1, hp2⟩ := places_both C roots L hL1 hL3
      have hpl : 1 ≤ plc L ∧ plc L ≤ 16 := by
        unfold plc
        split
        · omega
        · split <;> omega
      have ep : wrap64 (plc L - 1) = plc L - 1 := w64 (by omega) (by omega)
      by_cases hq : 0 ≤ q ∧ q ≤ plc L - 1
      · have eS : spec_l1In.f q 0 (wrap64 (plc L - 1)) = some true := by rw [ep, in_dec, decide_eq_true hq]
        have eI : impl_within.f q 0 (wrap64 (plc L - 1)) = some true := by rw [ep, within_inR]; unfold inR; rw [decide_eq_true hq]
        by_cases h8 : (leaf.size : Int) > 8
        · exact ⟨[], [], 0, false, by simp, by simp, by simp, by simp, Ev.bind hb1 (ev_true rfl (ev_bindc hS (ev_true da (Ev.bind hp1 (ev_bindc eS (ev_true rfl (ev_pos h8 (ev_ret rfl)))))))), ev_bindc hR (ev_true (by rw [da]; rfl) (ev_bindc hp2 (ev_bindc eI (ev_true rfl (ev_pos h8 (ev_ret rfl))))))⟩
        · obtain ⟨r, er1, er2⟩ := leaf_both hI hL1 hL3 a q ha hq.1 (by omega)
          have hcond : ownB C roots = true ∧ 0 ≤ L ∧ L ≤ 1000 := ⟨ownB_of (by omega) (by omega) hk, by omega, by omega⟩
          suffices h : ∃ C1 R1 L1 b, C1.length ≤ 80 ∧ R1.length ≤ 8 ∧ (∀ x ∈ C1, x.f2.length ≤ 1048576) ∧ (b = true → 1 ≤ R1.length ∧ 1 ≤ L1 ∧ L1 ≤ 3) ∧ Ev (fun k => putSp k C roots L a q leaf) (C1, R1, L1, b) ∧ Ev (fun k => putI k C roots L a q leaf) (C1, R1, L1, b) by
            obtain ⟨C1, R1, L1, b, u1, u2, u3, u3_, u4, u5⟩ := h
            exact ⟨C1, R1, L1, b, u1, u2, u3, u3_, Ev.bind hb1 (ev_true rfl (ev_bindc hS (ev_true da (Ev.bind hp1 (ev_bindc eS (ev_true rfl (ev_neg h8 u4))))))), ev_bindc hR (ev_true (by rw [da]; rfl) (ev_bindc hp2 (ev_bindc eI (ev_true rfl (ev_neg h8 u5)))))⟩
          unfold putSp putI
          by_cases hle : r = leaf
          · refine ⟨C, roots, L, true, hn, by omega, hk, fun _ => ⟨by omega, hL1, hL3⟩, ev_pos ha (Ev.bind er1 (ev_pos hle (Ev.bind (own_ev C roots L (by omega) hk (by omega)) (ev_ret rfl)))), ev_pos hcond (Ev.bind er2 (ev_bindc (a := (C, roots)) (by unfold putR; rw [if_pos hle]) (ev_bindc (a := true) hb2 (ev_true rfl (ev_ret rfl)))))⟩
          · have hkr := root_ref hI a ha.1 ha.2
            have hLn : ((L.toNat : Nat) : Int) = L := by omega
            obtain ⟨C2, z2, e2, e3, _⟩ := put_some (dgI q) leaf (dg_bound q hq.1 (by omega)) L.toNat C (vOf C v) (rd roots a) 328 (by omega) (by omega) (typed_of hI hE hn (by omega) hL1) ⟨by omega, by omega⟩ (by omega) (ref_of (by rw [hLn]; exact hkr)) (fun h => by
              refine Classical.byContradiction fun hz => hle ?_
              have hp := path_empty hI q hq.1 (by omega) L.toNat (rd roots a) (by omega) (by omega) (by rw [hLn]; exact hkr) hz
              rw [hLn] at hp
              have hp2 : Ev (fun n => impl_Cow_leafAt.f n C roots L a q) ⟨#[]⟩ := by
                unfold impl_Cow_leafAt.f
                exact ev_pos ha.1 (ev_pos ha.2 hp)
              rw [ev_unique er2 hp2, empty_of_size h])
            obtain ⟨g2, f1, f2⟩ := spec_impl C2 (roots.set a.toNat z2) L
            have fI : impl_GoodCow.f C2 (roots.set a.toNat z2) L = some g2 := f2
            have eR : putR q leaf r C roots L a = some (C2, roots.set a.toNat z2) := by
              unfold putR
              rw [if_neg hle, if_pos ha, e2]
              rfl
            have hd2 : 1 ≤ L ∧ L ≤ 3 ∧ 0 ≤ q ∧ q < plc L := ⟨hL1, hL3, hq.1, by omega⟩
            cases g2 with
            | false =>
              refine ⟨[], [], 0, false, by simp, by simp, by simp, by simp, ev_pos ha (Ev.bind er1 (ev_neg hle (ev_ten hd2 (Ev.bind (own_ev C roots L (by omega) hk (by omega)) ?_)))), ev_pos hcond (Ev.bind er2 (ev_bindc eR (ev_bindc fI (ev_false rfl (ev_ret rfl)))))⟩
              unfold putSd
              exact ev_pos ha.2 (ev_bindc e2 (Ev.bind f1 (ev_false rfl (ev_ret rfl))))
            | true =>
              obtain ⟨_, _, hn2, _, hr82, V2, c2, v2, hI2, hE2⟩ := good_tree f2
              refine ⟨C2, roots.set a.toNat z2, L, true, hn2, by omega, fun x hx => by have := kids_of hI2 hE2 x hx; omega, fun _ => ⟨by rw [List.length_set]; omega, hL1, hL3⟩, ev_pos ha (Ev.bind er1 (ev_neg hle (ev_ten hd2 (Ev.bind (own_ev C roots L (by omega) hk (by omega)) ?_)))), ev_pos hcond (Ev.bind er2 (ev_bindc eR (ev_bindc fI (ev_true rfl (ev_ret rfl)))))⟩
              unfold putSd
              exact ev_pos ha.2 (ev_bindc e2 (Ev.bind f1 (ev_true rfl (ev_ret rfl))))
      · have eS : spec_l1In.f q 0 (wrap64 (plc L - 1)) = some false := by rw [ep, in_dec, decide_eq_false hq]
        have eI : impl_within.f q 0 (wrap64 (plc L - 1)) = some false := by rw [ep, within_inR]; unfold inR; rw [decide_eq_false hq]
        exact ⟨[], [], 0, false, by simp, by simp, by simp, by simp, Ev.bind hb1 (ev_true rfl (ev_bindc hS (ev_true da (Ev.bind hp1 (ev_bindc eS (ev_false rfl (ev_ret rfl))))))), ev_bindc hR (ev_true (by rw [da]; rfl) (ev_bindc hp2 (ev_bindc eI (ev_false rfl (ev_ret rfl)))))⟩
    · have da := decide_eq_false ha
      exact ⟨[], [], 0, false, by simp, by simp, by simp, by simp, Ev.bind hb1 (ev_true rfl (ev_bindc hS (ev_false da (ev_ret rfl)))), ev_bindc hR (ev_false (by rw [da]; rfl) (ev_ret rfl))⟩
theorem put_both (C : List CL) (roots : List Int) (L a q : Int) (leaf : ByteArray) (hk : ∀ x ∈ C, x.f2.length ≤ 1048576) : ∃ C1 R1 L1 b, C1.length ≤ 80 ∧ R1.length ≤ 8 ∧ (∀ x ∈ C1, x.f2.length ≤ 1048576) ∧ Ev (fun k => spec_PutLeaf.f k C roots L a q leaf) (C1, R1, L1, b) ∧ Ev (fun k => impl_PutLeaf.f k C roots L a q leaf) (C1, R1, L1, b) := by
  obtain ⟨C1, R1, L1, b, h1, h2, h3, _, h4⟩ := put_full C roots L a q leaf hk
  exact ⟨C1, R1, L1, b, h1, h2, h3, h4⟩
open Go.RowKit Go.Proofs.YtacfalpgmibfnaaW.PrintWords Go.Proofs.YtacfalpgmibfnaaW.PrintLast Go.Proofs.YtacfalpgmibfnaaW.PrintMore
attribute [local go_sem] max2_int min2_int max_two min_two max_three min_three max_four min_four
set_option linter.unusedVariables false
set_option linter.unusedSimpArgs false
def impl_LeavesOf.l0 : Nat → Int → List ByteArray → Int → Int → List (S68) → List Int → Int → Option (List ByteArray × Bool)
 | 0, _, _, _, _, _, _, _ => none
 | k + 1, x1, x6, x14, x15, x340000, x340001, x340002 => if x15 < x14 then ((impl_Cow_leafAt.f k x340000 x340001 x340002 x1 x15).bind fun t345 => (if x6.length < 8796093022208 then (impl_LeavesOf.l0 k x1 (x6 ++ [t345]) x14 (wrap64 (x15 + 1)) x340000 x340001 x340002) else (none))) else (some (x6, true))
def impl_LeavesOf.f (k : Nat) (l0_0 : List (S68)) (l0_1 : List Int) (a0_2 : Int) (a1 : Int) : Option (List ByteArray × Bool) := (impl_isRoot.f l0_0 l0_1 a0_2 a1).bind fun t340 => (if t340 = true then ((impl_Cow_places.f l0_0 l0_1 a0_2).bind fun t344 => (impl_LeavesOf.l0 k a1 (([] : List ByteArray)) t344 0 l0_0 l0_1 a0_2)) else (some (([] : List ByteArray), false)))
set_option maxHeartbeats 8000000 in
set_option maxRecDepth 100000 in
theorem impl_LeavesOf.calls (k : Nat) (A0_0 : Option Addr) (c0_0 : Nat) (l0_0 : List (S68)) (A0_1 : Option Addr) (c0_1 : Nat) (l0_1 : List Int) (a0_2 : Int) (a1 : Int) (r1 : List ByteArray) (r2 : Bool) (w : World) (hr0_0 : Kd.C k68 w A0_0 l0_0.length l0_0) (hc0_0 : l0_0.length ≤ c0_0) (hr0_1 : Kd.C (Kd.int .i64) w A0_1 l0_1.length l0_1) (hc0_1 : l0_1.length ≤ c0_1) (h : impl_LeavesOf.f k l0_0 l0_1 a0_2 a1 = some (r1, r2)) :
  Calls Try.prog 30 #[.agg #[.slice A0_0 l0_0.length c0_0, .slice A0_1 l0_1.length c0_1, .int .i64 a0_2], .int .i64 a1] w fun e w' => ∃ v0_ : Value, e = .returned (.tuple #[v0_, .bool r2]) ∧ Kd.R Kd.string 9 w' w.heap.size (fun _ => True) v0_ r1 ∧ Below w.heap.size w w' := by
 have hu25 := Try.underlying25
 have HR0_0 := Aside0.mk hr0_0
 have HC0_0 := Aside0.mk hc0_0
 clear hr0_0 hc0_0
 have HR0_1 := Aside0.mk hr0_1
 have HC0_1 := Aside0.mk hc0_1
 clear hr0_1 hc0_1
 have HB := Aside0.mk (Below.refl w.heap.size w)
 have H : ((impl_isRoot.f l0_0 l0_1 a0_2 a1).bind fun t340 => (if t340 = true then ((impl_Cow_places.f l0_0 l0_1 a0_2).bind fun t344 => (impl_LeavesOf.l0 k a1 (([] : List ByteArray)) t344 0 l0_0 l0_1 a0_2)) else (some (([] : List ByteArray), false)))) = some (r1, r2) := h
 clear h
 replace H := Option.bind_eq_some_iff.mp H
 obtain ⟨t340, A30, H⟩ := H
 replace H : (if t340 = true then ((impl_Cow_places.f l0_0 l0_1 a0_2).bind fun t344 => (impl_LeavesOf.l0 k a1 (([] : List ByteArray)) t344 0 l0_0 l0_1 a0_2)) else (some (([] : List ByteArray), false))) = some (r1, r2) := H
 have A3 := Aside0.mk A30
 clear A30
 by_cases c4 : t340 = true
 ·subst c4
  have H1 : ((impl_Cow_places.f l0_0 l0_1 a0_2).bind fun t344 => (impl_LeavesOf.l0 k a1 (([] : List ByteArray)) t344 0 l0_0 l0_1 a0_2)) = some (r1, r2) := by rw [if_pos rfl] at H; exact H
  clear H
  have H := H1
  clear H1
  obtain ⟨y341, hy341⟩ : ∃ y_ : List ByteArray, y_ = (([] : List ByteArray)) := ⟨_, rfl⟩
  replace H : ((impl_Cow_places.f l0_0 l0_1 a0_2).bind fun t344 => (impl_LeavesOf.l0 k a1 y341 t344 0 l0_0 l0_1 a0_2)) = some (r1, r2) := by first | (rw [hy341]; with_reducible exact H) | (have H2_ := (Option.bind_some _ _).symm.trans H; rw [hy341]; with_reducible exact H2_) | (have H2_ := (Option.bind_some _ _).symm.trans H; with_reducible exact H2_) | with_reducible exact H | (rw [hy341]; exact H) | exact H
  have Ny341 := Aside0.mk hy341
  clear hy341
  replace H := Option.bind_eq_some_iff.mp H
  obtain ⟨t344, A50, H⟩ := H
  replace H : (impl_LeavesOf.l0 k a1 y341 t344 0 l0_0 l0_1 a0_2) = some (r1, r2) := H
  have A5 := Aside0.mk A50
  clear A50
  have H' := Aside0.mk H
  clear H
  go_enter Try.func30, Try.ntmps30
  go_wp2_with (first | ((with_reducible refine gate_dst (N := 2) rfl ?_); refine box_event ?hg (N := 2) ?hd (cs := #[.slice A0_0 l0_0.length c0_0, .slice A0_1 l0_1.length c0_1, .int .i64 a0_2]) (t := 25) ?hr ?_; (case hd => rfl); (case hg => rfl); (case hr => first | (go_simp; done) | (go_simp; rfl)); intro gb339 hg w6 hbox hb; have BK339 := Aside0.mk (hbox); have GW339 := Aside0.mk ((by rw [hg]; exact (below_size (by with_reducible repeat (first | exact HB.out | apply below_alloc | apply pw_below_drewN | apply below_drew1))) : w.heap.size ≤ gb339)); have GE339 := Aside0.mk ((by rw [hg]; exact (below_size (by with_reducible repeat (first | exact HB.out | apply below_alloc | apply pw_below_drewN | apply below_drew1))) : w.heap.size ≤ gb339)); replace HB := Aside0.mk (below_step (by with_reducible repeat (first | exact HB.out | apply below_alloc | apply pw_below_drewN | apply below_drew1)) hb); clear hb hbox hg; have hcz7_0 : w6.cell? ⟨gb339, 0, none⟩ = some (.slice A0_0 l0_0.length c0_0) := (blk_cell BK339.out 0).trans rfl; have hcz7_1 : w6.cell? ⟨gb339, 1, none⟩ = some (.slice A0_1 l0_1.length c0_1) := (blk_cell BK339.out 1).trans rfl; have hcz7_2 : w6.cell? ⟨gb339, 2, none⟩ = some (.int .i64 a0_2) := (blk_cell BK339.out 2).trans rfl; have hfz7_0 := blk_frozen BK339.out 0; have hfz7_1 := blk_frozen BK339.out 1; have hfz7_2 := blk_frozen BK339.out 2) | ((with_reducible refine gate_callee (f := 63) rfl ?_); refine goesL_ (some 10) rfl rfl Try.func63 (by kernel_rfl) rfl #[.agg #[.slice A0_0 l0_0.length c0_0, .slice A0_1 l0_1.length c0_1, .int .i64 a0_2], .int .i64 a1] rfl (by (try simp only [List.map_toArray, List.map_cons, List.map_nil]); first | done | rfl | (simp only [List.length_drop, List.length_take]; rfl)) ?_; (with_reducible refine (impl_isRoot.calls _ _ l0_0 _ _ l0_1 a0_2 a1 true _ ?side1 ?side2 ?side3 ?side4 A3.out).mono ?_); (case side1 => repeat (first | exact (Kd.C_below HR0_0.out HB.out) | (with_reducible refine Kd.C_alloc ?_ _) | (with_reducible refine Kd.C_drewN ?_ _) | (with_reducible refine Kd.C_drew ?_))); (case side2 => exact HC0_0.out); (case side3 => repeat (first | exact (Kd.C_below HR0_1.out HB.out) | (with_reducible refine Kd.C_alloc ?_ _) | (with_reducible refine Kd.C_drewN ?_ _) | (with_reducible refine Kd.C_drew ?_))); (case side4 => exact HC0_1.out); rintro e w8 ⟨rfl, hb⟩; refine ⟨_, rfl, ?_⟩; replace BK339 := Aside0.mk (blk_below (g := gb339) (o := .cells #[.slice A0_0 l0_0.length c0_0, .slice A0_1 l0_1.length c0_1, .int .i64 a0_2] 25 (0, 0)) (by (with_reducible repeat (first | refine blk_drewN ?_ _ | refine blk_drew ?_ | refine blk_alloc ?_ _)); exact BK339.out) hb); replace HB := Aside0.mk (below_step (by with_reducible repeat (first | exact HB.out | apply below_alloc | apply pw_below_drewN | apply below_drew1 | refine below_set ?_ GE339.out)) hb); (try clear hb); (try clear hb2); (try clear hk); (try clear hi)) | ((with_reducible refine gate_dst (N := 12) rfl ?_); refine Kd.R_lit Kd.string _ 9 ?hg (N := 12) ?hd (xs := ([] : List ByteArray)) (inner := []) (ok := fun _ => True) (okp := fun _ => True) ?hr ?hp (fun _ hk => hk) trivial (Below.refl _ _) (Nat.le_refl _) (by simp) ?_; (case hd => rfl); (case hg => rfl); (case hr => first | (go_simp; done) | (go_simp; rfl)); (case hp => exact (Reps.none _ _)); intro v342 w9 ho10 hb hg_ hnew_; clear hg_ hnew_; (first | rw [← Ny341.out] at ho10 | (simp only [Int.reduceToNat] at ho10; rw [← Ny341.out] at ho10)); have HO343 := Aside0.mk (Kd.R_lower ho10 (below_size (by with_reducible repeat (first | exact HB.out | apply below_alloc | apply pw_below_drewN | apply below_drew1 | refine below_set ?_ GE339.out)))); replace BK339 := Aside0.mk (blk_below (g := gb339) (o := .cells #[.slice A0_0 l0_0.length c0_0, .slice A0_1 l0_1.length c0_1, .int .i64 a0_2] 25 (0, 0)) (by (with_reducible repeat (first | refine blk_drewN ?_ _ | refine blk_drew ?_ | refine blk_alloc ?_ _)); exact BK339.out) hb); replace HB := Aside0.mk (below_step (by with_reducible repeat (first | exact HB.out | apply below_alloc | apply pw_below_drewN | apply below_drew1 | refine below_set ?_ GE339.out)) hb); clear hb ho10; have hcz11_0 : w9.cell? ⟨gb339, 0, none⟩ = some (.slice A0_0 l0_0.length c0_0) := (blk_cell BK339.out 0).trans rfl; have hcz11_1 : w9.cell? ⟨gb339, 1, none⟩ = some (.slice A0_1 l0_1.length c0_1) := (blk_cell BK339.out 1).trans rfl; have hcz11_2 : w9.cell? ⟨gb339, 2, none⟩ = some (.int .i64 a0_2) := (blk_cell BK339.out 2).trans rfl; have hfz11_0 := blk_frozen BK339.out 0; have hfz11_1 := blk_frozen BK339.out 1; have hfz11_2 := blk_frozen BK339.out 2) | ((with_reducible refine gate_callee (f := 64) rfl ?_); refine goesL_ (some 14) rfl rfl Try.func64 (by kernel_rfl) rfl #[.agg #[.slice A0_0 l0_0.length c0_0, .slice A0_1 l0_1.length c0_1, .int .i64 a0_2]] rfl (by (try simp only [List.map_toArray, List.map_cons, List.map_nil]); first | done | rfl | (simp only [List.length_drop, List.length_take]; rfl)) ?_; (with_reducible refine (impl_Cow_places.calls _ _ l0_0 _ _ l0_1 a0_2 t344 _ ?side1 ?side2 ?side3 ?side4 A5.out).mono ?_); (case side1 => repeat (first | exact (Kd.C_below HR0_0.out HB.out) | (with_reducible refine Kd.C_alloc ?_ _) | (with_reducible refine Kd.C_drewN ?_ _) | (with_reducible refine Kd.C_drew ?_))); (case side2 => exact HC0_0.out); (case side3 => repeat (first | exact (Kd.C_below HR0_1.out HB.out) | (with_reducible refine Kd.C_alloc ?_ _) | (with_reducible refine Kd.C_drewN ?_ _) | (with_reducible refine Kd.C_drew ?_))); (case side4 => exact HC0_1.out); rintro e w12 ⟨rfl, hb⟩; refine ⟨_, rfl, ?_⟩; replace HO343 := Aside0.mk (Kd.R_below (by (with_reducible repeat (first | apply Kd.R_alloc | apply Kd.R_drewN | apply Kd.R_drew)); exact HO343.out) hb); replace BK339 := Aside0.mk (blk_below (g := gb339) (o := .cells #[.slice A0_0 l0_0.length c0_0, .slice A0_1 l0_1.length c0_1, .int .i64 a0_2] 25 (0, 0)) (by (with_reducible repeat (first | refine blk_drewN ?_ _ | refine blk_drew ?_ | refine blk_alloc ?_ _)); exact BK339.out) hb); replace HB := Aside0.mk (below_step (by with_reducible repeat (first | exact HB.out | apply below_alloc | apply pw_below_drewN | apply below_drew1 | refine below_set ?_ GE339.out)) hb); (try clear hb); (try clear hb2); (try clear hk); (try clear hi)))
  go_loopg [6, 15] k (fun kq v6 v15 w' => ∃ (x6_1 : List ByteArray) (x15_1 : Int), v15 = .int .i64 x15_1 ∧ Aside0 (impl_LeavesOf.l0 kq a1 x6_1 t344 x15_1 l0_0 l0_1 a0_2 = some (r1, r2)) ∧ Aside0 (kq ≤ k) ∧ Aside0 (Kd.R Kd.string 9 w' w.heap.size (fun _ => True) v6 x6_1) ∧ Aside0 (w'.heap[gb339]? = some (.cells #[(.slice A0_0 l0_0.length c0_0), (.slice A0_1 l0_1.length c0_1), .int .i64 a0_2] 25 (0, 0))) ∧ Aside0 (Below w.heap.size w w'))
  case atStart => exact ⟨(y341), (0), (by first | rfl | (simp; done) | (simp [*]; done)), H', ⟨Nat.le_refl _⟩, ⟨by (with_reducible repeat (first | apply Kd.R_alloc | apply Kd.R_drewN | apply Kd.R_drew)); exact HO343.out⟩, ⟨by (with_reducible repeat (first | refine blk_drewN ?_ _ | refine blk_drew ?_ | refine blk_alloc ?_ _)); exact BK339.out⟩, ⟨by with_reducible repeat (first | exact HB.out | apply below_alloc | apply pw_below_drewN | apply below_drew1 | refine below_set ?_ GE339.out)⟩⟩
  case round =>
   clear H'
   try clear p2
   try clear c3
   try clear c4
   try clear c6
   try clear hcz11_0
   try clear hcz11_1
   try clear hcz11_2
   try clear hcz7_0
   try clear hcz7_1
   try clear hcz7_2
   try clear hfz11_0
   try clear hfz11_1
   try clear hfz11_2
   try clear hfz7_0
   try clear hfz7_1
   try clear hfz7_2
   obtain ⟨x6_1, x15_1, rfl, HA, HK1, HO_6, BK339, HB⟩ := hrel
   cases gk with
   | zero => exact absurd HA.out (by simp [impl_LeavesOf.l0])
   | succ k1 =>
    have H := HA.out
    clear HA
    simp only [impl_LeavesOf.l0] at H
    by_cases c13 : x15_1 < t344
    ·rw [if_pos c13] at H
     have c13b0 : decide (x15_1 < t344) = true := decide_eq_true c13
     clear c13
     replace H := Option.bind_eq_some_iff.mp H
     obtain ⟨t345, A140, H⟩ := H
     replace H : (if x6_1.length < 8796093022208 then (impl_LeavesOf.l0 k1 a1 (x6_1 ++ [t345]) t344 (wrap64 (x15_1 + 1)) l0_0 l0_1 a0_2) else (none)) = some (r1, r2) := H
     have A14 := Aside0.mk A140
     clear A140
     by_cases c15 : x6_1.length < 8796093022208
     ·rw [if_pos c15] at H
      have LMc15 := Aside0.mk c15
      clear c15
      obtain ⟨y346, hy346⟩ : ∃ y_ : List ByteArray, y_ = (x6_1 ++ [t345]) := ⟨_, rfl⟩
      replace H : (impl_LeavesOf.l0 k1 a1 y346 t344 (wrap64 (x15_1 + 1)) l0_0 l0_1 a0_2) = some (r1, r2) := by first | (rw [hy346]; with_reducible exact H) | (have H2_ := (Option.bind_some _ _).symm.trans H; rw [hy346]; with_reducible exact H2_) | (have H2_ := (Option.bind_some _ _).symm.trans H; with_reducible exact H2_) | with_reducible exact H | (rw [hy346]; exact H) | exact H
      have Ny346 := Aside0.mk hy346
      clear hy346
      have H' := Aside0.mk H
      clear H
      have hcz16_0 : wr.cell? ⟨gb339, 0, none⟩ = some (.slice A0_0 l0_0.length c0_0) := (blk_cell BK339.out 0).trans rfl
      have hcz16_1 : wr.cell? ⟨gb339, 1, none⟩ = some (.slice A0_1 l0_1.length c0_1) := (blk_cell BK339.out 1).trans rfl
      have hcz16_2 : wr.cell? ⟨gb339, 2, none⟩ = some (.int .i64 a0_2) := (blk_cell BK339.out 2).trans rfl
      have hfz16_0 := blk_frozen BK339.out 0
      have hfz16_1 := blk_frozen BK339.out 1
      have hfz16_2 := blk_frozen BK339.out 2
      go_wp2_with (first | ((with_reducible refine gate_callee (f := 65) rfl ?_); refine goesL_ (some 22) rfl rfl Try.func65 (by kernel_rfl) rfl #[.agg #[.slice A0_0 l0_0.length c0_0, .slice A0_1 l0_1.length c0_1, .int .i64 a0_2], .int .i64 a1, .int .i64 x15_1] rfl (by (try simp only [List.map_toArray, List.map_cons, List.map_nil]); first | done | rfl | (simp only [List.length_drop, List.length_take]; rfl)) ?_; (with_reducible refine (impl_Cow_leafAt.calls k1 _ _ l0_0 _ _ l0_1 a0_2 a1 x15_1 t345 _ ?side1 ?side2 ?side3 ?side4 A14.out).mono ?_); (case side1 => repeat (first | exact (Kd.C_below HR0_0.out HB.out) | (with_reducible refine Kd.C_alloc ?_ _) | (with_reducible refine Kd.C_drewN ?_ _) | (with_reducible refine Kd.C_drew ?_))); (case side2 => exact HC0_0.out); (case side3 => repeat (first | exact (Kd.C_below HR0_1.out HB.out) | (with_reducible refine Kd.C_alloc ?_ _) | (with_reducible refine Kd.C_drewN ?_ _) | (with_reducible refine Kd.C_drew ?_))); (case side4 => exact HC0_1.out); rintro e w17 ⟨rfl, hb⟩; refine ⟨_, rfl, ?_⟩; replace HO_6 := Aside0.mk (Kd.R_below (by (with_reducible repeat (first | apply Kd.R_alloc | apply Kd.R_drewN | apply Kd.R_drew)); exact HO_6.out) hb); replace BK339 := Aside0.mk (blk_below (g := gb339) (o := .cells #[.slice A0_0 l0_0.length c0_0, .slice A0_1 l0_1.length c0_1, .int .i64 a0_2] 25 (0, 0)) (by (with_reducible repeat (first | refine blk_drewN ?_ _ | refine blk_drew ?_ | refine blk_alloc ?_ _)); exact BK339.out) hb); replace HB := Aside0.mk (below_step (by with_reducible repeat (first | exact HB.out | apply below_alloc | apply pw_below_drewN | apply below_drew1 | refine below_set ?_ GE339.out)) hb); (try clear hb); (try clear hb2); (try clear hk); (try clear hi)) | ((with_reducible refine gate_builtin (b := .append) (xs := #[.tmp 18, .tmp 23]) rfl ?_); at_builtin; refine Kd.R_append Kd.string (w0 := w) w.heap.size rfl (.tmp 18) (.tmp 23) 44 9 (.string ⟨#[]⟩) 16 rfl Try.underlying44 info9 rfl (by decide) (by omega) u6 x6_1 t345 [.string t345] (fun _ => True) (fun _ => False) rfl rfl ?aP (fun _ hk => hk.elim) ?aF ?aO ?aB ?aS ?aL ?_; (case aP => exact rfl); (case aB => exact (by with_reducible repeat (first | exact HB.out | apply below_alloc | apply pw_below_drewN | apply below_drew1 | refine below_set ?_ GE339.out))); (case aF => exact (fun _ _ => trivial)); (case aO => exact (by (with_reducible repeat (first | apply Kd.R_alloc | apply Kd.R_drewN | apply Kd.R_drew)); exact HO_6.out)); (case aS => exact (below_size (by with_reducible repeat (first | exact HB.out | apply below_alloc | apply pw_below_drewN | apply below_drew1 | refine below_set ?_ GE339.out)))); (case aL => have := LMc15.out; omega); intro v347 w18 ho hb hg hat; rw [← Ny346.out] at ho; replace BK339 := Aside0.mk (blk_grown (g := gb339) (o := .cells #[.slice A0_0 l0_0.length c0_0, .slice A0_1 l0_1.length c0_1, .int .i64 a0_2] 25 (0, 0)) (by (with_reducible repeat (first | refine blk_drewN ?_ _ | refine blk_drew ?_ | refine blk_alloc ?_ _)); exact BK339.out) hg (Kd.R_ne HO_6.out BK339.out (by decide))); replace HB := Aside0.mk (hb); have HO348 := Aside0.mk (ho); clear HO_6; clear ho hb hg hat))
      go_roundg k1
      case measure => have := HK1.out; omega
      case rel => exact ⟨(y346), (wrap64 (x15_1 + 1)), (by first | rfl | (simp; done) | (simp [*]; done)), H', ⟨by have := HK1.out; omega⟩, ⟨by (with_reducible repeat (first | apply Kd.R_alloc | apply Kd.R_drewN | apply Kd.R_drew)); exact HO348.out⟩, ⟨by (with_reducible repeat (first | refine blk_drewN ?_ _ | refine blk_drew ?_ | refine blk_alloc ?_ _)); exact BK339.out⟩, ⟨by with_reducible repeat (first | exact HB.out | apply below_alloc | apply pw_below_drewN | apply below_drew1 | refine below_set ?_ GE339.out)⟩⟩
     ·rw [if_neg c15] at H
      exact absurd H (by simp)
    ·rw [if_neg c13] at H
     have c13b0 : decide (x15_1 < t344) = false := decide_eq_false c13
     clear c13
     simp only [Option.some.injEq, Prod.mk.injEq] at H
     obtain ⟨rfl, rfl⟩ := H
     go_wp2
     go_ret2
     exact ⟨_, by first | rfl | (simp [errW_none, errW_some] <;> rfl) | (simp [*, errW_none, errW_some] <;> rfl) | (simp [E.isEmpty_bne]; done) | (rw [E.bne_empty]), by (with_reducible repeat (first | apply Kd.R_alloc | apply Kd.R_drewN | apply Kd.R_drew)); exact HO_6.out, by with_reducible repeat (first | exact HB.out | apply below_alloc | apply pw_below_drewN | apply below_drew1 | refine below_set ?_ GE339.out)⟩
 ·replace c4 := Bool.eq_false_iff.mpr c4
  subst c4
  have H1 : (some (([] : List ByteArray), false)) = some (r1, r2) := by rw [if_neg (show ¬ (false = true) by decide)] at H; exact H
  clear H
  have H := H1
  clear H1
  simp only [Option.some.injEq, Prod.mk.injEq] at H
  obtain ⟨rfl, rfl⟩ := H
  go_enter Try.func30, Try.ntmps30
  go_wp2_with (first | ((with_reducible refine gate_dst (N := 2) rfl ?_); refine box_event ?hg (N := 2) ?hd (cs := #[.slice A0_0 l0_0.length c0_0, .slice A0_1 l0_1.length c0_1, .int .i64 a0_2]) (t := 25) ?hr ?_; (case hd => rfl); (case hg => rfl); (case hr => first | (go_simp; done) | (go_simp; rfl)); intro gb339 hg w19 hbox hb; have BK339 := Aside0.mk (hbox); have GW339 := Aside0.mk ((by rw [hg]; exact (below_size (by with_reducible repeat (first | exact HB.out | apply below_alloc | apply pw_below_drewN | apply below_drew1))) : w.heap.size ≤ gb339)); have GE339 := Aside0.mk ((by rw [hg]; exact (below_size (by with_reducible repeat (first | exact HB.out | apply below_alloc | apply pw_below_drewN | apply below_drew1))) : w.heap.size ≤ gb339)); replace HB := Aside0.mk (below_step (by with_reducible repeat (first | exact HB.out | apply below_alloc | apply pw_below_drewN | apply below_drew1)) hb); clear hb hbox hg; have hcz20_0 : w19.cell? ⟨gb339, 0, none⟩ = some (.slice A0_0 l0_0.length c0_0) := (blk_cell BK339.out 0).trans rfl; have hcz20_1 : w19.cell? ⟨gb339, 1, none⟩ = some (.slice A0_1 l0_1.length c0_1) := (blk_cell BK339.out 1).trans rfl; have hcz20_2 : w19.cell? ⟨gb339, 2, none⟩ = some (.int .i64 a0_2) := (blk_cell BK339.out 2).trans rfl; have hfz20_0 := blk_frozen BK339.out 0; have hfz20_1 := blk_frozen BK339.out 1; have hfz20_2 := blk_frozen BK339.out 2) | ((with_reducible refine gate_callee (f := 63) rfl ?_); refine goesL_ (some 10) rfl rfl Try.func63 (by kernel_rfl) rfl #[.agg #[.slice A0_0 l0_0.length c0_0, .slice A0_1 l0_1.length c0_1, .int .i64 a0_2], .int .i64 a1] rfl (by (try simp only [List.map_toArray, List.map_cons, List.map_nil]); first | done | rfl | (simp only [List.length_drop, List.length_take]; rfl)) ?_; (with_reducible refine (impl_isRoot.calls _ _ l0_0 _ _ l0_1 a0_2 a1 false _ ?side1 ?side2 ?side3 ?side4 A3.out).mono ?_); (case side1 => repeat (first | exact (Kd.C_below HR0_0.out HB.out) | (with_reducible refine Kd.C_alloc ?_ _) | (with_reducible refine Kd.C_drewN ?_ _) | (with_reducible refine Kd.C_drew ?_))); (case side2 => exact HC0_0.out); (case side3 => repeat (first | exact (Kd.C_below HR0_1.out HB.out) | (with_reducible refine Kd.C_alloc ?_ _) | (with_reducible refine Kd.C_drewN ?_ _) | (with_reducible refine Kd.C_drew ?_))); (case side4 => exact HC0_1.out); rintro e w21 ⟨rfl, hb⟩; refine ⟨_, rfl, ?_⟩; replace BK339 := Aside0.mk (blk_below (g := gb339) (o := .cells #[.slice A0_0 l0_0.length c0_0, .slice A0_1 l0_1.length c0_1, .int .i64 a0_2] 25 (0, 0)) (by (with_reducible repeat (first | refine blk_drewN ?_ _ | refine blk_drew ?_ | refine blk_alloc ?_ _)); exact BK339.out) hb); replace HB := Aside0.mk (below_step (by with_reducible repeat (first | exact HB.out | apply below_alloc | apply pw_below_drewN | apply below_drew1 | refine below_set ?_ GE339.out)) hb); (try clear hb); (try clear hb2); (try clear hk); (try clear hi)))
  go_ret2
  exact ⟨_, by first | rfl | (simp [errW_none, errW_some] <;> rfl) | (simp [*, errW_none, errW_some] <;> rfl) | (simp [E.isEmpty_bne]; done) | (rw [E.bne_empty]), by first | exact Kd.R_nil _ _ _ _ _ | exact Kd.N_nil _ _ _ _ _ | exact Kd.V_nil _ _ _ _ _ | exact Kd.Q_nil _ _ _ _ _ | exact Kd.S_nil _ _ _ _ _, by with_reducible repeat (first | exact HB.out | apply below_alloc | apply pw_below_drewN | apply below_drew1 | refine below_set ?_ GE339.out)⟩
attribute [local go_sem] max2_int min2_int max_two min_two max_three min_three max_four min_four
set_option linter.unusedVariables false
set_option linter.unusedSimpArgs false
def spec_UsedCells.l0 : Nat → Int → List (S68) → Int → Int → Option (Int × Bool)
 | 0, _, _, _, _ => none
 | k + 1, x4, x11, x12, x13 => if x13 < x12 then (if 0 ≤ x13 then (if x13 < (x11.length : Int) then (if ((rd_T68 x11 x13).f0) > 0 then (spec_UsedCells.l0 k (wrap64 (x4 + 1)) x11 x12 (wrap64 (x13 + 1))) else (spec_UsedCells.l0 k x4 x11 x12 (wrap64 (x13 + 1)))) else (none)) else (none)) else (some (x4, true))
def spec_UsedCells.f (k : Nat) (l0_0 : List (S68)) (l0_1 : List Int) (a0_2 : Int) : Option (Int × Bool) := (spec_GoodCow.f k l0_0 l0_1 a0_2).bind fun t169 => (if t169 = true then (spec_UsedCells.l0 k 0 l0_0 (l0_0.length : Int) 0) else (some (0, false)))
def impl_UsedCells.l0 : Nat → Int → List (S68) → Int → Int → Option (Int × Bool)
 | 0, _, _, _, _ => none
 | k + 1, x4, x11, x12, x13 => if x13 < x12 then (if 0 ≤ x13 then (if x13 < (x11.length : Int) then (if ((rd_T68 x11 x13).f0) > 0 then (impl_UsedCells.l0 k (wrap64 (x4 + 1)) x11 x12 (wrap64 (x13 + 1))) else (impl_UsedCells.l0 k x4 x11 x12 (wrap64 (x13 + 1)))) else (none)) else (none)) else (some (x4, true))
def impl_UsedCells.f (k : Nat) (l0_0 : List (S68)) (l0_1 : List Int) (a0_2 : Int) : Option (Int × Bool) := (impl_GoodCow.f l0_0 l0_1 a0_2).bind fun t173 => (if t173 = true then (impl_UsedCells.l0 k 0 l0_0 (l0_0.length : Int) 0) else (some (0, false)))
set_option maxHeartbeats 8000000 in
set_option maxRecDepth 100000 in
theorem impl_UsedCells.calls (k : Nat) (A0_0 : Option Addr) (c0_0 : Nat) (l0_0 : List (S68)) (A0_1 : Option Addr) (c0_1 : Nat) (l0_1 : List Int) (a0_2 : Int) (r1 : Int) (r2 : Bool) (w : World) (hr0_0 : Kd.C k68 w A0_0 l0_0.length l0_0) (hc0_0 : l0_0.length ≤ c0_0) (hr0_1 : Kd.C (Kd.int .i64) w A0_1 l0_1.length l0_1) (hc0_1 : l0_1.length ≤ c0_1) (h : impl_UsedCells.f k l0_0 l0_1 a0_2 = some (r1, r2)) :
  Calls Try.prog 24 #[.agg #[.slice A0_0 l0_0.length c0_0, .slice A0_1 l0_1.length c0_1, .int .i64 a0_2]] w fun e w' => e = .returned (.tuple #[.int .i64 r1, .bool r2]) ∧ Below w.heap.size w w' := by
 have hu25 := Try.underlying25
 have hu68 := Try.underlying68
 have HR0_0 := Aside0.mk hr0_0
 have HC0_0 := Aside0.mk hc0_0
 clear hr0_0 hc0_0
 have HR0_1 := Aside0.mk hr0_1
 have HC0_1 := Aside0.mk hc0_1
 clear hr0_1 hc0_1
 have HB := Aside0.mk (Below.refl w.heap.size w)
 have H : ((impl_GoodCow.f l0_0 l0_1 a0_2).bind fun t173 => (if t173 = true then (impl_UsedCells.l0 k 0 l0_0 (l0_0.length : Int) 0) else (some (0, false)))) = some (r1, r2) := h
 clear h
 replace H := Option.bind_eq_some_iff.mp H
 obtain ⟨t173, A20, H⟩ := H
 replace H : (if t173 = true then (impl_UsedCells.l0 k 0 l0_0 (l0_0.length : Int) 0) else (some (0, false))) = some (r1, r2) := H
 have A2 := Aside0.mk A20
 clear A20
 by_cases c3 : t173 = true
 ·subst c3
  have H1 : (impl_UsedCells.l0 k 0 l0_0 (l0_0.length : Int) 0) = some (r1, r2) := by rw [if_pos rfl] at H; exact H
  clear H
  have H := H1
  clear H1
  have H' := Aside0.mk H
  clear H
  go_enter Try.func24, Try.ntmps24
  go_wp2_with (first | ((with_reducible refine gate_dst (N := 1) rfl ?_); refine box_event ?hg (N := 1) ?hd (cs := #[.slice A0_0 l0_0.length c0_0, .slice A0_1 l0_1.length c0_1, .int .i64 a0_2]) (t := 25) ?hr ?_; (case hd => rfl); (case hg => rfl); (case hr => first | (go_simp; done) | (go_simp; rfl)); intro gb172 hg w4 hbox hb; have BK172 := Aside0.mk (hbox); have GW172 := Aside0.mk ((by rw [hg]; exact (below_size (by with_reducible repeat (first | exact HB.out | apply below_alloc | apply pw_below_drewN | apply below_drew1))) : w.heap.size ≤ gb172)); have GE172 := Aside0.mk ((by rw [hg]; exact (below_size (by with_reducible repeat (first | exact HB.out | apply below_alloc | apply pw_below_drewN | apply below_drew1))) : w.heap.size ≤ gb172)); replace HB := Aside0.mk (below_step (by with_reducible repeat (first | exact HB.out | apply below_alloc | apply pw_below_drewN | apply below_drew1)) hb); clear hb hbox hg; have hcz5_0 : w4.cell? ⟨gb172, 0, none⟩ = some (.slice A0_0 l0_0.length c0_0) := (blk_cell BK172.out 0).trans rfl; have hcz5_1 : w4.cell? ⟨gb172, 1, none⟩ = some (.slice A0_1 l0_1.length c0_1) := (blk_cell BK172.out 1).trans rfl; have hcz5_2 : w4.cell? ⟨gb172, 2, none⟩ = some (.int .i64 a0_2) := (blk_cell BK172.out 2).trans rfl; have hfz5_0 := blk_frozen BK172.out 0; have hfz5_1 := blk_frozen BK172.out 1; have hfz5_2 := blk_frozen BK172.out 2) | ((with_reducible refine gate_callee (f := 22) rfl ?_); refine goesL_ (some 8) rfl rfl Try.func22 (by kernel_rfl) rfl #[.agg #[.slice A0_0 l0_0.length c0_0, .slice A0_1 l0_1.length c0_1, .int .i64 a0_2]] rfl (by (try simp only [List.map_toArray, List.map_cons, List.map_nil]); first | done | rfl | (simp only [List.length_drop, List.length_take]; rfl)) ?_; (with_reducible refine (impl_GoodCow.calls _ _ l0_0 _ _ l0_1 a0_2 true _ ?side1 ?side2 ?side3 ?side4 A2.out).mono ?_); (case side1 => repeat (first | exact (Kd.C_below HR0_0.out HB.out) | (with_reducible refine Kd.C_alloc ?_ _) | (with_reducible refine Kd.C_drewN ?_ _) | (with_reducible refine Kd.C_drew ?_))); (case side2 => exact HC0_0.out); (case side3 => repeat (first | exact (Kd.C_below HR0_1.out HB.out) | (with_reducible refine Kd.C_alloc ?_ _) | (with_reducible refine Kd.C_drewN ?_ _) | (with_reducible refine Kd.C_drew ?_))); (case side4 => exact HC0_1.out); rintro e w6 ⟨rfl, hb⟩; refine ⟨_, rfl, ?_⟩; replace BK172 := Aside0.mk (blk_below (g := gb172) (o := .cells #[.slice A0_0 l0_0.length c0_0, .slice A0_1 l0_1.length c0_1, .int .i64 a0_2] 25 (0, 0)) (by (with_reducible repeat (first | refine blk_drewN ?_ _ | refine blk_drew ?_ | refine blk_alloc ?_ _)); exact BK172.out) hb); replace HB := Aside0.mk (below_step (by with_reducible repeat (first | exact HB.out | apply below_alloc | apply pw_below_drewN | apply below_drew1 | refine below_set ?_ GE172.out)) hb); (try clear hb); (try clear hb2); (try clear hk); (try clear hi); have hcz7_0 : w6.cell? ⟨gb172, 0, none⟩ = some (.slice A0_0 l0_0.length c0_0) := (blk_cell BK172.out 0).trans rfl; have hcz7_1 : w6.cell? ⟨gb172, 1, none⟩ = some (.slice A0_1 l0_1.length c0_1) := (blk_cell BK172.out 1).trans rfl; have hcz7_2 : w6.cell? ⟨gb172, 2, none⟩ = some (.int .i64 a0_2) := (blk_cell BK172.out 2).trans rfl; have hfz7_0 := blk_frozen BK172.out 0; have hfz7_1 := blk_frozen BK172.out 1; have hfz7_2 := blk_frozen BK172.out 2))
  go_loopg [4, 13] k (fun kq v4 v13 w' => ∃ (x4_1 : Int) (x13_1 : Int), v4 = .int .i64 x4_1 ∧ v13 = .int .i64 x13_1 ∧ Aside0 (impl_UsedCells.l0 kq x4_1 l0_0 (l0_0.length : Int) x13_1 = some (r1, r2)) ∧ Aside0 (kq ≤ k) ∧ Aside0 (w'.heap[gb172]? = some (.cells #[(.slice A0_0 l0_0.length c0_0), (.slice A0_1 l0_1.length c0_1), .int .i64 a0_2] 25 (0, 0))) ∧ Aside0 (Below w.heap.size w w'))
  case atStart => exact ⟨(0), (0), (by first | rfl | (simp; done) | (simp [*]; done)), (by first | rfl | (simp; done) | (simp [*]; done)), H', ⟨Nat.le_refl _⟩, ⟨by (with_reducible repeat (first | refine blk_drewN ?_ _ | refine blk_drew ?_ | refine blk_alloc ?_ _)); exact BK172.out⟩, ⟨by with_reducible repeat (first | exact HB.out | apply below_alloc | apply pw_below_drewN | apply below_drew1 | refine below_set ?_ GE172.out)⟩⟩
  case round =>
   clear H'
   try clear c2
   try clear p2
   try clear c3
   try clear hcz5_0
   try clear hcz5_1
   try clear hcz5_2
   try clear hcz7_0
   try clear hcz7_1
   try clear hcz7_2
   try clear hfz5_0
   try clear hfz5_1
   try clear hfz5_2
   try clear hfz7_0
   try clear hfz7_1
   try clear hfz7_2
   obtain ⟨x4_1, x13_1, rfl, rfl, HA, HK1, BK172, HB⟩ := hrel
   cases gk with
   | zero => exact absurd HA.out (by simp [impl_UsedCells.l0])
   | succ k1 =>
    have H := HA.out
    clear HA
    simp only [impl_UsedCells.l0] at H
    by_cases c8 : x13_1 < (l0_0.length : Int)
    ·rw [if_pos c8] at H
     have c8b0 : decide (x13_1 < (l0_0.length : Int)) = true := decide_eq_true c8
     clear c8
     by_cases c9 : 0 ≤ x13_1
     ·rw [if_pos c9] at H
      have c9b0 : decide (0 ≤ x13_1) = true := decide_eq_true c9
      clear c9
      by_cases c10 : x13_1 < (l0_0.length : Int)
      ·rw [if_pos c10] at H
       have c10b0 : decide (x13_1 < (l0_0.length : Int)) = true := decide_eq_true c10
       clear c10
       by_cases c11 : ((rd_T68 l0_0 x13_1).f0) > 0
       ·rw [if_pos c11] at H
        have c11b0 : decide (0 < ((rd_T68 l0_0 x13_1).f0)) = true := decide_eq_true c11
        clear c11
        have H' := Aside0.mk H
        clear H
        have p174 : 0 ≤ (x13_1 : Int) := of_decide_eq_true (by assumption)
        have q174 : x13_1 < (l0_0.length : Int) := of_decide_eq_true (by assumption)
        obtain ⟨ad174, A174_2, c174_2, e174, hx174_0, hx174_1, hx174_2, hl174_2, hi174_2⟩ := at_T68 HR0_0.out x13_1 p174 q174
        cases e174
        replace hx174_0 := (HB.out.cell (World.block_lt_of_cell? w _ hx174_0)).trans hx174_0
        replace hx174_1 := (HB.out.cell (World.block_lt_of_cell? w _ hx174_1)).trans hx174_1
        replace hx174_2 := (HB.out.cell (World.block_lt_of_cell? w _ hx174_2)).trans hx174_2
        have HR174_2 := Aside0.mk hi174_2
        have HC174_2 := Aside0.mk hl174_2
        clear hi174_2 hl174_2
        replace p174 := eq_true p174
        replace q174 := eq_true q174
        go_wp2_with (first | ((with_reducible refine gate_dst (N := 6) rfl ?_); refine box_event ?hg (N := 6) ?hd (cs := #[.int .i64 0, .string (⟨#[]⟩ : ByteArray), .slice none 0 0]) (t := 68) ?hr ?_; (case hd => rfl); (case hg => rfl); (case hr => first | (go_simp; done) | (go_simp; rfl)); intro gb175 hg w12 hbox hb; have BK175 := Aside0.mk (hbox); have GW175 := Aside0.mk ((by rw [hg]; exact (below_size (by with_reducible repeat (first | exact HB.out | apply below_alloc | apply pw_below_drewN | apply below_drew1 | refine below_set ?_ GE172.out))) : w.heap.size ≤ gb175)); have GE175 := Aside0.mk ((by rw [hg]; exact (below_size (by with_reducible repeat (first | exact HB.out | apply below_alloc | apply pw_below_drewN | apply below_drew1 | refine below_set ?_ GE172.out))) : w.heap.size ≤ gb175)); replace HB := Aside0.mk (below_step (by with_reducible repeat (first | exact HB.out | apply below_alloc | apply pw_below_drewN | apply below_drew1 | refine below_set ?_ GE172.out)) hb); have NB172_175 := Aside0.mk ((by rw [hg]; exact Nat.ne_of_lt (blk_lt (g := gb172) (o := .cells #[.slice (some ad174) l0_0.length c0_0, .slice A0_1 l0_1.length c0_1, .int .i64 a0_2] 25 (0, 0)) (by (with_reducible repeat (first | refine blk_drewN ?_ _ | refine blk_drew ?_ | refine blk_alloc ?_ _)); exact BK172.out)) : gb172 ≠ gb175)); have NB175_172 := Aside0.mk ((by rw [hg]; exact Nat.ne_of_gt (blk_lt (g := gb172) (o := .cells #[.slice (some ad174) l0_0.length c0_0, .slice A0_1 l0_1.length c0_1, .int .i64 a0_2] 25 (0, 0)) (by (with_reducible repeat (first | refine blk_drewN ?_ _ | refine blk_drew ?_ | refine blk_alloc ?_ _)); exact BK172.out)) : gb175 ≠ gb172)); replace BK172 := Aside0.mk (blk_below (g := gb172) (o := .cells #[.slice (some ad174) l0_0.length c0_0, .slice A0_1 l0_1.length c0_1, .int .i64 a0_2] 25 (0, 0)) (by (with_reducible repeat (first | refine blk_drewN ?_ _ | refine blk_drew ?_ | refine blk_alloc ?_ _)); exact BK172.out) hb); clear hb hbox hg; have hnb13 := NB175_172.out; have hnc13 := NB172_175.out; have hcz14_0 : w12.cell? ⟨gb175, 0, none⟩ = some (.int .i64 0) := (blk_cell BK175.out 0).trans rfl; have hcz14_1 : w12.cell? ⟨gb175, 1, none⟩ = some (.string (⟨#[]⟩ : ByteArray)) := (blk_cell BK175.out 1).trans rfl; have hcz14_2 : w12.cell? ⟨gb175, 2, none⟩ = some (.slice none 0 0) := (blk_cell BK175.out 2).trans rfl; have hfz14_0 := blk_frozen BK175.out 0; have hfz14_1 := blk_frozen BK175.out 1; have hfz14_2 := blk_frozen BK175.out 2))
        go_roundg k1
        case measure => have := HK1.out; omega
        case rel => exact ⟨(wrap64 (x4_1 + 1)), (wrap64 (x13_1 + 1)), (by first | rfl | (simp; done) | (simp [*]; done)), (by first | rfl | (simp; done) | (simp [*]; done)), H', ⟨by have := HK1.out; omega⟩, ⟨by (with_reducible repeat (first | refine blk_drewN ?_ _ | refine blk_drew ?_ | refine blk_alloc ?_ _)); refine blk_far ?_ NB172_175.out _; (with_reducible repeat (first | refine blk_drewN ?_ _ | refine blk_drew ?_ | refine blk_alloc ?_ _)); refine blk_far ?_ NB172_175.out _; (with_reducible repeat (first | refine blk_drewN ?_ _ | refine blk_drew ?_ | refine blk_alloc ?_ _)); refine blk_far ?_ NB172_175.out _; (with_reducible repeat (first | refine blk_drewN ?_ _ | refine blk_drew ?_ | refine blk_alloc ?_ _)); exact BK172.out⟩, ⟨by with_reducible repeat (first | exact HB.out | apply below_alloc | apply pw_below_drewN | apply below_drew1 | refine below_set ?_ GE172.out | refine below_set ?_ GE175.out)⟩⟩
       ·rw [if_neg c11] at H
        have c11b0 : decide (0 < ((rd_T68 l0_0 x13_1).f0)) = false := decide_eq_false c11
        clear c11
        have H' := Aside0.mk H
        clear H
        have p174 : 0 ≤ (x13_1 : Int) := of_decide_eq_true (by assumption)
        have q174 : x13_1 < (l0_0.length : Int) := of_decide_eq_true (by assumption)
        obtain ⟨ad174, A174_2, c174_2, e174, hx174_0, hx174_1, hx174_2, hl174_2, hi174_2⟩ := at_T68 HR0_0.out x13_1 p174 q174
        cases e174
        replace hx174_0 := (HB.out.cell (World.block_lt_of_cell? w _ hx174_0)).trans hx174_0
        replace hx174_1 := (HB.out.cell (World.block_lt_of_cell? w _ hx174_1)).trans hx174_1
        replace hx174_2 := (HB.out.cell (World.block_lt_of_cell? w _ hx174_2)).trans hx174_2
        have HR174_2 := Aside0.mk hi174_2
        have HC174_2 := Aside0.mk hl174_2
        clear hi174_2 hl174_2
        replace p174 := eq_true p174
        replace q174 := eq_true q174
        go_wp2_with (first | ((with_reducible refine gate_dst (N := 6) rfl ?_); refine box_event ?hg (N := 6) ?hd (cs := #[.int .i64 0, .string (⟨#[]⟩ : ByteArray), .slice none 0 0]) (t := 68) ?hr ?_; (case hd => rfl); (case hg => rfl); (case hr => first | (go_simp; done) | (go_simp; rfl)); intro gb175 hg w15 hbox hb; have BK175 := Aside0.mk (hbox); have GW175 := Aside0.mk ((by rw [hg]; exact (below_size (by with_reducible repeat (first | exact HB.out | apply below_alloc | apply pw_below_drewN | apply below_drew1 | refine below_set ?_ GE172.out))) : w.heap.size ≤ gb175)); have GE175 := Aside0.mk ((by rw [hg]; exact (below_size (by with_reducible repeat (first | exact HB.out | apply below_alloc | apply pw_below_drewN | apply below_drew1 | refine below_set ?_ GE172.out))) : w.heap.size ≤ gb175)); replace HB := Aside0.mk (below_step (by with_reducible repeat (first | exact HB.out | apply below_alloc | apply pw_below_drewN | apply below_drew1 | refine below_set ?_ GE172.out)) hb); have NB172_175 := Aside0.mk ((by rw [hg]; exact Nat.ne_of_lt (blk_lt (g := gb172) (o := .cells #[.slice (some ad174) l0_0.length c0_0, .slice A0_1 l0_1.length c0_1, .int .i64 a0_2] 25 (0, 0)) (by (with_reducible repeat (first | refine blk_drewN ?_ _ | refine blk_drew ?_ | refine blk_alloc ?_ _)); exact BK172.out)) : gb172 ≠ gb175)); have NB175_172 := Aside0.mk ((by rw [hg]; exact Nat.ne_of_gt (blk_lt (g := gb172) (o := .cells #[.slice (some ad174) l0_0.length c0_0, .slice A0_1 l0_1.length c0_1, .int .i64 a0_2] 25 (0, 0)) (by (with_reducible repeat (first | refine blk_drewN ?_ _ | refine blk_drew ?_ | refine blk_alloc ?_ _)); exact BK172.out)) : gb175 ≠ gb172)); replace BK172 := Aside0.mk (blk_below (g := gb172) (o := .cells #[.slice (some ad174) l0_0.length c0_0, .slice A0_1 l0_1.length c0_1, .int .i64 a0_2] 25 (0, 0)) (by (with_reducible repeat (first | refine blk_drewN ?_ _ | refine blk_drew ?_ | refine blk_alloc ?_ _)); exact BK172.out) hb); clear hb hbox hg; have hnb16 := NB175_172.out; have hnc16 := NB172_175.out; have hcz17_0 : w15.cell? ⟨gb175, 0, none⟩ = some (.int .i64 0) := (blk_cell BK175.out 0).trans rfl; have hcz17_1 : w15.cell? ⟨gb175, 1, none⟩ = some (.string (⟨#[]⟩ : ByteArray)) := (blk_cell BK175.out 1).trans rfl; have hcz17_2 : w15.cell? ⟨gb175, 2, none⟩ = some (.slice none 0 0) := (blk_cell BK175.out 2).trans rfl; have hfz17_0 := blk_frozen BK175.out 0; have hfz17_1 := blk_frozen BK175.out 1; have hfz17_2 := blk_frozen BK175.out 2))
        go_roundg k1
        case measure => have := HK1.out; omega
        case rel => exact ⟨(x4_1), (wrap64 (x13_1 + 1)), (by first | rfl | (simp; done) | (simp [*]; done)), (by first | rfl | (simp; done) | (simp [*]; done)), H', ⟨by have := HK1.out; omega⟩, ⟨by (with_reducible repeat (first | refine blk_drewN ?_ _ | refine blk_drew ?_ | refine blk_alloc ?_ _)); refine blk_far ?_ NB172_175.out _; (with_reducible repeat (first | refine blk_drewN ?_ _ | refine blk_drew ?_ | refine blk_alloc ?_ _)); refine blk_far ?_ NB172_175.out _; (with_reducible repeat (first | refine blk_drewN ?_ _ | refine blk_drew ?_ | refine blk_alloc ?_ _)); refine blk_far ?_ NB172_175.out _; (with_reducible repeat (first | refine blk_drewN ?_ _ | refine blk_drew ?_ | refine blk_alloc ?_ _)); exact BK172.out⟩, ⟨by with_reducible repeat (first | exact HB.out | apply below_alloc | apply pw_below_drewN | apply below_drew1 | refine below_set ?_ GE172.out | refine below_set ?_ GE175.out)⟩⟩
      ·rw [if_neg c10] at H
       exact absurd H (by simp)
     ·rw [if_neg c9] at H
      exact absurd H (by simp)
    ·rw [if_neg c8] at H
     have c8b0 : decide (x13_1 < (l0_0.length : Int)) = false := decide_eq_false c8
     clear c8
     simp only [Option.some.injEq, Prod.mk.injEq] at H
     obtain ⟨rfl, rfl⟩ := H
     go_wp2
     go_ret2
     exact ⟨by first | rfl | (simp [errW_none, errW_some] <;> rfl) | (simp [*, errW_none, errW_some] <;> rfl) | (simp [E.isEmpty_bne]; done) | (rw [E.bne_empty]), by with_reducible repeat (first | exact HB.out | apply below_alloc | apply pw_below_drewN | apply below_drew1 | refine below_set ?_ GE172.out)⟩
 ·replace c3 := Bool.eq_false_iff.mpr c3
  subst c3
  have H1 : (some (0, false)) = some (r1, r2) := by rw [if_neg (show ¬ (false = true) by decide)] at H; exact H
  clear H
  have H := H1
  clear H1
  simp only [Option.some.injEq, Prod.mk.injEq] at H
  obtain ⟨rfl, rfl⟩ := H
  go_enter Try.func24, Try.ntmps24
  go_wp2_with (first | ((with_reducible refine gate_dst (N := 1) rfl ?_); refine box_event ?hg (N := 1) ?hd (cs := #[.slice A0_0 l0_0.length c0_0, .slice A0_1 l0_1.length c0_1, .int .i64 a0_2]) (t := 25) ?hr ?_; (case hd => rfl); (case hg => rfl); (case hr => first | (go_simp; done) | (go_simp; rfl)); intro gb172 hg w18 hbox hb; have BK172 := Aside0.mk (hbox); have GW172 := Aside0.mk ((by rw [hg]; exact (below_size (by with_reducible repeat (first | exact HB.out | apply below_alloc | apply pw_below_drewN | apply below_drew1))) : w.heap.size ≤ gb172)); have GE172 := Aside0.mk ((by rw [hg]; exact (below_size (by with_reducible repeat (first | exact HB.out | apply below_alloc | apply pw_below_drewN | apply below_drew1))) : w.heap.size ≤ gb172)); replace HB := Aside0.mk (below_step (by with_reducible repeat (first | exact HB.out | apply below_alloc | apply pw_below_drewN | apply below_drew1)) hb); clear hb hbox hg; have hcz19_0 : w18.cell? ⟨gb172, 0, none⟩ = some (.slice A0_0 l0_0.length c0_0) := (blk_cell BK172.out 0).trans rfl; have hcz19_1 : w18.cell? ⟨gb172, 1, none⟩ = some (.slice A0_1 l0_1.length c0_1) := (blk_cell BK172.out 1).trans rfl; have hcz19_2 : w18.cell? ⟨gb172, 2, none⟩ = some (.int .i64 a0_2) := (blk_cell BK172.out 2).trans rfl; have hfz19_0 := blk_frozen BK172.out 0; have hfz19_1 := blk_frozen BK172.out 1; have hfz19_2 := blk_frozen BK172.out 2) | ((with_reducible refine gate_callee (f := 22) rfl ?_); refine goesL_ (some 8) rfl rfl Try.func22 (by kernel_rfl) rfl #[.agg #[.slice A0_0 l0_0.length c0_0, .slice A0_1 l0_1.length c0_1, .int .i64 a0_2]] rfl (by (try simp only [List.map_toArray, List.map_cons, List.map_nil]); first | done | rfl | (simp only [List.length_drop, List.length_take]; rfl)) ?_; (with_reducible refine (impl_GoodCow.calls _ _ l0_0 _ _ l0_1 a0_2 false _ ?side1 ?side2 ?side3 ?side4 A2.out).mono ?_); (case side1 => repeat (first | exact (Kd.C_below HR0_0.out HB.out) | (with_reducible refine Kd.C_alloc ?_ _) | (with_reducible refine Kd.C_drewN ?_ _) | (with_reducible refine Kd.C_drew ?_))); (case side2 => exact HC0_0.out); (case side3 => repeat (first | exact (Kd.C_below HR0_1.out HB.out) | (with_reducible refine Kd.C_alloc ?_ _) | (with_reducible refine Kd.C_drewN ?_ _) | (with_reducible refine Kd.C_drew ?_))); (case side4 => exact HC0_1.out); rintro e w20 ⟨rfl, hb⟩; refine ⟨_, rfl, ?_⟩; replace BK172 := Aside0.mk (blk_below (g := gb172) (o := .cells #[.slice A0_0 l0_0.length c0_0, .slice A0_1 l0_1.length c0_1, .int .i64 a0_2] 25 (0, 0)) (by (with_reducible repeat (first | refine blk_drewN ?_ _ | refine blk_drew ?_ | refine blk_alloc ?_ _)); exact BK172.out) hb); replace HB := Aside0.mk (below_step (by with_reducible repeat (first | exact HB.out | apply below_alloc | apply pw_below_drewN | apply below_drew1 | refine below_set ?_ GE172.out)) hb); (try clear hb); (try clear hb2); (try clear hk); (try clear hi)))
  go_ret2
  exact ⟨by first | rfl | (simp [errW_none, errW_some] <;> rfl) | (simp [*, errW_none, errW_some] <;> rfl) | (simp [E.isEmpty_bne]; done) | (rw [E.bne_empty]), by with_reducible repeat (first | exact HB.out | apply below_alloc | apply pw_below_drewN | apply below_drew1 | refine below_set ?_ GE172.out)⟩
def loopB (F : Int → List Bool → Option (List Bool)) : List Int → List Bool → Option (List Bool)
 | [], s => some s
 | z :: r, s => (F z s).bind fun t => loopB F r t
def markM (C : List S68) : Nat → Int → List Bool → Option (List Bool)
 | 0, _, _ => none
 | m + 1, k, s => if k < 0 then some s else if k < (s.length : Int) then (if rdOf false s k = true then some s else if k < (C.length : Int) then loopB (markM C m) (rd_T68 C k).f2 (s.set k.toNat true) else none) else none
def spec_l14Mark.f (l0_0 : List S68) (l0_1 : List Int) (a0_2 : Int) (a1 : Int) (l2 : List Bool) : Option (List Bool) := markM l0_0 5 a1 l2
def impl_Cow_reach.f (l0_0 : List S68) (l0_1 : List Int) (a0_2 : Int) (a1 : Int) (l2 : List Bool) : Option (List Bool) := markM l0_0 5 a1 l2
attribute [local go_sem] max2_int min2_int max_two min_two max_three min_three max_four min_four
set_option linter.unusedVariables false
set_option linter.unusedSimpArgs false
mutual
def impl_SharedBy.j0 : Nat → Int → Int → Bool → List (S68) → List Int → Int → Option (Int × Bool)
 | 0, _, _, _, _, _, _ => none
 | k + 1, x1, x2, x21, x282000, x282001, x282002 => if x21 = true then (some (0, false)) else (if 0 ≤ (x282000.length : Int) then (if ((x282000.length : Int) : Int).toNat ≤ 281474976710656 then ((some (List.replicate ((x282000.length : Int) : Int).toNat false : List Bool)).bind fun y284 => (if 0 ≤ x1 then (if x1 < (x282001.length : Int) then ((impl_Cow_reach.f x282000 x282001 x282002 (rd x282001 x1) y284).bind fun t291 => (if 0 ≤ x2 then (if x2 < (x282001.length : Int) then ((impl_Cow_reach.f x282000 x282001 x282002 (rd x282001 x2) (List.replicate ((x282000.length : Int) : Int).toNat false)).bind fun t293 => (impl_SharedBy.l0 k t291 t293 0 (y284.length : Int) 0)) else (none)) else (none))) else (none)) else (none))) else (none)) else (none))
def impl_SharedBy.l0 : Nat → List Bool → List Bool → Int → Int → Int → Option (Int × Bool)
 | 0, _, _, _, _, _ => none
 | k + 1, x8, x9, x10, x47, x48 => if x48 < x47 then (if 0 ≤ x48 then (if x48 < (x8.length : Int) then (if rdOf false x8 x48 = true then (if x48 < (x9.length : Int) then (if rdOf false x9 x48 = true then (impl_SharedBy.l0 k x8 x9 (wrap64 (x10 + 1)) x47 (wrap64 (x48 + 1))) else (impl_SharedBy.l0 k x8 x9 x10 x47 (wrap64 (x48 + 1)))) else (none)) else (impl_SharedBy.l0 k x8 x9 x10 x47 (wrap64 (x48 + 1)))) else (none)) else (none)) else (some (x10, true))
end
def impl_SharedBy.f (k : Nat) (l0_0 : List (S68)) (l0_1 : List Int) (a0_2 : Int) (a1 : Int) (a2 : Int) : Option (Int × Bool) := (impl_isRoot.f l0_0 l0_1 a0_2 a1).bind fun t282 => (if t282 = true then ((impl_isRoot.f l0_0 l0_1 a0_2 a2).bind fun t283 => (impl_SharedBy.j0 k a1 a2 (!t283) l0_0 l0_1 a0_2)) else (impl_SharedBy.j0 k a1 a2 true l0_0 l0_1 a0_2))
def impl_SharedBy.T3 : Bool × List (List Nat × List Nat) := (true, [([], []), ([0], [0]), ([1], [1]), ([2, 2], [2]), ([], []), ([4], [4]), ([5], [5]), ([6, 6], [6]), ([3, 0, 1, 2, 3], [3]), ([7, 8, 0, 1, 2, 3, 4, 5, 6, 7, 8], [7])])
def impl_SharedBy.B3 : List Nat := [0, 1, 3, 7, 0, 16, 48, 112, 15, 511]
theorem impl_SharedBy.tab3 : rtab .any (opsOf Try.f28 3) = impl_SharedBy.T3 := by kernel_rfl
theorem impl_SharedBy.bits3 : waitsOk impl_SharedBy.T3.2 impl_SharedBy.B3 = true := by kernel_rfl
def impl_SharedBy.B4 : List Nat := [0, 0, 2, 0, 14, 30, 0, 127]
def impl_SharedBy.B5 : List Nat := [0, 0, 2, 0, 14, 30, 0, 127]
end Go.Proofs.Ytacfalpgmibfnaa.PCow
