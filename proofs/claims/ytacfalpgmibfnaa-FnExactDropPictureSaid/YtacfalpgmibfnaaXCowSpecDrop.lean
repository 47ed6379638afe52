import Derived.Test.YtacfalpgmibfnaaXCowDropS
import Derived.Test.YtacfalpgmibfnaaYCowspecGoodCow
import Derived.Test.YtacfalpgmibfnaaYCowspecl14Own
/-! DropPicture of the reference; walked by hand (the regions' steps told by wip/cowspecdrop.py). -/
namespace Go.Proofs.Ytacfalpgmibfnaa.PCow
open Go.RowKit Go.Proofs.YtacfalpgmibfnaaW.PrintWords Go.Proofs.YtacfalpgmibfnaaW.PrintLast Go.Proofs.YtacfalpgmibfnaaW.PrintMore Go.Proofs.Ytacfalpgmibfnaa.E
set_option linter.unusedSimpArgs false
set_option linter.unusedVariables false
theorem int_drop {w : World} {g c m : Nat} {xs : List Int} (h : (Kd.int .i64).C w (some ⟨g, 0, none⟩) xs.length xs) (hm : m ≤ xs.length) (hc : xs.length ≤ c) : (Kd.int .i64).C w (if c = m then some ⟨g, 0, none⟩ else some ⟨g, m, none⟩) (xs.length - m) (xs.drop m) := by
  have h1 := Kd.C_drop (m := m) h hm hc
  rw [List.length_drop] at h1
  by_cases e : c = m
  · rw [if_pos e] at h1 ⊢
    exact h1
  · rw [if_neg e] at h1 ⊢
    have e2 : (some (⟨g, 0, none⟩ : Addr)).map (·.add (m * (Kd.int .i64).sz)) = some ⟨g, m, none⟩ := by
      show some ((⟨g, 0, none⟩ : Addr).add (m * 1)) = _
      simp [Addr.add]
      exact fun h_ => h_.symm
    rw [e2] at h1
    exact h1
def dropS (o : List CL × List Int × Int) (k root : Int) : Option (List CL × List Int × Int × Bool) :=
  if o.2.1.length ≤ 1048576 then (if 0 ≤ root ∧ root < (o.2.1.length : Int) then ((dropM 5 o.1 k).bind fun D => some (D, o.2.1.take root.toNat ++ o.2.1.drop (root.toNat + 1), o.2.2, true)) else none) else none
def spec_DropPicture.f (k : Nat) (C : List CL) (R : List Int) (L root : Int) : Option (List CL × List Int × Int × Bool) :=
  (spec_GoodCow.f k C R L).bind fun b => if b = true then ((spec_l1In.f root 0 (wrap64 ((R.length : Int) - 1))).bind fun t => if t = true then (if (R.length : Int) = 1 then some ([], [], 0, false) else (if 0 ≤ root ∧ root < (R.length : Int) then ((spec_l14Own.f k C R L).bind fun o => dropS o (rd R root) root) else none)) else some ([], [], 0, false)) else some ([], [], 0, false)
set_option maxHeartbeats 16000000 in
set_option maxRecDepth 100000 in
theorem spec_DropPicture.calls (k_ : Nat) (A0 : Option Addr) (c0 : Nat) (C : List CL) (A1 : Option Addr) (c1 : Nat) (R : List Int) (L root : Int) (r1 : List CL) (r2 : List Int) (r3 : Int) (r4 : Bool) (w : World) (hr0 : Kd.C k68 w A0 C.length C) (hc0 : C.length ≤ c0) (hr1 : Kd.C (Kd.int .i64) w A1 R.length R) (hc1 : R.length ≤ c1) (h : spec_DropPicture.f k_ C R L root = some (r1, r2, r3, r4)) :
    Calls Try.prog 36 #[.agg #[.slice A0 C.length c0, .slice A1 R.length c1, .int .i64 L], .int .i64 root] w fun e w' => ∃ v0_ v1_ : Value, e = .returned (.tuple #[.agg #[v0_, v1_, .int .i64 r3], .bool r4]) ∧ Kd.S k68 68 w' w.heap.size (fun k_ => some k_ ≠ (v1_ : Value).ownBlock) v0_ r1 ∧ Kd.R (Kd.int .i64) 3 w' w.heap.size (fun _ => True) v1_ r2 ∧ Below w.heap.size w w' := by
  have hu25 := Try.underlying25
  have hu68 := Try.underlying68
  have hu22 := Try.underlying22
  have HR0 := Aside0.mk hr0
  have HR1 := Aside0.mk hr1
  have HC0 := Aside0.mk hc0
  have HC1 := Aside0.mk hc1
  have hl : R.length ≤ 9223372036854775807 := hr1.2.1
  have hlc : C.length ≤ 9223372036854775807 := hr0.2.1
  clear hr0 hr1 hc0 hc1
  obtain ⟨b, hb, h⟩ := Option.bind_eq_some_iff.1 h
  have HBB := Aside0.mk hb
  clear hb
  obtain ⟨W1, hW1⟩ : ∃ W, w.alloc (.cells #[.slice A0 C.length c0, .slice A1 R.length c1, .int .i64 L] 25) = W := ⟨_, rfl⟩
  obtain ⟨W2, hW2⟩ : ∃ W, W1.alloc (.cells #[.slice none 0 0, .slice none 0 0, .int .i64 0] 25) = W := ⟨_, rfl⟩
  have hb1 : Below w.heap.size w W1 := by rw [← hW1]; exact below_alloc (Below.refl _ _) _
  have hb2 : Below W1.heap.size W1 W2 := by rw [← hW2]; exact below_alloc (Below.refl _ _) _
  have X1 : W1.heap[w.heap.size]? = some (.cells #[.slice A0 C.length c0, .slice A1 R.length c1, .int .i64 L] 25 (0, 0)) := by rw [← hW1]; exact heap_alloc_new w _
  have Z1 : W2.heap[W1.heap.size]? = some (.cells #[.slice none 0 0, .slice none 0 0, .int .i64 0] 25 (0, 0)) := by rw [← hW2]; exact heap_alloc_new W1 _
  have B2 := Aside0.mk (below_step hb1 hb2)
  have X2 := Aside0.mk (blk_below X1 hb2)
  have Z2 := Aside0.mk Z1
  have ZG := Aside0.mk (show w.heap.size ≤ W1.heap.size from hb1.size)
  have ZN := Aside0.mk (show w.heap.size ≠ W1.heap.size by have := blk_lt X1; omega)
  clear hb1 hb2 X1 Z1
  have d0 : W2.cell? ⟨w.heap.size, 0, none⟩ = some (.slice A0 C.length c0) := (blk_cell X2.out 0).trans rfl
  have d1 : W2.cell? ⟨w.heap.size, 1, none⟩ = some (.slice A1 R.length c1) := (blk_cell X2.out 1).trans rfl
  have d2 : W2.cell? ⟨w.heap.size, 2, none⟩ = some (.int .i64 L) := (blk_cell X2.out 2).trans rfl
  have TT := Aside0.mk (spec_GoodCow.calls k_ A0 c0 C A1 c1 R L b W2 (Kd.C_below HR0.out B2.out) HC0.out (Kd.C_below HR1.out B2.out) HC1.out HBB.out)
  have HH := Aside0.mk h
  clear h
  go_enter Try.func36, Try.ntmps36
  go_wp2_with (go_at_call 20; refine TT.out.mono ?_)
  (first | rintro e w3 rfl hb | rintro e w3 ⟨rfl, hb⟩)
  clear TT hW1 d0 d1 d2
  generalize hgz : W1.heap.size = gz at *
  clear hgz hW2
  have B3 := Aside0.mk (below_step B2.out hb)
  have X3 := Aside0.mk (blk_below X2.out hb)
  have Z3 := Aside0.mk (blk_below Z2.out hb)
  clear B2 X2 Z2 hb
  have d0 : w3.cell? ⟨w.heap.size, 0, none⟩ = some (.slice A0 C.length c0) := (blk_cell X3.out 0).trans rfl
  have d1 : w3.cell? ⟨w.heap.size, 1, none⟩ = some (.slice A1 R.length c1) := (blk_cell X3.out 1).trans rfl
  have d2 : w3.cell? ⟨w.heap.size, 2, none⟩ = some (.int .i64 L) := (blk_cell X3.out 2).trans rfl
  have z0 : w3.cell? ⟨gz, 0, none⟩ = some (.slice none 0 0) := (blk_cell Z3.out 0).trans rfl
  have z1 : w3.cell? ⟨gz, 1, none⟩ = some (.slice none 0 0) := (blk_cell Z3.out 1).trans rfl
  have z2 : w3.cell? ⟨gz, 2, none⟩ = some (.int .i64 0) := (blk_cell Z3.out 2).trans rfl
  have y0 := blk_frozen Z3.out 0
  have y1 := blk_frozen Z3.out 1
  have y2 := blk_frozen Z3.out 2
  cases b with
  | false =>
    have h : some (([] : List CL), ([] : List Int), (0 : Int), false) = some (r1, r2, r3, r4) := HH.out
    simp only [Option.some.injEq, Prod.mk.injEq] at h
    obtain ⟨rfl, rfl, rfl, rfl⟩ := h
    go_wp2
    refine bodyPost_ret (results_ct rfl _ _ gz 25 #[.slice none 0 0, .slice none 0 0, .int .i64 0] (0, 0) _ rfl (put3 Z3.out _ _ _) Try.underlying25 rfl (by kernel_rfl)) rfl ?_
    exact ⟨_, _, rfl, Kd.S_nil _ _ _ _ _, Kd.R_nil _ _ _ _ _, below_set (below_set (below_set B3.out ZG.out) ZG.out) ZG.out⟩
  | true =>
    have h : ((spec_l1In.f root 0 (wrap64 ((R.length : Int) - 1))).bind fun t => if t = true then (if (R.length : Int) = 1 then some ([], [], 0, false) else (if 0 ≤ root ∧ root < (R.length : Int) then ((spec_l14Own.f k_ C R L).bind fun o => dropS o (rd R root) root) else none)) else some ([], [], 0, false)) = some (r1, r2, r3, r4) := HH.out
    obtain ⟨t, ht, h⟩ := Option.bind_eq_some_iff.1 h
    rw [w64 (x := (R.length : Int) - 1) (by omega) (by omega)] at ht
    have TT := Aside0.mk (spec_l1In.calls root 0 ((R.length : Int) - 1) t w3 ht)
    replace HH := Aside0.mk h
    clear h ht
    go_wp2_with (go_at_call 44; refine TT.out.mono ?_)
    (first | rintro e w4 rfl hd | rintro e w4 ⟨rfl, hd⟩)
    have hb := hd.below
    have B4 := Aside0.mk (below_step B3.out hb)
    have X4 := Aside0.mk (blk_below X3.out hb)
    have Z4 := Aside0.mk (blk_below Z3.out hb)
    clear TT hd hb d0 d1 d2 z0 z1 z2 y0 y1 y2 B3 X3 Z3
    have d0 : w4.cell? ⟨w.heap.size, 0, none⟩ = some (.slice A0 C.length c0) := (blk_cell X4.out 0).trans rfl
    have d1 : w4.cell? ⟨w.heap.size, 1, none⟩ = some (.slice A1 R.length c1) := (blk_cell X4.out 1).trans rfl
    have d2 : w4.cell? ⟨w.heap.size, 2, none⟩ = some (.int .i64 L) := (blk_cell X4.out 2).trans rfl
    have z0 : w4.cell? ⟨gz, 0, none⟩ = some (.slice none 0 0) := (blk_cell Z4.out 0).trans rfl
    have z1 : w4.cell? ⟨gz, 1, none⟩ = some (.slice none 0 0) := (blk_cell Z4.out 1).trans rfl
    have z2 : w4.cell? ⟨gz, 2, none⟩ = some (.int .i64 0) := (blk_cell Z4.out 2).trans rfl
    have y0 := blk_frozen Z4.out 0
    have y1 := blk_frozen Z4.out 1
    have y2 := blk_frozen Z4.out 2
    cases t with
    | false =>
      have h : some (([] : List CL), ([] : List Int), (0 : Int), false) = some (r1, r2, r3, r4) := HH.out
      simp only [Option.some.injEq, Prod.mk.injEq] at h
      obtain ⟨rfl, rfl, rfl, rfl⟩ := h
      go_wp2
      refine bodyPost_ret (results_ct rfl _ _ gz 25 #[.slice none 0 0, .slice none 0 0, .int .i64 0] (0, 0) _ rfl (put3 Z4.out _ _ _) Try.underlying25 rfl (by kernel_rfl)) rfl ?_
      exact ⟨_, _, rfl, Kd.S_nil _ _ _ _ _, Kd.R_nil _ _ _ _ _, below_set (below_set (below_set B4.out ZG.out) ZG.out) ZG.out⟩
    | true =>
      have h : (if (R.length : Int) = 1 then some ([], [], 0, false) else (if 0 ≤ root ∧ root < (R.length : Int) then ((spec_l14Own.f k_ C R L).bind fun o => dropS o (rd R root) root) else none)) = some (r1, r2, r3, r4) := HH.out
      by_cases h8 : (R.length : Int) = 1
      · rw [if_pos h8] at h
        have q1 : ((R.length : Int) == 1) = true := by simpa using h8
        have q2 : ((R.length : Int) = 1) = True := eq_true h8
        clear h8 HH
        simp only [Option.some.injEq, Prod.mk.injEq] at h
        obtain ⟨rfl, rfl, rfl, rfl⟩ := h
        go_wp2
        refine bodyPost_ret (results_ct rfl _ _ gz 25 #[.slice none 0 0, .slice none 0 0, .int .i64 0] (0, 0) _ rfl (put3 Z4.out _ _ _) Try.underlying25 rfl (by kernel_rfl)) rfl ?_
        exact ⟨_, _, rfl, Kd.S_nil _ _ _ _ _, Kd.R_nil _ _ _ _ _, below_set (below_set (below_set B4.out ZG.out) ZG.out) ZG.out⟩
      · rw [if_neg h8] at h
        have q1 : ((R.length : Int) == 1) = false := beq_eq_false_iff_ne.2 h8
        have q2 : ((R.length : Int) = 1) = False := eq_false h8
        clear h8 HH
        split at h
        · rename_i hrt
          obtain ⟨⟨C1, R1, L1⟩, ho, h⟩ := Option.bind_eq_some_iff.1 h
          have HO := Aside0.mk ho
          unfold dropS at h
          simp only at h
          split at h
          · rename_i hR1
            split at h
            · rename_i hrt1
              obtain ⟨k, hk⟩ : ∃ k, rd R root = k := ⟨_, rfl⟩
              rw [hk] at h
              obtain ⟨D, hD, h⟩ := Option.bind_eq_some_iff.1 h
              simp only [Option.some.injEq, Prod.mk.injEq] at h
              obtain ⟨rfl, rfl, rfl, rfl⟩ := h
              have HD := Aside0.mk hD
              have HRL := Aside0.mk hR1
              have HRT := Aside0.mk hrt1
              obtain ⟨ri, hri⟩ : ∃ ri : Nat, root = (ri : Int) := ⟨root.toNat, by omega⟩
              subst hri
              obtain ⟨ad, e5, hx⟩ := Kd.at_int (Kd.C_below HR1.out B4.out) (ri : Int) hrt.1 hrt.2
              subst e5
              rw [hk, Int.toNat_natCast] at hx
              have HIX := Aside0.mk (show ∀ W, Below w.heap.size w W → W.cell? (ad.add ri) = some (.int .i64 k) from fun W hW => by
                obtain ⟨ad', e', hx'⟩ := Kd.at_int (Kd.C_below HR1.out hW) (ri : Int) hrt.1 hrt.2
                cases e'
                rw [hk, Int.toNat_natCast] at hx'
                exact hx')
              have p1 : (0 ≤ (ri : Int)) = True := eq_true hrt.1
              have p2 : ((ri : Int) < (R.length : Int)) = True := eq_true hrt.2
              clear hk hD ho hR1 hrt hrt1
              go_wp2
              clear d0 d1 d2 z0 z1 z2 y0 y1 y2 hx
              refine start_ (n := 9) (S := fun w' => w'.cell? ⟨w.heap.size, 0, none⟩ = some (.slice A0 C.length c0) ∧ w'.cell? ⟨w.heap.size, 1, none⟩ = some (.slice (some ad) R.length c1) ∧ w'.cell? ⟨w.heap.size, 2, none⟩ = some (.int .i64 L) ∧ w'.cell? (ad.add ri) = some (.int .i64 k)) (ds := [8]) #[false, false, false, false, false, false, false, false, false] (by kernel_rfl) rfl rfl ⟨(blk_cell X4.out 0).trans rfl, (blk_cell X4.out 1).trans rfl, (blk_cell X4.out 2).trans rfl, HIX.out w4 B4.out⟩ (fun hHeld => ?_)
              replace B4 := Aside0.mk (below_drew1 B4.out)
              replace X4 := Aside0.mk (blk_drew X4.out)
              replace Z4 := Aside0.mk (blk_drew Z4.out)
              generalize w4.drew = w5 at B4 X4 Z4 hHeld ⊢
              refine take_ (i := 0) (N := some 25) (v := ?_) (a' := ?_) #[true, false, false, false, false, false, false, false, false] rfl rfl (by kernel_rfl) (fun _ _ _ h => h) (Or.inl ⟨by rfl, ?_⟩) hHeld ?_ ?_
              rotate_left
              · rintro w' ⟨s0, s1, s2, s3⟩
                go_simp
                with_reducible rfl
              rotate_left
              · simp only [Act.put, List.setIfInBounds_toArray, List.set_cons_zero, List.set_cons_succ, i64_w, i32_w]
                rfl
              refine take_ (i := 2) (N := some 27) (v := ?_) (a' := ?_) #[true, false, true, false, false, false, false, false, false] rfl rfl (by kernel_rfl) (fun _ _ _ h => h) (Or.inl ⟨by rfl, ?_⟩) hHeld ?_ ?_
              rotate_left
              · rintro w' ⟨s0, s1, s2, s3⟩
                go_simp
                with_reducible rfl
              rotate_left
              · simp only [Act.put, List.setIfInBounds_toArray, List.set_cons_zero, List.set_cons_succ, i64_w, i32_w]
                rfl
              refine take_ (i := 3) (N := some 28) (v := ?_) (a' := ?_) #[true, false, true, true, false, false, false, false, false] rfl rfl (by kernel_rfl) (fun _ _ _ h => h) (Or.inl ⟨by rfl, ?_⟩) hHeld ?_ ?_
              rotate_left
              · rintro w' ⟨s0, s1, s2, s3⟩
                go_simp
                with_reducible rfl
              rotate_left
              · simp only [Act.put, List.setIfInBounds_toArray, List.set_cons_zero, List.set_cons_succ, i64_w, i32_w]
                rfl
              refine take_ (i := 4) (N := some 29) (v := ?_) (a' := ?_) #[true, false, true, true, true, false, false, false, false] rfl rfl (by kernel_rfl) (fun _ _ _ h => h) (Or.inl ⟨by rfl, ?_⟩) hHeld ?_ ?_
              rotate_left
              · rintro w' ⟨s0, s1, s2, s3⟩
                go_simp
                with_reducible rfl
              rotate_left
              · simp only [Act.put, List.setIfInBounds_toArray, List.set_cons_zero, List.set_cons_succ, i64_w, i32_w]
                rfl
              refine take_ (i := 5) (N := some 30) (v := ?_) (a' := ?_) #[true, false, true, true, true, true, false, false, false] rfl rfl (by kernel_rfl) (fun _ _ _ h => h) (Or.inl ⟨by rfl, ?_⟩) hHeld ?_ ?_
              rotate_left
              · rintro w' ⟨s0, s1, s2, s3⟩
                go_simp
                with_reducible rfl
              rotate_left
              · simp only [Act.put, List.setIfInBounds_toArray, List.set_cons_zero, List.set_cons_succ, i64_w, i32_w]
                rfl
              refine take_ (i := 6) (N := some 31) (v := ?_) (a' := ?_) #[true, false, true, true, true, true, true, false, false] rfl rfl (by kernel_rfl) (fun _ _ _ h => h) (Or.inl ⟨by rfl, ?_⟩) hHeld ?_ ?_
              rotate_left
              · rintro w' ⟨s0, s1, s2, s3⟩
                go_simp
                with_reducible rfl
              rotate_left
              · simp only [Act.put, List.setIfInBounds_toArray, List.set_cons_zero, List.set_cons_succ, i64_w, i32_w]
                rfl
              refine one_ (i := 1) (N := some 26) #[true, true, true, true, true, true, true, false, false] rfl rfl (by kernel_rfl) (by decide) (fun K hK => ?_)
              refine goes_ Try.func69 (by kernel_rfl) rfl #[.agg #[.slice A0 C.length c0, .slice (some ad) R.length c1, .int .i64 L]] (by rfl) rfl rfl (by (try simp only [List.map_toArray, List.map_cons, List.map_nil]); first | done | rfl | (simp only [List.length_drop, List.length_take]; rfl)) ?_
              refine (spec_l14Own.calls k_ A0 c0 C (some ad) c1 R L C1 R1 L1 w5 (Kd.C_below HR0.out B4.out) HC0.out (Kd.C_below HR1.out B4.out) HC1.out HO.out).mono ?_
              rintro e w6 ⟨v0, v1, rfl, hs, hr, hb⟩
              refine ⟨_, rfl, ?_⟩
              obtain ⟨A5, c5, rfl⟩ := Kd.S_slice hs
              obtain ⟨A6, c6, rfl⟩ := Kd.R_slice hr
              have B6 := Aside0.mk (below_step B4.out hb)
              have X6 := Aside0.mk (blk_below X4.out hb)
              have Z6 := Aside0.mk (blk_below Z4.out hb)
              have S6 := Aside0.mk (Kd.S_lower (Kd.S_mono (Kd.S_bound hs) (fun k_ h_ => (⟨h_.1, h_.2.1⟩ : some k_ ≠ (Value.slice A6 R1.length c6).ownBlock ∧ w5.heap.size ≤ k_))) B4.out.size)
              have R6 := Aside0.mk (Kd.R_lower (Kd.R_mono (Kd.R_bound hr) (fun k_ h_ => h_.2.1)) B4.out.size : IR w6 w.heap.size (fun k_ => w5.heap.size ≤ k_) (.slice A6 R1.length c6) R1)
              have LX := Aside0.mk (show w.heap.size < w5.heap.size from blk_lt X4.out)
              have LZ := Aside0.mk (show gz < w5.heap.size from blk_lt Z4.out)
              clear hs hr hb B4 X4 Z4
              refine hK.out _ _ ⟨(blk_cell X6.out 0).trans rfl, (blk_cell X6.out 1).trans rfl, (blk_cell X6.out 2).trans rfl, HIX.out w6 B6.out⟩ (fun hHeld => ?_)
              clear hK K
              refine norm_ (a' := ?_) ?_ ?_
              rotate_left
              · show Act.put _ (some 26) _ = _
                simp only [Act.put, List.setIfInBounds_toArray, List.set_cons_zero, List.set_cons_succ, i64_w, i32_w]
                rfl
              refine one_ (i := 7) (N := some 32) #[true, true, true, true, true, true, true, true, false] rfl rfl (by kernel_rfl) (by decide) (fun K hK => ?_)
              refine goes_ Try.func71 (by kernel_rfl) rfl #[.agg #[.slice A5 C1.length c5, .slice A6 R1.length c6, .int .i64 L1], .int .i64 k] (by rfl) rfl rfl (by (try simp only [List.map_toArray, List.map_cons, List.map_nil]); first | done | rfl | (simp only [List.length_drop, List.length_take]; rfl)) ?_
              refine (drop_calls L1 C1.length c5 R1.length c6 A5 A6 5 C1 D k _ w w6 B6.out S6.out HD.out).mono ?_
              rintro e w7 ⟨rfl, hs, hb, hk7⟩
              refine ⟨_, rfl, ?_⟩
              have hown : ∀ j, some j = (Value.slice A5 C1.length c5).ownBlock → w5.heap.size ≤ j ∧ some j ≠ (Value.slice A6 R1.length c6).ownBlock := fun j hj => by have h_ := (Kd.S_R S6.out).1 j hj.symm; exact ⟨h_.2, h_.1⟩
              have X7 := Aside0.mk (blk_kept X6.out hk7 (fun h_ => by have := (hown _ h_).1; have := LX.out; omega))
              have Z7 := Aside0.mk (blk_kept Z6.out hk7 (fun h_ => by have := (hown _ h_).1; have := LZ.out; omega))
              have S7 := Aside0.mk hs
              have B7 := Aside0.mk hb
              have R7 := Aside0.mk (Kd.R_kept (Kd.R_of_own (Kd.own_of_R R6.out) (fun k_ h_ => ⟨R6.out.1 k_ h_, h_.symm⟩) : IR w6 w.heap.size (fun k_ => w5.heap.size ≤ k_ ∧ some k_ = (Value.slice A6 R1.length c6).ownBlock) (.slice A6 R1.length c6) R1) hk7 (fun k_ h_ h2_ => (hown k_ h2_).2 h_.2))
              clear hs hb hk7 hown B6 X6 Z6 S6 R6
              refine hK.out _ _ ⟨(blk_cell X7.out 0).trans rfl, (blk_cell X7.out 1).trans rfl, (blk_cell X7.out 2).trans rfl, HIX.out w7 B7.out⟩ (fun hHeld => ?_)
              clear hK K
              refine norm_ (a' := ?_) ?_ ?_
              rotate_left
              · show Act.put _ (some 32) _ = _
                simp only [Act.put, List.setIfInBounds_toArray, List.set_cons_zero, List.set_cons_succ, i64_w, i32_w]
                rfl
              have d0 : w7.cell? ⟨w.heap.size, 0, none⟩ = some (.slice A0 C.length c0) := (blk_cell X7.out 0).trans rfl
              have d1 : w7.cell? ⟨w.heap.size, 1, none⟩ = some (.slice (some ad) R.length c1) := (blk_cell X7.out 1).trans rfl
              have d2 : w7.cell? ⟨w.heap.size, 2, none⟩ = some (.int .i64 L) := (blk_cell X7.out 2).trans rfl
              have y0 := blk_frozen X7.out 0
              have y1 := blk_frozen X7.out 1
              have y2 := blk_frozen X7.out 2
              refine last_ (i := 8) (N := none) #[true, true, true, true, true, true, true, true, true] rfl rfl (by kernel_rfl) (by decide) (fun K hK => ?_)
              refine skip_ (w1 := ((w7.setCell ⟨w.heap.size, 0, none⟩ (.slice A5 C1.length c5)).setCell ⟨w.heap.size, 1, none⟩ (.slice A6 R1.length c6)).setCell ⟨w.heap.size, 2, none⟩ (.int .i64 L1)) (by rfl) rfl ?_ ?_
              · first | (go_simp; done) | (go_simp; rfl)
              refine hK.out _ _ ?_
              clear hK K
              refine done_ (by kernel_rfl) ?_
              clear hHeld
              clear d0 d1 d2 y0 y1 y2
              have hpt := fun (G : Nat) (o_ : Obj) (h_ : w7.heap[G]? = some o_) (hn_ : G ≠ w.heap.size) => (show (((w7.setCell ⟨w.heap.size, 0, none⟩ (.slice A5 C1.length c5)).setCell ⟨w.heap.size, 1, none⟩ (.slice A6 R1.length c6)).setCell ⟨w.heap.size, 2, none⟩ (.int .i64 L1)).heap[G]? = some o_ from (Below.heap_setCell _ ⟨w.heap.size, 2, none⟩ _ G hn_).trans ((Below.heap_setCell _ ⟨w.heap.size, 1, none⟩ _ G hn_).trans ((Below.heap_setCell _ ⟨w.heap.size, 0, none⟩ _ G hn_).trans h_)))
              have X8 := Aside0.mk (put3 X7.out (.slice A5 C1.length c5) (.slice A6 R1.length c6) (.int .i64 L1))
              have Z8 := Aside0.mk (hpt gz _ Z7.out (Ne.symm ZN.out))
              have S8 := Aside0.mk (Kd.S_far (p := ⟨w.heap.size, 2, none⟩) (Kd.S_far (p := ⟨w.heap.size, 1, none⟩) (Kd.S_far (p := ⟨w.heap.size, 0, none⟩) S7.out (fun k_ h_ => by have := h_.2; have := LX.out; show k_ ≠ w.heap.size; omega) (.slice A5 C1.length c5)) (fun k_ h_ => by have := h_.2; have := LX.out; show k_ ≠ w.heap.size; omega) (.slice A6 R1.length c6)) (fun k_ h_ => by have := h_.2; have := LX.out; show k_ ≠ w.heap.size; omega) (.int .i64 L1))
              have R8 := Aside0.mk (Kd.R_far (p := ⟨w.heap.size, 2, none⟩) (Kd.R_far (p := ⟨w.heap.size, 1, none⟩) (Kd.R_far (p := ⟨w.heap.size, 0, none⟩) R7.out (fun k_ h_ => by have := h_.1; have := LX.out; show k_ ≠ w.heap.size; omega) (.slice A5 C1.length c5)) (fun k_ h_ => by have := h_.1; have := LX.out; show k_ ≠ w.heap.size; omega) (.slice A6 R1.length c6)) (fun k_ h_ => by have := h_.1; have := LX.out; show k_ ≠ w.heap.size; omega) (.int .i64 L1))
              have B8 := Aside0.mk (below_set (below_set (below_set B7.out (Nat.le_refl _)) (Nat.le_refl _)) (Nat.le_refl _) : Below w.heap.size w (((w7.setCell ⟨w.heap.size, 0, none⟩ (.slice A5 C1.length c5)).setCell ⟨w.heap.size, 1, none⟩ (.slice A6 R1.length c6)).setCell ⟨w.heap.size, 2, none⟩ (.int .i64 L1)))
              clear hpt X7 Z7 S7 R7 B7
              generalize ((w7.setCell ⟨w.heap.size, 0, none⟩ (.slice A5 C1.length c5)).setCell ⟨w.heap.size, 1, none⟩ (.slice A6 R1.length c6)).setCell ⟨w.heap.size, 2, none⟩ (.int .i64 L1) = w8 at X8 Z8 S8 R8 B8 ⊢
              obtain ⟨g6, cap6, hv6, _, _, _⟩ := Kd.R_form R8.out (by have := HRT.out; omega)
              injection hv6 with hA6 hn6 hc6
              subst hA6 hc6
              clear hn6
              try go_wp2
              refine start_ (n := 14) (S := fun w' => w'.cell? ⟨w.heap.size, 1, none⟩ = some (.slice (some ⟨g6, 0, none⟩) R1.length c6) ∧ w'.cell? ⟨w.heap.size, 1, none⟩ = some (.slice (some ⟨g6, 0, none⟩) R1.length c6)) (ds := [13]) #[false, false, false, false, false, false, false, false, false, false, false, false, false, false] (by kernel_rfl) rfl rfl ⟨(blk_cell X8.out 1).trans rfl, (blk_cell X8.out 1).trans rfl⟩ (fun hHeld => ?_)
              replace B8 := Aside0.mk (below_drew1 B8.out)
              replace X8 := Aside0.mk (blk_drew X8.out)
              replace Z8 := Aside0.mk (blk_drew Z8.out)
              replace S8 := Aside0.mk (Kd.S_drew S8.out)
              replace R8 := Aside0.mk (Kd.R_drew R8.out)
              generalize w8.drew = w9 at B8 X8 Z8 S8 R8 hHeld ⊢
              have hrt1 := HRT.out
              have hRL := HRL.out
              have u1 : (0 ≤ (ri : Int)) = True := eq_true (by omega)
              have u2 : ((ri : Int) ≤ (R1.length : Int)) = True := eq_true (by omega)
              have u3 : wrap64 ((ri : Int) + 1) = (ri : Int) + 1 := w64 (by omega) (by omega)
              have u4 : ((ri : Int) + 1 ≤ (R1.length : Int)) = True := eq_true (by omega)
              have hc6 : R1.length ≤ c6 := (Kd.R_reads' R8.out).2.1
              have u5 : (ri ≤ c6) = True := eq_true (by omega)
              have u6 : (0 ≤ (ri : Int) + 1) = True := eq_true (by omega)
              have u7 : (ri + 1 ≤ R1.length) = True := eq_true (by omega)
              refine take_ (i := 1) (N := some 34) (v := ?_) (a' := ?_) #[false, true, false, false, false, false, false, false, false, false, false, false, false, false] rfl rfl (by kernel_rfl) (fun _ _ _ h => h) (Or.inl ⟨by rfl, ?_⟩) hHeld ?_ ?_
              rotate_left
              · rintro w' ⟨s0, s1⟩
                go_simp
                with_reducible rfl
              rotate_left
              · simp only [Act.put, List.setIfInBounds_toArray, List.set_cons_zero, List.set_cons_succ, i64_w, i32_w]
                rfl
              refine take_ (i := 2) (N := some 35) (v := ?_) (a' := ?_) #[false, true, true, false, false, false, false, false, false, false, false, false, false, false] rfl rfl (by kernel_rfl) (fun _ _ _ h => h) (Or.inl ⟨by rfl, ?_⟩) hHeld ?_ ?_
              rotate_left
              · rintro w' ⟨s0, s1⟩
                go_simp
                with_reducible rfl
              rotate_left
              · simp only [Act.put, List.setIfInBounds_toArray, List.set_cons_zero, List.set_cons_succ, i64_w, i32_w]
                rfl
              refine take_ (i := 3) (N := some 36) (v := ?_) (a' := ?_) #[false, true, true, true, false, false, false, false, false, false, false, false, false, false] rfl rfl (by kernel_rfl) (fun _ _ _ h => h) (Or.inl ⟨by rfl, ?_⟩) hHeld ?_ ?_
              rotate_left
              · rintro w' ⟨s0, s1⟩
                go_simp
                with_reducible rfl
              rotate_left
              · simp only [Act.put, List.setIfInBounds_toArray, List.set_cons_zero, List.set_cons_succ, i64_w, i32_w]
                rfl
              refine take_ (i := 4) (N := some 37) (v := ?_) (a' := ?_) #[false, true, true, true, true, false, false, false, false, false, false, false, false, false] rfl rfl (by kernel_rfl) (fun _ _ _ h => h) (Or.inl ⟨by rfl, ?_⟩) hHeld ?_ ?_
              rotate_left
              · rintro w' ⟨s0, s1⟩
                go_simp
                with_reducible rfl
              rotate_left
              · simp only [Act.put, List.setIfInBounds_toArray, List.set_cons_zero, List.set_cons_succ, i64_w, i32_w]
                rfl
              refine take_ (i := 6) (N := some 39) (v := ?_) (a' := ?_) #[false, true, true, true, true, false, true, false, false, false, false, false, false, false] rfl rfl (by kernel_rfl) (fun _ _ _ h => h) (Or.inl ⟨by rfl, ?_⟩) hHeld ?_ ?_
              rotate_left
              · rintro w' ⟨s0, s1⟩
                go_simp
                with_reducible rfl
              rotate_left
              · simp only [Act.put, List.setIfInBounds_toArray, List.set_cons_zero, List.set_cons_succ, i64_w, i32_w]
                rfl
              refine take_ (i := 7) (N := some 40) (v := ?_) (a' := ?_) #[false, true, true, true, true, false, true, true, false, false, false, false, false, false] rfl rfl (by kernel_rfl) (fun _ _ _ h => h) (Or.inl ⟨by rfl, ?_⟩) hHeld ?_ ?_
              rotate_left
              · rintro w' ⟨s0, s1⟩
                go_simp
                with_reducible rfl
              rotate_left
              · simp only [Act.put, List.setIfInBounds_toArray, List.set_cons_zero, List.set_cons_succ, i64_w, i32_w]
                rfl
              refine take_ (i := 8) (N := some 41) (v := ?_) (a' := ?_) #[false, true, true, true, true, false, true, true, true, false, false, false, false, false] rfl rfl (by kernel_rfl) (fun _ _ _ h => h) (Or.inl ⟨by rfl, ?_⟩) hHeld ?_ ?_
              rotate_left
              · rintro w' ⟨s0, s1⟩
                go_simp
                with_reducible rfl
              rotate_left
              · simp only [Act.put, List.setIfInBounds_toArray, List.set_cons_zero, List.set_cons_succ, i64_w, i32_w]
                rfl
              refine take_ (i := 9) (N := some 42) (v := ?_) (a' := ?_) #[false, true, true, true, true, false, true, true, true, true, false, false, false, false] rfl rfl (by kernel_rfl) (fun _ _ _ h => h) (Or.inl ⟨by rfl, ?_⟩) hHeld ?_ ?_
              rotate_left
              · rintro w' ⟨s0, s1⟩
                go_simp
                with_reducible rfl
              rotate_left
              · simp only [Act.put, List.setIfInBounds_toArray, List.set_cons_zero, List.set_cons_succ, i64_w, i32_w]
                rfl
              refine take_ (i := 10) (N := some 43) (v := ?_) (a' := ?_) #[false, true, true, true, true, false, true, true, true, true, true, false, false, false] rfl rfl (by kernel_rfl) (fun _ _ _ h => h) (Or.inl ⟨by rfl, ?_⟩) hHeld ?_ ?_
              rotate_left
              · rintro w' ⟨s0, s1⟩
                go_simp
                with_reducible rfl
              rotate_left
              · simp only [Act.put, List.setIfInBounds_toArray, List.set_cons_zero, List.set_cons_succ, i64_w, i32_w]
                rfl
              refine one_ (i := 0) (N := some 33) #[true, true, true, true, true, false, true, true, true, true, true, false, false, false] rfl rfl (by kernel_rfl) (by decide) (fun K hK => ?_)
              refine Kd.R_lit_step (Kd.int .i64) (w0 := w) w.heap.size 3 (by rfl) (N := 33) rfl (xs := ([] : List Int)) (inner := []) (ok := fun _ => True) (okp := fun _ => True) (by first | (go_simp; done) | (go_simp; rfl)) (Reps.none _ _) (fun _ hk => hk) trivial B8.out B8.out.size (by simp) ?_
              intro v33 w10 ho hb hg hnew
              have X10 := Aside0.mk (blk_grown X8.out hg (by simp))
              have Z10 := Aside0.mk (blk_grown Z8.out hg (by simp))
              have S10 := Aside0.mk (Kd.S_grown S8.out hg (fun _ _ => by simp))
              have R10 := Aside0.mk (Kd.R_grown R8.out hg (fun _ _ => by simp))
              have B10 := Aside0.mk hb
              have O10 := Aside0.mk ho
              have N10 := Aside0.mk (show ∀ j, v33.ownBlock = some j → w9.heap.size ≤ j from fun j hj => by obtain ⟨b_, e_, h_⟩ := hnew; rw [e_] at hj; injection hj with hj; omega)
              have L10 := Aside0.mk (show ∀ j, w9.heap.size ≤ j → w5.heap.size ≤ j ∧ w.heap.size < j ∧ gz < j from fun j hj => by have h1 := blk_lt X8.out; have h2 := blk_lt Z8.out; have h3 := Kd.R_lt R8.out g6 rfl; have h4 := (R8.out.1 g6 rfl).1; exact ⟨by omega, by omega, by omega⟩)
              have P10 := Aside0.mk (show ∀ j, (Value.slice (some ⟨g6, 0, none⟩) R1.length c6).ownBlock = some j → j < w9.heap.size from Kd.R_lt R8.out)
              have Q10 := Aside0.mk (Kd.S_mono (Kd.S_bound S8.out) (fun j hj => hj.2.2.1) : CS w9 w.heap.size (fun j => j < w9.heap.size) (.slice A5 C1.length c5) D)
              have HX9 := Aside0.mk (show w.heap.size < w9.heap.size from blk_lt X8.out)
              have HZ9 := Aside0.mk (show gz < w9.heap.size from blk_lt Z8.out)
              have HLW := Aside0.mk (show w9.heap.size ≤ w10.heap.size from hg.size)
              replace Q10 := Aside0.mk (Kd.S_grown Q10.out hg (fun _ _ => by simp))
              clear ho hb hg hnew B8 X8 Z8
              refine hK.out _ _ ⟨(blk_cell X10.out 1).trans rfl, (blk_cell X10.out 1).trans rfl⟩ (fun hHeld => ?_)
              clear hK K
              refine norm_ (a' := ?_) ?_ ?_
              rotate_left
              · show Act.put _ (some 33) _ = _
                simp only [Act.put, List.setIfInBounds_toArray, List.set_cons_zero, List.set_cons_succ, i64_w, i32_w]
                rfl
              refine one_ (i := 5) (N := some 38) #[true, true, true, true, true, true, true, true, true, true, true, false, false, false] rfl rfl (by kernel_rfl) (by decide) (fun K hK => ?_)
              have hlt : (R1.take ri).length = ri := by rw [List.length_take]; omega
              have hld : (R1.drop (ri + 1)).length = R1.length - (ri + 1) := by rw [List.length_drop]
              refine Kd.R_append_rows_step (Kd.int .i64) (w0 := w) w.heap.size (by rfl) (.tmp 33) (.tmp 37) 23 3 (.int .i64 0) 8 rfl Try.underlying23 info3 rfl (by decide) (by omega) v33 [] (R1.take ri) _ _ _ (fun _ => True) (fun _ => False) rfl rfl O10.out ?aR (fun _ _ h => h) (fun _ h => h.elim) (fun _ _ => trivial) B10.out B10.out.size (by simp; omega) ?_
              case aR => have h_ := Kd.C_take (m := ri) (Kd.R_reads' R10.out).2.2 (by omega); rw [hlt] at h_; exact h_
              intro v38 w11 ho hb hg hat
              have LW := Aside0.mk (show w9.heap.size ≤ w10.heap.size from HLW.out)
              have hne := fun (G : Nat) (hG : G < w9.heap.size) => (show some G ≠ v33.ownBlock from fun e_ => by have := N10.out G e_.symm; omega)
              have X11 := Aside0.mk (blk_grown X10.out hg (hne _ HX9.out))
              have Z11 := Aside0.mk (blk_grown Z10.out hg (hne _ HZ9.out))
              have R11 := Aside0.mk (Kd.R_grown R10.out hg (fun j hj => by rw [hj.2]; exact fun e_ => hne g6 (P10.out g6 rfl) e_))
              have Q11 := Aside0.mk (Kd.S_grown Q10.out hg (fun j hj => hne j hj))
              have B11 := Aside0.mk hb
              have O11 := Aside0.mk ho
              have N11 := Aside0.mk (show ∀ j, v38.ownBlock = some j → w9.heap.size ≤ j from fun j hj => by
                rcases hat with e_ | ⟨b_, e_, h_⟩
                · exact N10.out j (e_.symm.trans hj)
                · rw [e_] at hj; injection hj with hj; have := LW.out; omega)
              have LW2 := Aside0.mk (show w9.heap.size ≤ w11.heap.size from Nat.le_trans LW.out hg.size)
              clear ho hb hg hat hne X10 Z10 R10 B10 O10
              refine hK.out _ _ ⟨(blk_cell X11.out 1).trans rfl, (blk_cell X11.out 1).trans rfl⟩ (fun hHeld => ?_)
              clear hK K
              refine norm_ (a' := ?_) ?_ ?_
              rotate_left
              · show Act.put _ (some 38) _ = _
                simp only [Act.put, List.setIfInBounds_toArray, List.set_cons_zero, List.set_cons_succ, i64_w, i32_w]
                rfl
              refine one_ (i := 11) (N := some 44) #[true, true, true, true, true, true, true, true, true, true, true, true, false, false] rfl rfl (by kernel_rfl) (by decide) (fun K hK => ?_)
              refine Kd.R_append_rows_step (Kd.int .i64) (w0 := w) w.heap.size (by rfl) (.tmp 38) (.tmp 43) 23 3 (.int .i64 0) 8 rfl Try.underlying23 info3 rfl (by decide) (by omega) v38 ([] ++ R1.take ri) (R1.drop (ri + 1)) _ _ _ (fun _ => True) (fun _ => False) rfl rfl O11.out ?aR (fun _ _ h => h) (fun _ h => h.elim) (fun _ _ => trivial) B11.out B11.out.size (by simp; omega) ?_
              case aR => exact int_drop (Kd.R_reads' R11.out).2.2 (by omega) hc6
              intro v44 w12 ho hb hg hat
              have hne := fun (G : Nat) (hG : G < w9.heap.size) => (show some G ≠ v38.ownBlock from fun e_ => by have := N11.out G e_.symm; omega)
              have X12 := Aside0.mk (blk_grown X11.out hg (hne _ HX9.out))
              have Z12 := Aside0.mk (blk_grown Z11.out hg (hne _ HZ9.out))
              have R12 := Aside0.mk (Kd.R_grown R11.out hg (fun j hj => by rw [hj.2]; exact fun e_ => hne g6 (P10.out g6 rfl) e_))
              have Q12 := Aside0.mk (Kd.S_grown Q11.out hg (fun j hj => hne j hj))
              have B12 := Aside0.mk hb
              have O12 := Aside0.mk ho
              have N12 := Aside0.mk (show ∀ j, v44.ownBlock = some j → w9.heap.size ≤ j from fun j hj => by
                rcases hat with e_ | ⟨b_, e_, h_⟩
                · exact N11.out j (e_.symm.trans hj)
                · rw [e_] at hj; injection hj with hj; have := LW2.out; omega)
              obtain ⟨A7, c7, rfl⟩ : ∃ A7 c7, v44 = .slice A7 (R1.take ri ++ R1.drop (ri + 1)).length c7 := by
                obtain ⟨A7, c7, e_⟩ := Kd.R_slice ho
                exact ⟨A7, c7, e_⟩
              have HX := Aside0.mk (show ∀ j, (Value.slice A7 (R1.take ri ++ R1.drop (ri + 1)).length c7).ownBlock = some j → j ≠ w.heap.size from fun j hj => by have := N12.out j hj; have := HX9.out; omega)
              clear ho hb hg hat hne X11 Z11 R11 B11 O11
              refine hK.out _ _ ⟨(blk_cell X12.out 1).trans rfl, (blk_cell X12.out 1).trans rfl⟩ (fun hHeld => ?_)
              clear hK K
              refine norm_ (a' := ?_) ?_ ?_
              rotate_left
              · show Act.put _ (some 44) _ = _
                simp only [Act.put, List.setIfInBounds_toArray, List.set_cons_zero, List.set_cons_succ, i64_w, i32_w]
                rfl
              refine pure_ (i := 12) (N := some 45) (v := ?_) (a' := ?_) #[true, true, true, true, true, true, true, true, true, true, true, true, true, false] rfl rfl (by kernel_rfl) (fun _ _ _ h => h) (Or.inl ⟨by rfl, ?_⟩) ?_ ?_
              rotate_left
              · intro w'
                go_simp
                with_reducible rfl
              rotate_left
              · simp only [Act.put, List.setIfInBounds_toArray, List.set_cons_zero, List.set_cons_succ, i64_w, i32_w]
                rfl
              have d1 : w12.cell? ⟨w.heap.size, 1, none⟩ = some (.slice (some ⟨g6, 0, none⟩) R1.length c6) := (blk_cell X12.out 1).trans rfl
              have y1 := blk_frozen X12.out 1
              refine last_ (i := 13) (N := none) #[true, true, true, true, true, true, true, true, true, true, true, true, true, true] rfl rfl (by kernel_rfl) (by decide) (fun K hK => ?_)
              refine skip_ (w1 := w12.setCell ⟨w.heap.size, 1, none⟩ (.slice A7 (R1.take ri ++ R1.drop (ri + 1)).length c7)) (by rfl) rfl ?_ ?_
              · first | (go_simp; done) | (go_simp; rfl)
              refine hK.out _ _ ?_
              clear hK K
              refine done_ (by kernel_rfl) ?_
              clear hHeld
              clear d1 y1
              have O12' : IR w12 w.heap.size (fun j => j ≠ w.heap.size) (.slice A7 (R1.take ri ++ R1.drop (ri + 1)).length c7) (R1.take ri ++ R1.drop (ri + 1)) := Kd.R_of_own (Kd.own_of_R O12.out) HX.out
              have X13 := Aside0.mk (show (w12.setCell ⟨w.heap.size, 1, none⟩ (.slice A7 (R1.take ri ++ R1.drop (ri + 1)).length c7)).heap[w.heap.size]? = some (.cells #[.slice A5 C1.length c5, .slice A7 (R1.take ri ++ R1.drop (ri + 1)).length c7, .int .i64 L1] 25 (0, 0)) from blk_put (cs := #[.slice A5 C1.length c5, .slice (some ⟨g6, 0, none⟩) R1.length c6, .int .i64 L1]) X12.out 1 _ rfl)
              have Z13 := Aside0.mk ((Below.heap_setCell w12 ⟨w.heap.size, 1, none⟩ (.slice A7 (R1.take ri ++ R1.drop (ri + 1)).length c7) gz (Ne.symm ZN.out)).trans Z12.out)
              have S13 := Aside0.mk (Kd.S_far (p := ⟨w.heap.size, 1, none⟩) (Kd.S_types Q12.out X12.out (by decide)) (fun j hj => hj.2) (.slice A7 (R1.take ri ++ R1.drop (ri + 1)).length c7))
              have R13 := Aside0.mk (Kd.R_far (p := ⟨w.heap.size, 1, none⟩) O12' (fun j hj => hj) (.slice A7 (R1.take ri ++ R1.drop (ri + 1)).length c7))
              have B13 := Aside0.mk (below_set B12.out (Nat.le_refl _) : Below w.heap.size w (w12.setCell ⟨w.heap.size, 1, none⟩ (.slice A7 (R1.take ri ++ R1.drop (ri + 1)).length c7)))
              clear O12' X12 Z12 Q12 R12 B12 O12
              obtain ⟨m, hm⟩ : ∃ m, (R1.take ri ++ R1.drop (ri + 1)).length = m := ⟨_, rfl⟩
              rw [hm] at X13 Z13 S13 R13 B13 N12
              try rw [hm]
              generalize w12.setCell ⟨w.heap.size, 1, none⟩ (.slice A7 m c7) = w13 at X13 Z13 S13 R13 B13 ⊢
              have d0 : w13.cell? ⟨w.heap.size, 0, none⟩ = some (.slice A5 C1.length c5) := (blk_cell X13.out 0).trans rfl
              have d1 : w13.cell? ⟨w.heap.size, 1, none⟩ = some (.slice A7 m c7) := (blk_cell X13.out 1).trans rfl
              have d2 : w13.cell? ⟨w.heap.size, 2, none⟩ = some (.int .i64 L1) := (blk_cell X13.out 2).trans rfl
              have z0 : w13.cell? ⟨gz, 0, none⟩ = some (.slice none 0 0) := (blk_cell Z13.out 0).trans rfl
              have z1 : w13.cell? ⟨gz, 1, none⟩ = some (.slice none 0 0) := (blk_cell Z13.out 1).trans rfl
              have z2 : w13.cell? ⟨gz, 2, none⟩ = some (.int .i64 0) := (blk_cell Z13.out 2).trans rfl
              have y0 := blk_frozen Z13.out 0
              have y1 := blk_frozen Z13.out 1
              have y2 := blk_frozen Z13.out 2
              go_wp2
              all_goals refine bodyPost_ret (results_ct rfl _ _ gz 25 #[.slice A5 C1.length c5, .slice A7 m c7, .int .i64 L1] (0, 0) _ rfl (put3 Z13.out _ _ _) Try.underlying25 rfl (by kernel_rfl)) rfl ?_
              all_goals obtain ⟨r1_, r2_, r3_⟩ := ret_cow (v1 := .slice A7 m c7) (x := .slice A5 C1.length c5) (y := .slice A7 m c7) (z := .int .i64 L1) Z13.out ZG.out S13.out (fun j hj e_ => by have := N12.out j e_.symm; have := hj.1; omega) R13.out B13.out
              all_goals exact ⟨_, _, rfl, r1_, r2_, r3_⟩
            · cases h
          · cases h
        · cases h
end Go.Proofs.Ytacfalpgmibfnaa.PCow
