import Derived.Test.YtacfalpgmibfnaaXCowOwn
import Derived.Test.YtacfalpgmibfnaaXCowRelease
import Derived.Test.YtacfalpgmibfnaaXCowDelete
import Derived.Test.YtacfalpgmibfnaaYCowimplisRoot
/-! DropPicture of the program: a root less, behind ownCow and release; walked by hand. -/
namespace Go.Proofs.Ytacfalpgmibfnaa.PCow
open Go.RowKit Go.Proofs.YtacfalpgmibfnaaW.PrintWords Go.Proofs.YtacfalpgmibfnaaW.PrintLast Go.Proofs.YtacfalpgmibfnaaW.PrintMore Go.Proofs.Ytacfalpgmibfnaa.E
set_option linter.unusedSimpArgs false
set_option linter.unusedVariables false
def dropI (C : List CL) (R : List Int) (L root : Int) : Option (List CL × List Int × Int × Bool) :=
  if ownB C R = true then (if 0 ≤ root ∧ root < (R.length : Int) then ((dropM 5 C (rd R root)).bind fun D => some (D, R.eraseIdx root.toNat, L, true)) else none) else none
def impl_DropPicture.f (_k : Nat) (C : List CL) (R : List Int) (L root : Int) : Option (List CL × List Int × Int × Bool) :=
  (impl_isRoot.f C R L root).bind fun b => if b = true then (if (R.length : Int) < 2 then some ([], [], 0, false) else dropI C R L root) else some ([], [], 0, false)
theorem roots_step {w w3 w4 w9 : World} {gz gb m : Nat} {A5 A6 : Option Addr} {c5 c6 : Nat} {C : List CL} {R R9 : List Int} {L : Int} {v9 : Value} {zb xb : Obj} (ZG : w.heap.size ≤ gz) (XZ : w.heap.size < w3.heap.size) (LZ : gz < w3.heap.size) (LG : w3.heap.size ≤ gb) (N4 : ∀ k, (Value.slice A6 R.length c6).ownBlock = some k → w3.heap.size ≤ k)
    (X4 : w4.heap[w.heap.size]? = some xb) (Z4 : w4.heap[gz]? = some zb) (G4 : w4.heap[gb]? = some (.cells #[.slice A5 C.length c5, .slice A6 R.length c6, .int .i64 L] 25 (0, 0))) (S4 : CS w4 w.heap.size (fun k_ => k_ ≠ gb ∧ some k_ ≠ (Value.slice A6 R.length c6).ownBlock) (.slice A5 C.length c5) C)
    (ho : IR w9 w.heap.size (fun k_ => k_ ≠ gb) v9 R9) (hm : m = R9.length) (hb : Below w.heap.size w w9) (hg : w4.grownBy w9 (Value.slice A6 R.length c6).ownBlock) (hat : v9.ownBlock = (Value.slice A6 R.length c6).ownBlock ∨ ∃ b, v9.ownBlock = some b ∧ w4.heap.size ≤ b) (hr6 : ∀ k_, (Value.slice A6 R.length c6).ownBlock = some k_ → k_ ≠ gb) :
    ∃ w10 A9 c9, v9 = .slice A9 m c9 ∧ w9.setCell ⟨gb, 1, none⟩ (.slice A9 m c9) = w10 ∧ w9.cell? ⟨gb, 1, none⟩ = some (.slice A6 R.length c6) ∧ w9.frozen? ⟨gb, 1, none⟩ = false ∧ Aside0 (w10.heap[w.heap.size]? = some xb) ∧ Aside0 (w10.heap[gz]? = some zb) ∧
      Aside0 (w10.heap[gb]? = some (.cells #[.slice A5 C.length c5, .slice A9 m c9, .int .i64 L] 25 (0, 0))) ∧ Aside0 (CS w10 w.heap.size (fun k_ => k_ ≠ gb ∧ some k_ ≠ (Value.slice A9 m c9).ownBlock) (.slice A5 C.length c5) C) ∧ Aside0 (IR w10 w.heap.size (fun k_ => k_ ≠ gb) (.slice A9 m c9) R9) ∧ Aside0 (Below w.heap.size w w10) := by
  subst hm
  obtain ⟨A9, c9, rfl⟩ := Kd.R_slice ho
  have G9 := blk_grown G4 hg (fun e_ => hr6 gb e_.symm rfl)
  have Z9 := blk_grown Z4 hg (fun e_ => by have := N4 gz e_.symm; omega)
  have X9 := blk_grown X4 hg (fun e_ => by have := N4 _ e_.symm; omega)
  have S9 : CS w9 w.heap.size (fun k_ => k_ ≠ gb ∧ some k_ ≠ (Value.slice A9 R9.length c9).ownBlock) (.slice A5 C.length c5) C := Kd.S_after (ok := fun k_ => k_ ≠ gb) S4 hg hat
  refine ⟨_, A9, c9, rfl, rfl, (blk_cell G9 1).trans rfl, blk_frozen G9 1, ⟨(Below.heap_setCell w9 ⟨gb, 1, none⟩ _ _ (by show w.heap.size ≠ gb; omega)).trans X9⟩, ⟨(Below.heap_setCell w9 ⟨gb, 1, none⟩ _ gz (by show gz ≠ gb; omega)).trans Z9⟩, ⟨blk_put (cs := #[.slice A5 C.length c5, .slice A6 R.length c6, .int .i64 L]) G9 1 _ rfl⟩, ⟨Kd.S_far (p := ⟨gb, 1, none⟩) S9 (fun k_ h_ => h_.1) _⟩, ⟨Kd.R_far (p := ⟨gb, 1, none⟩) ho (fun k_ h_ => h_) _⟩, ⟨below_set hb (by omega)⟩⟩
set_option maxHeartbeats 8000000 in
set_option maxRecDepth 100000 in
theorem impl_DropPicture.calls (k_ : Nat) (A0 : Option Addr) (c0 : Nat) (C : List CL) (A1 : Option Addr) (c1 : Nat) (R : List Int) (L root : Int) (r1 : List CL) (r2 : List Int) (r3 : Int) (r4 : Bool) (w : World) (hr0 : Kd.C k68 w A0 C.length C) (hc0 : C.length ≤ c0) (hr1 : Kd.C (Kd.int .i64) w A1 R.length R) (hc1 : R.length ≤ c1) (h : impl_DropPicture.f k_ C R L root = some (r1, r2, r3, r4)) :
    Calls Try.prog 37 #[.agg #[.slice A0 C.length c0, .slice A1 R.length c1, .int .i64 L], .int .i64 root] w fun e w' => ∃ v0_ v1_ : Value, e = .returned (.tuple #[.agg #[v0_, v1_, .int .i64 r3], .bool r4]) ∧ Kd.S k68 68 w' w.heap.size (fun k_ => some k_ ≠ (v1_ : Value).ownBlock) v0_ r1 ∧ Kd.R (Kd.int .i64) 3 w' w.heap.size (fun _ => True) v1_ r2 ∧ Below w.heap.size w w' := by
  have hu25 := Try.underlying25
  have hu68 := Try.underlying68
  have hu22 := Try.underlying22
  have HR0 := Aside0.mk hr0
  have HR1 := Aside0.mk hr1
  have HC0 := Aside0.mk hc0
  have HC1 := Aside0.mk hc1
  have hl : R.length ≤ 9223372036854775807 := hr1.2.1
  have hlc : C.length ≤ 9223372036854775807 := hr0.2.1
  clear hr0 hr1 hc0 hc1
  obtain ⟨b, hb, h⟩ := Option.bind_eq_some_iff.1 h
  have HBB := Aside0.mk hb
  clear hb
  obtain ⟨W1, hW1⟩ : ∃ W, w.alloc (.cells #[.slice A0 C.length c0, .slice A1 R.length c1, .int .i64 L] 25) = W := ⟨_, rfl⟩
  obtain ⟨W2, hW2⟩ : ∃ W, W1.alloc (.cells #[.slice none 0 0, .slice none 0 0, .int .i64 0] 25) = W := ⟨_, rfl⟩
  have hb1 : Below w.heap.size w W1 := by rw [← hW1]; exact below_alloc (Below.refl _ _) _
  have hb2 : Below W1.heap.size W1 W2 := by rw [← hW2]; exact below_alloc (Below.refl _ _) _
  have X1 : W1.heap[w.heap.size]? = some (.cells #[.slice A0 C.length c0, .slice A1 R.length c1, .int .i64 L] 25 (0, 0)) := by rw [← hW1]; exact heap_alloc_new w _
  have Z1 : W2.heap[W1.heap.size]? = some (.cells #[.slice none 0 0, .slice none 0 0, .int .i64 0] 25 (0, 0)) := by rw [← hW2]; exact heap_alloc_new W1 _
  have B2 := Aside0.mk (below_step hb1 hb2)
  have X2 := Aside0.mk (blk_below X1 hb2)
  have Z2 := Aside0.mk Z1
  have ZG := Aside0.mk (show w.heap.size ≤ W1.heap.size from hb1.size)
  have ZN := Aside0.mk (show w.heap.size ≠ W1.heap.size by have := blk_lt X1; omega)
  clear hb1 hb2 X1 Z1
  have d0 : W2.cell? ⟨w.heap.size, 0, none⟩ = some (.slice A0 C.length c0) := (blk_cell X2.out 0).trans rfl
  have d1 : W2.cell? ⟨w.heap.size, 1, none⟩ = some (.slice A1 R.length c1) := (blk_cell X2.out 1).trans rfl
  have d2 : W2.cell? ⟨w.heap.size, 2, none⟩ = some (.int .i64 L) := (blk_cell X2.out 2).trans rfl
  have TT := Aside0.mk (impl_isRoot.calls A0 c0 C A1 c1 R L root b W2 (Kd.C_below HR0.out B2.out) HC0.out (Kd.C_below HR1.out B2.out) HC1.out HBB.out)
  have HH := Aside0.mk h
  clear h
  go_enter Try.func37, Try.ntmps37
  go_wp2_with (go_at_call 63; refine TT.out.mono ?_)
  (first | rintro e w3 rfl hb | rintro e w3 ⟨rfl, hb⟩)
  clear TT hW1 d0 d1 d2
  generalize hgz : W1.heap.size = gz at *
  clear hgz hW2
  have B3 := Aside0.mk (below_step B2.out hb)
  have X3 := Aside0.mk (blk_below X2.out hb)
  have Z3 := Aside0.mk (blk_below Z2.out hb)
  clear B2 X2 Z2 hb
  have d0 : w3.cell? ⟨w.heap.size, 0, none⟩ = some (.slice A0 C.length c0) := (blk_cell X3.out 0).trans rfl
  have d1 : w3.cell? ⟨w.heap.size, 1, none⟩ = some (.slice A1 R.length c1) := (blk_cell X3.out 1).trans rfl
  have d2 : w3.cell? ⟨w.heap.size, 2, none⟩ = some (.int .i64 L) := (blk_cell X3.out 2).trans rfl
  have z0 : w3.cell? ⟨gz, 0, none⟩ = some (.slice none 0 0) := (blk_cell Z3.out 0).trans rfl
  have z1 : w3.cell? ⟨gz, 1, none⟩ = some (.slice none 0 0) := (blk_cell Z3.out 1).trans rfl
  have z2 : w3.cell? ⟨gz, 2, none⟩ = some (.int .i64 0) := (blk_cell Z3.out 2).trans rfl
  have y0 := blk_frozen Z3.out 0
  have y1 := blk_frozen Z3.out 1
  have y2 := blk_frozen Z3.out 2
  cases b with
  | false =>
    have h : some (([] : List CL), ([] : List Int), (0 : Int), false) = some (r1, r2, r3, r4) := HH.out
    simp only [Option.some.injEq, Prod.mk.injEq] at h
    obtain ⟨rfl, rfl, rfl, rfl⟩ := h
    go_wp2
    refine bodyPost_ret (results_ct rfl _ _ gz 25 #[.slice none 0 0, .slice none 0 0, .int .i64 0] (0, 0) _ rfl (put3 Z3.out _ _ _) Try.underlying25 rfl (by kernel_rfl)) rfl ?_
    exact ⟨_, _, rfl, Kd.S_nil _ _ _ _ _, Kd.R_nil _ _ _ _ _, below_set (below_set (below_set B3.out ZG.out) ZG.out) ZG.out⟩
  | true =>
    have h : (if (R.length : Int) < 2 then some (([] : List CL), ([] : List Int), (0 : Int), false) else dropI C R L root) = some (r1, r2, r3, r4) := HH.out
    by_cases h8 : (R.length : Int) < 2
    · rw [if_pos h8] at h
      simp only [Option.some.injEq, Prod.mk.injEq] at h
      obtain ⟨rfl, rfl, rfl, rfl⟩ := h
      have q2 : ((R.length : Int) < 2) = True := eq_true h8
      clear h8 HH
      go_wp2
      refine bodyPost_ret (results_ct rfl _ _ gz 25 #[.slice none 0 0, .slice none 0 0, .int .i64 0] (0, 0) _ rfl (put3 Z3.out _ _ _) Try.underlying25 rfl (by kernel_rfl)) rfl ?_
      exact ⟨_, _, rfl, Kd.S_nil _ _ _ _ _, Kd.R_nil _ _ _ _ _, below_set (below_set (below_set B3.out ZG.out) ZG.out) ZG.out⟩
    · rw [if_neg h8] at h
      have q2 : ((R.length : Int) < 2) = False := eq_false h8
      clear h8 HH
      unfold dropI at h
      split at h
      · rename_i hown
        split at h
        · rename_i hrt
          obtain ⟨o1, o2, o3⟩ := ownB_out hown
          have TT := Aside0.mk (ownCow_calls A0 c0 C A1 c1 R L w3 (Kd.C_below HR0.out B3.out) HC0.out (Kd.C_below HR1.out B3.out) HC1.out o1 o3 o2)
          have HH := Aside0.mk h
          have OR := Aside0.mk o2
          have ORt := Aside0.mk hrt
          clear h hown o1 o2 o3 hrt
          go_wp2_with (go_at_call 70; refine TT.out.mono ?_)
          (first | rintro e w4 ⟨gb, v0, v1, rfl, hO, hb⟩ | rintro e w4 rfl hO hb)
          clear TT d0 d1 d2 z0 z1 z2 y0 y1 y2
          obtain ⟨A5, c5, rfl⟩ := Kd.S_slice hO.cs
          obtain ⟨A6, c6, rfl⟩ := Kd.R_slice hO.rs
          have B4 := Aside0.mk (below_step B3.out hb)
          have X4 := Aside0.mk (blk_below X3.out hb)
          have Z4 := Aside0.mk (blk_below Z3.out hb)
          have G4 := Aside0.mk hO.box
          have LG := Aside0.mk (show w3.heap.size ≤ gb from hO.ge)
          have LZ := Aside0.mk (show gz < w3.heap.size from blk_lt Z3.out)
          have S4 := Aside0.mk (Kd.S_lower hO.cs B3.out.size)
          have R4 := Aside0.mk (Kd.R_lower hO.rs B3.out.size)
          have N4 := Aside0.mk (show ∀ k, (Value.slice A6 R.length c6).ownBlock = some k → w3.heap.size ≤ k from fun k hk => Kd.R_base hO.rs k hk)
          have XZ := Aside0.mk (show w.heap.size < w3.heap.size from blk_lt X3.out)
          have R6 := Aside0.mk (show ∀ k_, (Value.slice A6 R.length c6).ownBlock = some k_ → k_ ≠ gb from fun k_ h_ => R4.out.1 k_ h_)
          clear hO hb B3 X3 Z3
          have hrt := ORt.out
          obtain ⟨k, hk⟩ : ∃ k, rd R root = k := ⟨_, rfl⟩
          have h := HH.out
          rw [hk] at h
          obtain ⟨D, hD, h⟩ := Option.bind_eq_some_iff.1 h
          simp only [Option.some.injEq, Prod.mk.injEq] at h
          obtain ⟨rfl, rfl, rfl, rfl⟩ := h
          have HD := Aside0.mk hD
          obtain ⟨g6, cap6, hv6, _, _, _⟩ := Kd.R_form R4.out (by omega)
          injection hv6 with hA6 hn6 hc6
          subst hA6 hc6
          clear hn6
          obtain ⟨ri, hri⟩ : ∃ ri : Nat, root = (ri : Int) := ⟨root.toNat, by omega⟩
          subst hri
          obtain ⟨ad, e5, hx⟩ := Kd.at_int (Kd.C_below HR1.out B4.out) (ri : Int) hrt.1 hrt.2
          subst e5
          have HIX := Aside0.mk (show ∀ W, Below w.heap.size w W → W.cell? (ad.add ((ri : Int)).toNat) = some (.int .i64 k) from fun W hW => by
            obtain ⟨ad', e', hx'⟩ := Kd.at_int (Kd.C_below HR1.out hW) (ri : Int) hrt.1 hrt.2
            cases e'
            rw [hk] at hx'
            exact hx')
          have hel : (R.eraseIdx ri).length = R.length - 1 := by rw [List.length_eraseIdx]; split <;> omega
          have HEL := Aside0.mk hel
          have TT := Aside0.mk (delete_own R4.out ri (by omega))
          have p1 : (0 ≤ (ri : Int)) = True := eq_true hrt.1
          have p2 : ((ri : Int) < (R.length : Int)) = True := eq_true hrt.2
          have p3 : wrap64 ((ri : Int) + 1) = (ri : Int) + 1 := w64 (by omega) (by omega)
          have g1 : w4.cell? ⟨gb, 1, none⟩ = some (.slice (some ⟨g6, 0, none⟩) R.length c6) := (blk_cell G4.out 1).trans rfl
          clear hk hx hel hD HH hrt
          go_wp2_with (first | (go_at_call 72; refine TT.out.mono ?_; (first | rintro e w9 rfl ho hg | rintro e w9 ⟨rfl, ho, hg⟩); (have hb := Below.grown B4.out hg B4.out.size (fun k_ h_ => by injection h_ with h_; rw [← h_]; exact Kd.R_base R4.out g6 rfl)); (obtain ⟨w10, A9, c9, hv9, hw10, g9, f9, X9, Z9, G9, S9, R9, B9⟩ := roots_step (R := R) (m := R.length - 1) ZG.out XZ.out LZ.out LG.out N4.out X4.out Z4.out G4.out S4.out ho HEL.out.symm hb hg (.inl rfl) R6.out); cases hv9; clear ho hg hb; (have i1 : w10.cell? (ad.add ri) = some (.int .i64 k) := HIX.out w10 B9.out); (have x1 : w10.cell? ⟨w.heap.size, 1, none⟩ = some (.slice (some ad) R.length c1) := (blk_cell X9.out 1).trans rfl); (have T2 := Aside0.mk (release_calls _ _ gb C.length c5 A5 5 C D k _ w w10 B9.out G9.out S9.out HD.out))) | (go_at_call 73; refine T2.out.mono ?_; (first | rintro e w11 rfl hS hG hB hK | rintro e w11 ⟨rfl, hS, hG, hB, hK⟩); clear T2; (have Z11 := Aside0.mk (blk_kept Z9.out hK (Kd.S_ne S9.out Z9.out (by decide)))); (have R11 := Aside0.mk (Kd.R_kept (Kd.R_of_own (Kd.own_of_R R9.out) (fun k_ h_ => h_.symm) : IR w10 w.heap.size (fun k_ => some k_ = (Value.slice (some ⟨g6, 0, none⟩) (R.length - 1) c6).ownBlock) (.slice (some ⟨g6, 0, none⟩) (R.length - 1) c6) (R.eraseIdx ri)) hK (fun k_ h_ h2_ => ((Kd.S_R S9.out).1 k_ h2_.symm).2 h_))); have S11 := Aside0.mk hS; have G11 := Aside0.mk hG; have B11 := Aside0.mk hB; clear hS hG hB hK; (have k0 : w11.cell? ⟨gb, 0, none⟩ = some (.slice A5 C.length c5) := (blk_cell G11.out 0).trans rfl); (have k1 : w11.cell? ⟨gb, 1, none⟩ = some (.slice (some ⟨g6, 0, none⟩) (R.length - 1) c6) := (blk_cell G11.out 1).trans rfl); (have k2 : w11.cell? ⟨gb, 2, none⟩ = some (.int .i64 L) := (blk_cell G11.out 2).trans rfl); (have z0 : w11.cell? ⟨gz, 0, none⟩ = some (.slice none 0 0) := (blk_cell Z11.out 0).trans rfl); (have z1 : w11.cell? ⟨gz, 1, none⟩ = some (.slice none 0 0) := (blk_cell Z11.out 1).trans rfl); (have z2 : w11.cell? ⟨gz, 2, none⟩ = some (.int .i64 0) := (blk_cell Z11.out 2).trans rfl); have y0 := blk_frozen Z11.out 0; have y1 := blk_frozen Z11.out 1; have y2 := blk_frozen Z11.out 2))
          refine bodyPost_ret (results_ct rfl _ _ gz 25 #[.slice A5 C.length c5, .slice (some ⟨g6, 0, none⟩) (R.length - 1) c6, .int .i64 L] (0, 0) _ rfl (put3 Z11.out _ _ _) Try.underlying25 rfl (by kernel_rfl)) rfl ?_
          obtain ⟨r1_, r2_, r3_⟩ := ret_cow (x := .slice A5 C.length c5) (y := .slice (some ⟨g6, 0, none⟩) (R.length - 1) c6) (z := .int .i64 L) Z11.out ZG.out S11.out (fun k_ h_ => h_.2) R11.out B11.out
          exact ⟨_, _, rfl, r1_, r2_, r3_⟩
        · cases h
      · cases h
end Go.Proofs.Ytacfalpgmibfnaa.PCow
