import Derived.Test.YtacfalpgmibfnaaFPut3
import Derived.StillTailTactics
namespace Go.Proofs.Ytacfalpgmibfnaa.PCow
open Go.RowKit Go.Proofs.YtacfalpgmibfnaaW.PrintWords Go.Proofs.YtacfalpgmibfnaaW.PrintLast Go.Proofs.YtacfalpgmibfnaaW.PrintMore Go.Proofs.Ytacfalpgmibfnaa.E
set_option linter.unusedSimpArgs false
set_option linter.unusedVariables false
attribute [local go_sem] max2_int max_two
def isNum (n : Nat) (k : Int) : Bool := decide (-1 ≤ k ∧ k ≤ (n : Int) - 1)
theorem within_dec (a b c : Int) : impl_within.f a b c = some (decide (b ≤ a ∧ a ≤ c)) := by
 unfold impl_within.f
 by_cases h : a ≥ b
 ·by_cases h2 : a ≤ c
  ·simp [h, h2] <;> omega
  ·simp [h, h2]
 ·simp [h] <;> omega
set_option maxHeartbeats 1000000 in
set_option maxRecDepth 100000 in
theorem num_calls (A0 : Option Addr) (n c0 : Nat) (A1 : Option Addr) (n1 c1 : Nat) (a2 k : Int) (w : World) (hn : n ≤ 9223372036854775807) :
  Calls Try.prog 59 #[.agg #[.slice A0 n c0, .slice A1 n1 c1, .int .i64 a2], .int .i64 k] w fun e w' => e = .returned (.bool (isNum n k)) ∧ Below w.heap.size w w' := by
 have hu25 := Try.underlying25
 have hw := Aside0.mk (show impl_within.f k (-1) ((n : Int) - 1) = some (isNum n k) from within_dec k (-1) ((n : Int) - 1))
 go_enter Try.func59, Try.ntmps59
 go_wp2_with (go_at_call 45; refine (impl_within.calls k (-1) ((n : Int) - 1) _ _ hw.out).mono ?_)
 (first | rintro e w' rfl ⟨⟨nd, rfl⟩⟩ | rintro e w' ⟨rfl, ⟨⟨nd, rfl⟩⟩⟩)
 go_wp2
 go_ret
 exact ⟨rfl, pw_below_drewN ((Below.refl _ _).alloc (Nat.le_refl _) _) nd⟩
set_option maxHeartbeats 1000000 in
set_option maxRecDepth 100000 in
theorem bad_calls (b : Nat) (A0 : Option Addr) (n c0 : Nat) (A1 : Option Addr) (n1 c1 : Nat) (a2 k : Int) (w : World) (hn : n ≤ 9223372036854775807) (hb : w.heap[b]? = some (.cells #[.slice A0 n c0, .slice A1 n1 c1, .int .i64 a2] 25 (0, 0))) :
  Calls Try.prog 83 #[.int .i64 k, .pointer (some ⟨b, 0, none⟩)] w fun e w' => e = .returned (.bool (!isNum n k)) ∧ Below w.heap.size w w' := by
 have hu25 := Try.underlying25
 have e0 : w.cell? ⟨b, 0, none⟩ = some (.slice A0 n c0) := (blk_cell hb _).trans rfl
 have e1 : w.cell? ⟨b, 1, none⟩ = some (.slice A1 n1 c1) := (blk_cell hb _).trans rfl
 have e2 : w.cell? ⟨b, 2, none⟩ = some (.int .i64 a2) := (blk_cell hb _).trans rfl
 have hc := Aside0.mk (num_calls A0 n c0 A1 n1 c1 a2 k w hn)
 clear hb
 go_enter Try.func83, Try.ntmps83
 go_wp2_with (go_at_call 59; refine hc.out.mono ?_)
 (first | rintro e w' rfl hb | rintro e w' ⟨rfl, hb⟩)
 go_wp2
 go_ret
 exact ⟨rfl, hb⟩
def badKid (n : Nat) (ks : List Int) : Bool := ks.any fun k => !isNum n k
def IdxPost (n : Nat) (ks : List Int) (w : World) (e : Ending) (w' : World) : Prop := ∃ r : Int, e = .returned (.int .i64 r) ∧ decide (0 ≤ r) = badKid n ks ∧ Below w.heap.size w w'
set_option maxHeartbeats 1000000 in
set_option maxRecDepth 100000 in
theorem idx_calls (ks : List Int) (A : Option Addr) (c : Nat) (b : Nat) (A0 : Option Addr) (n c0 : Nat) (A1 : Option Addr) (n1 c1 : Nat) (a2 : Int) (w : World) (hn : n ≤ 9223372036854775807) (hb : w.heap[b]? = some (.cells #[.slice A0 n c0, .slice A1 n1 c1, .int .i64 a2] 25 (0, 0)))
  (hr : (Kd.int .i64).C w A ks.length ks) (hc : ks.length ≤ c) :
  Calls Try.prog 91 #[.slice A ks.length c, .func (.func 83) #[] #[.pointer (some ⟨b, 0, none⟩)]] w (IdxPost n ks w) := by
 have HR := Aside0.mk hr
 have HB := Aside0.mk hb
 have hk : ks.length ≤ 9223372036854775807 := hr.2.1
 clear hr hb
 go_enter Try.func91, Try.ntmps91
 go_wp2
 go_loopw [8] (fun i wr => ∃ q : Nat, q ≤ ks.length ∧ i = .int .i64 q ∧ Aside0 (badKid n (ks.take q) = false) ∧ Aside0 (Below w.heap.size w wr)) (fun i _ => ks.length - (intOf i).toNat)
 case atStart => exact ⟨0, Nat.zero_le _, rfl, ⟨rfl⟩, ⟨Below.refl _ _⟩⟩
 case round =>
  obtain ⟨q, hq, rfl, hT, B⟩ := hrel
  by_cases hql : q < ks.length
  ·obtain ⟨ad2, e3, hy⟩ := Kd.at_int HR.out (q : Int) (by omega) (by omega)
   subst e3
   simp only [Int.toNat_natCast] at hy
   replace hy := pw_cell_below B.out hy
   obtain ⟨z, hz⟩ : ∃ z, rd ks (q : Int) = z := ⟨_, rfl⟩
   rw [hz] at hy
   have hqq : ((q : Int) < (ks.length : Int)) = True := eq_true (by omega)
   have hbt := Aside0.mk (show badKid n (ks.take (q + 1)) = (!isNum n z) by
    have er : rd ks (q : Int) = ks[q] := by
     unfold rd
     rw [List.getD_eq_getElem?_getD, Int.toNat_natCast, List.getElem?_eq_getElem hql]
     rfl
    have h1 := hT.out
    unfold badKid at h1 ⊢
    rw [List.take_succ_eq_append_getElem hql, List.any_append, h1, ← er, hz]
    simp)
   have hcall := Aside0.mk (bad_calls b A0 n c0 A1 n1 c1 a2 z wr hn (blk_below HB.out ⟨B.out.os, B.out.tape, B.out.output, B.out.size, B.out.block⟩))
   clear hz
   cases hnz : isNum n z with
   | true =>
    have hbt2 := Aside0.mk (show badKid n (ks.take (q + 1)) = false by rw [hbt.out, hnz]; rfl)
    rw [hnz] at hcall
    clear hbt hnz hT
    go_wp2_with (go_at_call 83; refine hcall.out.mono ?_)
    (first | rintro e w' rfl hb1 | rintro e w' ⟨rfl, hb1⟩)
    have B1 := Aside0.mk (below_then B.out B.out.size hb1)
    clear hb1 hcall
    go_wp2
    go_roundw
    case rel => exact ⟨q + 1, hql, by go_num, hbt2, B1⟩
    case measure => simp [intOf]; omega
   | false =>
    have hbad := Aside0.mk (show badKid n ks = true by
     have h1 := hbt.out
     rw [hnz] at h1
     unfold badKid at h1 ⊢
     obtain ⟨x, hx, hx2⟩ := List.any_eq_true.1 h1
     exact List.any_eq_true.2 ⟨x, List.mem_of_mem_take hx, hx2⟩)
    rw [hnz] at hcall
    clear hbt hnz hT
    go_wp2_with (go_at_call 83; refine hcall.out.mono ?_)
    (first | rintro e w' rfl hb1 | rintro e w' ⟨rfl, hb1⟩)
    have B1 := Aside0.mk (below_then B.out B.out.size hb1)
    clear hb1 hcall
    go_wp2
    go_ret
    exact ⟨q, rfl, by rw [hbad.out]; simp, B1.out⟩
  ·have hqq : ((q : Int) < (ks.length : Int)) = False := eq_false (by omega)
   have hbad := Aside0.mk (show badKid n ks = false by
    have h1 := hT.out
    rwa [List.take_of_length_le (by omega)] at h1)
   clear hql hq hT
   go_wp2
   go_ret
   exact ⟨-1, rfl, by rw [hbad.out]; rfl, B.out⟩
set_option maxHeartbeats 1000000 in
set_option maxRecDepth 100000 in
theorem contains_calls (ks : List Int) (A : Option Addr) (c : Nat) (b : Nat) (A0 : Option Addr) (n c0 : Nat) (A1 : Option Addr) (n1 c1 : Nat) (a2 : Int) (w : World) (hn : n ≤ 9223372036854775807) (hb : w.heap[b]? = some (.cells #[.slice A0 n c0, .slice A1 n1 c1, .int .i64 a2] 25 (0, 0)))
  (hr : (Kd.int .i64).C w A ks.length ks) (hc : ks.length ≤ c) :
  Calls Try.prog 82 #[.slice A ks.length c, .func (.func 83) #[] #[.pointer (some ⟨b, 0, none⟩)]] w fun e w' => e = .returned (.bool (badKid n ks)) ∧ Below w.heap.size w w' := by
 have hcall := Aside0.mk (idx_calls ks A c b A0 n c0 A1 n1 c1 a2 w hn hb hr hc)
 clear hb hr
 go_enter Try.func82, Try.ntmps82
 go_wp2_with (go_at_call 91; refine hcall.out.mono ?_)
 rintro e w' ⟨r, rfl, hr, hb⟩
 go_wp2
 go_ret
 exact ⟨rfl, hb⟩
def maxOf (m : Int) (ks : List Int) : Int := ks.foldl (fun m x => if m < x then x else m) m
theorem maxOf_ge (ks : List Int) : ∀ m : Int, (0 ≤ maxOf m ks ↔ 0 ≤ m ∨ someKid ks = true) := by
 induction ks with
 | nil => intro m; simp [maxOf, someKid]
 | cons k r ih =>
  intro m
  have e : maxOf m (k :: r) = maxOf (if m < k then k else m) r := rfl
  have e2 : someKid (k :: r) = (decide (k ≥ 0) || someKid r) := rfl
  rw [e, ih, e2]
  simp only [Bool.or_eq_true, decide_eq_true_eq]
  have h0 : (0 ≤ (if m < k then k else m)) ↔ (0 ≤ m ∨ 0 ≤ k) := by split <;> omega
  rw [h0, or_assoc]
set_option maxHeartbeats 1000000 in
set_option maxRecDepth 100000 in
theorem max_calls (ks : List Int) (A : Option Addr) (c : Nat) (w : World) (hr : (Kd.int .i64).C w A ks.length ks) (hc : ks.length ≤ c) (h4 : ks.length = 4) :
  Calls Try.prog 84 #[.slice A ks.length c] w fun e w' => (∃ m : Int, e = .returned (.int .i64 m) ∧ decide (0 ≤ m) = someKid ks) ∧ w = w' := by
 obtain ⟨k0, k1, k2, k3, rfl⟩ : ∃ a b c d, ks = [a, b, c, d] := by
  match ks, h4 with
  | [a, b, c, d], _ => exact ⟨a, b, c, d, rfl⟩
 have g0 := Kd.at_int hr 0 (by omega) (by simp)
 have g1 := Kd.at_int hr 1 (by omega) (by simp)
 have g2 := Kd.at_int hr 2 (by omega) (by simp)
 have g3 := Kd.at_int hr 3 (by omega) (by simp)
 obtain ⟨ad, rfl, g0⟩ := g0
 obtain ⟨_, e1, g1⟩ := g1
 cases e1
 obtain ⟨_, e1, g2⟩ := g2
 cases e1
 obtain ⟨_, e1, g3⟩ := g3
 cases e1
 have x0 : w.cell? ad = some (.int .i64 k0) := by
  have := g0
  rw [show (0 : Int).toNat = 0 from rfl, show ad.add 0 = ad by simp [Addr.add]] at this
  exact this
 have x1 : w.cell? ⟨ad.block, ad.off + 1, none⟩ = some (.int .i64 k1) := by
  have := g1
  rwa [show ad.add (1 : Int).toNat = ⟨ad.block, ad.off + 1, none⟩ from by simp [Addr.add]] at this
 have x2 : w.cell? ⟨ad.block, ad.off + 2, none⟩ = some (.int .i64 k2) := by
  have := g2
  rwa [show ad.add (2 : Int).toNat = ⟨ad.block, ad.off + 2, none⟩ from by simp [Addr.add]] at this
 have x3 : w.cell? ⟨ad.block, ad.off + 3, none⟩ = some (.int .i64 k3) := by
  have := g3
  rwa [show ad.add (3 : Int).toNat = ⟨ad.block, ad.off + 3, none⟩ from by simp [Addr.add]] at this
 have x0' : w.cell? (ad.add 0) = some (.int .i64 k0) := g0
 clear g0 g1 g2 g3 hr h4
 simp only [List.length_cons, List.length_nil] at hc ⊢
 go_enter Try.func84, Try.ntmps84
 go_wp2
 go_loop [3, 4] (fun m i => ∃ q : Nat, 1 ≤ q ∧ q ≤ 4 ∧ i = .int .i64 q ∧ m = .int .i64 (maxOf k0 ([k1, k2, k3].take (q - 1)))) (fun _ i => 4 - (intOf i).toNat)
 case atStart => exact ⟨1, Nat.le_refl _, by omega, rfl, rfl⟩
 case round =>
  obtain ⟨q, hq1, hq, rfl, rfl⟩ := hrel
  rcases (show q = 1 ∨ q = 2 ∨ q = 3 ∨ q = 4 by omega) with rfl | rfl | rfl | rfl
  ·go_wp2
   go_round
   case rel => exact ⟨2, by omega, by omega, rfl, rfl⟩
   case measure => simp [intOf]
  ·go_wp2
   go_round
   case rel => exact ⟨3, by omega, by omega, rfl, rfl⟩
   case measure => simp [intOf]
  ·go_wp2
   go_round
   case rel => exact ⟨4, by omega, by omega, rfl, rfl⟩
   case measure => simp [intOf]
  ·go_wp2
   go_ret
   refine ⟨⟨_, rfl, ?_⟩, rfl⟩
   have h := maxOf_ge [k1, k2, k3] k0
   have e2 : someKid [k0, k1, k2, k3] = (decide (k0 ≥ 0) || someKid [k1, k2, k3]) := rfl
   rw [e2]
   by_cases h0 : 0 ≤ maxOf k0 [k1, k2, k3]
   ·have h1 := h.1 h0
    rw [decide_eq_true h0]
    rcases h1 with h1 | h1
    ·simp [h1]
    ·simp [h1]
   ·have h1 := fun x => h0 (h.2 x)
    rw [decide_eq_false h0]
    have h2 : ¬ 0 ≤ k0 := fun x => h1 (.inl x)
    have h3 : someKid [k1, k2, k3] = false := by
     cases h4 : someKid [k1, k2, k3] with
     | true => exact absurd (.inr h4) h1
     | false => rfl
    simp [h2, h3]
def goodB (n : Nat) (x : S68) (lev : Int) : Bool :=
 if lev = 1 then (if 1 ≤ (x.f1.size : Int) ∧ (x.f1.size : Int) ≤ 8 then decide (x.f2.length = 0) else false)
 else if x.f1.size = 0 then (if (x.f2.length : Int) = 4 then (if badKid n x.f2 = true then false else someKid x.f2) else false) else false
set_option maxHeartbeats 2000000 in
set_option maxRecDepth 100000 in
theorem cell_calls (A0 : Option Addr) (n c0 : Nat) (A1 : Option Addr) (n1 c1 : Nat) (a2 : Int) (x : S68) (A2 : Option Addr) (c2 : Nat) (lev : Int) (w : World) (hn : n ≤ 9223372036854775807) (hr : (Kd.int .i64).C w A2 x.f2.length x.f2) (hc : x.f2.length ≤ c2) :
  Calls Try.prog 60 #[.agg #[.slice A0 n c0, .slice A1 n1 c1, .int .i64 a2], .agg #[.int .i64 x.f0, .string x.f1, .slice A2 x.f2.length c2], .int .i64 lev] w fun e w' => e = .returned (.bool (goodB n x lev)) ∧ Below w.heap.size w w' := by
 have hu25 := Try.underlying25
 have hu68 := Try.underlying68
 have HR := Aside0.mk hr
 have hx2 : x.f2.length ≤ 9223372036854775807 := hr.2.1
 obtain ⟨r, hG⟩ : ∃ r, goodB n x lev = r := ⟨_, rfl⟩
 rw [hG]
 have HG := Aside0.mk hG
 clear hr hG
 have bel : Aside0 (∀ o o', Below w.heap.size w ((w.alloc o).alloc o')) := ⟨fun o o' => ((Below.refl _ _).alloc (Nat.le_refl _) _).alloc (by simp) _⟩
 by_cases hl : lev = 1
 ·subst hl
  have hw := Aside0.mk (within_dec (x.f1.size : Int) 1 8)
  by_cases h8 : 1 ≤ (x.f1.size : Int) ∧ (x.f1.size : Int) ≤ 8
  ·rw [decide_eq_true h8] at hw
   have hg2 := HG.out
   unfold goodB at hg2
   rw [if_pos rfl, if_pos h8] at hg2
   by_cases h0 : x.f2.length = 0
   ·rw [decide_eq_true h0] at hg2
    subst hg2
    have hz : ((x.f2.length : Int) == 0) = true := by simp [h0]
    have hz' : ((x.f2.length : Int) = 0) = True := eq_true (by omega)
    clear h8 h0
    go_enter Try.func60, Try.ntmps60
    go_wp2_with (go_at_call 45; refine (impl_within.calls _ 1 8 _ _ hw.out).mono ?_)
    (first | rintro e w' rfl ⟨⟨nd, rfl⟩⟩ | rintro e w' ⟨rfl, ⟨⟨nd, rfl⟩⟩⟩)
    go_wp2
    go_ret
    exact ⟨rfl, pw_below_drewN (bel.out _ _) nd⟩
   ·rw [decide_eq_false h0] at hg2
    subst hg2
    have hz : ((x.f2.length : Int) == 0) = false := beq_eq_false_iff_ne.2 (by omega)
    have hz' : ((x.f2.length : Int) = 0) = False := eq_false (by omega)
    clear h8 h0
    go_enter Try.func60, Try.ntmps60
    go_wp2_with (go_at_call 45; refine (impl_within.calls _ 1 8 _ _ hw.out).mono ?_)
    (first | rintro e w' rfl ⟨⟨nd, rfl⟩⟩ | rintro e w' ⟨rfl, ⟨⟨nd, rfl⟩⟩⟩)
    go_wp2
    go_ret
    exact ⟨rfl, pw_below_drewN (bel.out _ _) nd⟩
  ·rw [decide_eq_false h8] at hw
   have hg2 := HG.out
   unfold goodB at hg2
   rw [if_pos rfl, if_neg h8] at hg2
   subst hg2
   clear h8
   go_enter Try.func60, Try.ntmps60
   go_wp2_with (go_at_call 45; refine (impl_within.calls _ 1 8 _ _ hw.out).mono ?_)
   (first | rintro e w' rfl ⟨⟨nd, rfl⟩⟩ | rintro e w' ⟨rfl, ⟨⟨nd, rfl⟩⟩⟩)
   go_wp2
   go_ret
   exact ⟨rfl, pw_below_drewN (bel.out _ _) nd⟩
 ·have hl1 : (lev == 1) = false := beq_eq_false_iff_ne.2 hl
  have hl2 : (lev = 1) = False := eq_false hl
  have hg2 := HG.out
  unfold goodB at hg2
  rw [if_neg hl] at hg2
  clear hl
  by_cases h6 : x.f1.size = 0
  ·have h7 : (x.f1.toList = []) = True := eq_true (ba_nil.2 h6)
   have h8 : x.f1.toList.isEmpty = true := by rw [ba_nil.2 h6]; rfl
   rw [if_pos h6] at hg2
   clear h6
   by_cases h5 : (x.f2.length : Int) = 4
   ·rw [if_pos h5] at hg2
    have h5' : ((x.f2.length : Int) == 4) = true := by simpa using h5
    have h5'' : ((x.f2.length : Int) = 4) = True := eq_true h5
    have HF := Aside0.mk (show x.f2.length = 4 by omega)
    clear h5
    have hcon : ∀ W, Below ((w.alloc (.cells #[.slice A0 n c0, .slice A1 n1 c1, .int .i64 a2] 25)).alloc (.cells #[.int .i64 x.f0, .string x.f1, .slice A2 x.f2.length c2] 68)).heap.size ((w.alloc (.cells #[.slice A0 n c0, .slice A1 n1 c1, .int .i64 a2] 25)).alloc (.cells #[.int .i64 x.f0, .string x.f1, .slice A2 x.f2.length c2] 68)) W → True := fun _ _ => trivial
    clear hcon
    have hcont := Aside0.mk (contains_calls x.f2 A2 c2 w.heap.size A0 n c0 A1 n1 c1 a2 ((w.alloc (.cells #[.slice A0 n c0, .slice A1 n1 c1, .int .i64 a2] 25)).alloc (.cells #[.int .i64 x.f0, .string x.f1, .slice A2 x.f2.length c2] 68)) hn (blk_alloc (heap_alloc_new w _) _) (Kd.C_alloc (Kd.C_alloc HR.out _) _) hc)
    cases hb : badKid n x.f2 with
    | true =>
     rw [hb, if_pos rfl] at hg2
     rw [hb] at hcont
     subst hg2
     clear hb
     go_enter Try.func60, Try.ntmps60
     go_wp2_with (go_at_call 82; (with_reducible refine hcont.out.mono ?_))
     (first | rintro e w' rfl hb1 | rintro e w' ⟨rfl, hb1⟩)
     go_wp2
     go_ret
     exact ⟨rfl, below_then (bel.out _ _) (by simp; omega) hb1⟩
    | false =>
     rw [hb, if_neg (by simp)] at hg2
     rw [hb] at hcont
     clear hb
     go_enter Try.func60, Try.ntmps60
     go_wp2_with (go_at_call 82; (with_reducible refine hcont.out.mono ?_))
     (first | rintro e w' rfl hb1 | rintro e w' ⟨rfl, hb1⟩)
     have Y1 := Aside0.mk (blk_below (heap_alloc_new (w.alloc (.cells #[.slice A0 n c0, .slice A1 n1 c1, .int .i64 a2] 25)) (.cells #[.int .i64 x.f0, .string x.f1, .slice A2 x.f2.length c2] 68)) hb1)
     have B1 := Aside0.mk (below_then (bel.out (.cells #[.slice A0 n c0, .slice A1 n1 c1, .int .i64 a2] 25) (.cells #[.int .i64 x.f0, .string x.f1, .slice A2 x.f2.length c2] 68)) (by simp; omega) hb1)
     have C1 := Aside0.mk (Kd.C_below HR.out B1.out)
     have y2 : w'.cell? ⟨(w.alloc (.cells #[.slice A0 n c0, .slice A1 n1 c1, .int .i64 a2] 25)).heap.size, 2, none⟩ = some (.slice A2 x.f2.length c2) := (blk_cell Y1.out _).trans rfl
     rw [show (w.alloc (.cells #[.slice A0 n c0, .slice A1 n1 c1, .int .i64 a2] 25)).heap.size = w.heap.size + 1 from by simp] at y2
     clear hb1 hcont
     go_wp2_with (go_at_call 84; (with_reducible refine (max_calls x.f2 A2 c2 _ C1.out hc HF.out).mono ?_))
     rintro e w5 ⟨⟨m, rfl, hm⟩, rfl⟩
     rw [hg2] at hm
     clear hg2
     go_wp2
     go_ret
     exact ⟨rfl, B1.out⟩
   ·rw [if_neg h5] at hg2
    have h5' : ((x.f2.length : Int) == 4) = false := beq_eq_false_iff_ne.2 h5
    have h5'' : ((x.f2.length : Int) = 4) = False := eq_false h5
    subst hg2
    clear h5
    go_enter Try.func60, Try.ntmps60
    go_wp2
    go_ret
    exact ⟨rfl, bel.out _ _⟩
  ·have h7 : (x.f1.toList = []) = False := eq_false (fun h9 => h6 (ba_nil.1 h9))
   have h8 : x.f1.toList.isEmpty = false := by
    cases h9 : x.f1.toList with
    | nil => exact absurd (ba_nil.1 h9) h6
    | cons a b => rfl
   rw [if_neg h6] at hg2
   subst hg2
   clear h6
   go_enter Try.func60, Try.ntmps60
   go_wp2
   go_ret
   exact ⟨rfl, bel.out _ _⟩
end Go.Proofs.Ytacfalpgmibfnaa.PCow
namespace Go.Proofs.Ytacfalpgmibfnaa.PCow
open Go.RowKit Go.Proofs.YtacfalpgmibfnaaW.PrintWords Go.Proofs.YtacfalpgmibfnaaW.PrintLast Go.Proofs.YtacfalpgmibfnaaW.PrintMore Go.Proofs.Ytacfalpgmibfnaa.E
set_option linter.unusedSimpArgs false
set_option linter.unusedVariables false
abbrev RI (w0 w : World) (v : Value) (xs : List Int) : Prop := (Kd.int .i64).R 3 w w0.heap.size (fun _ => True) v xs
structure RS (w0 : World) (gb bc bl bn : Nat) (box : Array Value) (vc vl : Value) (w : World) (cnt lev line : List Int) : Prop where
 below : Below w0.heap.size w0 w
 box_ : w.heap[gb]? = some (.cells box 25 (0, 0))
 cb : w.heap[bc]? = some (.cells #[vc] 23 (0, 0))
 lb : w.heap[bl]? = some (.cells #[vl] 23 (0, 0))
 nb : ∃ vn, w.heap[bn]? = some (.cells #[vn] 23 (0, 0)) ∧ RI w0 w vn line ∧ NeRow vc vn ∧ NeRow vl vn
 rc : RI w0 w vc cnt
 rl : RI w0 w vl lev
 ne : NeRow vc vl
 at_ : bc ≠ bl ∧ bc ≠ bn ∧ bl ≠ bn ∧ w0.heap.size ≤ bc ∧ w0.heap.size ≤ bl ∧ w0.heap.size ≤ bn
section
variable {g n c : Nat} {w0 : World} {gb bc bl bn : Nat} {box : Array Value} {vc vl : Value} {w w' : World} {cnt lev line : List Int}
theorem RI_far {v : Value} {xs : List Int} (h : RI w0 w v xs) {p : Addr} (hne : some p.block ≠ v.ownBlock) (u : Value) : RI w0 (w.setCell p u) v xs := Kd.R_of_own (own_setCell (Kd.own_of_R h) hne u) (fun _ _ => trivial)
theorem RI_other {v : Value} {xs : List Int} (h : RI w0 w v xs) {row : Option Nat} (hg : w.grownBy w' row) (hne : v.ownBlock = none ∨ v.ownBlock ≠ row) : RI w0 w' v xs := Kd.R_of_own (own_other (Kd.own_of_R h) hg hne) (fun _ _ => trivial)
theorem RI_blk {v : Value} {xs : List Int} (h : RI w0 w v xs) {g t : Nat} {cs : Array Value} (hb : w.heap[g]? = some (.cells cs t (0, 0))) (ht : 3 ≠ t) : some g ≠ v.ownBlock := Kd.R_ne h hb ht
theorem RS.below_ (h : RS w0 gb bc bl bn box vc vl w cnt lev line) (hb : Below w.heap.size w w') : RS w0 gb bc bl bn box vc vl w' cnt lev line := by
 obtain ⟨vn, h1, h2, h3⟩ := h.nb
 exact ⟨below_then h.below h.below.size hb, blk_below h.box_ hb, blk_below h.cb hb, blk_below h.lb hb, ⟨vn, blk_below h1 hb, Kd.R_below h2 hb, h3⟩, Kd.R_below h.rc hb, Kd.R_below h.rl hb, h.ne, h.at_⟩
theorem RS.putC (h : RS w0 gb bc bl bn box (.slice (some ⟨g, 0, none⟩) n c) vl w cnt lev line) (i x : Int) : RS w0 gb bc bl bn box (.slice (some ⟨g, 0, none⟩) n c) vl (w.setCell ⟨g, i.toNat, none⟩ (.int .i64 x)) (cnt.set i.toNat x) lev line := by
 obtain ⟨vn, h1, h2, h3, h4⟩ := h.nb
 have e : (Value.slice (some ⟨g, 0, none⟩) n c).ownBlock = some g := by simp [Value.ownBlock]
 have hg := Kd.R_base h.rc g e
 refine ⟨below_set h.below hg, blk_far h.box_ (fun q => RI_blk h.rc h.box_ (by decide) (by rw [e, q])) _, blk_far h.cb (fun q => RI_blk h.rc h.cb (by decide) (by rw [e, q])) _, blk_far h.lb (fun q => RI_blk h.rc h.lb (by decide) (by rw [e, q])) _,
  ⟨vn, blk_far h1 (fun q => RI_blk h.rc h1 (by decide) (by rw [e, q])) _, RI_far h2 (fun q => h3 g e q.symm) _, h3, h4⟩, Kd.R_putn h.rc i x, RI_far h.rl (fun q => h.ne g e q.symm) _, h.ne, h.at_⟩
theorem RS.putL (h : RS w0 gb bc bl bn box vc (.slice (some ⟨g, 0, none⟩) n c) w cnt lev line) (i x : Int) : RS w0 gb bc bl bn box vc (.slice (some ⟨g, 0, none⟩) n c) (w.setCell ⟨g, i.toNat, none⟩ (.int .i64 x)) cnt (lev.set i.toNat x) line := by
 obtain ⟨vn, h1, h2, h3, h4⟩ := h.nb
 have e : (Value.slice (some ⟨g, 0, none⟩) n c).ownBlock = some g := by simp [Value.ownBlock]
 have hg := Kd.R_base h.rl g e
 refine ⟨below_set h.below hg, blk_far h.box_ (fun q => RI_blk h.rl h.box_ (by decide) (by rw [e, q])) _, blk_far h.cb (fun q => RI_blk h.rl h.cb (by decide) (by rw [e, q])) _, blk_far h.lb (fun q => RI_blk h.rl h.lb (by decide) (by rw [e, q])) _,
  ⟨vn, blk_far h1 (fun q => RI_blk h.rl h1 (by decide) (by rw [e, q])) _, RI_far h2 (fun q => h4 g e q.symm) _, h3, h4⟩, RI_far h.rc (fun q => (ne_symm h.ne) g e q.symm) _, Kd.R_putn h.rl i x, h.ne, h.at_⟩
theorem RS.line_ (h : RS w0 gb bc bl bn box vc vl w cnt lev line) {vn v1 : Value} {w1 : World} {line1 : List Int} (hn : w.heap[bn]? = some (.cells #[vn] 23 (0, 0))) (hnr : RI w0 w vn line) (hc : NeRow vc vn) (hl : NeRow vl vn)
  (hg : w.grownBy w1 vn.ownBlock) (hb : Below w0.heap.size w0 w1) (hat : v1.ownBlock = vn.ownBlock ∨ ∃ b, v1.ownBlock = some b ∧ w.heap.size ≤ b) (hr : RI w0 w1 v1 line1) :
  RS w0 gb bc bl bn box vc vl (w1.setCell ⟨bn, 0, none⟩ v1) cnt lev line1 := by
 have k1 := blk_grown h.box_ hg (RI_blk hnr h.box_ (by decide))
 have k2 := blk_grown h.cb hg (RI_blk hnr h.cb (by decide))
 have k3 := blk_grown h.lb hg (RI_blk hnr h.lb (by decide))
 have k4 := blk_grown hn hg (RI_blk hnr hn (by decide))
 have r1 := RI_other h.rc hg (ne_other (ne_symm hc))
 have r2 := RI_other h.rl hg (ne_other (ne_symm hl))
 have o1 := RI_blk r1 k4 (by decide)
 have o2 := RI_blk r2 k4 (by decide)
 have o3 := RI_blk hr k4 (by decide)
 refine ⟨below_set hb h.at_.2.2.2.2.2, blk_far k1 (blk_ne k1 k4 (by decide)) _, blk_far k2 h.at_.2.1 _, blk_far k3 h.at_.2.2.1 _, ⟨v1, ?_, RI_far hr o3 _, ne_append' hc hat (Kd.own_of_R h.rc), ne_append' hl hat (Kd.own_of_R h.rl)⟩, RI_far r1 o1 _, RI_far r2 o2 _, h.ne, h.at_⟩
 have := blk_set k4 0 v1
 simpa using this
def referM (C : List S68) (k own : Int) (cnt lev line : List Int) : Bool × List Int × List Int × List Int :=
 if isNum C.length k = true then
  (if k < 0 then (true, cnt, lev, line)
  else if rd lev k = 0 then (goodB C.length (rd_T68 C k) own, cnt.set k.toNat (wrap64 (rd cnt k + 1)), lev.set k.toNat own, line ++ [k])
  else (decide (rd lev k = own), cnt.set k.toNat (wrap64 (rd cnt k + 1)), lev, line))
 else (false, cnt, lev, line)
end
set_option maxHeartbeats 2000000 in
set_option maxRecDepth 100000 in
theorem refer_calls (C : List S68) (w0 : World) (gb bc bl bn : Nat) (A0 : Option Addr) (c0 : Nat) (A1 : Option Addr) (n1 c1 : Nat) (a2 : Int) (vc vl : Value) (w : World) (cnt lev line : List Int) (k own : Int)
  (hr : Kd.C k68 w0 A0 C.length C) (h : RS w0 gb bc bl bn #[.slice A0 C.length c0, .slice A1 n1 c1, .int .i64 a2] vc vl w cnt lev line) (h1 : cnt.length = C.length) (h2 : lev.length = C.length) (h3 : line.length ≤ 1000000000) :
  Calls Try.prog 58 #[.int .i64 k, .int .i64 own, .pointer (some ⟨gb, 0, none⟩), .pointer (some ⟨bc, 0, none⟩), .pointer (some ⟨bl, 0, none⟩), .pointer (some ⟨bn, 0, none⟩)] w fun e w' => e = .returned (.bool (referM C k own cnt lev line).1) ∧ RS w0 gb bc bl bn #[.slice A0 C.length c0, .slice A1 n1 c1, .int .i64 a2] vc vl w' (referM C k own cnt lev line).2.1 (referM C k own cnt lev line).2.2.1 (referM C k own cnt lev line).2.2.2 := by
 have hu25 := Try.underlying25
 have hu68 := Try.underlying68
 have hn : C.length ≤ 9223372036854775807 := hr.2.1
 have HR := Aside0.mk hr
 have H := Aside0.mk h
 have H1 := Aside0.mk h1
 have H2 := Aside0.mk h2
 have H3 := Aside0.mk h3
 have e0 : w.cell? ⟨gb, 0, none⟩ = some (.slice A0 C.length c0) := (blk_cell H.out.box_ _).trans rfl
 have e1 : w.cell? ⟨gb, 1, none⟩ = some (.slice A1 n1 c1) := (blk_cell H.out.box_ _).trans rfl
 have e2 : w.cell? ⟨gb, 2, none⟩ = some (.int .i64 a2) := (blk_cell H.out.box_ _).trans rfl
 have hnum := Aside0.mk (num_calls A0 C.length c0 A1 n1 c1 a2 k w hn)
 clear hr h h1 h2 h3
 by_cases hk : isNum C.length k = true
 ·by_cases hneg : k < 0
  ·have er : referM C k own cnt lev line = (true, cnt, lev, line) := by unfold referM; rw [if_pos hk, if_pos hneg]
   rw [er]
   rw [hk] at hnum
   have hd : decide (k < 0) = true := decide_eq_true hneg
   clear hk hneg er
   go_enter Try.func58, Try.ntmps58
   go_wp2_with (go_at_call 59; (with_reducible refine hnum.out.mono ?_))
   (first | rintro e w' rfl hb1 | rintro e w' ⟨rfl, hb1⟩)
   have HS := Aside0.mk (H.out.below_ hb1)
   clear hb1
   go_wp2
   go_ret
   exact ⟨rfl, HS.out⟩
  ·have hk2 : k ≤ (C.length : Int) - 1 := by
    unfold isNum at hk
    have := of_decide_eq_true hk
    omega
   obtain ⟨x, hx⟩ : ∃ x, rd_T68 C k = x := ⟨_, rfl⟩
   obtain ⟨v, hv⟩ : ∃ v, wrap64 (rd cnt k + 1) = v := ⟨_, rfl⟩
   have p1 : (0 ≤ k) = True := eq_true (by omega)
   have hd : decide (k < 0) = false := decide_eq_false hneg
   have p2 : (k < (C.length : Int)) = True := eq_true (by omega)
   have p3 : (k < (cnt.length : Int)) = True := eq_true (by have := H1.out; omega)
   have p4 : (k < (lev.length : Int)) = True := eq_true (by have := H2.out; omega)
   obtain ⟨gc, cc, hvc, hgc1, hgc2, csc, hgcb⟩ := Kd.R_form H.out.rc (by have := H1.out; omega)
   obtain ⟨gl, cl, hvl, hgl1, hgl2, csl, hglb⟩ := Kd.R_form H.out.rl (by have := H2.out; omega)
   subst hvc
   subst hvl
   rw [hk] at hnum
   have HB0 := Aside0.mk (show 0 ≤ k ∧ k ≤ (C.length : Int) - 1 by omega)
   obtain ⟨ad, A2, c2, hA0, hx0, hx1, hx2, hxl, hxC⟩ := at_T68 HR.out k HB0.out.1 (by have := HB0.out; omega)
   subst hA0
   rw [hx] at hx0 hx1 hx2 hxl hxC
   have X0 := Aside0.mk hx0
   have X1 := Aside0.mk hx1
   have X2 := Aside0.mk hx2
   have XC := Aside0.mk hxC
   clear hx0 hx1 hx2 hxC
   by_cases hz : rd lev k = 0
   ·have er : referM C k own cnt lev line = (goodB C.length x own, cnt.set k.toNat v, lev.set k.toNat own, line ++ [k]) := by unfold referM; rw [if_pos hk, if_neg hneg, if_pos hz, hx, hv]
    rw [er]
    clear hk hneg er
    go_enter Try.func58, Try.ntmps58
    go_wp2_with (go_at_call 59; (with_reducible refine hnum.out.mono ?_))
    (first | rintro e w1 rfl hb1 | rintro e w1 ⟨rfl, hb1⟩)
    have S1 := Aside0.mk (H.out.below_ hb1)
    clear hb1 hnum H e0 e1 e2
    have c1' : w1.cell? ⟨bc, 0, none⟩ = some (.slice (some ⟨gc, 0, none⟩) cnt.length cc) := (blk_cell S1.out.cb _).trans rfl
    have c2' : w1.cell? ⟨gc, k.toNat, none⟩ = some (.int .i64 (rd cnt k)) := (Kd.R_celln (d := (0 : Int)) S1.out.rc k HB0.out.1 (by have := H1.out; have := HB0.out; omega)).1
    have c3' : w1.frozen? ⟨gc, k.toNat, none⟩ = false := (Kd.R_celln (d := (0 : Int)) S1.out.rc k HB0.out.1 (by have := H1.out; have := HB0.out; omega)).2
    obtain ⟨w2, hw2, hS2⟩ : ∃ w2, w1.setCell ⟨gc, k.toNat, none⟩ (.int .i64 v) = w2 ∧ RS w0 gb bc bl bn #[.slice (some ad) C.length c0, .slice A1 n1 c1, .int .i64 a2] (.slice (some ⟨gc, 0, none⟩) cnt.length cc) (.slice (some ⟨gl, 0, none⟩) lev.length cl) w2 (cnt.set k.toNat v) lev line := ⟨_, rfl, S1.out.putC k v⟩
    have S2 := Aside0.mk hS2
    clear hS2
    have d1 : w2.cell? ⟨bl, 0, none⟩ = some (.slice (some ⟨gl, 0, none⟩) lev.length cl) := (blk_cell S2.out.lb _).trans rfl
    have d2 : w2.cell? ⟨gl, k.toNat, none⟩ = some (.int .i64 0) := by
     have := (Kd.R_celln (d := (0 : Int)) S2.out.rl k HB0.out.1 (by have := H2.out; have := HB0.out; omega)).1
     rw [show rdOf (0 : Int) lev k = 0 from hz] at this
     exact this
    have d3 : w2.frozen? ⟨gl, k.toNat, none⟩ = false := (Kd.R_celln (d := (0 : Int)) S2.out.rl k HB0.out.1 (by have := H2.out; have := HB0.out; omega)).2
    obtain ⟨w3, hw3, hS3⟩ : ∃ w3, w2.setCell ⟨gl, k.toNat, none⟩ (.int .i64 own) = w3 ∧ RS w0 gb bc bl bn #[.slice (some ad) C.length c0, .slice A1 n1 c1, .int .i64 a2] (.slice (some ⟨gc, 0, none⟩) cnt.length cc) (.slice (some ⟨gl, 0, none⟩) lev.length cl) w3 (cnt.set k.toNat v) (lev.set k.toNat own) line := ⟨_, rfl, S2.out.putL k own⟩
    obtain ⟨vn, hnb, hnr, hnc, hnl⟩ := hS3.nb
    have S3 := Aside0.mk hS3
    have NB := Aside0.mk hnb
    have NR := Aside0.mk hnr
    have NC := Aside0.mk hnc
    have NL := Aside0.mk hnl
    have f1 : w3.cell? ⟨bn, 0, none⟩ = some vn := (blk_cell NB.out _).trans rfl
    have HLen := Aside0.mk (show (line.length + 1) * 8 ≤ 140737488355328 by have := H3.out; omega)
    clear hS3 hnb hnr hnc hnl hz
    go_wp2_with (at_builtin; refine print_append_num w0.heap.size rfl _ _ 23 3 .i64 8 rfl Try.underlying23 info3 (by decide) vn line k rfl rfl (Kd.own_of_R NR.out) S3.out.below S3.out.below.size HLen.out ?_)
    intro v1 w4 ho4 hb4 hg4 hat4
    have k4 := blk_grown NB.out hg4 (RI_blk NR.out NB.out (by decide))
    have R4 : RI w0 w4 v1 (line ++ [k]) := Kd.R_of_own (by rw [List.length_append]; exact ho4) (fun _ _ => trivial)
    obtain ⟨A4, c4, hv1⟩ := own_slice ho4
    obtain ⟨w5, hw5, hS5⟩ : ∃ w5, w4.setCell ⟨bn, 0, none⟩ v1 = w5 ∧ RS w0 gb bc bl bn #[.slice (some ad) C.length c0, .slice A1 n1 c1, .int .i64 a2] (.slice (some ⟨gc, 0, none⟩) cnt.length cc) (.slice (some ⟨gl, 0, none⟩) lev.length cl) w5 (cnt.set k.toNat v) (lev.set k.toNat own) (line ++ [k]) := ⟨_, rfl, RS.line_ S3.out NB.out NR.out NC.out NL.out hg4 hb4 hat4 R4⟩
    have S5 := Aside0.mk hS5
    subst hv1
    have g1 : w4.cell? ⟨bn, 0, none⟩ = some vn := (blk_cell k4 _).trans rfl
    have g2 : w4.frozen? ⟨bn, 0, none⟩ = false := blk_frozen k4 0
    clear hS5 R4 ho4 hb4 hg4 hat4 k4 c1' c2' c3' d1 d2 d3 f1 hw2 hw3 NB NR NC NL
    go_wp2
    clear g1 g2 hw5
    have S5' := Aside0.mk (show RS w0 gb bc bl bn #[.slice (some ad) C.length c0, .slice A1 n1 c1, .int .i64 a2] (.slice (some ⟨gc, 0, none⟩) cnt.length cc) (.slice (some ⟨gl, 0, none⟩) lev.length cl) w5.drew (cnt.set k.toNat v) (lev.set k.toNat own) (line ++ [k]) from S5.out.below_ (below_drew (Below.refl _ _)))
    refine wp_region_still_tail 7 (by kernel_rfl) (by kernel_rfl) ?_
    simp only [List.take_succ_cons, List.take_zero, List.drop_succ_cons, List.drop_zero]
    change wpStill _ _ w5.drew (fun a' => wpList _ _ _ _ a' w5.drew) _ _
    generalize w5.drew = w7 at S5' ⊢
    have e0 : w7.cell? ⟨gb, 0, none⟩ = some (.slice (some ad) C.length c0) := (blk_cell S5'.out.box_ _).trans rfl
    have e1 : w7.cell? ⟨gb, 1, none⟩ = some (.slice A1 n1 c1) := (blk_cell S5'.out.box_ _).trans rfl
    have e2 : w7.cell? ⟨gb, 2, none⟩ = some (.int .i64 a2) := (blk_cell S5'.out.box_ _).trans rfl
    have x0 := pw_cell_below S5'.out.below X0.out
    have x1 := pw_cell_below S5'.out.below X1.out
    have x2 := pw_cell_below S5'.out.below X2.out
    have hcell := Aside0.mk (cell_calls (some ad) C.length c0 A1 n1 c1 a2 x A2 c2 own w7 hn (Kd.C_below XC.out S5'.out.below) hxl)
    repeat still_step
    try refine wpStill_nil ?_
    clear e0 e1 e2 x0 x1 x2 S5
    go_wp2_with (go_at_call 60; (with_reducible refine hcell.out.mono ?_))
    (first | rintro e w6 rfl hb6 | rintro e w6 ⟨rfl, hb6⟩)
    have S6 := Aside0.mk (S5'.out.below_ hb6)
    clear hb6 hcell
    go_wp2
    go_ret
    exact ⟨rfl, S6.out⟩
   ·have er : referM C k own cnt lev line = (decide (rd lev k = own), cnt.set k.toNat v, lev, line) := by unfold referM; rw [if_pos hk, if_neg hneg, if_neg hz, hv]
    rw [er]
    obtain ⟨z, hzz⟩ : ∃ z, rd lev k = z := ⟨_, rfl⟩
    rw [hzz] at hz ⊢
    have hz1 : (z == 0) = false := beq_eq_false_iff_ne.2 hz
    have hz2 : (z = 0) = False := eq_false hz
    obtain ⟨b, hb⟩ : ∃ b : Bool, decide (z = own) = b := ⟨_, rfl⟩
    have hb2 : (z == own) = b := by rw [← hb]; rfl
    rw [hb]
    clear hk hneg er hz
    go_enter Try.func58, Try.ntmps58
    go_wp2_with (go_at_call 59; (with_reducible refine hnum.out.mono ?_))
    (first | rintro e w1 rfl hb1 | rintro e w1 ⟨rfl, hb1⟩)
    have S1 := Aside0.mk (H.out.below_ hb1)
    clear hb1 hnum H e0 e1 e2
    have c1' : w1.cell? ⟨bc, 0, none⟩ = some (.slice (some ⟨gc, 0, none⟩) cnt.length cc) := (blk_cell S1.out.cb _).trans rfl
    have c2' : w1.cell? ⟨gc, k.toNat, none⟩ = some (.int .i64 (rd cnt k)) := (Kd.R_celln (d := (0 : Int)) S1.out.rc k HB0.out.1 (by have := H1.out; have := HB0.out; omega)).1
    have c3' : w1.frozen? ⟨gc, k.toNat, none⟩ = false := (Kd.R_celln (d := (0 : Int)) S1.out.rc k HB0.out.1 (by have := H1.out; have := HB0.out; omega)).2
    obtain ⟨w2, hw2, hS2⟩ : ∃ w2, w1.setCell ⟨gc, k.toNat, none⟩ (.int .i64 v) = w2 ∧ RS w0 gb bc bl bn #[.slice (some ad) C.length c0, .slice A1 n1 c1, .int .i64 a2] (.slice (some ⟨gc, 0, none⟩) cnt.length cc) (.slice (some ⟨gl, 0, none⟩) lev.length cl) w2 (cnt.set k.toNat v) lev line := ⟨_, rfl, S1.out.putC k v⟩
    have S2 := Aside0.mk hS2
    clear hS2
    have d1 : w2.cell? ⟨bl, 0, none⟩ = some (.slice (some ⟨gl, 0, none⟩) lev.length cl) := (blk_cell S2.out.lb _).trans rfl
    have d2 : w2.cell? ⟨gl, k.toNat, none⟩ = some (.int .i64 z) := by
     have := (Kd.R_celln (d := (0 : Int)) S2.out.rl k HB0.out.1 (by have := H2.out; have := HB0.out; omega)).1
     rw [show rdOf (0 : Int) lev k = z from hzz] at this
     exact this
    clear hzz
    go_wp2
    go_ret
    exact ⟨rfl, S2.out⟩
 ·have hk' : isNum C.length k = false := by simpa using hk
  have er : referM C k own cnt lev line = (false, cnt, lev, line) := by unfold referM; rw [if_neg hk]
  rw [er]
  rw [hk'] at hnum
  clear hk hk' er
  go_enter Try.func58, Try.ntmps58
  go_wp2_with (go_at_call 59; (with_reducible refine hnum.out.mono ?_))
  (first | rintro e w' rfl hb1 | rintro e w' ⟨rfl, hb1⟩)
  have HS := Aside0.mk (H.out.below_ hb1)
  clear hb1
  go_wp2
  go_ret
  exact ⟨rfl, HS.out⟩
end Go.Proofs.Ytacfalpgmibfnaa.PCow
namespace Go.Proofs.Ytacfalpgmibfnaa.PCow
open Go.RowKit Go.Proofs.YtacfalpgmibfnaaW.PrintWords Go.Proofs.YtacfalpgmibfnaaW.PrintLast Go.Proofs.YtacfalpgmibfnaaW.PrintMore
attribute [local go_sem] max2_int min2_int max_two min_two max_three min_three max_four min_four
set_option linter.unusedVariables false
set_option linter.unusedSimpArgs false
def impl_Cow_places.f (l0_0 : List (S68)) (l0_1 : List Int) (a0_2 : Int) : Option (Int) := if 0 ≤ (wrap64 (2 * (wrap64 (a0_2 - 1)))) then (some (shl .i64 1 (wrap64 (2 * (wrap64 (a0_2 - 1)))))) else (none)
set_option maxHeartbeats 8000000 in
set_option maxRecDepth 100000 in
theorem impl_Cow_places.calls (A0_0 : Option Addr) (c0_0 : Nat) (l0_0 : List (S68)) (A0_1 : Option Addr) (c0_1 : Nat) (l0_1 : List Int) (a0_2 : Int) (r : Int) (w : World) (hr0_0 : Kd.C k68 w A0_0 l0_0.length l0_0) (hc0_0 : l0_0.length ≤ c0_0) (hr0_1 : Kd.C (Kd.int .i64) w A0_1 l0_1.length l0_1) (hc0_1 : l0_1.length ≤ c0_1) (h : impl_Cow_places.f l0_0 l0_1 a0_2 = some r) :
  Calls Try.prog 64 #[.agg #[.slice A0_0 l0_0.length c0_0, .slice A0_1 l0_1.length c0_1, .int .i64 a0_2]] w fun e w' => e = .returned (.int .i64 r) ∧ Below w.heap.size w w' := by
 have hu25 := Try.underlying25
 have HR0_0 := Aside0.mk hr0_0
 have HC0_0 := Aside0.mk hc0_0
 clear hr0_0 hc0_0
 have HR0_1 := Aside0.mk hr0_1
 have HC0_1 := Aside0.mk hc0_1
 clear hr0_1 hc0_1
 have HB := Aside0.mk (Below.refl w.heap.size w)
 have H : (if 0 ≤ (wrap64 (2 * (wrap64 (a0_2 - 1)))) then (some (shl .i64 1 (wrap64 (2 * (wrap64 (a0_2 - 1)))))) else (none)) = some r := h
 clear h
 obtain ⟨ji2, hji2⟩ : ∃ j_ : Int, (wrap64 (2 * (wrap64 (a0_2 - 1)))) = j_ := ⟨_, rfl⟩
 replace H : (if 0 ≤ (ji2) then (some (shl .i64 1 (ji2))) else (none)) = some r := by first | (rw [hji2] at H; exact H) | (simp only [hji2] at H ⊢; exact H)
 have hji2w : (IntKind.i64.wrap (2 * (wrap64 (a0_2 - 1)))) = ji2 := (i64_w _).trans hji2
 by_cases c3 : 0 ≤ (ji2)
 ·rw [if_pos c3] at H
  have c3b0 := eq_true c3
  have c3b1 : decide (0 ≤ (ji2)) = true := decide_eq_true c3
  clear c3
  obtain ⟨ji4, hji4⟩ : ∃ j_ : Int, (shl .i64 1 (ji2)) = j_ := ⟨_, rfl⟩
  replace H : (some ji4) = some r := by first | (rw [hji4] at H; exact H) | (simp only [hji4] at H ⊢; exact H)
  have hji4_ : (IntKind.i64.wrap (1 * 2 ^ min (ji2).toNat 64)) = ji4 := hji4
  have hji4z : (ji2) ≤ 64 → (IntKind.i64.wrap (1 * 2 ^ (ji2).toNat)) = ji4 := shl_small hji4
  have hji4u : (IntKind.i64.wrap (2 ^ min (ji2).toNat 64)) = ji4 := by have h_ := hji4_; rw [Int.one_mul] at h_; exact h_
  have hji4v : (ji2) ≤ 64 → (IntKind.i64.wrap (2 ^ (ji2).toNat)) = ji4 := fun hle_ => by have h_ := hji4z hle_; rw [Int.one_mul] at h_; exact h_
  have hji4y : (wrap64 (1 * 2 ^ min (ji2).toNat 64)) = ji4 := (i64_w _).symm.trans hji4_
  have hji4x : (ji2) ≤ 64 → (wrap64 (1 * 2 ^ (ji2).toNat)) = ji4 := fun h_ => (i64_w _).symm.trans (hji4z h_)
  obtain rfl := Option.some.inj H
  go_enter Try.func64, Try.ntmps64
  go_wp2_with (first | ((with_reducible refine gate_dst (N := 1) rfl ?_); refine box_event ?hg (N := 1) ?hd (cs := #[.slice A0_0 l0_0.length c0_0, .slice A0_1 l0_1.length c0_1, .int .i64 a0_2]) (t := 25) ?hr ?_; (case hd => rfl); (case hg => rfl); (case hr => first | (go_simp; done) | (go_simp; rfl)); intro gb223 hg w5 hbox hb; have BK223 := Aside0.mk (hbox); have GW223 := Aside0.mk ((by rw [hg]; exact (below_size (by with_reducible repeat (first | exact HB.out | apply below_alloc | apply pw_below_drewN | apply below_drew1))) : w.heap.size ≤ gb223)); have GE223 := Aside0.mk ((by rw [hg]; exact (below_size (by with_reducible repeat (first | exact HB.out | apply below_alloc | apply pw_below_drewN | apply below_drew1))) : w.heap.size ≤ gb223)); replace HB := Aside0.mk (below_step (by with_reducible repeat (first | exact HB.out | apply below_alloc | apply pw_below_drewN | apply below_drew1)) hb); clear hb hbox hg; have hcz6_0 : w5.cell? ⟨gb223, 0, none⟩ = some (.slice A0_0 l0_0.length c0_0) := (blk_cell BK223.out 0).trans rfl; have hcz6_1 : w5.cell? ⟨gb223, 1, none⟩ = some (.slice A0_1 l0_1.length c0_1) := (blk_cell BK223.out 1).trans rfl; have hcz6_2 : w5.cell? ⟨gb223, 2, none⟩ = some (.int .i64 a0_2) := (blk_cell BK223.out 2).trans rfl; have hfz6_0 := blk_frozen BK223.out 0; have hfz6_1 := blk_frozen BK223.out 1; have hfz6_2 := blk_frozen BK223.out 2))
  go_ret
  exact ⟨by first | rfl | (simp [errW_none, errW_some] <;> rfl) | (simp only [← hji2, ← hji4]; first | rfl | (simp [errW_none, errW_some] <;> rfl)) | (simp [*, errW_none, errW_some] <;> rfl) | (simp [E.isEmpty_bne]; done) | (rw [E.bne_empty]), by with_reducible repeat (first | exact HB.out | apply below_alloc | apply pw_below_drewN | apply below_drew1 | refine below_set ?_ GE223.out)⟩
 ·rw [if_neg c3] at H
  exact absurd H (by simp)
def impl_digit.f (a0 : Int) (a1 : Int) : Option (Int) := if 0 ≤ (wrap64 (2 * (wrap64 (a1 - 2)))) then (some (Go.bits .and .i64 (shr .i64 a0 (wrap64 (2 * (wrap64 (a1 - 2))))) 3)) else (none)
set_option maxHeartbeats 8000000 in
set_option maxRecDepth 100000 in
theorem impl_digit.calls (a0 : Int) (a1 : Int) (r : Int) (w : World) (h : impl_digit.f a0 a1 = some r) :
  Calls Try.prog 86 #[.int .i64 a0, .int .i64 a1] w fun e w' => e = .returned (.int .i64 r) ∧ Drawn0 w w' := by
 have H : (if 0 ≤ (wrap64 (2 * (wrap64 (a1 - 2)))) then (some (Go.bits .and .i64 (shr .i64 a0 (wrap64 (2 * (wrap64 (a1 - 2))))) 3)) else (none)) = some r := h
 clear h
 obtain ⟨ji3, hji3⟩ : ∃ j_ : Int, (wrap64 (2 * (wrap64 (a1 - 2)))) = j_ := ⟨_, rfl⟩
 replace H : (if 0 ≤ (ji3) then (some (Go.bits .and .i64 (shr .i64 a0 (ji3)) 3)) else (none)) = some r := by first | (rw [hji3] at H; exact H) | (simp only [hji3] at H ⊢; exact H)
 have hji3w : (IntKind.i64.wrap (2 * (wrap64 (a1 - 2)))) = ji3 := (i64_w _).trans hji3
 by_cases c4 : 0 ≤ (ji3)
 ·rw [if_pos c4] at H
  have c4b0 := eq_true c4
  have c4b1 : decide (0 ≤ (ji3)) = true := decide_eq_true c4
  clear c4
  obtain ⟨ji5, hji5⟩ : ∃ j_ : Int, (shr .i64 a0 (ji3)) = j_ := ⟨_, rfl⟩
  replace H : (some (Go.bits .and .i64 (ji5) 3)) = some r := by first | (rw [hji5] at H; exact H) | (simp only [hji5] at H ⊢; exact H)
  have hji5_ : (a0 / 2 ^ min (ji3).toNat 64) = ji5 := hji5
  have hji5z : (ji3) ≤ 64 → (a0 / 2 ^ (ji3).toNat) = ji5 := shr_small hji5
  obtain rfl := Option.some.inj H
  go_enter Try.func86, Try.ntmps86
  go_wp2
  go_ret
  exact ⟨by first | rfl | (simp; done) | (simp only [← hji3, ← hji5] <;> (first | rfl | simp)) | (simp [*]; done), by repeat (first | exact Drawn0.refl _ | apply Drawn0.step)⟩
 ·rw [if_neg c4] at H
  exact absurd H (by simp)
def impl_Cow_leafAt.l0 : Nat → Int → Int → Int → List (S68) → List Int → Int → Option (ByteArray)
 | 0, _, _, _, _, _, _ => none
 | k + 1, x2, x7, x8, x225000, x225001, x225002 => if x7 ≥ 0 then (if x8 > 1 then (if 0 ≤ x7 then (if x7 < (x225000.length : Int) then ((impl_digit.f x2 x8).bind fun t227 => (if 0 ≤ t227 then (if t227 < (((rd_T68 x225000 x7).f2).length : Int) then (impl_Cow_leafAt.l0 k x2 (rd ((rd_T68 x225000 x7).f2) t227) (wrap64 (x8 - 1)) x225000 x225001 x225002) else (none)) else (none))) else (none)) else (none)) else (if x7 < 0 then (some (⟨#[]⟩ : ByteArray)) else (if 0 ≤ x7 then (if x7 < (x225000.length : Int) then (some ((rd_T68 x225000 x7).f1)) else (none)) else (none)))) else (if x7 < 0 then (some (⟨#[]⟩ : ByteArray)) else (if 0 ≤ x7 then (if x7 < (x225000.length : Int) then (some ((rd_T68 x225000 x7).f1)) else (none)) else (none)))
def impl_Cow_leafAt.f (k : Nat) (l0_0 : List (S68)) (l0_1 : List Int) (a0_2 : Int) (a1 : Int) (a2 : Int) : Option (ByteArray) := if 0 ≤ a1 then (if a1 < (l0_1.length : Int) then (impl_Cow_leafAt.l0 k a2 (rd l0_1 a1) a0_2 l0_0 l0_1 a0_2) else (none)) else (none)
set_option maxHeartbeats 8000000 in
set_option maxRecDepth 100000 in
theorem impl_Cow_leafAt.calls (k : Nat) (A0_0 : Option Addr) (c0_0 : Nat) (l0_0 : List (S68)) (A0_1 : Option Addr) (c0_1 : Nat) (l0_1 : List Int) (a0_2 : Int) (a1 : Int) (a2 : Int) (r : ByteArray) (w : World) (hr0_0 : Kd.C k68 w A0_0 l0_0.length l0_0) (hc0_0 : l0_0.length ≤ c0_0) (hr0_1 : Kd.C (Kd.int .i64) w A0_1 l0_1.length l0_1) (hc0_1 : l0_1.length ≤ c0_1) (h : impl_Cow_leafAt.f k l0_0 l0_1 a0_2 a1 a2 = some r) :
  Calls Try.prog 65 #[.agg #[.slice A0_0 l0_0.length c0_0, .slice A0_1 l0_1.length c0_1, .int .i64 a0_2], .int .i64 a1, .int .i64 a2] w fun e w' => e = .returned (.string r) ∧ Below w.heap.size w w' := by
 have hu25 := Try.underlying25
 have HR0_0 := Aside0.mk hr0_0
 have HC0_0 := Aside0.mk hc0_0
 clear hr0_0 hc0_0
 have HR0_1 := Aside0.mk hr0_1
 have HC0_1 := Aside0.mk hc0_1
 clear hr0_1 hc0_1
 have HB := Aside0.mk (Below.refl w.heap.size w)
 have H : (if 0 ≤ a1 then (if a1 < (l0_1.length : Int) then (impl_Cow_leafAt.l0 k a2 (rd l0_1 a1) a0_2 l0_0 l0_1 a0_2) else (none)) else (none)) = some r := h
 clear h
 by_cases c4 : 0 ≤ a1
 ·rw [if_pos c4] at H
  have c4b0 : decide (0 ≤ a1) = true := decide_eq_true c4
  clear c4
  by_cases c5 : a1 < (l0_1.length : Int)
  ·rw [if_pos c5] at H
   have c5b0 : decide (a1 < (l0_1.length : Int)) = true := decide_eq_true c5
   clear c5
   have H' := Aside0.mk H
   clear H
   go_enter Try.func65, Try.ntmps65
   go_wp2_with (first | ((with_reducible refine gate_dst (N := 3) rfl ?_); refine box_event ?hg (N := 3) ?hd (cs := #[.slice A0_0 l0_0.length c0_0, .slice A0_1 l0_1.length c0_1, .int .i64 a0_2]) (t := 25) ?hr ?_; (case hd => rfl); (case hg => rfl); (case hr => first | (go_simp; done) | (go_simp; rfl)); intro gb224 hg w6 hbox hb; have BK224 := Aside0.mk (hbox); have GW224 := Aside0.mk ((by rw [hg]; exact (below_size (by with_reducible repeat (first | exact HB.out | apply below_alloc | apply pw_below_drewN | apply below_drew1))) : w.heap.size ≤ gb224)); have GE224 := Aside0.mk ((by rw [hg]; exact (below_size (by with_reducible repeat (first | exact HB.out | apply below_alloc | apply pw_below_drewN | apply below_drew1))) : w.heap.size ≤ gb224)); replace HB := Aside0.mk (below_step (by with_reducible repeat (first | exact HB.out | apply below_alloc | apply pw_below_drewN | apply below_drew1)) hb); clear hb hbox hg; have hcz7_0 : w6.cell? ⟨gb224, 0, none⟩ = some (.slice A0_0 l0_0.length c0_0) := (blk_cell BK224.out 0).trans rfl; have hcz7_1 : w6.cell? ⟨gb224, 1, none⟩ = some (.slice A0_1 l0_1.length c0_1) := (blk_cell BK224.out 1).trans rfl; have hcz7_2 : w6.cell? ⟨gb224, 2, none⟩ = some (.int .i64 a0_2) := (blk_cell BK224.out 2).trans rfl; have hfz7_0 := blk_frozen BK224.out 0; have hfz7_1 := blk_frozen BK224.out 1; have hfz7_2 := blk_frozen BK224.out 2; have p225 : 0 ≤ (a1 : Int) := of_decide_eq_true (by assumption); have q225 : a1 < (l0_1.length : Int) := of_decide_eq_true (by assumption); obtain ⟨ad225, e225, hx225_0⟩ := Kd.at_int HR0_1.out a1 p225 q225; cases e225; replace hx225_0 := (HB.out.cell (World.block_lt_of_cell? w _ hx225_0)).trans hx225_0; replace p225 := eq_true p225; replace q225 := eq_true q225))
   repeat (go_quiet (first | ((with_reducible refine gate_dst (N := 3) rfl ?_); refine box_event ?hg (N := 3) ?hd (cs := #[.slice A0_0 l0_0.length c0_0, .slice A0_1 l0_1.length c0_1, .int .i64 a0_2]) (t := 25) ?hr ?_; (case hd => rfl); (case hg => rfl); (case hr => first | (go_simp; done) | (go_simp; rfl)); intro gb224 hg w6 hbox hb; have BK224 := Aside0.mk (hbox); have GW224 := Aside0.mk ((by rw [hg]; exact (below_size (by with_reducible repeat (first | exact HB.out | apply below_alloc | apply pw_below_drewN | apply below_drew1))) : w.heap.size ≤ gb224)); have GE224 := Aside0.mk ((by rw [hg]; exact (below_size (by with_reducible repeat (first | exact HB.out | apply below_alloc | apply pw_below_drewN | apply below_drew1))) : w.heap.size ≤ gb224)); replace HB := Aside0.mk (below_step (by with_reducible repeat (first | exact HB.out | apply below_alloc | apply pw_below_drewN | apply below_drew1)) hb); clear hb hbox hg; have hcz7_0 : w6.cell? ⟨gb224, 0, none⟩ = some (.slice A0_0 l0_0.length c0_0) := (blk_cell BK224.out 0).trans rfl; have hcz7_1 : w6.cell? ⟨gb224, 1, none⟩ = some (.slice A0_1 l0_1.length c0_1) := (blk_cell BK224.out 1).trans rfl; have hcz7_2 : w6.cell? ⟨gb224, 2, none⟩ = some (.int .i64 a0_2) := (blk_cell BK224.out 2).trans rfl; have hfz7_0 := blk_frozen BK224.out 0; have hfz7_1 := blk_frozen BK224.out 1; have hfz7_2 := blk_frozen BK224.out 2; have p225 : 0 ≤ (a1 : Int) := of_decide_eq_true (by assumption); have q225 : a1 < (l0_1.length : Int) := of_decide_eq_true (by assumption); obtain ⟨ad225, e225, hx225_0⟩ := Kd.at_int HR0_1.out a1 p225 q225; cases e225; replace hx225_0 := (HB.out.cell (World.block_lt_of_cell? w _ hx225_0)).trans hx225_0; replace p225 := eq_true p225; replace q225 := eq_true q225)); try go_wp2_with (first | ((with_reducible refine gate_dst (N := 3) rfl ?_); refine box_event ?hg (N := 3) ?hd (cs := #[.slice A0_0 l0_0.length c0_0, .slice A0_1 l0_1.length c0_1, .int .i64 a0_2]) (t := 25) ?hr ?_; (case hd => rfl); (case hg => rfl); (case hr => first | (go_simp; done) | (go_simp; rfl)); intro gb224 hg w6 hbox hb; have BK224 := Aside0.mk (hbox); have GW224 := Aside0.mk ((by rw [hg]; exact (below_size (by with_reducible repeat (first | exact HB.out | apply below_alloc | apply pw_below_drewN | apply below_drew1))) : w.heap.size ≤ gb224)); have GE224 := Aside0.mk ((by rw [hg]; exact (below_size (by with_reducible repeat (first | exact HB.out | apply below_alloc | apply pw_below_drewN | apply below_drew1))) : w.heap.size ≤ gb224)); replace HB := Aside0.mk (below_step (by with_reducible repeat (first | exact HB.out | apply below_alloc | apply pw_below_drewN | apply below_drew1)) hb); clear hb hbox hg; have hcz7_0 : w6.cell? ⟨gb224, 0, none⟩ = some (.slice A0_0 l0_0.length c0_0) := (blk_cell BK224.out 0).trans rfl; have hcz7_1 : w6.cell? ⟨gb224, 1, none⟩ = some (.slice A0_1 l0_1.length c0_1) := (blk_cell BK224.out 1).trans rfl; have hcz7_2 : w6.cell? ⟨gb224, 2, none⟩ = some (.int .i64 a0_2) := (blk_cell BK224.out 2).trans rfl; have hfz7_0 := blk_frozen BK224.out 0; have hfz7_1 := blk_frozen BK224.out 1; have hfz7_2 := blk_frozen BK224.out 2; have p225 : 0 ≤ (a1 : Int) := of_decide_eq_true (by assumption); have q225 : a1 < (l0_1.length : Int) := of_decide_eq_true (by assumption); obtain ⟨ad225, e225, hx225_0⟩ := Kd.at_int HR0_1.out a1 p225 q225; cases e225; replace hx225_0 := (HB.out.cell (World.block_lt_of_cell? w _ hx225_0)).trans hx225_0; replace p225 := eq_true p225; replace q225 := eq_true q225)))
   go_loopg [7, 8] k (fun kq v7 v8 w' => ∃ (x7_1 : Int) (x8_1 : Int), v7 = .int .i64 x7_1 ∧ v8 = .int .i64 x8_1 ∧ Aside0 (impl_Cow_leafAt.l0 kq a2 x7_1 x8_1 l0_0 l0_1 a0_2 = some r) ∧ Aside0 (kq ≤ k) ∧ Aside0 (w'.heap[gb224]? = some (.cells #[(.slice A0_0 l0_0.length c0_0), (.slice (some ad225) l0_1.length c0_1), .int .i64 a0_2] 25 (0, 0))) ∧ Aside0 (Below w.heap.size w w'))
   case atStart => exact ⟨(rd l0_1 a1), (a0_2), (by first | rfl | (simp; done) | (simp [*]; done)), (by first | rfl | (simp; done) | (simp [*]; done)), H', ⟨Nat.le_refl _⟩, ⟨by (with_reducible repeat (first | refine blk_drewN ?_ _ | refine blk_drew ?_ | refine blk_alloc ?_ _)); exact BK224.out⟩, ⟨by with_reducible repeat (first | exact HB.out | apply below_alloc | apply pw_below_drewN | apply below_drew1 | refine below_set ?_ GE224.out)⟩⟩
   case round =>
    clear H'
    try clear p2
    try clear q2
    try clear hx2
    try clear c4
    try clear c4b0
    try clear c5
    try clear c5b0
    try clear c6
    try clear hcz7_0
    try clear hcz7_1
    try clear hcz7_2
    try clear hfz7_0
    try clear hfz7_1
    try clear hfz7_2
    try clear hx225_0
    try clear p225
    try clear q225
    obtain ⟨x7_1, x8_1, rfl, rfl, HA, HK1, BK224, HB⟩ := hrel
    cases gk with
    | zero => exact absurd HA.out (by simp [impl_Cow_leafAt.l0])
    | succ k1 =>
     have H := HA.out
     clear HA
     simp only [impl_Cow_leafAt.l0] at H
     by_cases c8 : x7_1 ≥ 0
     ·rw [if_pos c8] at H
      have c8b0 : decide (0 ≤ x7_1) = true := decide_eq_true c8
      clear c8
      by_cases c9 : x8_1 > 1
      ·rw [if_pos c9] at H
       have c9b0 : decide (1 < x8_1) = true := decide_eq_true c9
       clear c9
       by_cases c10 : 0 ≤ x7_1
       ·rw [if_pos c10] at H
        have c10b0 : decide (0 ≤ x7_1) = true := decide_eq_true c10
        clear c10
        by_cases c11 : x7_1 < (l0_0.length : Int)
        ·rw [if_pos c11] at H
         have c11b0 : decide (x7_1 < (l0_0.length : Int)) = true := decide_eq_true c11
         clear c11
         replace H := Option.bind_eq_some_iff.mp H
         obtain ⟨t227, A120, H⟩ := H
         replace H : (if 0 ≤ t227 then (if t227 < (((rd_T68 l0_0 x7_1).f2).length : Int) then (impl_Cow_leafAt.l0 k1 a2 (rd ((rd_T68 l0_0 x7_1).f2) t227) (wrap64 (x8_1 - 1)) l0_0 l0_1 a0_2) else (none)) else (none)) = some r := H
         have A12 := Aside0.mk A120
         clear A120
         by_cases c13 : 0 ≤ t227
         ·rw [if_pos c13] at H
          have c13b0 : decide (0 ≤ t227) = true := decide_eq_true c13
          clear c13
          by_cases c14 : t227 < (((rd_T68 l0_0 x7_1).f2).length : Int)
          ·rw [if_pos c14] at H
           have c14b0 : decide (t227 < (((rd_T68 l0_0 x7_1).f2).length : Int)) = true := decide_eq_true c14
           clear c14
           have H' := Aside0.mk H
           clear H
           have hcz15_0 : wr.cell? ⟨gb224, 0, none⟩ = some (.slice A0_0 l0_0.length c0_0) := (blk_cell BK224.out 0).trans rfl
           have hcz15_1 : wr.cell? ⟨gb224, 1, none⟩ = some (.slice (some ad225) l0_1.length c0_1) := (blk_cell BK224.out 1).trans rfl
           have hcz15_2 : wr.cell? ⟨gb224, 2, none⟩ = some (.int .i64 a0_2) := (blk_cell BK224.out 2).trans rfl
           have hfz15_0 := blk_frozen BK224.out 0
           have hfz15_1 := blk_frozen BK224.out 1
           have hfz15_2 := blk_frozen BK224.out 2
           have p226 : 0 ≤ (x7_1 : Int) := of_decide_eq_true (by assumption)
           have q226 : x7_1 < (l0_0.length : Int) := of_decide_eq_true (by assumption)
           obtain ⟨ad226, A226_2, c226_2, e226, hx226_0, hx226_1, hx226_2, hl226_2, hi226_2⟩ := at_T68 HR0_0.out x7_1 p226 q226
           cases e226
           replace hx226_0 := (HB.out.cell (World.block_lt_of_cell? w _ hx226_0)).trans hx226_0
           replace hx226_1 := (HB.out.cell (World.block_lt_of_cell? w _ hx226_1)).trans hx226_1
           replace hx226_2 := (HB.out.cell (World.block_lt_of_cell? w _ hx226_2)).trans hx226_2
           have HR226_2 := Aside0.mk hi226_2
           have HC226_2 := Aside0.mk hl226_2
           clear hi226_2 hl226_2
           replace p226 := eq_true p226
           replace q226 := eq_true q226
           go_wp2_with (first | (go_at_call 86; (with_reducible refine (impl_digit.calls a2 x8_1 t227 _ A12.out).mono ?_); rintro e w' ⟨rfl, ⟨nd, rfl⟩⟩; (try first | exact ⟨rfl, _, World.drewN_drewN _ _ _⟩ | exact ⟨rfl, _, Eq.trans (World.drewN_drewN _ _ _) (congrArg (World.drewN _) (Nat.add_assoc _ _ _))⟩); have p228 : 0 ≤ (t227 : Int) := of_decide_eq_true (by assumption); have q228 : t227 < (((rd_T68 l0_0 x7_1).f2).length : Int) := of_decide_eq_true (by assumption); obtain ⟨ad228, e228, hx228_0⟩ := Kd.at_int HR226_2.out t227 p228 q228; cases e228; replace hx228_0 := (HB.out.cell (World.block_lt_of_cell? w _ hx228_0)).trans hx228_0; replace p228 := eq_true p228; replace q228 := eq_true q228))
           repeat (go_quiet (first | (go_at_call 86; (with_reducible refine (impl_digit.calls a2 x8_1 t227 _ A12.out).mono ?_); rintro e w' ⟨rfl, ⟨nd, rfl⟩⟩; (try first | exact ⟨rfl, _, World.drewN_drewN _ _ _⟩ | exact ⟨rfl, _, Eq.trans (World.drewN_drewN _ _ _) (congrArg (World.drewN _) (Nat.add_assoc _ _ _))⟩); have p228 : 0 ≤ (t227 : Int) := of_decide_eq_true (by assumption); have q228 : t227 < (((rd_T68 l0_0 x7_1).f2).length : Int) := of_decide_eq_true (by assumption); obtain ⟨ad228, e228, hx228_0⟩ := Kd.at_int HR226_2.out t227 p228 q228; cases e228; replace hx228_0 := (HB.out.cell (World.block_lt_of_cell? w _ hx228_0)).trans hx228_0; replace p228 := eq_true p228; replace q228 := eq_true q228)); try go_wp2_with (first | (go_at_call 86; (with_reducible refine (impl_digit.calls a2 x8_1 t227 _ A12.out).mono ?_); rintro e w' ⟨rfl, ⟨nd, rfl⟩⟩; (try first | exact ⟨rfl, _, World.drewN_drewN _ _ _⟩ | exact ⟨rfl, _, Eq.trans (World.drewN_drewN _ _ _) (congrArg (World.drewN _) (Nat.add_assoc _ _ _))⟩); have p228 : 0 ≤ (t227 : Int) := of_decide_eq_true (by assumption); have q228 : t227 < (((rd_T68 l0_0 x7_1).f2).length : Int) := of_decide_eq_true (by assumption); obtain ⟨ad228, e228, hx228_0⟩ := Kd.at_int HR226_2.out t227 p228 q228; cases e228; replace hx228_0 := (HB.out.cell (World.block_lt_of_cell? w _ hx228_0)).trans hx228_0; replace p228 := eq_true p228; replace q228 := eq_true q228)))
           go_roundg k1
           case measure => have := HK1.out; omega
           case rel => exact ⟨(rd ((rd_T68 l0_0 x7_1).f2) t227), (wrap64 (x8_1 - 1)), (by first | rfl | (simp; done) | (simp [*]; done)), (by first | rfl | (simp; done) | (simp [*]; done)), H', ⟨by have := HK1.out; omega⟩, ⟨by (with_reducible repeat (first | refine blk_drewN ?_ _ | refine blk_drew ?_ | refine blk_alloc ?_ _)); exact BK224.out⟩, ⟨by with_reducible repeat (first | exact HB.out | apply below_alloc | apply pw_below_drewN | apply below_drew1 | refine below_set ?_ GE224.out)⟩⟩
          ·rw [if_neg c14] at H
           exact absurd H (by simp)
         ·rw [if_neg c13] at H
          exact absurd H (by simp)
        ·rw [if_neg c11] at H
         exact absurd H (by simp)
       ·rw [if_neg c10] at H
        exact absurd H (by simp)
      ·rw [if_neg c9] at H
       have c9b0 : decide (1 < x8_1) = false := decide_eq_false c9
       clear c9
       by_cases c16 : x7_1 < 0
       ·rw [if_pos c16] at H
        have c16b0 : decide (x7_1 < 0) = true := decide_eq_true c16
        clear c16
        obtain rfl := Option.some.inj H
        go_wp2
        repeat (go_quiet (fail); try go_wp2)
        go_ret
        exact ⟨by first | rfl | (simp [errW_none, errW_some] <;> rfl) | (simp [*, errW_none, errW_some] <;> rfl) | (simp [E.isEmpty_bne]; done) | (rw [E.bne_empty]), by with_reducible repeat (first | exact HB.out | apply below_alloc | apply pw_below_drewN | apply below_drew1 | refine below_set ?_ GE224.out)⟩
       ·rw [if_neg c16] at H
        have c16b0 : decide (x7_1 < 0) = false := decide_eq_false c16
        clear c16
        by_cases c17 : 0 ≤ x7_1
        ·rw [if_pos c17] at H
         have c17b0 : decide (0 ≤ x7_1) = true := decide_eq_true c17
         clear c17
         by_cases c18 : x7_1 < (l0_0.length : Int)
         ·rw [if_pos c18] at H
          have c18b0 : decide (x7_1 < (l0_0.length : Int)) = true := decide_eq_true c18
          clear c18
          obtain rfl := Option.some.inj H
          have hcz19_0 : wr.cell? ⟨gb224, 0, none⟩ = some (.slice A0_0 l0_0.length c0_0) := (blk_cell BK224.out 0).trans rfl
          have hcz19_1 : wr.cell? ⟨gb224, 1, none⟩ = some (.slice (some ad225) l0_1.length c0_1) := (blk_cell BK224.out 1).trans rfl
          have hcz19_2 : wr.cell? ⟨gb224, 2, none⟩ = some (.int .i64 a0_2) := (blk_cell BK224.out 2).trans rfl
          have hfz19_0 := blk_frozen BK224.out 0
          have hfz19_1 := blk_frozen BK224.out 1
          have hfz19_2 := blk_frozen BK224.out 2
          have p229 : 0 ≤ (x7_1 : Int) := of_decide_eq_true (by assumption)
          have q229 : x7_1 < (l0_0.length : Int) := of_decide_eq_true (by assumption)
          obtain ⟨ad229, A229_2, c229_2, e229, hx229_0, hx229_1, hx229_2, hl229_2, hi229_2⟩ := at_T68 HR0_0.out x7_1 p229 q229
          cases e229
          replace hx229_0 := (HB.out.cell (World.block_lt_of_cell? w _ hx229_0)).trans hx229_0
          replace hx229_1 := (HB.out.cell (World.block_lt_of_cell? w _ hx229_1)).trans hx229_1
          replace hx229_2 := (HB.out.cell (World.block_lt_of_cell? w _ hx229_2)).trans hx229_2
          have HR229_2 := Aside0.mk hi229_2
          have HC229_2 := Aside0.mk hl229_2
          clear hi229_2 hl229_2
          replace p229 := eq_true p229
          replace q229 := eq_true q229
          go_wp2
          repeat (go_quiet (fail); try go_wp2)
          go_ret
          exact ⟨by first | rfl | (simp [errW_none, errW_some] <;> rfl) | (simp [*, errW_none, errW_some] <;> rfl) | (simp [E.isEmpty_bne]; done) | (rw [E.bne_empty]), by with_reducible repeat (first | exact HB.out | apply below_alloc | apply pw_below_drewN | apply below_drew1 | refine below_set ?_ GE224.out)⟩
         ·rw [if_neg c18] at H
          exact absurd H (by simp)
        ·rw [if_neg c17] at H
         exact absurd H (by simp)
     ·rw [if_neg c8] at H
      have c8b0 : decide (0 ≤ x7_1) = false := decide_eq_false c8
      clear c8
      by_cases c20 : x7_1 < 0
      ·rw [if_pos c20] at H
       have c20b0 : decide (x7_1 < 0) = true := decide_eq_true c20
       clear c20
       obtain rfl := Option.some.inj H
       go_wp2
       repeat (go_quiet (fail); try go_wp2)
       go_ret
       exact ⟨by first | rfl | (simp [errW_none, errW_some] <;> rfl) | (simp [*, errW_none, errW_some] <;> rfl) | (simp [E.isEmpty_bne]; done) | (rw [E.bne_empty]), by with_reducible repeat (first | exact HB.out | apply below_alloc | apply pw_below_drewN | apply below_drew1 | refine below_set ?_ GE224.out)⟩
      ·rw [if_neg c20] at H
       exact (c20 (by have h_ := of_decide_eq_false c8b0; omega)).elim
  ·rw [if_neg c5] at H
   exact absurd H (by simp)
 ·rw [if_neg c4] at H
  exact absurd H (by simp)
end Go.Proofs.Ytacfalpgmibfnaa.PCow
namespace Go.Proofs.Ytacfalpgmibfnaa.PCow
open Go.RowKit Go.Proofs.YtacfalpgmibfnaaW.PrintWords Go.Proofs.YtacfalpgmibfnaaW.PrintLast Go.Proofs.YtacfalpgmibfnaaW.PrintMore Go.Proofs.Ytacfalpgmibfnaa.E
set_option linter.unusedSimpArgs false
set_option linter.unusedVariables false
theorem empty_of_size {s : ByteArray} (h : s.size = 0) : s = ⟨#[]⟩ := by
 have : s.data = #[] := Array.eq_empty_of_size_eq_zero h
 cases s
 simp_all
theorem cb_put {w0 w W : World} {gb g n c : Nat} {v1 : Value} {L : Int} {P : Nat → Prop} {p : Addr} {u : Value} (hG : W.heap[gb]? = some (.cells #[.slice (some ⟨g, 0, none⟩) n c, v1, .int .i64 L] 25 (0, 0))) (hB : Below w0.heap.size w0 W) (hK : Kept w W (fun j => j = gb ∨ P j)) (hp : P p.block) (hge : w0.heap.size ≤ p.block) (hgP : ∀ k, P k → k ≠ gb) :
  (W.setCell p u).heap[gb]? = some (.cells #[.slice (some ⟨g, 0, none⟩) n c, v1, .int .i64 L] 25 (0, 0)) ∧ Below w0.heap.size w0 (W.setCell p u) ∧ Kept w (W.setCell p u) (fun j => j = gb ∨ P j) :=
 ⟨blk_far hG (Ne.symm (hgP _ hp)) _, hB.setCell hge _, hK.setCell (.inl (.inr hp)) _⟩
set_option maxHeartbeats 8000000 in
set_option maxRecDepth 100000 in
theorem put_calls (v1 : Value) (L : Int) (gb : Nat) (a_ : Int) (dg : Nat → Int) (leaf : ByteArray) (P : Nat → Prop) (w0 : World) (hgP : ∀ k, P k → k ≠ gb) (hgb : w0.heap.size ≤ gb) : ∀ (l : Nat) (C : List CL) (k lv : Int) (r : List CL × Int) (w : World) (hlv : lv = (l : Int)) (hl : l ≤ 1000) (hdg : ∀ j : Nat, 2 ≤ j → j ≤ l → impl_digit.f a_ (j : Int) = some (dg j)) (hB : Below w0.heap.size w0 w) (hC : CB w w0.heap.size gb v1 L P C) (hfP : ∀ k, w.heap.size ≤ k → P k) (h : putM dg leaf l C k = some r),
  Calls Try.prog 75 #[.pointer (some ⟨gb, 0, none⟩), .int .i64 k, .int .i64 lv, .int .i64 a_, .string leaf] w fun e w' => e = .returned (.int .i64 r.2) ∧ CB w' w0.heap.size gb v1 L P r.1 ∧ Below w0.heap.size w0 w' ∧ Kept w w' (fun j => j = gb ∨ P j) := by
 intro l
 induction l with
 | zero =>
  intro C k lv r w hlv hl hdg hB hC hfP h
  simp only [putM] at h
  cases h
 | succ l ih =>
  intro C k lv r w hlv hl hdg hB hC hfP h
  have hu25 := Try.underlying25
  have hu68 := Try.underlying68
  have hu22 := Try.underlying22
  have hu23 := Try.underlying23
  have GP := Aside0.mk hgP
  have GE := Aside0.mk hgb
  have FP := Aside0.mk hfP
  have IH := Aside0.mk ih
  have DG := Aside0.mk hdg
  clear ih hdg hgP hgb hfP
  simp only [putM] at h
  by_cases hlk : leaf.size = 0 ∧ k < 0
  ·rw [if_pos hlk] at h
   cases h
  rw [if_neg hlk] at h
  obtain ⟨⟨C1, k1⟩, ho, h⟩ := Option.bind_eq_some_iff.1 h
  simp only at h
  have hlt : k1 < C1.length := ownM_lt C k (l + 1) _ ho
  have T1 := own_calls v1 L gb C P k (l + 1) _ w0 w hB hC GP.out GE.out FP.out hl ho
  rw [← hlv] at T1
  replace T1 := Aside0.mk T1
  have LT := Aside0.mk hlt
  have BB := Aside0.mk hB.size
  have HL := Aside0.mk hl
  clear hlk ho hlt hB hC hl
  by_cases hl0 : l = 0
  ·subst hl0
   rw [if_pos rfl] at h
   obtain rfl : lv = 1 := by omega
   have HH := Aside0.mk h
   clear h hlv
   go_enter Try.func75, Try.ntmps75
   go_wp2_with (go_at_call 89; refine T1.out.mono ?_)
   (first | rintro e w1 rfl hC hB hK | rintro e w1 ⟨rfl, hC, hB, hK⟩)
   clear T1
   obtain ⟨A, c, hG, hS⟩ := hC
   obtain ⟨g, cap, hv, _, _, _⟩ := Kd.S_form hS (by have := LT.out; omega)
   injection hv with hA hn_ hc
   subst hA hc
   clear hn_
   have hlt := LT.out
   obtain ⟨x, hx⟩ : ∃ x, rd_T68 C1 (k1 : Int) = x := ⟨_, rfl⟩
   obtain ⟨_, _, e0, e1, e2, hfr, _, _, _⟩ := cs_elem hS (k1 : Int) (by omega) (by omega)
   simp only [Int.toNat_natCast] at e0 e1 e2 hfr
   rw [hx] at e0 e1
   have fr1 : w1.frozen? ⟨g, k1 * 3 + 1, none⟩ = false := hfr 1
   have d0 : w1.cell? ⟨gb, 0, none⟩ = some (.slice (some ⟨g, 0, none⟩) C1.length c) := (blk_cell hG 0).trans rfl
   have s1 : ((k1 : Int) < (C1.length : Int)) = True := eq_true (by omega)
   have hPg := (Kd.S_R hS).1 g rfl
   obtain ⟨G1, B1, K1⟩ := cb_put (p := ⟨g, k1 * 3 + 1, none⟩) (u := .string leaf) hG hB hK hPg (Kd.S_base hS g rfl) GP.out
   have S1 := cs_put1 hS (k1 : Int) (by omega) (by omega) leaf
   simp only [Int.toNat_natCast] at S1
   rw [hx] at S1
   obtain ⟨w2, hw2⟩ : ∃ W, w1.setCell ⟨g, k1 * 3 + 1, none⟩ (.string leaf) = W := ⟨_, rfl⟩
   rw [hw2] at G1 B1 K1 S1
   clear hG hB hK hfr
   obtain ⟨_, v2, f0, f1, f2, hfr2, _, hR2, _⟩ := cs_elem S1 (k1 : Int) (by omega) (by omega)
   simp only [Int.toNat_natCast] at f0 f1 f2 hfr2
   rw [rd_cl_set hlt] at f0 f1 hR2
   obtain ⟨A2, c2, rfl⟩ := Kd.R_slice hR2
   have g0 : w2.cell? ⟨gb, 0, none⟩ = some (.slice (some ⟨g, 0, none⟩) C1.length c) := (blk_cell G1 0).trans rfl
   obtain ⟨W1, W2, hW1, hW2, y0, y1, y2, z0, z1, z2, Y, BL⟩ := local_cell w2 (.int .i64 x.f0) (.string leaf) (.slice A2 x.f2.length c2)
   have yy1 : W2.cell? ⟨w2.heap.size, 1, none⟩ = some (.string leaf) := (blk_cell Y.out 1).trans rfl
   have yy2 : W2.cell? ⟨w2.heap.size, 2, none⟩ = some (.slice A2 x.f2.length c2) := (blk_cell Y.out 2).trans rfl
   have S2 := Aside0.mk (Kd.S_below S1 BL.out)
   have G2 := Aside0.mk (blk_below G1 BL.out)
   have B2 := Aside0.mk (below_then B1 B1.size BL.out)
   have K2 := Aside0.mk (K1.below BL.out)
   have gg0 : W2.cell? ⟨gb, 0, none⟩ = some (.slice (some ⟨g, 0, none⟩) C1.length c) := (blk_cell G2.out 0).trans rfl
   clear hS S1 G1 B1 K1 hR2 hPg hfr2
   by_cases hle : leaf.size = 0
   ·have h := HH.out
    rw [if_pos hle] at h
    have e_ := Option.some.inj h
    subst e_
    obtain rfl := empty_of_size hle
    clear h HH hle
    obtain ⟨_, _, q0, q1, q2, hfr3, _, _, _⟩ := cs_elem S2.out (k1 : Int) (by omega) (by omega)
    simp only [Int.toNat_natCast] at q0 q1 q2 hfr3
    have n0 : W2.frozen? ⟨g, k1 * 3, none⟩ = false := hfr3 0
    have n1 := hfr3 1
    have n2 := hfr3 2
    have hPg := (Kd.S_R S2.out).1 g rfl
    have hBg := Kd.S_base S2.out g rfl
    have S3 := cs_zero S2.out (k1 : Int) (by omega) (by omega)
    simp only [Int.toNat_natCast, List.set_set] at S3
    obtain ⟨G3, B3, K3⟩ := cb_put (p := ⟨g, k1 * 3, none⟩) (u := .int .i64 0) G2.out B2.out K2.out hPg hBg GP.out
    obtain ⟨G4, B4, K4⟩ := cb_put (p := ⟨g, k1 * 3 + 1, none⟩) (u := .string ⟨#[]⟩) G3 B3 K3 hPg hBg GP.out
    obtain ⟨G5, B5, K5⟩ := cb_put (p := ⟨g, k1 * 3 + 2, none⟩) (u := .slice none 0 0) G4 B4 K4 hPg hBg GP.out
    obtain ⟨W5, hW5⟩ : ∃ W, ((W2.setCell ⟨g, k1 * 3, none⟩ (.int .i64 0)).setCell ⟨g, k1 * 3 + 1, none⟩ (.string ⟨#[]⟩)).setCell ⟨g, k1 * 3 + 2, none⟩ (.slice none 0 0) = W := ⟨_, rfl⟩
    rw [hW5] at S3 G5 B5 K5
    have S5 := Aside0.mk S3
    have G5 := Aside0.mk G5
    have B5 := Aside0.mk B5
    have K5 := Aside0.mk K5
    clear G3 B3 K3 G4 B4 K4 S3 hfr3 S2 G2 B2 K2 Y BL hPg hBg hx
    go_wp2
    go_ret
    refine ⟨rfl, ⟨some ⟨g, 0, none⟩, c, ?_, ?_⟩, B5.out, K5.out⟩
    ·show _ = some (Obj.cells #[.slice _ (C1.set k1 _).length _, _, _] _ _)
     rw [List.length_set]
     exact G5.out
    ·show CS _ _ _ (.slice _ (C1.set k1 _).length _) _
     rw [List.length_set]
     exact S5.out
   ·have h := HH.out
    rw [if_neg hle] at h
    rw [hx] at h
    have e_ := Option.some.inj h
    subst e_
    have m0 : leaf.toList ≠ [] := fun e_ => hle (ba_nil.1 e_)
    have m1 : (leaf.toList == []) = false := beq_eq_false_iff_ne.2 m0
    have m2 : (leaf.toList = []) = False := eq_false m0
    clear h HH hle Y BL hx
    go_wp2
    go_ret
    refine ⟨rfl, ⟨some ⟨g, 0, none⟩, c, ?_, ?_⟩, B2.out, K2.out⟩
    ·show _ = some (Obj.cells #[.slice _ (C1.set k1 _).length _, _, _] _ _)
     rw [List.length_set]
     exact G2.out
    ·show CS _ _ _ (.slice _ (C1.set k1 _).length _) _
     rw [List.length_set]
     exact S2.out
  ·rw [if_neg hl0] at h
   by_cases hd : 0 ≤ dg (l + 1) ∧ dg (l + 1) < 4 ∧ (rd_T68 C1 (k1 : Int)).f2.length = 4
   ·rw [if_pos hd] at h
    obtain ⟨⟨C2, z2⟩, hq, h⟩ := Option.bind_eq_some_iff.1 h
    simp only at h
    have hdl := DG.out (l + 1) (by omega) (Nat.le_refl _)
    rw [← hlv] at hdl
    have hlw2 : wrap64 (lv - 1) = (l : Int) := by rw [w64 (x := lv - 1) (by have := HL.out; omega) (by have := HL.out; omega)]; omega
    have LW := Aside0.mk hlw2
    have LV := Aside0.mk (show 2 ≤ lv by omega)
    obtain ⟨d, hdd⟩ : ∃ d : Nat, dg (l + 1) = (d : Int) := ⟨(dg (l + 1)).toNat, by omega⟩
    rw [hdd] at hq h hdl hd
    simp only [Int.toNat_natCast] at h
    have D4 := Aside0.mk (show d < 4 by omega)
    have F4 := Aside0.mk hd.2.2
    have T2 := Aside0.mk (impl_digit.calls a_ lv (d : Int))
    have HQ := Aside0.mk hq
    have HH := Aside0.mk h
    have DL := Aside0.mk hdl
    have q1 : (lv = 1) = False := eq_false (by omega)
    have q2 : (lv == 1) = false := beq_eq_false_iff_ne.2 (by omega)
    clear h hq hd hdl hdd hlw2 hlv
    go_enter Try.func75, Try.ntmps75
    go_wp2_with (go_at_call 89; refine T1.out.mono ?_)
    (first | rintro e w1 rfl hC hB hK | rintro e w1 ⟨rfl, hC, hB, hK⟩)
    clear T1
    obtain ⟨A, c, hG, hS⟩ := hC
    obtain ⟨g, cap, hv, _, _, _⟩ := Kd.S_form hS (by have := LT.out; omega)
    injection hv with hA hn_ hc
    subst hA hc
    clear hn_
    have hlt := LT.out
    obtain ⟨x, hx⟩ : ∃ x, rd_T68 C1 (k1 : Int) = x := ⟨_, rfl⟩
    rw [hx] at F4 HQ
    obtain ⟨_, v, e0, e1, e2, hfr, _, hR, _⟩ := cs_elem hS (k1 : Int) (by omega) (by omega)
    simp only [Int.toNat_natCast] at e0 e1 e2 hfr
    rw [hx] at hR
    obtain ⟨A2, c2, rfl⟩ := Kd.R_slice hR
    rw [F4.out] at e2
    obtain ⟨ad, e3, hy⟩ := Kd.at_int (Kd.R_reads' hR).2.2 (d : Int) (by omega) (by have := F4.out; have := D4.out; omega)
    subst e3
    simp only [Int.toNat_natCast] at hy
    obtain ⟨z, hz⟩ : ∃ z, rd x.f2 (d : Int) = z := ⟨_, rfl⟩
    rw [hz] at hy HQ
    have s1 : ((k1 : Int) < (C1.length : Int)) = True := eq_true (by omega)
    have s2 : ((d : Int) < 4) = True := eq_true (by have := D4.out; omega)
    have d0 : w1.cell? ⟨gb, 0, none⟩ = some (.slice (some ⟨g, 0, none⟩) C1.length c) := (blk_cell hG 0).trans rfl
    have CB1 := Aside0.mk (show CB w1 w0.heap.size gb v1 L P C1 from ⟨_, _, hG, hS⟩)
    have B1 := Aside0.mk hB
    have K1 := Aside0.mk hK
    have D0 := Aside0.mk d0
    have E2 := Aside0.mk e2
    have HY := Aside0.mk hy
    clear hG hS hB hK hR hfr e0 e1 hx
    go_wp2
    clear d0 e2 hy
    refine start_ (n := 20) (S := fun w' => w'.cell? ⟨gb, 0, none⟩ = some (.slice (some ⟨g, 0, none⟩) C1.length c) ∧ w'.cell? ⟨g, k1 * 3 + 2, none⟩ = some (.slice (some ad) 4 c2) ∧ w'.cell? (ad.add d) = some (.int .i64 z)) (ds := [18]) #[false, false, false, false, false, false, false, false, false, false, false, false, false, false, false, false, false, false, false, false] (by kernel_rfl) rfl rfl ⟨D0.out, E2.out, HY.out⟩ (fun hHeld => ?_)
    replace CB1 := Aside0.mk (cb_map CB1.out (W := w1.drew) (fun k _ _ => rfl))
    replace B1 := Aside0.mk (below_drew1 B1.out)
    replace K1 := Aside0.mk K1.out.drew
    replace D0 := Aside0.mk (show w1.drew.cell? ⟨gb, 0, none⟩ = some (.slice (some ⟨g, 0, none⟩) C1.length c) from D0.out)
    replace E2 := Aside0.mk (show w1.drew.cell? ⟨g, k1 * 3 + 2, none⟩ = some (.slice (some ad) 4 c2) from E2.out)
    replace HY := Aside0.mk (show w1.drew.cell? (ad.add d) = some (.int .i64 z) from HY.out)
    generalize w1.drew = w5 at CB1 B1 K1 D0 E2 HY hHeld ⊢
    refine take_ (i := 0) (N := some 27) (v := ?_) (a' := ?_) #[true, false, false, false, false, false, false, false, false, false, false, false, false, false, false, false, false, false, false, false] rfl rfl (by kernel_rfl) (fun _ _ _ h => h) (Or.inl ⟨by rfl, ?_⟩) hHeld ?_ ?_
    rotate_left
    ·rintro w' ⟨s0, s1, s2⟩
     go_simp
     with_reducible rfl
    rotate_left
    ·simp only [Act.put, List.setIfInBounds_toArray, List.set_cons_zero, List.set_cons_succ, i64_w, i32_w]
     rfl
    refine take_ (i := 1) (N := some 28) (v := ?_) (a' := ?_) #[true, true, false, false, false, false, false, false, false, false, false, false, false, false, false, false, false, false, false, false] rfl rfl (by kernel_rfl) (fun _ _ _ h => h) (Or.inl ⟨by rfl, ?_⟩) hHeld ?_ ?_
    rotate_left
    ·rintro w' ⟨s0, s1, s2⟩
     go_simp
     with_reducible rfl
    rotate_left
    ·simp only [Act.put, List.setIfInBounds_toArray, List.set_cons_zero, List.set_cons_succ, i64_w, i32_w]
     rfl
    refine take_ (i := 2) (N := some 29) (v := ?_) (a' := ?_) #[true, true, true, false, false, false, false, false, false, false, false, false, false, false, false, false, false, false, false, false] rfl rfl (by kernel_rfl) (fun _ _ _ h => h) (Or.inl ⟨by rfl, ?_⟩) hHeld ?_ ?_
    rotate_left
    ·rintro w' ⟨s0, s1, s2⟩
     go_simp
     with_reducible rfl
    rotate_left
    ·simp only [Act.put, List.setIfInBounds_toArray, List.set_cons_zero, List.set_cons_succ, i64_w, i32_w]
     rfl
    refine take_ (i := 3) (N := some 30) (v := ?_) (a' := ?_) #[true, true, true, true, false, false, false, false, false, false, false, false, false, false, false, false, false, false, false, false] rfl rfl (by kernel_rfl) (fun _ _ _ h => h) (Or.inl ⟨by rfl, ?_⟩) hHeld ?_ ?_
    rotate_left
    ·rintro w' ⟨s0, s1, s2⟩
     go_simp
     with_reducible rfl
    rotate_left
    ·simp only [Act.put, List.setIfInBounds_toArray, List.set_cons_zero, List.set_cons_succ, i64_w, i32_w]
     rfl
    refine take_ (i := 4) (N := some 31) (v := ?_) (a' := ?_) #[true, true, true, true, true, false, false, false, false, false, false, false, false, false, false, false, false, false, false, false] rfl rfl (by kernel_rfl) (fun _ _ _ h => h) (Or.inl ⟨by rfl, ?_⟩) hHeld ?_ ?_
    rotate_left
    ·rintro w' ⟨s0, s1, s2⟩
     go_simp
     with_reducible rfl
    rotate_left
    ·simp only [Act.put, List.setIfInBounds_toArray, List.set_cons_zero, List.set_cons_succ, i64_w, i32_w]
     rfl
    refine take_ (i := 5) (N := some 32) (v := ?_) (a' := ?_) #[true, true, true, true, true, true, false, false, false, false, false, false, false, false, false, false, false, false, false, false] rfl rfl (by kernel_rfl) (fun _ _ _ h => h) (Or.inl ⟨by rfl, ?_⟩) hHeld ?_ ?_
    rotate_left
    ·rintro w' ⟨s0, s1, s2⟩
     go_simp
     with_reducible rfl
    rotate_left
    ·simp only [Act.put, List.setIfInBounds_toArray, List.set_cons_zero, List.set_cons_succ, i64_w, i32_w]
     rfl
    refine take_ (i := 6) (N := some 33) (v := ?_) (a' := ?_) #[true, true, true, true, true, true, true, false, false, false, false, false, false, false, false, false, false, false, false, false] rfl rfl (by kernel_rfl) (fun _ _ _ h => h) (Or.inl ⟨by rfl, ?_⟩) hHeld ?_ ?_
    rotate_left
    ·rintro w' ⟨s0, s1, s2⟩
     go_simp
     with_reducible rfl
    rotate_left
    ·simp only [Act.put, List.setIfInBounds_toArray, List.set_cons_zero, List.set_cons_succ, i64_w, i32_w]
     rfl
    refine take_ (i := 7) (N := some 34) (v := ?_) (a' := ?_) #[true, true, true, true, true, true, true, true, false, false, false, false, false, false, false, false, false, false, false, false] rfl rfl (by kernel_rfl) (fun _ _ _ h => h) (Or.inl ⟨by rfl, ?_⟩) hHeld ?_ ?_
    rotate_left
    ·rintro w' ⟨s0, s1, s2⟩
     go_simp
     with_reducible rfl
    rotate_left
    ·simp only [Act.put, List.setIfInBounds_toArray, List.set_cons_zero, List.set_cons_succ, i64_w, i32_w]
     rfl
    refine take_ (i := 8) (N := some 35) (v := ?_) (a' := ?_) #[true, true, true, true, true, true, true, true, true, false, false, false, false, false, false, false, false, false, false, false] rfl rfl (by kernel_rfl) (fun _ _ _ h => h) (Or.inl ⟨by rfl, ?_⟩) hHeld ?_ ?_
    rotate_left
    ·rintro w' ⟨s0, s1, s2⟩
     go_simp
     with_reducible rfl
    rotate_left
    ·simp only [Act.put, List.setIfInBounds_toArray, List.set_cons_zero, List.set_cons_succ, i64_w, i32_w]
     rfl
    refine take_ (i := 9) (N := some 36) (v := ?_) (a' := ?_) #[true, true, true, true, true, true, true, true, true, true, false, false, false, false, false, false, false, false, false, false] rfl rfl (by kernel_rfl) (fun _ _ _ h => h) (Or.inl ⟨by rfl, ?_⟩) hHeld ?_ ?_
    rotate_left
    ·rintro w' ⟨s0, s1, s2⟩
     go_simp
     with_reducible rfl
    rotate_left
    ·simp only [Act.put, List.setIfInBounds_toArray, List.set_cons_zero, List.set_cons_succ, i64_w, i32_w]
     rfl
    refine take_ (i := 10) (N := some 37) (v := ?_) (a' := ?_) #[true, true, true, true, true, true, true, true, true, true, true, false, false, false, false, false, false, false, false, false] rfl rfl (by kernel_rfl) (fun _ _ _ h => h) (Or.inl ⟨by rfl, ?_⟩) hHeld ?_ ?_
    rotate_left
    ·rintro w' ⟨s0, s1, s2⟩
     go_simp
     with_reducible rfl
    rotate_left
    ·simp only [Act.put, List.setIfInBounds_toArray, List.set_cons_zero, List.set_cons_succ, i64_w, i32_w]
     rfl
    refine take_ (i := 14) (N := some 41) (v := ?_) (a' := ?_) #[true, true, true, true, true, true, true, true, true, true, true, false, false, false, true, false, false, false, false, false] rfl rfl (by kernel_rfl) (fun _ _ _ h => h) (Or.inl ⟨by rfl, ?_⟩) hHeld ?_ ?_
    rotate_left
    ·rintro w' ⟨s0, s1, s2⟩
     go_simp
     with_reducible rfl
    rotate_left
    ·simp only [Act.put, List.setIfInBounds_toArray, List.set_cons_zero, List.set_cons_succ, i64_w, i32_w]
     rfl
    refine take_ (i := 15) (N := some 42) (v := ?_) (a' := ?_) #[true, true, true, true, true, true, true, true, true, true, true, false, false, false, true, true, false, false, false, false] rfl rfl (by kernel_rfl) (fun _ _ _ h => h) (Or.inl ⟨by rfl, ?_⟩) hHeld ?_ ?_
    rotate_left
    ·rintro w' ⟨s0, s1, s2⟩
     go_simp
     with_reducible rfl
    rotate_left
    ·simp only [Act.put, List.setIfInBounds_toArray, List.set_cons_zero, List.set_cons_succ, i64_w, i32_w]
     rfl
    refine take_ (i := 16) (N := some 43) (v := ?_) (a' := ?_) #[true, true, true, true, true, true, true, true, true, true, true, false, false, false, true, true, true, false, false, false] rfl rfl (by kernel_rfl) (fun _ _ _ h => h) (Or.inl ⟨by rfl, ?_⟩) hHeld ?_ ?_
    rotate_left
    ·rintro w' ⟨s0, s1, s2⟩
     go_simp
     with_reducible rfl
    rotate_left
    ·simp only [Act.put, List.setIfInBounds_toArray, List.set_cons_zero, List.set_cons_succ, i64_w, i32_w]
     rfl
    refine take_ (i := 17) (N := some 44) (v := ?_) (a' := ?_) #[true, true, true, true, true, true, true, true, true, true, true, false, false, false, true, true, true, true, false, false] rfl rfl (by kernel_rfl) (fun _ _ _ h => h) (Or.inl ⟨by rfl, ?_⟩) hHeld ?_ ?_
    rotate_left
    ·rintro w' ⟨s0, s1, s2⟩
     go_simp
     with_reducible rfl
    rotate_left
    ·simp only [Act.put, List.setIfInBounds_toArray, List.set_cons_zero, List.set_cons_succ, i64_w, i32_w]
     rfl
    refine one_ (i := 11) (N := some 38) #[true, true, true, true, true, true, true, true, true, true, true, true, false, false, true, true, true, true, false, false] rfl rfl (by kernel_rfl) (by decide) (fun K hK => ?_)
    refine goes_ Try.func86 (by kernel_rfl) rfl #[.int .i64 a_, .int .i64 lv] (by rfl) rfl rfl (by (try simp only [List.map_toArray, List.map_cons, List.map_nil]); first | done | rfl | (simp only [List.length_drop, List.length_take]; rfl)) ?_
    refine (T2.out w5 DL.out).mono ?_
    (first | rintro e w6 rfl hdr | rintro e w6 ⟨rfl, hdr⟩)
    refine ⟨_, rfl, ?_⟩
    have hb := hdr.below
    replace D0 := Aside0.mk (cell_kept D0.out (Kept.of_below hb (fun _ => False)) id)
    replace E2 := Aside0.mk (cell_kept E2.out (Kept.of_below hb (fun _ => False)) id)
    replace HY := Aside0.mk (cell_kept HY.out (Kept.of_below hb (fun _ => False)) id)
    replace CB1 := Aside0.mk (cb_map CB1.out (fun k _ hk => hb.block k hk))
    replace B1 := Aside0.mk (below_then B1.out B1.out.size hb)
    replace K1 := Aside0.mk (K1.out.below hb)
    clear hb hdr
    refine hK.out _ _ ⟨D0.out, E2.out, HY.out⟩ (fun hHeld => ?_)
    clear hK K
    refine norm_ (a' := ?_) ?_ ?_
    rotate_left
    ·show Act.put _ (some 38) _ = _
     simp only [Act.put, List.setIfInBounds_toArray, List.set_cons_zero, List.set_cons_succ, i64_w, i32_w]
     rfl
    refine take_ (i := 12) (N := some 39) (v := ?_) (a' := ?_) #[true, true, true, true, true, true, true, true, true, true, true, true, true, false, true, true, true, true, false, false] rfl rfl (by kernel_rfl) (fun _ _ _ h => h) (Or.inl ⟨by rfl, ?_⟩) hHeld ?_ ?_
    rotate_left
    ·rintro w' ⟨s0, s1, s2⟩
     go_simp
     with_reducible rfl
    rotate_left
    ·simp only [Act.put, List.setIfInBounds_toArray, List.set_cons_zero, List.set_cons_succ, i64_w, i32_w]
     rfl
    refine take_ (i := 13) (N := some 40) (v := ?_) (a' := ?_) #[true, true, true, true, true, true, true, true, true, true, true, true, true, true, true, true, true, true, false, false] rfl rfl (by kernel_rfl) (fun _ _ _ h => h) (Or.inl ⟨by rfl, ?_⟩) hHeld ?_ ?_
    rotate_left
    ·rintro w' ⟨s0, s1, s2⟩
     go_simp
     with_reducible rfl
    rotate_left
    ·simp only [Act.put, List.setIfInBounds_toArray, List.set_cons_zero, List.set_cons_succ, i64_w, i32_w]
     rfl
    refine last_ (i := 18) (N := some 45) #[true, true, true, true, true, true, true, true, true, true, true, true, true, true, true, true, true, true, true, false] rfl rfl (by kernel_rfl) (by decide) (fun K hK => ?_)
    refine goes_ Try.func75 (by kernel_rfl) rfl #[.pointer (some ⟨gb, 0, none⟩), .int .i64 z, .int .i64 (wrap64 (lv - 1)), .int .i64 a_, .string leaf] (by rfl) rfl rfl (by (try simp only [List.map_toArray, List.map_cons, List.map_nil]); first | done | rfl | (simp only [List.length_drop, List.length_take]; rfl)) ?_
    have hsz := K1.out.1
    refine (IH.out C1 z (wrap64 (lv - 1)) (C2, z2) w6 LW.out (by have := HL.out; omega) (fun j h1 h2 => DG.out j h1 (by omega)) B1.out CB1.out (fun k hk => FP.out k (by omega)) HQ.out).mono ?_
    (first | rintro e w7 rfl hC hB hK | rintro e w7 ⟨rfl, hC, hB, hK⟩)
    refine ⟨_, rfl, ?_⟩
    replace K1 := Aside0.mk (K1.out.then_ hK (fun j hj => .inl hj))
    replace B1 := Aside0.mk hB
    replace CB1 := Aside0.mk (show CB w7 w0.heap.size gb v1 L P C2 from hC)
    clear hC hB hK D0 E2 HY hsz
    refine hK.out _ _ ?_
    clear hK K
    refine norm_ (a' := ?_) ?_ ?_
    rotate_left
    ·show Act.put _ (some 45) _ = _
     simp only [Act.put, List.setIfInBounds_toArray, List.set_cons_zero, List.set_cons_succ, i64_w, i32_w]
     rfl
    refine pure_ (i := 19) (N := some 11) (v := ?_) (a' := ?_) #[true, true, true, true, true, true, true, true, true, true, true, true, true, true, true, true, true, true, true, true] rfl rfl (by kernel_rfl) (fun _ _ _ h => h) (Or.inl ⟨by rfl, ?_⟩) ?_ ?_
    rotate_left
    ·intro w'
     go_simp
     with_reducible rfl
    rotate_left
    ·simp only [Act.put, List.setIfInBounds_toArray, List.set_cons_zero, List.set_cons_succ, i64_w, i32_w]
     rfl
    refine done_ (by kernel_rfl) ?_
    clear hHeld
    have h := HH.out
    split at h
    ·rename_i hcd
     obtain ⟨hk2, hl4, hf1⟩ := hcd
     obtain ⟨A, c7, hG, hS⟩ := CB1.out
     obtain ⟨g7, cap, hv, _, _, _⟩ := Kd.S_form hS (by omega)
     injection hv with hA hn_ hc
     subst hA hc
     clear hn_ HH
     have HH := Aside0.mk h
     have K2 := Aside0.mk hk2
     clear h
     obtain ⟨x7, hx7⟩ : ∃ x, rd_T68 C2 (k1 : Int) = x := ⟨_, rfl⟩
     rw [hx7] at hl4 hf1 HH
     obtain ⟨v7, e2, hR7, hv7, hback⟩ := cs_inner hS (k1 : Int) (by omega) (by omega)
     rw [hx7] at hR7 hback
     obtain ⟨gk, ck, rfl, _, _, _⟩ := Kd.R_form hR7 (by omega)
     rw [hl4] at hR7 e2 hback hv7
     simp only [Int.toNat_natCast] at e2 hback
     obtain ⟨hPk, hngk⟩ := hv7 gk rfl
     have S7 := Aside0.mk hS
     have G7 := Aside0.mk hG
     have R7 := Aside0.mk hR7
     have BK := Aside0.mk hback
     have E2 := Aside0.mk e2
     have PK := Aside0.mk hPk
     have L4 := Aside0.mk hl4
     have F1 := Aside0.mk hf1
     have p1 : ((k1 : Int) < (C2.length : Int)) = True := eq_true (by omega)
     have D0 := Aside0.mk (show w7.cell? ⟨gb, 0, none⟩ = some (.slice (some ⟨g7, 0, none⟩) C2.length c7) from (blk_cell hG 0).trans rfl)
     clear hS hG hR7 hback e2 hPk hv7 hl4 hf1 hk2 CB1
     try go_wp2
     refine start_ (n := 14) (S := fun w' => w'.cell? ⟨gb, 0, none⟩ = some (.slice (some ⟨g7, 0, none⟩) C2.length c7) ∧ w'.cell? ⟨g7, k1 * 3 + 2, none⟩ = some (.slice (some ⟨gk, 0, none⟩) 4 ck)) (ds := [13]) #[false, false, false, false, false, false, false, false, false, false, false, false, false, false] (by kernel_rfl) rfl rfl ⟨D0.out, E2.out⟩ (fun hHeld => ?_)
     replace S7 := Aside0.mk (Kd.S_drew S7.out)
     replace G7 := Aside0.mk (blk_drew G7.out)
     replace R7 := Aside0.mk (Kd.R_drew R7.out)
     replace B1 := Aside0.mk (below_drew1 B1.out)
     replace K1 := Aside0.mk K1.out.drew
     replace D0 := Aside0.mk (show w7.drew.cell? ⟨gb, 0, none⟩ = some (.slice (some ⟨g7, 0, none⟩) C2.length c7) from D0.out)
     replace E2 := Aside0.mk (show w7.drew.cell? ⟨g7, k1 * 3 + 2, none⟩ = some (.slice (some ⟨gk, 0, none⟩) 4 ck) from E2.out)
     have BW := Aside0.mk (show Kept w7 w7.drew (fun _ => False) from (Kept.refl _ _).drew)
     generalize w7.drew = w8 at S7 G7 R7 B1 K1 D0 E2 BW hHeld ⊢
     refine take_ (i := 0) (N := some 46) (v := ?_) (a' := ?_) #[true, false, false, false, false, false, false, false, false, false, false, false, false, false] rfl rfl (by kernel_rfl) (fun _ _ _ h => h) (Or.inl ⟨by rfl, ?_⟩) hHeld ?_ ?_
     rotate_left
     ·rintro w' ⟨s0, s1⟩
      go_simp
      with_reducible rfl
     rotate_left
     ·simp only [Act.put, List.setIfInBounds_toArray, List.set_cons_zero, List.set_cons_succ, i64_w, i32_w]
      rfl
     refine take_ (i := 1) (N := some 47) (v := ?_) (a' := ?_) #[true, true, false, false, false, false, false, false, false, false, false, false, false, false] rfl rfl (by kernel_rfl) (fun _ _ _ h => h) (Or.inl ⟨by rfl, ?_⟩) hHeld ?_ ?_
     rotate_left
     ·rintro w' ⟨s0, s1⟩
      go_simp
      with_reducible rfl
     rotate_left
     ·simp only [Act.put, List.setIfInBounds_toArray, List.set_cons_zero, List.set_cons_succ, i64_w, i32_w]
      rfl
     refine take_ (i := 2) (N := some 48) (v := ?_) (a' := ?_) #[true, true, true, false, false, false, false, false, false, false, false, false, false, false] rfl rfl (by kernel_rfl) (fun _ _ _ h => h) (Or.inl ⟨by rfl, ?_⟩) hHeld ?_ ?_
     rotate_left
     ·rintro w' ⟨s0, s1⟩
      go_simp
      with_reducible rfl
     rotate_left
     ·simp only [Act.put, List.setIfInBounds_toArray, List.set_cons_zero, List.set_cons_succ, i64_w, i32_w]
      rfl
     refine take_ (i := 3) (N := some 49) (v := ?_) (a' := ?_) #[true, true, true, true, false, false, false, false, false, false, false, false, false, false] rfl rfl (by kernel_rfl) (fun _ _ _ h => h) (Or.inl ⟨by rfl, ?_⟩) hHeld ?_ ?_
     rotate_left
     ·rintro w' ⟨s0, s1⟩
      go_simp
      with_reducible rfl
     rotate_left
     ·simp only [Act.put, List.setIfInBounds_toArray, List.set_cons_zero, List.set_cons_succ, i64_w, i32_w]
      rfl
     refine take_ (i := 4) (N := some 50) (v := ?_) (a' := ?_) #[true, true, true, true, true, false, false, false, false, false, false, false, false, false] rfl rfl (by kernel_rfl) (fun _ _ _ h => h) (Or.inl ⟨by rfl, ?_⟩) hHeld ?_ ?_
     rotate_left
     ·rintro w' ⟨s0, s1⟩
      go_simp
      with_reducible rfl
     rotate_left
     ·simp only [Act.put, List.setIfInBounds_toArray, List.set_cons_zero, List.set_cons_succ, i64_w, i32_w]
      rfl
     refine take_ (i := 5) (N := some 51) (v := ?_) (a' := ?_) #[true, true, true, true, true, true, false, false, false, false, false, false, false, false] rfl rfl (by kernel_rfl) (fun _ _ _ h => h) (Or.inl ⟨by rfl, ?_⟩) hHeld ?_ ?_
     rotate_left
     ·rintro w' ⟨s0, s1⟩
      go_simp
      with_reducible rfl
     rotate_left
     ·simp only [Act.put, List.setIfInBounds_toArray, List.set_cons_zero, List.set_cons_succ, i64_w, i32_w]
      rfl
     refine take_ (i := 6) (N := some 52) (v := ?_) (a' := ?_) #[true, true, true, true, true, true, true, false, false, false, false, false, false, false] rfl rfl (by kernel_rfl) (fun _ _ _ h => h) (Or.inl ⟨by rfl, ?_⟩) hHeld ?_ ?_
     rotate_left
     ·rintro w' ⟨s0, s1⟩
      go_simp
      with_reducible rfl
     rotate_left
     ·simp only [Act.put, List.setIfInBounds_toArray, List.set_cons_zero, List.set_cons_succ, i64_w, i32_w]
      rfl
     refine take_ (i := 7) (N := some 53) (v := ?_) (a' := ?_) #[true, true, true, true, true, true, true, true, false, false, false, false, false, false] rfl rfl (by kernel_rfl) (fun _ _ _ h => h) (Or.inl ⟨by rfl, ?_⟩) hHeld ?_ ?_
     rotate_left
     ·rintro w' ⟨s0, s1⟩
      go_simp
      with_reducible rfl
     rotate_left
     ·simp only [Act.put, List.setIfInBounds_toArray, List.set_cons_zero, List.set_cons_succ, i64_w, i32_w]
      rfl
     refine take_ (i := 8) (N := some 54) (v := ?_) (a' := ?_) #[true, true, true, true, true, true, true, true, true, false, false, false, false, false] rfl rfl (by kernel_rfl) (fun _ _ _ h => h) (Or.inl ⟨by rfl, ?_⟩) hHeld ?_ ?_
     rotate_left
     ·rintro w' ⟨s0, s1⟩
      go_simp
      with_reducible rfl
     rotate_left
     ·simp only [Act.put, List.setIfInBounds_toArray, List.set_cons_zero, List.set_cons_succ, i64_w, i32_w]
      rfl
     refine take_ (i := 9) (N := some 55) (v := ?_) (a' := ?_) #[true, true, true, true, true, true, true, true, true, true, false, false, false, false] rfl rfl (by kernel_rfl) (fun _ _ _ h => h) (Or.inl ⟨by rfl, ?_⟩) hHeld ?_ ?_
     rotate_left
     ·rintro w' ⟨s0, s1⟩
      go_simp
      with_reducible rfl
     rotate_left
     ·simp only [Act.put, List.setIfInBounds_toArray, List.set_cons_zero, List.set_cons_succ, i64_w, i32_w]
      rfl
     refine take_ (i := 11) (N := some 57) (v := ?_) (a' := ?_) #[true, true, true, true, true, true, true, true, true, true, false, true, false, false] rfl rfl (by kernel_rfl) (fun _ _ _ h => h) (Or.inl ⟨by rfl, ?_⟩) hHeld ?_ ?_
     rotate_left
     ·rintro w' ⟨s0, s1⟩
      go_simp
      with_reducible rfl
     rotate_left
     ·simp only [Act.put, List.setIfInBounds_toArray, List.set_cons_zero, List.set_cons_succ, i64_w, i32_w]
      rfl
     refine one_ (i := 10) (N := some 56) #[true, true, true, true, true, true, true, true, true, true, true, true, false, false] rfl rfl (by kernel_rfl) (by decide) (fun K hK => ?_)
     refine goes_ Try.func86 (by kernel_rfl) rfl #[.int .i64 a_, .int .i64 lv] (by rfl) rfl rfl (by (try simp only [List.map_toArray, List.map_cons, List.map_nil]); first | done | rfl | (simp only [List.length_drop, List.length_take]; rfl)) ?_
     refine (T2.out w8 DL.out).mono ?_
     (first | rintro e w9 rfl hdr | rintro e w9 ⟨rfl, hdr⟩)
     refine ⟨_, rfl, ?_⟩
     have hb := hdr.below
     replace D0 := Aside0.mk (cell_kept D0.out (Kept.of_below hb (fun _ => False)) id)
     replace E2 := Aside0.mk (cell_kept E2.out (Kept.of_below hb (fun _ => False)) id)
     replace S7 := Aside0.mk (Kd.S_below S7.out hb)
     replace G7 := Aside0.mk (blk_below G7.out hb)
     replace R7 := Aside0.mk (Kd.R_below R7.out hb)
     replace B1 := Aside0.mk (below_then B1.out B1.out.size hb)
     replace K1 := Aside0.mk (K1.out.below hb)
     replace BW := Aside0.mk (BW.out.below hb)
     clear hb hdr
     refine hK.out _ _ ⟨D0.out, E2.out⟩ (fun hHeld => ?_)
     clear hK K
     refine norm_ (a' := ?_) ?_ ?_
     rotate_left
     ·show Act.put _ (some 56) _ = _
      simp only [Act.put, List.setIfInBounds_toArray, List.set_cons_zero, List.set_cons_succ, i64_w, i32_w]
      rfl
     refine take_ (i := 12) (N := some 58) (v := ?_) (a' := ?_) #[true, true, true, true, true, true, true, true, true, true, true, true, true, false] rfl rfl (by kernel_rfl) (fun _ _ _ h => h) (Or.inl ⟨by rfl, ?_⟩) hHeld ?_ ?_
     rotate_left
     ·rintro w' ⟨s0, s1⟩
      go_simp
      with_reducible rfl
     rotate_left
     ·simp only [Act.put, List.setIfInBounds_toArray, List.set_cons_zero, List.set_cons_succ, i64_w, i32_w]
      rfl
     obtain ⟨ad9, e9, hy9⟩ := Kd.at_int (Kd.R_reads' R7.out).2.2 (d : Int) (by omega) (by have := L4.out; have := D4.out; omega)
     injection e9 with e9
     subst e9
     rw [show (⟨gk, 0, none⟩ : Addr).add ((d : Int).toNat) = ⟨gk, d, none⟩ by by_cases h : d = 0 <;> simp [Addr.add, h]] at hy9
     have hl9 : 0 < (x7.f2).length := by have := L4.out; omega
     obtain ⟨g_, c_, e_, _, _, cells9, hcl9⟩ := Kd.R_form R7.out hl9
     obtain rfl : gk = g_ := by injection e_ with e_ _ _; injection e_ with e_; injection e_
     have hf9 := blk_frozen hcl9 d
     refine last_ (i := 13) (N := none) #[true, true, true, true, true, true, true, true, true, true, true, true, true, true] rfl rfl (by kernel_rfl) (by decide) (fun K hK => ?_)
     refine skip_ (w1 := w9.setCell ⟨gk, d, none⟩ (.int .i64 z2)) (by rfl) rfl ?_ ?_
     ·first | (go_simp; done) | (go_simp; rfl)
     refine hK.out _ _ ?_
     clear hK K
     refine done_ (by kernel_rfl) ?_
     clear hHeld
     clear hy9 hf9 hcl9
     have RP := Kd.R_putn R7.out d z2
     have KP : Kept w9 (w9.setCell ⟨gk, d, none⟩ (.int .i64 z2)) (fun k => some k = (Value.slice (some ⟨gk, 0, none⟩) 4 ck).ownBlock) := (Kept.refl w9 (fun k => some k = (Value.slice (some ⟨gk, 0, none⟩) 4 ck).ownBlock)).setCell (p := ⟨gk, d, none⟩) (.inl rfl) _
     have S9 := BK.out _ (x7.f2.set d z2) ((BW.out.mono (fun _ h => h.elim)).then_ KP (fun j hj => .inl hj)) (Kd.R_mono RP (fun _ _ => trivial))
     obtain ⟨G9, B9, K9⟩ := cb_put (p := ⟨gk, d, none⟩) (u := .int .i64 z2) G7.out B1.out K1.out PK.out (Kd.R_base R7.out gk rfl) GP.out
     generalize w9.setCell ⟨gk, d, none⟩ (.int .i64 z2) = wA at RP KP S9 G9 B9 K9 ⊢
     clear KP RP S7 G7 R7 B1 K1 D0 E2 BW BK
     have hkC := K2.out
     have hrdx := rd_cl_set (xs := C2) hkC (⟨x7.f0, x7.f1, x7.f2.set d z2⟩ : CL)
     have hlx : (C2.set k1 (⟨x7.f0, x7.f1, x7.f2.set d z2⟩ : CL)).length = C2.length := List.length_set
     generalize hC9 : C2.set k1 (⟨x7.f0, x7.f1, x7.f2.set d z2⟩ : CL) = C9 at S9 HH hrdx hlx
     obtain ⟨_, v9, f0, f1, f2, hfr2, _, hR9, _⟩ := cs_elem S9 (k1 : Int) (by omega) (by omega)
     simp only [Int.toNat_natCast] at f0 f1 f2 hfr2
     rw [hrdx] at f0 f1 hR9
     obtain ⟨A9, c9, rfl⟩ := Kd.R_slice hR9
     have hl9 : (x7.f2.set d z2).length = 4 := by rw [List.length_set]; exact L4.out
     simp only [hl9] at f2 hR9
     have g0 : wA.cell? ⟨gb, 0, none⟩ = some (.slice (some ⟨g7, 0, none⟩) C2.length c7) := (blk_cell G9 0).trans rfl
     obtain ⟨W1, W2, hW1, hW2, y0, y1, y2, z0, z1, z3, Y, BL⟩ := local_cell wA (.int .i64 x7.f0) (.string x7.f1) (.slice A9 4 c9)
     have yy1 : W2.cell? ⟨wA.heap.size, 1, none⟩ = some (.string x7.f1) := (blk_cell Y.out 1).trans rfl
     have yy2 : W2.cell? ⟨wA.heap.size, 2, none⟩ = some (.slice A9 4 c9) := (blk_cell Y.out 2).trans rfl
     have T3 := Aside0.mk (max_calls (x7.f2.set d z2) A9 c9 W2 (Kd.C_below (Kd.R_reads' hR9).2.2 BL.out) (by rw [hl9]; exact (Kd.R_reads' hR9).2.1) hl9)
     simp only [hl9] at T3
     have S2 := Aside0.mk (Kd.S_below S9 BL.out)
     have G2 := Aside0.mk (blk_below G9 BL.out)
     have B2 := Aside0.mk (below_then B9 B9.size BL.out)
     have K2_ := Aside0.mk (K9.below BL.out)
     have gg0 : W2.cell? ⟨gb, 0, none⟩ = some (.slice (some ⟨g7, 0, none⟩) C2.length c7) := (blk_cell G2.out 0).trans rfl
     have es1 : (x7.f1.toList == []) = true := by rw [ba_nil.2 F1.out]; rfl
     have es2 : (x7.f1.toList = []) = True := eq_true (ba_nil.2 F1.out)
     have HC9 := Aside0.mk hC9
     have HLX := Aside0.mk hlx
     clear S9 G9 B9 K9 hR9 hfr2 hC9 hlx hl9
     go_wp2_with (go_at_call 84; refine T3.out.mono ?_)
     (first | rintro e wB m rfl hm rfl | rintro e wB ⟨⟨m, rfl, hm⟩, rfl⟩)
     cases hsk : someKid (x7.f2.set d z2) with
     | true =>
      have h := HH.out
      rw [if_pos hsk] at h
      have e_ := Option.some.inj h
      subst e_
      rw [hsk] at hm
      have hm0 : 0 ≤ m := of_decide_eq_true hm
      have m1 : (m < 0) = False := eq_false (by omega)
      clear h HH hm hm0 T3 Y BL
      go_wp2
      go_ret
      refine ⟨rfl, ⟨some ⟨g7, 0, none⟩, c7, ?_, ?_⟩, B2.out, K2_.out⟩
      ·show _ = some (Obj.cells #[.slice _ C9.length _, _, _] _ _)
       rw [HLX.out]
       exact G2.out
      ·show CS _ _ _ (.slice _ C9.length _) _
       rw [HLX.out]
       exact S2.out
     | false =>
      have h := HH.out
      rw [if_neg (by rw [hsk]; decide)] at h
      have e_ := Option.some.inj h
      subst e_
      rw [hsk] at hm
      have hm0 : ¬ 0 ≤ m := of_decide_eq_false hm
      have m1 : (m < 0) = True := eq_true (by omega)
      obtain ⟨_, _, q0, q1, q2, hfr3, _, _, _⟩ := cs_elem S2.out (k1 : Int) (by omega) (by have := K2.out; omega)
      simp only [Int.toNat_natCast] at q0 q1 q2 hfr3
      have n0 : W2.frozen? ⟨g7, k1 * 3, none⟩ = false := hfr3 0
      have n1 := hfr3 1
      have n2 := hfr3 2
      have hPg := (Kd.S_R S2.out).1 g7 rfl
      have hBg := Kd.S_base S2.out g7 rfl
      have S3 := cs_zero S2.out (k1 : Int) (by omega) (by have := K2.out; omega)
      simp only [Int.toNat_natCast] at S3
      rw [← HC9.out, List.set_set] at S3
      obtain ⟨G3, B3, K3⟩ := cb_put (p := ⟨g7, k1 * 3, none⟩) (u := .int .i64 0) G2.out B2.out K2_.out hPg hBg GP.out
      obtain ⟨G4, B4, K4⟩ := cb_put (p := ⟨g7, k1 * 3 + 1, none⟩) (u := .string ⟨#[]⟩) G3 B3 K3 hPg hBg GP.out
      obtain ⟨G5, B5, K5⟩ := cb_put (p := ⟨g7, k1 * 3 + 2, none⟩) (u := .slice none 0 0) G4 B4 K4 hPg hBg GP.out
      obtain ⟨W5, hW5⟩ : ∃ W, ((W2.setCell ⟨g7, k1 * 3, none⟩ (.int .i64 0)).setCell ⟨g7, k1 * 3 + 1, none⟩ (.string ⟨#[]⟩)).setCell ⟨g7, k1 * 3 + 2, none⟩ (.slice none 0 0) = W := ⟨_, rfl⟩
      rw [hW5] at S3 G5 B5 K5
      have S5 := Aside0.mk S3
      have G5 := Aside0.mk G5
      have B5 := Aside0.mk B5
      have K5 := Aside0.mk K5
      clear G3 B3 K3 G4 B4 K4 S3 hfr3 S2 G2 B2 K2_ Y BL hPg hBg h HH hm hm0 T3
      go_wp2
      go_ret
      refine ⟨rfl, ⟨some ⟨g7, 0, none⟩, c7, ?_, ?_⟩, B5.out, K5.out⟩
      ·show _ = some (Obj.cells #[.slice _ (C2.set k1 _).length _, _, _] _ _)
       rw [List.length_set]
       exact G5.out
      ·show CS _ _ _ (.slice _ (C2.set k1 _).length _) _
       rw [List.length_set]
       exact S5.out
    ·cases h
   ·rw [if_neg hd] at h
    cases h
end Go.Proofs.Ytacfalpgmibfnaa.PCow
namespace Go.Proofs.Ytacfalpgmibfnaa.PCow
open Go.RowKit Go.Proofs.YtacfalpgmibfnaaW.PrintWords Go.Proofs.YtacfalpgmibfnaaW.PrintLast Go.Proofs.YtacfalpgmibfnaaW.PrintMore Go.Proofs.Ytacfalpgmibfnaa.E
set_option linter.unusedSimpArgs false
set_option linter.unusedVariables false
set_option maxHeartbeats 8000000 in
set_option maxRecDepth 100000 in
theorem new_calls (L : Int) (n1 c1 c : Nat) (A1 A : Option Addr) (C : List CL) (P : Nat → Prop) (x : CL) (vx : Value) (w0 w : World) (hB : Below w0.heap.size w0 w) (hS : CS w w0.heap.size (fun k => P k ∧ ¬ some k = vx.ownBlock) (.slice A C.length c) C) (hx : IR w w0.heap.size (fun k => some k = vx.ownBlock) vx x.f2) (hxP : ∀ k, some k = vx.ownBlock → P k) (hfP : ∀ k, w.heap.size ≤ k → P k) (hn : C.length ≤ 1000000) :
  Calls Try.prog 92 #[.agg #[.slice A C.length c, .slice A1 n1 c1, .int .i64 L], .agg #[.int .i64 x.f0, .string x.f1, vx]] w fun e w' => ∃ v0, e = .returned (.tuple #[.agg #[v0, .slice A1 n1 c1, .int .i64 L], .int .i64 ((newC C x).2 : Int)]) ∧ CS w' w0.heap.size P v0 (newC C x).1 ∧ Below w0.heap.size w0 w' ∧ Kept w w' P := by
 have hu25 := Try.underlying25
 have hu68 := Try.underlying68
 have hu22 := Try.underlying22
 obtain ⟨Ax, cx, rfl⟩ := Kd.R_slice hx
 obtain ⟨xg, hxg⟩ : ∃ xg, w.heap.size = xg := ⟨_, rfl⟩
 have LX := Aside0.mk (show ∀ k, some k = (Value.slice Ax x.f2.length cx).ownBlock → k < xg from fun k hk => hxg ▸ Kd.R_lt hx k hk.symm)
 have XP := Aside0.mk hxP
 have HN := Aside0.mk hn
 have FP := Aside0.mk (show ∀ k, xg ≤ k → P k from fun k hk => hfP k (hxg ▸ hk))
 have BX := Aside0.mk (show w0.heap.size ≤ xg from hxg ▸ hB.size)
 have hl : C.length ≤ 9223372036854775807 := by omega
 obtain ⟨W1, hW1⟩ : ∃ W, w.alloc (.cells #[.slice A C.length c, .slice A1 n1 c1, .int .i64 L] 25) = W := ⟨_, rfl⟩
 obtain ⟨W2, hW2⟩ : ∃ W, W1.alloc (.cells #[.int .i64 x.f0, .string x.f1, .slice Ax x.f2.length cx] 68) = W := ⟨_, rfl⟩
 obtain ⟨W3, hW3⟩ : ∃ W, W2.alloc (.cells #[.slice none 0 0, .slice none 0 0, .int .i64 0] 25) = W := ⟨_, rfl⟩
 have hb1 : Below w.heap.size w W1 := by rw [← hW1]; exact below_alloc (Below.refl _ _) _
 have hb2 : Below W1.heap.size W1 W2 := by rw [← hW2]; exact below_alloc (Below.refl _ _) _
 have hb3 : Below W2.heap.size W2 W3 := by rw [← hW3]; exact below_alloc (Below.refl _ _) _
 have X1 : W1.heap[xg]? = some (.cells #[.slice A C.length c, .slice A1 n1 c1, .int .i64 L] 25 (0, 0)) := by rw [← hW1, ← hxg]; exact heap_alloc_new w _
 have Y2 : W2.heap[W1.heap.size]? = some (.cells #[.int .i64 x.f0, .string x.f1, .slice Ax x.f2.length cx] 68 (0, 0)) := by rw [← hW2]; exact heap_alloc_new W1 _
 have Z3 := Aside0.mk (show W3.heap[W2.heap.size]? = some (.cells #[.slice none 0 0, .slice none 0 0, .int .i64 0] 25 (0, 0)) by rw [← hW3]; exact heap_alloc_new W2 _)
 have XY := Aside0.mk (show xg < W1.heap.size from blk_lt X1)
 have YZ := Aside0.mk (show W1.heap.size < W2.heap.size from blk_lt Y2)
 have hb := below_step (below_step hb1 hb2) hb3
 have X3 := Aside0.mk (blk_below (blk_below X1 hb2) hb3)
 have Y3 := Aside0.mk (blk_below Y2 hb3)
 have S3 := Aside0.mk (show CS W3 w0.heap.size (fun k => (P k ∧ ¬ some k = (Value.slice Ax x.f2.length cx).ownBlock) ∧ k < xg) (.slice A C.length c) C from Kd.S_below (Kd.S_mono (Kd.S_bound hS) (fun k hk => ⟨hk.1, hxg ▸ hk.2.2.1⟩)) hb)
 have V3 := Aside0.mk (Kd.R_below hx hb)
 have B3 := Aside0.mk (below_then hB hB.size hb)
 have K3 := Aside0.mk (Kept.of_below hb P)
 clear hb1 hb2 hb3 hb X1 Y2 hS hB hx hxP hfP hn
 have d0 : W3.cell? ⟨xg, 0, none⟩ = some (.slice A C.length c) := (blk_cell X3.out 0).trans rfl
 go_enter Try.func92, Try.ntmps92
 go_wp2
 generalize hyg : W1.heap.size = yg at *
 generalize hzg : W2.heap.size = zg at *
 have HXG := Aside0.mk hxg
 clear hW1 hW2 hW3 hyg hzg hxg d0
 go_loopw [6, 7, 11] (fun v6 v7 vi wr => ∃ q : Nat, q ≤ C.length ∧ vi = .int .i64 q ∧ Aside0 (∀ n : Nat, n < q → (rd_T68 C (n : Int)).f0 ≠ 0) ∧ Aside0 (wr.heap[xg]? = some (.cells #[.slice A C.length c, .slice A1 n1 c1, .int .i64 L] 25 (0, 0))) ∧ Aside0 (wr.heap[yg]? = some (.cells #[.int .i64 x.f0, .string x.f1, .slice Ax x.f2.length cx] 68 (0, 0))) ∧ Aside0 (wr.heap[zg]? = some (.cells #[.slice none 0 0, .slice none 0 0, .int .i64 0] 25 (0, 0))) ∧ Aside0 (CS wr w0.heap.size (fun k => (P k ∧ ¬ some k = (Value.slice Ax x.f2.length cx).ownBlock) ∧ k < xg) (.slice A C.length c) C) ∧ Aside0 (IR wr w0.heap.size (fun k => some k = (Value.slice Ax x.f2.length cx).ownBlock) (.slice Ax x.f2.length cx) x.f2) ∧ Aside0 (Below w0.heap.size w0 wr) ∧ Aside0 (Kept w wr P)) (fun v6 v7 vi _ => C.length - (intOf vi).toNat)
 case atStart => exact ⟨0, Nat.zero_le _, rfl, ⟨fun n h => by omega⟩, X3, Y3, Z3, S3, V3, B3, K3⟩
 case round =>
  clear X3 Y3 Z3 S3 V3 B3 K3
  obtain ⟨q, hq, rfl, HN0, X3, Y3, Z3, S3, V3, B3, K3⟩ := hrel
  by_cases hql : q < C.length
  ·have hqq : ((q : Int) < (C.length : Int)) = True := eq_true (by omega)
   obtain ⟨g, cap, hv, _, _, _⟩ := Kd.S_form S3.out (by omega)
   injection hv with hA hn_ hc
   subst hA hc
   clear hn_
   obtain ⟨y, hy⟩ : ∃ y, rd_T68 C (q : Int) = y := ⟨_, rfl⟩
   obtain ⟨_, vk, e0, e1, e2, hfr, _, hR, _⟩ := cs_elem S3.out (q : Int) (by omega) (by omega)
   simp only [Int.toNat_natCast] at e0 e1 e2 hfr
   rw [hy] at e0 e1 hR
   obtain ⟨Ak, ck, rfl⟩ := Kd.R_slice hR
   obtain ⟨W1, W2, hW1, hW2, y0, y1, y2, z0, z1, z2, Y, BL⟩ := local_cell wr (.int .i64 y.f0) (.string y.f1) (.slice Ak y.f2.length ck)
   have yy0 : W2.cell? ⟨wr.heap.size, 0, none⟩ = some (.int .i64 y.f0) := (blk_cell Y.out 0).trans rfl
   have X4 := Aside0.mk (blk_below X3.out BL.out)
   have Y4 := Aside0.mk (blk_below Y3.out BL.out)
   have Z4 := Aside0.mk (blk_below Z3.out BL.out)
   have S4 := Aside0.mk (Kd.S_below S3.out BL.out)
   have V4 := Aside0.mk (Kd.R_below V3.out BL.out)
   have B4 := Aside0.mk (below_then B3.out B3.out.size BL.out)
   have K4 := Aside0.mk (K3.out.below BL.out)
   have HY := Aside0.mk hy
   clear X3 Y3 Z3 S3 V3 B3 K3 hfr hR Y BL hy
   by_cases he : y.f0 = 0
   ·have hE : (y.f0 == 0) = true := beq_iff_eq.2 he
    have hE2 : (y.f0 = 0) = True := eq_true he
    have HE := Aside0.mk he
    have d0 : W2.cell? ⟨xg, 0, none⟩ = some (.slice (some ⟨g, 0, none⟩) C.length c) := (blk_cell X4.out 0).trans rfl
    have x0 : W2.cell? ⟨yg, 0, none⟩ = some (.int .i64 x.f0) := (blk_cell Y4.out 0).trans rfl
    have x1 : W2.cell? ⟨yg, 1, none⟩ = some (.string x.f1) := (blk_cell Y4.out 1).trans rfl
    have x2 : W2.cell? ⟨yg, 2, none⟩ = some (.slice Ax x.f2.length cx) := (blk_cell Y4.out 2).trans rfl
    have hPg := (Kd.S_R S4.out).1 g rfl
    obtain ⟨_, _, q0, q1, q2, hfr3, _, _, _⟩ := cs_elem S4.out (q : Int) (by omega) (by omega)
    simp only [Int.toNat_natCast] at q0 q1 q2 hfr3
    have n0 : W2.frozen? ⟨g, q * 3, none⟩ = false := hfr3 0
    have n1_ := hfr3 1
    have n2 := hfr3 2
    have S5 := cs_all (ok := P) (okg := fun k => some k = (Value.slice Ax x.f2.length cx).ownBlock) (Kd.S_mono S4.out (fun k hk => hk.1)) (q : Int) (by omega) (by omega) x _ V4.out (fun k hk => ⟨XP.out k hk, fun e_ => hPg.1.2 (e_ ▸ hk)⟩)
    simp only [Int.toNat_natCast] at S5
    obtain ⟨W5, hW5⟩ : ∃ W, ((W2.setCell ⟨g, q * 3, none⟩ (.int .i64 x.f0)).setCell ⟨g, q * 3 + 1, none⟩ (.string x.f1)).setCell ⟨g, q * 3 + 2, none⟩ (.slice Ax x.f2.length cx) = W := ⟨_, rfl⟩
    have KK : Kept W2 W5 (fun j => j = g) := by rw [← hW5]; exact (((Kept.refl W2 (fun j => j = g)).setCell (p := ⟨g, q * 3, none⟩) (.inl rfl) _).setCell (p := ⟨g, q * 3 + 1, none⟩) (.inl rfl) _).setCell (p := ⟨g, q * 3 + 2, none⟩) (.inl rfl) _
    have B5 := Aside0.mk (show Below w0.heap.size w0 W5 by have h_ := Kd.S_base S4.out g rfl; rw [← hW5]; exact below_set (below_set (below_set B4.out h_) h_) h_)
    rw [hW5] at S5
    have hgx := hPg.2
    have X5 := Aside0.mk (blk_kept X4.out KK (by omega))
    have Z5 := Aside0.mk (blk_kept Z4.out KK (by have := XY.out; have := YZ.out; omega))
    have S5 := Aside0.mk S5
    have K5 := Aside0.mk (K4.out.then_ KK (fun j hj => .inl (by rw [hj]; exact hPg.1.1)))
    have p0 : W5.cell? ⟨xg, 0, none⟩ = some (.slice (some ⟨g, 0, none⟩) C.length c) := (blk_cell X5.out 0).trans rfl
    have p1 : W5.cell? ⟨xg, 1, none⟩ = some (.slice A1 n1 c1) := (blk_cell X5.out 1).trans rfl
    have p2 : W5.cell? ⟨xg, 2, none⟩ = some (.int .i64 L) := (blk_cell X5.out 2).trans rfl
    have r0 : W5.cell? ⟨zg, 0, none⟩ = some (.slice none 0 0) := (blk_cell Z5.out 0).trans rfl
    have r1 : W5.cell? ⟨zg, 1, none⟩ = some (.slice none 0 0) := (blk_cell Z5.out 1).trans rfl
    have r2 : W5.cell? ⟨zg, 2, none⟩ = some (.int .i64 0) := (blk_cell Z5.out 2).trans rfl
    have s0 := blk_frozen Z5.out 0
    have s1 := blk_frozen Z5.out 1
    have s2 := blk_frozen Z5.out 2
    have ZB := Aside0.mk (show w0.heap.size ≤ zg by have := XY.out; have := YZ.out; have := BX.out; omega)
    have KZ := Aside0.mk (show w.heap.size ≤ zg by have := XY.out; have := YZ.out; have := HXG.out; omega)
    clear he hPg hfr3 KK hgx X4 Y4 Z4 S4 V4 B4 K4
    go_wp2
    refine bodyPost_ret (results_ct rfl _ _ zg 25 #[.slice (some ⟨g, 0, none⟩) C.length c, .slice A1 n1 c1, .int .i64 L] (0, 0) _ rfl (put3 Z5.out _ _ _) Try.underlying25 rfl (by kernel_rfl)) rfl ?_
    have e_ : freeFrom C 0 = ((0 + q : Nat) : Int) := free_hit C 0 q hql (by rw [HY.out]; exact HE.out) HN0.out
    have e2_ : newC C x = (C.set q x, q) := by
     unfold newC
     rw [if_neg (by unfold freeK; rw [e_]; omega)]
     unfold freeK
     rw [e_]
     simp
    rw [e2_]
    refine ⟨_, rfl, ?_, below_set (below_set (below_set B5.out ZB.out) ZB.out) ZB.out, ((K5.out.setCell (p := ⟨zg, 0, none⟩) (.inr KZ.out) _).setCell (p := ⟨zg, 1, none⟩) (.inr KZ.out) _).setCell (p := ⟨zg, 2, none⟩) (.inr KZ.out) _⟩
    have h5 := Kd.S_types S5.out Z5.out (by decide)
    rw [show C.length = (C.set q x).length from List.length_set.symm] at h5 ⊢
    exact Kd.S_mono (Kd.S_far (p := ⟨zg, 2, none⟩) (Kd.S_far (p := ⟨zg, 1, none⟩) (Kd.S_far (p := ⟨zg, 0, none⟩) h5 (fun _ hk => hk.2) _) (fun _ hk => hk.2) _) (fun _ hk => hk.2) _) (fun k hk => hk.1)
   ·have hE : (y.f0 == 0) = false := beq_eq_false_iff_ne.2 he
    have hE2 : (y.f0 = 0) = False := eq_false he
    have HE := Aside0.mk he
    clear he
    go_wp2
    go_roundw
    case rel => exact ⟨q + 1, hql, by go_num, ⟨fun n hn => by
     by_cases h : n = q
     ·subst h; rw [HY.out]; exact HE.out
     ·exact HN0.out n (by omega)⟩, X4, Y4, Z4, S4, V4, B4, K4⟩
    case measure => simp [intOf]; omega
  ·have hqq : ((q : Int) < (C.length : Int)) = False := eq_false (by omega)
   have HF := Aside0.mk (free_miss C 0 (fun n hn => HN0.out n (by omega)))
   have hql2 : q = C.length := by omega
   subst hql2
   clear HN0 hql hq
   have d0 : wr.cell? ⟨xg, 0, none⟩ = some (.slice A C.length c) := (blk_cell X3.out 0).trans rfl
   have x0 : wr.cell? ⟨yg, 0, none⟩ = some (.int .i64 x.f0) := (blk_cell Y3.out 0).trans rfl
   have x1 : wr.cell? ⟨yg, 1, none⟩ = some (.string x.f1) := (blk_cell Y3.out 1).trans rfl
   have x2 : wr.cell? ⟨yg, 2, none⟩ = some (.slice Ax x.f2.length cx) := (blk_cell Y3.out 2).trans rfl
   have hzl := blk_lt Z3.out
   go_wp2_with ((with_reducible refine gate_builtin (b := .append) (xs := #[.tmp 28, .tmp 30]) rfl ?_); at_builtin; refine Kd.S_append k68 (w0 := w0) (W := wr) w0.heap.size rfl (.tmp 28) (.tmp 30) 22 68 (.agg #[(.int .i64 0), (.string ⟨#[]⟩), (.slice none 0 0)]) 48 rfl Try.underlying22 info68 rfl (by decide) (by omega) (.slice A C.length c) C x [.int .i64 x.f0, .string x.f1, .slice Ax x.f2.length cx] (fun k => P k ∧ k ≠ xg ∧ k ≠ yg ∧ k ≠ zg) (fun k => some k = (Value.slice Ax x.f2.length cx).ownBlock) rfl rfl ?aP ?aK ?aF ?aO B3.out B3.out.size ?aL ?_; (case aP => exact cl_M.2 ⟨_, rfl, V3.out⟩); (case aK => exact fun k hk => (have h_ := LX.out k hk; have h1_ := XY.out; have h2_ := YZ.out; ⟨⟨XP.out k hk, by omega, by omega, by omega⟩, fun e_ => ((Kd.S_R S3.out).1 k e_.symm).1.2 hk⟩)); (case aF => exact fun k hk => (have h1_ := XY.out; have h2_ := YZ.out; ⟨FP.out k (by omega), by omega, by omega, by omega⟩)); (case aO => exact Kd.S_mono S3.out (fun k hk => (have h_ := hk.2; have h1_ := XY.out; have h2_ := YZ.out; ⟨⟨hk.1.1, by omega, by omega, by omega⟩, hk.1.2⟩))); (case aL => have := HN.out; omega); intro v3 w3 ho hb hg hat; (obtain ⟨A3, c3, e3⟩ := Kd.S_slice ho); (rw [List.length_append] at e3; replace e3 : v3 = .slice A3 (C.length + 1) c3 := e3; subst e3); (have hown := fun k (hk : some k = (Value.slice A C.length c).ownBlock) => (Kd.S_R S3.out).1 k hk.symm); (have X5 := Aside0.mk (blk_grown X3.out hg (fun e_ => absurd (hown xg e_).2 (Nat.lt_irrefl _)))); (have Z5 := Aside0.mk (blk_grown Z3.out hg (fun e_ => by have := (hown zg e_).2; have := XY.out; have := YZ.out; omega))); (have K5 := Aside0.mk (K3.out.of_grown hg (fun k hk => .inl (hown k hk.symm).1.1))); (have S5 := Aside0.mk ho); (have B5 := Aside0.mk hb); clear hg hat hown ho hb X3 Y3 Z3 S3 V3 B3 K3 d0 x0 x1 x2; (obtain ⟨w4, hw4⟩ : ∃ W, w3.setCell ⟨xg, 0, none⟩ (.slice A3 (C.length + 1) c3) = W := ⟨_, rfl⟩); (have d0 : w3.cell? ⟨xg, 0, none⟩ = some (.slice A C.length c) := (blk_cell X5.out 0).trans rfl); (have f0 := blk_frozen X5.out 0); (have S6 := Aside0.mk (show CS w4 w0.heap.size (fun k => P k ∧ k ≠ xg ∧ k ≠ yg ∧ k ≠ zg) (.slice A3 (C.length + 1) c3) (C ++ [x]) by rw [← hw4]; exact Kd.S_far (p := ⟨xg, 0, none⟩) S5.out (fun k hk => hk.2.1) _)); (have X6 := Aside0.mk (show w4.heap[xg]? = some (.cells #[.slice A3 (C.length + 1) c3, .slice A1 n1 c1, .int .i64 L] 25 (0, 0)) by rw [← hw4]; exact blk_put (cs := #[.slice A C.length c, .slice A1 n1 c1, .int .i64 L]) X5.out 0 _ rfl)); (have Z6 := Aside0.mk (show w4.heap[zg]? = some (.cells #[.slice none 0 0, .slice none 0 0, .int .i64 0] 25 (0, 0)) by rw [← hw4]; exact blk_far (p := ⟨xg, 0, none⟩) Z5.out (by have := XY.out; have := YZ.out; show zg ≠ xg; omega) _)); (have B6 := Aside0.mk (show Below w0.heap.size w0 w4 by rw [← hw4]; exact below_set B5.out BX.out)); (have K6 := Aside0.mk (show Kept w w4 P by rw [← hw4]; exact K5.out.setCell (p := ⟨xg, 0, none⟩) (.inr (Nat.le_of_eq HXG.out)) _)); clear X5 Z5 K5 S5 B5)
   clear hw4 d0 f0
   refine start_ (n := 7) (S := fun w' => w'.cell? ⟨xg, 0, none⟩ = some (.slice A3 (C.length + 1) c3) ∧ w'.cell? ⟨xg, 1, none⟩ = some (.slice A1 n1 c1) ∧ w'.cell? ⟨xg, 2, none⟩ = some (.int .i64 L)) (ds := []) #[false, false, false, false, false, false, false] (by kernel_rfl) rfl rfl ⟨(blk_cell X6.out 0).trans rfl, (blk_cell X6.out 1).trans rfl, (blk_cell X6.out 2).trans rfl⟩ (fun hHeld => ?_)
   replace X6 := Aside0.mk (blk_drew X6.out)
   replace Z6 := Aside0.mk (blk_drew Z6.out)
   replace S6 := Aside0.mk (Kd.S_drew S6.out)
   replace B6 := Aside0.mk (below_drew1 B6.out)
   replace K6 := Aside0.mk K6.out.drew
   generalize w4.drew = w5 at X6 Z6 S6 B6 K6 hHeld ⊢
   have v_ : wrap64 ((C.length : Int) + 1 - 1) = (C.length : Int) := by rw [show (C.length : Int) + 1 - 1 = (C.length : Int) by omega]; exact w64 (by omega) (by omega)
   refine take_ (i := 0) (N := some 33) (v := ?_) (a' := ?_) #[true, false, false, false, false, false, false] rfl rfl (by kernel_rfl) (fun _ _ _ h => h) (Or.inl ⟨by rfl, ?_⟩) hHeld ?_ ?_
   rotate_left
   ·rintro w' ⟨s0, s1, s2⟩
    go_simp
    with_reducible rfl
   rotate_left
   ·simp only [Act.put, List.setIfInBounds_toArray, List.set_cons_zero, List.set_cons_succ, i64_w, i32_w]
    rfl
   refine take_ (i := 1) (N := some 34) (v := ?_) (a' := ?_) #[true, true, false, false, false, false, false] rfl rfl (by kernel_rfl) (fun _ _ _ h => h) (Or.inl ⟨by rfl, ?_⟩) hHeld ?_ ?_
   rotate_left
   ·rintro w' ⟨s0, s1, s2⟩
    go_simp
    with_reducible rfl
   rotate_left
   ·simp only [Act.put, List.setIfInBounds_toArray, List.set_cons_zero, List.set_cons_succ, i64_w, i32_w]
    rfl
   refine take_ (i := 2) (N := some 35) (v := ?_) (a' := ?_) #[true, true, true, false, false, false, false] rfl rfl (by kernel_rfl) (fun _ _ _ h => h) (Or.inl ⟨by rfl, ?_⟩) hHeld ?_ ?_
   rotate_left
   ·rintro w' ⟨s0, s1, s2⟩
    go_simp
    with_reducible rfl
   rotate_left
   ·simp only [Act.put, List.setIfInBounds_toArray, List.set_cons_zero, List.set_cons_succ, i64_w, i32_w]
    rfl
   refine take_ (i := 3) (N := some 36) (v := ?_) (a' := ?_) #[true, true, true, true, false, false, false] rfl rfl (by kernel_rfl) (fun _ _ _ h => h) (Or.inl ⟨by rfl, ?_⟩) hHeld ?_ ?_
   rotate_left
   ·rintro w' ⟨s0, s1, s2⟩
    go_simp
    with_reducible rfl
   rotate_left
   ·simp only [Act.put, List.setIfInBounds_toArray, List.set_cons_zero, List.set_cons_succ, i64_w, i32_w]
    rfl
   refine take_ (i := 4) (N := some 37) (v := ?_) (a' := ?_) #[true, true, true, true, true, false, false] rfl rfl (by kernel_rfl) (fun _ _ _ h => h) (Or.inl ⟨by rfl, ?_⟩) hHeld ?_ ?_
   rotate_left
   ·rintro w' ⟨s0, s1, s2⟩
    go_simp
    with_reducible rfl
   rotate_left
   ·simp only [Act.put, List.setIfInBounds_toArray, List.set_cons_zero, List.set_cons_succ, i64_w, i32_w]
    rfl
   have r0 : w5.cell? ⟨zg, 0, none⟩ = some (.slice none 0 0) := (blk_cell Z6.out 0).trans rfl
   have r1 : w5.cell? ⟨zg, 1, none⟩ = some (.slice none 0 0) := (blk_cell Z6.out 1).trans rfl
   have r2 : w5.cell? ⟨zg, 2, none⟩ = some (.int .i64 0) := (blk_cell Z6.out 2).trans rfl
   have s0 := blk_frozen Z6.out 0
   have s1 := blk_frozen Z6.out 1
   have s2 := blk_frozen Z6.out 2
   refine one_ (i := 5) (N := none) #[true, true, true, true, true, true, false] rfl rfl (by kernel_rfl) (by decide) (fun K hK => ?_)
   refine skip_ (w1 := ((w5.setCell ⟨zg, 0, none⟩ (.slice A3 (C.length + 1) c3)).setCell ⟨zg, 1, none⟩ (.slice A1 n1 c1)).setCell ⟨zg, 2, none⟩ (.int .i64 L)) (by rfl) rfl ?_ ?_
   ·first | (go_simp; done) | (go_simp; rfl)
   clear r0 r1 r2 s0 s1 s2
   have hzx : zg ≠ xg := by have := XY.out; have := YZ.out; omega
   have KZ : Kept w5 (((w5.setCell ⟨zg, 0, none⟩ (.slice A3 (C.length + 1) c3)).setCell ⟨zg, 1, none⟩ (.slice A1 n1 c1)).setCell ⟨zg, 2, none⟩ (.int .i64 L)) (fun j => j = zg) := (((Kept.refl w5 (fun j => j = zg)).setCell (p := ⟨zg, 0, none⟩) (.inl rfl) _).setCell (p := ⟨zg, 1, none⟩) (.inl rfl) _).setCell (p := ⟨zg, 2, none⟩) (.inl rfl) _
   have hzb : w0.heap.size ≤ zg := by have := XY.out; have := YZ.out; have := BX.out; omega
   have B7 := Aside0.mk (below_set (below_set (below_set B6.out hzb) hzb) hzb : Below w0.heap.size w0 (((w5.setCell ⟨zg, 0, none⟩ (.slice A3 (C.length + 1) c3)).setCell ⟨zg, 1, none⟩ (.slice A1 n1 c1)).setCell ⟨zg, 2, none⟩ (.int .i64 L)))
   have Z7 := Aside0.mk (put3 Z6.out (.slice A3 (C.length + 1) c3) (.slice A1 n1 c1) (.int .i64 L))
   have X7 := Aside0.mk (blk_kept X6.out KZ (Ne.symm hzx))
   have S7 := Aside0.mk (Kd.S_kept S6.out KZ (fun k hk => hk.2.2.2))
   have K7 := Aside0.mk (K6.out.then_ KZ (fun j hj => .inr (by rw [hj]; have := XY.out; have := YZ.out; have := HXG.out; omega)))
   clear X6 Z6 S6 B6 K6 KZ
   generalize ((w5.setCell ⟨zg, 0, none⟩ (.slice A3 (C.length + 1) c3)).setCell ⟨zg, 1, none⟩ (.slice A1 n1 c1)).setCell ⟨zg, 2, none⟩ (.int .i64 L) = w7 at B7 Z7 X7 S7 K7 ⊢
   refine hK.out _ _ ⟨(blk_cell X7.out 0).trans rfl, (blk_cell X7.out 1).trans rfl, (blk_cell X7.out 2).trans rfl⟩ (fun hHeld => ?_)
   clear hK K
   refine pure_ (i := 6) (N := some 5) (v := ?_) (a' := ?_) #[true, true, true, true, true, true, true] rfl rfl (by kernel_rfl) (fun _ _ _ h => h) (Or.inl ⟨by rfl, ?_⟩) ?_ ?_
   rotate_left
   ·intro w'
    go_simp
    with_reducible rfl
   rotate_left
   ·simp only [Act.put, List.setIfInBounds_toArray, List.set_cons_zero, List.set_cons_succ, i64_w, i32_w]
    rfl
   refine done_ (by kernel_rfl) ?_
   clear hHeld
   try go_wp2
   refine bodyPost_ret (results_ct rfl _ _ zg 25 #[.slice A3 (C.length + 1) c3, .slice A1 n1 c1, .int .i64 L] (0, 0) _ rfl Z7.out Try.underlying25 rfl (by kernel_rfl)) rfl ?_
   have e_ : newC C x = (C ++ [x], C.length) := by
    unfold newC freeK
    rw [HF.out, if_pos (by omega)]
   rw [e_]
   exact ⟨_, (by show Ending.returned (.tuple #[.agg #[_, _, _], .int .i64 (wrap64 (C.length : Int))]) = _; rw [w64 (x := (C.length : Int)) (by omega) (by omega)]), Kd.S_mono S7.out (fun k hk => hk.1), B7.out, K7.out⟩
end Go.Proofs.Ytacfalpgmibfnaa.PCow
namespace Go.Proofs.Ytacfalpgmibfnaa.PCow
open Go.RowKit Go.Proofs.YtacfalpgmibfnaaW.PrintWords Go.Proofs.YtacfalpgmibfnaaW.PrintLast Go.Proofs.YtacfalpgmibfnaaW.PrintMore Go.Proofs.Ytacfalpgmibfnaa.E
set_option linter.unusedSimpArgs false
set_option linter.unusedVariables false
theorem keep3 {w W : World} {g : Nat} {S : Nat → Prop} {a b c : Value} (h : Kept w W S) (hg : S g ∨ w.heap.size ≤ g) : Kept w (((W.setCell ⟨g, 0, none⟩ a).setCell ⟨g, 1, none⟩ b).setCell ⟨g, 2, none⟩ c) S :=
 ((h.setCell (p := ⟨g, 0, none⟩) hg _).setCell (p := ⟨g, 1, none⟩) hg _).setCell (p := ⟨g, 2, none⟩) hg _
theorem below3 {w W : World} {g : Nat} {a b c : Value} (h : Below w.heap.size w W) (hg : w.heap.size ≤ g) : Below w.heap.size w (((W.setCell ⟨g, 0, none⟩ a).setCell ⟨g, 1, none⟩ b).setCell ⟨g, 2, none⟩ c) := below_set (below_set (below_set h hg) hg) hg
theorem far3 {W : World} {base g : Nat} {ok : Nat → Prop} {a b c v : Value} {C : List CL} {bx : Array Value} (h : CS W base ok v C) (hz : W.heap[g]? = some (.cells bx 25 (0, 0))) : CS (((W.setCell ⟨g, 0, none⟩ a).setCell ⟨g, 1, none⟩ b).setCell ⟨g, 2, none⟩ c) base ok v C :=
 Kd.S_mono (Kd.S_far (p := ⟨g, 2, none⟩) (Kd.S_far (p := ⟨g, 1, none⟩) (Kd.S_far (p := ⟨g, 0, none⟩) (Kd.S_types h hz (by decide)) (fun _ hk => hk.2) _) (fun _ hk => hk.2) _) (fun _ hk => hk.2) _) (fun _ hk => hk.1)
set_option maxHeartbeats 8000000 in
set_option maxRecDepth 100000 in
theorem ours_calls (L : Int) (n1 c1 c : Nat) (A1 A : Option Addr) (C : List CL) (P : Nat → Prop) (k : Int) (level : Nat) (o : List CL × Nat) (w0 w : World) (hB : Below w0.heap.size w0 w) (hS : CS w w0.heap.size P (.slice A C.length c) C) (hfP : ∀ k, w.heap.size ≤ k → P k) (hlv : level ≤ 1000 ∧ 1 ≤ level) (h : ownM C k level = some o) :
  Calls Try.prog 88 #[.agg #[.slice A C.length c, .slice A1 n1 c1, .int .i64 L], .int .i64 k, .int .i64 level] w fun e w' => ∃ v0, e = .returned (.tuple #[.agg #[v0, .slice A1 n1 c1, .int .i64 L], .int .i64 (o.2 : Int)]) ∧ CS w' w0.heap.size P v0 o.1 ∧ Below w0.heap.size w0 w' ∧ Kept w w' P := by
 have hu25 := Try.underlying25
 have hu68 := Try.underlying68
 have hu22 := Try.underlying22
 have hu23 := Try.underlying23
 obtain ⟨xg, hxg⟩ : ∃ xg, w.heap.size = xg := ⟨_, rfl⟩
 have FP := Aside0.mk (show ∀ k, xg ≤ k → P k from fun k hk => hfP k (hxg ▸ hk))
 have BX := Aside0.mk (show w0.heap.size ≤ xg from hxg ▸ hB.size)
 obtain ⟨W1, hW1⟩ : ∃ W, w.alloc (.cells #[.slice A C.length c, .slice A1 n1 c1, .int .i64 L] 25) = W := ⟨_, rfl⟩
 obtain ⟨W2, hW2⟩ : ∃ W, W1.alloc (.cells #[.slice none 0 0, .slice none 0 0, .int .i64 0] 25) = W := ⟨_, rfl⟩
 have hb1 : Below w.heap.size w W1 := by rw [← hW1]; exact below_alloc (Below.refl _ _) _
 have hb2 : Below W1.heap.size W1 W2 := by rw [← hW2]; exact below_alloc (Below.refl _ _) _
 have X1 : W1.heap[xg]? = some (.cells #[.slice A C.length c, .slice A1 n1 c1, .int .i64 L] 25 (0, 0)) := by rw [← hW1, ← hxg]; exact heap_alloc_new w _
 have Z2 := Aside0.mk (show W2.heap[W1.heap.size]? = some (.cells #[.slice none 0 0, .slice none 0 0, .int .i64 0] 25 (0, 0)) by rw [← hW2]; exact heap_alloc_new W1 _)
 have hb := below_step hb1 hb2
 have XZ := Aside0.mk (show xg < W1.heap.size from blk_lt X1)
 have X2 := Aside0.mk (blk_below X1 hb2)
 have S2 := Aside0.mk (show CS W2 w0.heap.size (fun k => P k ∧ k < xg) (.slice A C.length c) C from Kd.S_below (Kd.S_mono (Kd.S_bound hS) (fun k hk => ⟨hk.1, hxg ▸ hk.2.2.1⟩)) hb)
 have B2 := Aside0.mk (below_then hB hB.size hb)
 have K2 := Aside0.mk (Kept.of_below hb P)
 have HXG := Aside0.mk hxg
 clear hb1 hb2 hb X1 hB hfP
 have d0 : W2.cell? ⟨xg, 0, none⟩ = some (.slice A C.length c) := (blk_cell X2.out 0).trans rfl
 have d1 : W2.cell? ⟨xg, 1, none⟩ = some (.slice A1 n1 c1) := (blk_cell X2.out 1).trans rfl
 have d2 : W2.cell? ⟨xg, 2, none⟩ = some (.int .i64 L) := (blk_cell X2.out 2).trans rfl
 unfold ownM at h
 by_cases hn : C.length ≤ 1000000
 ·rw [if_pos hn] at h
  have HN := Aside0.mk hn
  by_cases hk0 : k < 0
  ·rw [if_pos hk0] at h
   have e_ := Option.some.inj h
   subst e_
   have t1 : (k ≥ 0) = False := eq_false (by omega)
   have t2 : (0 ≤ k) = False := eq_false (by omega)
   clear h hn hk0 hS
   by_cases hl1 : level = 1
   ·subst hl1
    obtain ⟨W3, W4, hW3, hW4, y0, y1, y2, z0, z1, z2, Y4, BL⟩ := local_cell W2 (.int .i64 1) (.string ⟨#[]⟩) (.slice none 0 0)
    have ZY := Aside0.mk (show W1.heap.size < W2.heap.size from blk_lt Z2.out)
    have X4 := Aside0.mk (blk_below X2.out BL.out)
    have Z4 := Aside0.mk (blk_below Z2.out BL.out)
    have S4 := Aside0.mk (Kd.S_below S2.out BL.out)
    have B4 := Aside0.mk (below_then B2.out B2.out.size BL.out)
    have K4 := Aside0.mk (K2.out.below BL.out)
    have dd0 : W4.cell? ⟨xg, 0, none⟩ = some (.slice A C.length c) := (blk_cell X4.out 0).trans rfl
    have dd1 : W4.cell? ⟨xg, 1, none⟩ = some (.slice A1 n1 c1) := (blk_cell X4.out 1).trans rfl
    have dd2 : W4.cell? ⟨xg, 2, none⟩ = some (.int .i64 L) := (blk_cell X4.out 2).trans rfl
    have yy0 : W4.cell? ⟨W2.heap.size, 0, none⟩ = some (.int .i64 1) := (blk_cell Y4.out 0).trans rfl
    have yy1 : W4.cell? ⟨W2.heap.size, 1, none⟩ = some (.string ⟨#[]⟩) := (blk_cell Y4.out 1).trans rfl
    have yy2 : W4.cell? ⟨W2.heap.size, 2, none⟩ = some (.slice none 0 0) := (blk_cell Y4.out 2).trans rfl
    have T := Aside0.mk (new_calls L n1 c1 c A1 A C (fun k => P k ∧ k ≠ xg ∧ k ≠ W1.heap.size) ⟨1, ⟨#[]⟩, []⟩ (.slice none 0 0) w0 W4 B4.out (Kd.S_mono S4.out (fun k hk => (have h_ := hk.2; have h1_ := XZ.out; ⟨⟨hk.1, by omega, by omega⟩, fun e_ => by cases e_⟩))) (Kd.R_nil _ _ _ _ _) (fun k hk => by cases hk) (fun k hk => (have h_ := blk_lt Y4.out; have h1_ := XZ.out; have h2_ := ZY.out; ⟨FP.out k (by omega), by omega, by omega⟩)) HN.out)
    have Z5_ := Z4
    have K5_ := K4
    go_enter Try.func88, Try.ntmps88
    go_wp2_with (go_at_call 92; refine T.out.mono ?_; (first | rintro e w9 v0 rfl hS9 hB9 hK9 | rintro e w9 ⟨v0, rfl, hS9, hB9, hK9⟩); (obtain ⟨A9, c9, rfl⟩ := Kd.S_slice hS9); (have Z9 := Aside0.mk (blk_kept Z5_.out hK9 (fun h_ => h_.2.2 rfl))); (have S9 := Aside0.mk hS9); (have B9 := Aside0.mk hB9); (have K9 := Aside0.mk (K5_.out.then_ hK9 (fun j hj => .inl hj.1))); (have r0 : w9.cell? ⟨W1.heap.size, 0, none⟩ = some (.slice none 0 0) := (blk_cell Z9.out 0).trans rfl); (have r1 : w9.cell? ⟨W1.heap.size, 1, none⟩ = some (.slice none 0 0) := (blk_cell Z9.out 1).trans rfl); (have r2 : w9.cell? ⟨W1.heap.size, 2, none⟩ = some (.int .i64 0) := (blk_cell Z9.out 2).trans rfl); (have s0 := blk_frozen Z9.out 0); (have s1 := blk_frozen Z9.out 1); (have s2 := blk_frozen Z9.out 2); clear hS9 hB9 hK9)
    refine bodyPost_ret (results_ct rfl _ _ W1.heap.size 25 #[.slice A9 _ c9, .slice A1 n1 c1, .int .i64 L] (0, 0) _ rfl (put3 Z9.out _ _ _) Try.underlying25 rfl (by kernel_rfl)) rfl ?_
    have hz : xg ≤ W1.heap.size := Nat.le_of_lt XZ.out
    exact ⟨_, rfl, Kd.S_mono (far3 S9.out Z9.out) (fun k hk => hk.1), below3 B9.out (Nat.le_trans BX.out hz), keep3 K9.out (.inr (HXG.out ▸ hz))⟩
   ·obtain ⟨W3, W4, hW3, hW4, y0, y1, y2, z0, z1, z2, Y4, BL⟩ := local_cell W2 (.int .i64 1) (.string ⟨#[]⟩) (.slice none 0 0)
    have ZY := Aside0.mk (show W1.heap.size < W2.heap.size from blk_lt Z2.out)
    have X4 := Aside0.mk (blk_below X2.out BL.out)
    have Z4 := Aside0.mk (blk_below Z2.out BL.out)
    have S4 := Aside0.mk (Kd.S_below S2.out BL.out)
    have B4 := Aside0.mk (below_then B2.out B2.out.size BL.out)
    have K4 := Aside0.mk (K2.out.below BL.out)
    have dd0 : W4.cell? ⟨xg, 0, none⟩ = some (.slice A C.length c) := (blk_cell X4.out 0).trans rfl
    have dd1 : W4.cell? ⟨xg, 1, none⟩ = some (.slice A1 n1 c1) := (blk_cell X4.out 1).trans rfl
    have dd2 : W4.cell? ⟨xg, 2, none⟩ = some (.int .i64 L) := (blk_cell X4.out 2).trans rfl
    obtain ⟨W5, hW5⟩ : ∃ W, W4.alloc (.cells #[.int .i64 (-1), .int .i64 (-1), .int .i64 (-1), .int .i64 (-1)] 3) = W := ⟨_, rfl⟩
    obtain ⟨W6, hW6⟩ : ∃ W, W5.setCell ⟨W2.heap.size, 2, none⟩ (.slice (some ⟨W4.heap.size, 0, none⟩) 4 4) = W := ⟨_, rfl⟩
    have hb5 : Below W4.heap.size W4 W5 := by rw [← hW5]; exact below_alloc (Below.refl _ _) _
    have Y5 := blk_below Y4.out hb5
    have ly2 : W5.cell? ⟨W2.heap.size, 2, none⟩ = some (.slice none 0 0) := (blk_cell Y5 2).trans rfl
    have lz2 := blk_frozen Y5 2
    have ZY2 := Aside0.mk (show W2.heap.size < W4.heap.size from blk_lt Y4.out)
    have KK6 : Kept W4 W6 (fun j => j = W2.heap.size) := by rw [← hW6]; exact (Kept.of_below hb5 (fun j => j = W2.heap.size)).setCell (p := ⟨W2.heap.size, 2, none⟩) (.inl rfl) _
    have X6 := Aside0.mk (blk_kept X4.out KK6 (by have := XZ.out; have := ZY.out; omega))
    have Z6 := Aside0.mk (blk_kept Z4.out KK6 (by have := ZY.out; omega))
    have Y6 := Aside0.mk (show W6.heap[W2.heap.size]? = some (.cells #[.int .i64 1, .string ⟨#[]⟩, .slice (some ⟨W4.heap.size, 0, none⟩) 4 4] 68 (0, 0)) by rw [← hW6]; exact blk_put (cs := #[.int .i64 1, .string ⟨#[]⟩, .slice none 0 0]) Y5 2 _ rfl)
    have S6 := Aside0.mk (Kd.S_kept S4.out KK6 (fun k hk => by have := hk.2; have := XZ.out; have := ZY.out; omega))
    have B6 := Aside0.mk (show Below w0.heap.size w0 W6 by rw [← hW6]; exact below_set (below_then B4.out B4.out.size hb5) (by have := BX.out; have := XZ.out; have := ZY.out; omega))
    have K6 := Aside0.mk (K4.out.then_ KK6 (fun j hj => .inr (by rw [hj]; have := HXG.out; have := XZ.out; have := ZY.out; omega)))
    have V6 := Aside0.mk (show IR W6 w0.heap.size (fun k => some k = (Value.slice (some ⟨W4.heap.size, 0, none⟩) 4 4).ownBlock) (.slice (some ⟨W4.heap.size, 0, none⟩) 4 4) [-1, -1, -1, -1] by
     have h_ : (W4.alloc (Obj.cells #[.int .i64 (-1), .int .i64 (-1), .int .i64 (-1), .int .i64 (-1)] 3)).ownsRow W4.heap.size 3 1 (Value.slice (some ⟨W4.heap.size, 0, none⟩) 4 4) 4 [.int .i64 (-1), .int .i64 (-1), .int .i64 (-1), .int .i64 (-1)] := by simpa using World.ownsRow_lit (base := W4.heap.size) (e := 3) (size := 1) W4 #[.int .i64 (-1), .int .i64 (-1), .int .i64 (-1), .int .i64 (-1)] 4 (Nat.le_refl _) (by decide) (by simp)
     have h2_ : IR W5 w0.heap.size (fun k => some k = (Value.slice (some ⟨W4.heap.size, 0, none⟩) 4 4).ownBlock) (.slice (some ⟨W4.heap.size, 0, none⟩) 4 4) [-1, -1, -1, -1] := by
      rw [← hW5]
      exact Kd.R_lower (Kd.R_of_own (xs := [(-1 : Int), -1, -1, -1]) (enc := Value.int .i64) h_ (fun _ hk => hk.symm)) B4.out.size
     rw [← hW6]
     exact Kd.R_far (p := ⟨W2.heap.size, 2, none⟩) h2_ (fun j hj => by have h3_ : j = W4.heap.size := Option.some.inj hj; have := ZY2.out; show j ≠ W2.heap.size; omega) _)
    have d60 : W6.cell? ⟨xg, 0, none⟩ = some (.slice A C.length c) := (blk_cell X6.out 0).trans rfl
    have d61 : W6.cell? ⟨xg, 1, none⟩ = some (.slice A1 n1 c1) := (blk_cell X6.out 1).trans rfl
    have d62 : W6.cell? ⟨xg, 2, none⟩ = some (.int .i64 L) := (blk_cell X6.out 2).trans rfl
    have yy0 : W6.cell? ⟨W2.heap.size, 0, none⟩ = some (.int .i64 1) := (blk_cell Y6.out 0).trans rfl
    have yy1 : W6.cell? ⟨W2.heap.size, 1, none⟩ = some (.string ⟨#[]⟩) := (blk_cell Y6.out 1).trans rfl
    have yy2 : W6.cell? ⟨W2.heap.size, 2, none⟩ = some (.slice (some ⟨W4.heap.size, 0, none⟩) 4 4) := (blk_cell Y6.out 2).trans rfl
    have hq : ((level : Int) > 1) = True := eq_true (by omega)
    have hq2 : (1 < (level : Int)) = True := eq_true (by omega)
    have hq3 : (1 < level) = True := eq_true (by omega)
    have T := Aside0.mk (new_calls L n1 c1 c A1 A C (fun k => P k ∧ k ≠ xg ∧ k ≠ W1.heap.size) ⟨1, ⟨#[]⟩, [-1, -1, -1, -1]⟩ (.slice (some ⟨W4.heap.size, 0, none⟩) 4 4) w0 W6 B6.out (Kd.S_mono S6.out (fun k hk => (have h_ := hk.2; have h1_ := XZ.out; have h2_ := ZY2.out; have h3_ := ZY.out; ⟨⟨hk.1, by omega, by omega⟩, fun e_ => by have h4_ : k = W4.heap.size := Option.some.inj e_; omega⟩))) V6.out (fun k hk => (have h4_ : k = W4.heap.size := Option.some.inj hk; have h1_ := XZ.out; have h2_ := ZY2.out; have h3_ := ZY.out; ⟨FP.out k (by omega), by omega, by omega⟩)) (fun k hk => (have h_ := KK6.1; have h1_ := XZ.out; have h2_ := ZY.out; have h3_ := ZY2.out; ⟨FP.out k (by omega), by omega, by omega⟩)) HN.out)
    have Z5_ := Z6
    have K5_ := K6
    rw [if_neg hl1]
    clear KK6 hb5 Y5
    go_enter Try.func88, Try.ntmps88
    go_wp2_with (go_at_call 92; refine T.out.mono ?_; (first | rintro e w9 v0 rfl hS9 hB9 hK9 | rintro e w9 ⟨v0, rfl, hS9, hB9, hK9⟩); (obtain ⟨A9, c9, rfl⟩ := Kd.S_slice hS9); (have Z9 := Aside0.mk (blk_kept Z5_.out hK9 (fun h_ => h_.2.2 rfl))); (have S9 := Aside0.mk hS9); (have B9 := Aside0.mk hB9); (have K9 := Aside0.mk (K5_.out.then_ hK9 (fun j hj => .inl hj.1))); (have r0 : w9.cell? ⟨W1.heap.size, 0, none⟩ = some (.slice none 0 0) := (blk_cell Z9.out 0).trans rfl); (have r1 : w9.cell? ⟨W1.heap.size, 1, none⟩ = some (.slice none 0 0) := (blk_cell Z9.out 1).trans rfl); (have r2 : w9.cell? ⟨W1.heap.size, 2, none⟩ = some (.int .i64 0) := (blk_cell Z9.out 2).trans rfl); (have s0 := blk_frozen Z9.out 0); (have s1 := blk_frozen Z9.out 1); (have s2 := blk_frozen Z9.out 2); clear hS9 hB9 hK9)
    refine bodyPost_ret (results_ct rfl _ _ W1.heap.size 25 #[.slice A9 _ c9, .slice A1 n1 c1, .int .i64 L] (0, 0) _ rfl (put3 Z9.out _ _ _) Try.underlying25 rfl (by kernel_rfl)) rfl ?_
    have hz : xg ≤ W1.heap.size := Nat.le_of_lt XZ.out
    exact ⟨_, rfl, Kd.S_mono (far3 S9.out Z9.out) (fun k hk => hk.1), below3 B9.out (Nat.le_trans BX.out hz), keep3 K9.out (.inr (HXG.out ▸ hz))⟩
  ·rw [if_neg hk0] at h
   by_cases hkC : k < (C.length : Int)
   ·rw [if_pos hkC] at h
    obtain ⟨g, cap, hv, _, hglt, _⟩ := Kd.S_form S2.out (by omega)
    injection hv with hA hn_ hc
    subst hA hc
    clear hn_
    obtain ⟨_, v, e0, e1, e2, hfr, _, hR, _⟩ := cs_elem S2.out k (by omega) hkC
    have t1 : (k ≥ 0) = True := eq_true (by omega)
    have t2 : (0 ≤ k) = True := eq_true (by omega)
    have t3 : (k < (C.length : Int)) = True := eq_true hkC
    obtain ⟨x, hx⟩ : ∃ x, rd_T68 C k = x := ⟨_, rfl⟩
    rw [hx] at e0 e1 h hR
    by_cases h1 : x.f0 = 1
    ·rw [if_pos h1] at h
     have e_ := Option.some.inj h
     subst e_
     have t4 : (x.f0 = 1) = True := eq_true h1
     have t5 : (x.f0 == 1) = true := by simpa using h1
     have HK := Aside0.mk (show 0 ≤ k by omega)
     have r0 : W2.cell? ⟨W1.heap.size, 0, none⟩ = some (.slice none 0 0) := (blk_cell Z2.out 0).trans rfl
     have r1 : W2.cell? ⟨W1.heap.size, 1, none⟩ = some (.slice none 0 0) := (blk_cell Z2.out 1).trans rfl
     have r2 : W2.cell? ⟨W1.heap.size, 2, none⟩ = some (.int .i64 0) := (blk_cell Z2.out 2).trans rfl
     have s0 := blk_frozen Z2.out 0
     have s1 := blk_frozen Z2.out 1
     have s2 := blk_frozen Z2.out 2
     clear h1 h hk0 hfr hn hkC hlv hx hS
     go_enter Try.func88, Try.ntmps88
     go_wp2
     refine bodyPost_ret (results_ct rfl _ _ W1.heap.size 25 #[.slice (some ⟨g, 0, none⟩) _ c, .slice A1 n1 c1, .int .i64 L] (0, 0) _ rfl (put3 Z2.out _ _ _) Try.underlying25 rfl (by kernel_rfl)) rfl ?_
     have hz : xg ≤ W1.heap.size := Nat.le_of_lt XZ.out
     have hk_ := HK.out
     exact ⟨_, by rw [Int.toNat_of_nonneg hk_]; rfl, Kd.S_mono (far3 S2.out Z2.out) (fun k hk => hk.1), below3 B2.out (Nat.le_trans BX.out hz), keep3 K2.out (.inr (HXG.out ▸ hz))⟩
    ·rw [if_neg h1] at h
     by_cases hkl : x.f2.length ≤ 1048576
     ·rw [if_pos hkl] at h
      obtain ⟨D, hD, h⟩ := Option.bind_eq_some_iff.1 h
      have e_ := Option.some.inj h
      subst e_
      obtain ⟨y, hy⟩ : ∃ y, wrap64 (x.f0 - 1) = y := ⟨_, rfl⟩
      rw [hy] at hD
      have t4 : (x.f0 = 1) = False := eq_false h1
      have t5 : (x.f0 == 1) = false := beq_eq_false_iff_ne.2 h1
      by_cases hl1 : level = 1
      ·subst hl1
       obtain ⟨W3, W4, hW3, hW4, y0, y1, y2, z0, z1, z2, Y4, BL⟩ := local_cell W2 (.int .i64 1) (.string ⟨#[]⟩) (.slice none 0 0)
       have ZY := Aside0.mk (show W1.heap.size < W2.heap.size from blk_lt Z2.out)
       have X4 := Aside0.mk (blk_below X2.out BL.out)
       have Z4 := Aside0.mk (blk_below Z2.out BL.out)
       have S4 := Aside0.mk (Kd.S_below S2.out BL.out)
       have B4 := Aside0.mk (below_then B2.out B2.out.size BL.out)
       have K4 := Aside0.mk (K2.out.below BL.out)
       have dd0 : W4.cell? ⟨xg, 0, none⟩ = some (.slice (some ⟨g, 0, none⟩) C.length c) := (blk_cell X4.out 0).trans rfl
       have dd1 : W4.cell? ⟨xg, 1, none⟩ = some (.slice A1 n1 c1) := (blk_cell X4.out 1).trans rfl
       have dd2 : W4.cell? ⟨xg, 2, none⟩ = some (.int .i64 L) := (blk_cell X4.out 2).trans rfl
       have yy0 : W4.cell? ⟨W2.heap.size, 0, none⟩ = some (.int .i64 1) := (blk_cell Y4.out 0).trans rfl
       have yy1 : W4.cell? ⟨W2.heap.size, 1, none⟩ = some (.string ⟨#[]⟩) := (blk_cell Y4.out 1).trans rfl
       have yy2 : W4.cell? ⟨W2.heap.size, 2, none⟩ = some (.slice none 0 0) := (blk_cell Y4.out 2).trans rfl
       have YL := Aside0.mk (show W2.heap.size < W4.heap.size from blk_lt Y4.out)
       obtain ⟨_, v_, f0, f1, f2, hfr4, _, hR4, _⟩ := cs_elem S4.out k (by omega) hkC
       rw [hx] at f0 f1 hR4
       obtain ⟨Ak, ck, rfl⟩ := Kd.R_slice hR4
       obtain ⟨W7, hW7⟩ : ∃ W, W4.setCell ⟨W2.heap.size, 1, none⟩ (.string x.f1) = W := ⟨_, rfl⟩
       have yf1 := blk_frozen Y4.out 1
       have KK7 : Kept W4 W7 (fun j => j = W2.heap.size) := by rw [← hW7]; exact (Kept.refl W4 (fun j => j = W2.heap.size)).setCell (p := ⟨W2.heap.size, 1, none⟩) (.inl rfl) _
       have X7 := Aside0.mk (blk_kept X4.out KK7 (by have := XZ.out; have := ZY.out; omega))
       have Z7 := Aside0.mk (blk_kept Z4.out KK7 (by have := ZY.out; omega))
       have Y7 := Aside0.mk (show W7.heap[W2.heap.size]? = some (.cells #[.int .i64 1, .string x.f1, .slice none 0 0] 68 (0, 0)) by rw [← hW7]; exact blk_put (cs := #[.int .i64 1, .string ⟨#[]⟩, .slice none 0 0]) Y4.out 1 _ rfl)
       have S7 := Aside0.mk (Kd.S_kept S4.out KK7 (fun k hk => by have := hk.2; have := XZ.out; have := ZY.out; omega))
       have B7 := Aside0.mk (show Below w0.heap.size w0 W7 by rw [← hW7]; exact below_set B4.out (by have := BX.out; have := XZ.out; have := ZY.out; omega))
       have K7 := Aside0.mk (K4.out.then_ KK7 (fun j hj => .inr (by rw [hj]; have := HXG.out; have := XZ.out; have := ZY.out; omega)))
       have YL7 := Aside0.mk (show W2.heap.size < W7.heap.size from blk_lt Y7.out)
       have d70 : W7.cell? ⟨xg, 0, none⟩ = some (.slice (some ⟨g, 0, none⟩) C.length c) := (blk_cell X7.out 0).trans rfl
       obtain ⟨_, v7_, h70, h71, h72, hfr7, _, hR7, _⟩ := cs_elem S7.out k (by omega) hkC
       rw [hx] at h70 h71 hR7
       obtain ⟨Ak7, ck7, rfl⟩ := Kd.R_slice hR7
       have C7 := Aside0.mk (Kd.R_reads' hR7).2.2
       have HKL := Aside0.mk hkl
       have hkl2 : x.f2.length ≤ 9223372036854775807 := by omega
       have HD := Aside0.mk hD
       have HX := Aside0.mk hx
       have KC := Aside0.mk (show 0 ≤ k ∧ k < (C.length : Int) by omega)
       have NL := Aside0.mk (show C.length = C.length from rfl)
       generalize hnn : C.length = n at *
       replace NL := Aside0.mk hnn
       clear h1 h hk0 hfr hn hkC hlv hx hS hD hkl hfr4 hR4 hR7 hfr7 KK7 hnn f2
       go_enter Try.func88, Try.ntmps88
       go_wp2_with (first
        | ((with_reducible refine gate_dst (N := 38) rfl ?_); refine Kd.R_lit (Kd.int .i64) W7.heap.size 3 ?hg (N := 38) ?hd (xs := ([] : List Int)) (inner := []) (ok := fun _ => True) (okp := fun _ => True) ?hr ?hp (fun _ hk => hk) trivial (Below.refl W7.heap.size W7) (Nat.le_refl _) (by simp) ?_; (case hd => rfl); (case hg => rfl); (case hr => first | (go_simp; done) | (go_simp; rfl)); (case hp => exact (Reps.none _ _)); intro v8 w8 ho8 hb8 hg_ hnew_; clear hg_ hnew_; have HO8 := Aside0.mk ho8; have HB8 := Aside0.mk hb8; (have d80 : w8.cell? ⟨xg, 0, none⟩ = some (.slice (some ⟨g, 0, none⟩) n c) := (blk_cell (blk_below X7.out hb8) 0).trans rfl); (have d82 := cell_kept h72 (Kept.of_below hb8 (fun _ => False)) id); clear ho8 hb8)
        | ((with_reducible refine gate_builtin (b := .append) (xs := #[.tmp 38, .tmp 44]) rfl ?_); at_builtin; refine Kd.R_append_rows (Kd.int .i64) (w0 := W7) W7.heap.size rfl (.tmp 38) (.tmp 44) 23 3 (.int .i64 0) 8 rfl Try.underlying23 info3 rfl (by decide) (by omega) v8 [] x.f2 _ _ _ (fun _ => True) (fun _ => False) rfl rfl HO8.out (Kd.C_below C7.out HB8.out) (fun _ _ h => h) (fun _ h => h.elim) (fun _ _ => trivial) HB8.out HB8.out.size (by have := HKL.out; simp; omega) ?_; intro v9 w9 hr hb hg_ hat_; clear hg_ hat_ HO8 HB8 d80 d82; (replace hr : IR w9 W7.heap.size (fun _ => True) v9 x.f2 := hr); (obtain ⟨Ac, cc, rfl⟩ := Kd.R_slice hr); (have VC := Aside0.mk (show ∀ j, some j = (Value.slice Ac x.f2.length cc).ownBlock → W7.heap.size ≤ j from fun j hj => Kd.R_base hr j hj.symm)); (obtain ⟨W10, hW10⟩ : ∃ W, w9.setCell ⟨W2.heap.size, 2, none⟩ (.slice Ac x.f2.length cc) = W := ⟨_, rfl⟩); (have Y9 := blk_below Y7.out hb); (have q2 : w9.cell? ⟨W2.heap.size, 2, none⟩ = some (.slice none 0 0) := (blk_cell Y9 2).trans rfl); (have qz2 := blk_frozen Y9 2); (have KK10 : Kept w9 W10 (fun j => j = W2.heap.size) := by rw [← hW10]; exact (Kept.refl w9 (fun j => j = W2.heap.size)).setCell (p := ⟨W2.heap.size, 2, none⟩) (.inl rfl) _); (have X10 := Aside0.mk (blk_kept (blk_below X7.out hb) KK10 (by have := XZ.out; have := ZY.out; omega))); (have Z10 := Aside0.mk (blk_kept (blk_below Z7.out hb) KK10 (by have := ZY.out; omega))); (have Y10 := Aside0.mk (show W10.heap[W2.heap.size]? = some (.cells #[.int .i64 1, .string x.f1, .slice Ac x.f2.length cc] 68 (0, 0)) by rw [← hW10]; exact blk_put (cs := #[.int .i64 1, .string x.f1, .slice none 0 0]) Y9 2 _ rfl)); (have S10 := Aside0.mk (Kd.S_kept (Kd.S_below S7.out hb) KK10 (fun k hk => by have := hk.2; have := XZ.out; have := ZY.out; omega))); (have V10 := Aside0.mk (Kd.R_kept (Kd.R_of_own (Kd.own_of_R (Kd.R_lower hr B7.out.size)) (fun j hj => hj.symm) : IR w9 w0.heap.size (fun j => some j = (Value.slice Ac x.f2.length cc).ownBlock) (.slice Ac x.f2.length cc) x.f2) KK10 (fun j hj => by have := VC.out j hj; have := YL7.out; omega))); (have B10 := Aside0.mk (show Below w0.heap.size w0 W10 by rw [← hW10]; exact below_set (below_then B7.out B7.out.size hb) (by have := BX.out; have := XZ.out; have := ZY.out; omega))); (have K10 := Aside0.mk ((K7.out.below hb).then_ KK10 (fun j hj => .inr (by rw [hj]; have := HXG.out; have := XZ.out; have := ZY.out; omega)))); (obtain ⟨_, va_, ha0, ha1, ha2, hfra, _, hRa, _⟩ := cs_elem S10.out k KC.out.1 (by have := KC.out.2; omega)); (rw [HX.out] at ha0); (have fra : W10.frozen? ⟨g, k.toNat * 3, none⟩ = false := hfra 0); (have da0 : W10.cell? ⟨xg, 0, none⟩ = some (.slice (some ⟨g, 0, none⟩) n c) := (blk_cell X10.out 0).trans rfl); (obtain ⟨W11, hW11⟩ : ∃ W, W10.setCell ⟨g, k.toNat * 3, none⟩ (.int .i64 y) = W := ⟨_, rfl⟩); (have hPg := (Kd.S_R S10.out).1 g rfl); (have KK11 : Kept W10 W11 (fun j => j = g) := by rw [← hW11]; exact (Kept.refl W10 (fun j => j = g)).setCell (p := ⟨g, k.toNat * 3, none⟩) (.inl rfl) _); (have X11 := Aside0.mk (blk_kept X10.out KK11 (by have := hPg.2; omega))); (have Z11 := Aside0.mk (blk_kept Z10.out KK11 (by have := hPg.2; have := XZ.out; omega))); (have Y11 := Aside0.mk (blk_kept Y10.out KK11 (by have := hPg.2; have := XZ.out; have := ZY.out; omega))); (have S11 := Aside0.mk (show CS W11 w0.heap.size (fun k => P k ∧ k < xg) (.slice (some ⟨g, 0, none⟩) n c) (C.set k.toNat ⟨y, x.f1, x.f2⟩) by rw [← hW11]; have h_ := cs_put0 S10.out k KC.out.1 (by have := KC.out.2; omega) y; rw [HX.out] at h_; exact h_)); (have V11 := Aside0.mk (Kd.R_kept V10.out KK11 (fun j hj => by have := VC.out j hj; have := YL7.out; have := hPg.2; have := XZ.out; have := ZY.out; omega))); (have B11 := Aside0.mk (show Below w0.heap.size w0 W11 by rw [← hW11]; exact below_set B10.out (Kd.S_base S10.out g rfl))); (have K11 := Aside0.mk (K10.out.then_ KK11 (fun j hj => .inl (by rw [hj]; exact hPg.1)))); (have yb2 : W11.cell? ⟨W2.heap.size, 2, none⟩ = some (.slice Ac x.f2.length cc) := (blk_cell Y11.out 2).trans rfl); clear hr hb Y9 KK10 KK11 hPg hfra hRa))
       clear d0 d1 d2 dd0 dd1 dd2 yy0 yy1 yy2 f0 f1 d70 h70 h71 h72 q2 qz2 ha0 ha1 ha2 fra da0 hW1 hW2 hW3 hW4 hW7 hW10 hW11 yb2 y0 y1 y2 z0 z1 z2 yf1
       go_loopw [10, 59] (fun v10 vi wr => ∃ (q : Nat) (E : List CL), q ≤ x.f2.length ∧ vi = .int .i64 q ∧ Aside0 (incL (x.f2.drop q) E = some D) ∧ Aside0 (CS wr w0.heap.size (fun k => P k ∧ k < xg) (.slice (some ⟨g, 0, none⟩) n c) E) ∧ Aside0 (wr.heap[xg]? = some (.cells #[.slice (some ⟨g, 0, none⟩) n c, .slice A1 n1 c1, .int .i64 L] 25 (0, 0))) ∧ Aside0 (wr.heap[W1.heap.size]? = some (.cells #[.slice none 0 0, .slice none 0 0, .int .i64 0] 25 (0, 0))) ∧ Aside0 (wr.heap[W2.heap.size]? = some (.cells #[.int .i64 1, .string x.f1, .slice Ac x.f2.length cc] 68 (0, 0))) ∧ Aside0 (IR wr w0.heap.size (fun j => some j = (Value.slice Ac x.f2.length cc).ownBlock) (.slice Ac x.f2.length cc) x.f2) ∧ Aside0 (Below w0.heap.size w0 wr) ∧ Aside0 (Kept w wr P)) (fun v10 vi _ => x.f2.length - (intOf vi).toNat)
       case atStart => exact ⟨0, _, Nat.zero_le _, rfl, ⟨by rw [List.drop_zero]; exact HD.out⟩, S11, X11, Z11, Y11, V11, B11, K11⟩
       case round =>
        clear HD S11 X11 Z11 Y11 V11 B11 K11
        obtain ⟨q, E, hq, rfl, HL, S3, X3, Z3, Y3, V3, B3, K3⟩ := hrel
        by_cases hql : q < x.f2.length
        ·have hqq : ((q : Int) < (x.f2.length : Int)) = True := eq_true (by omega)
         obtain ⟨ad2, e3, hy2⟩ := Kd.at_int (Kd.R_reads' V3.out).2.2 (q : Int) (by omega) (by omega)
         subst e3
         simp only [Int.toNat_natCast] at hy2
         obtain ⟨z, hz⟩ : ∃ z, rd x.f2 (q : Int) = z := ⟨_, rfl⟩
         rw [hz] at hy2
         have hd : x.f2.drop q = z :: x.f2.drop (q + 1) := by
          rw [List.drop_eq_getElem_cons hql, ← hz]
          congr 1
          unfold rd
          rw [List.getD_eq_getElem?_getD, Int.toNat_natCast, List.getElem?_eq_getElem hql]
          rfl
         have h2 := HL.out
         rw [hd] at h2
         simp only [incL] at h2
         clear hd hz HL
         by_cases hz0 : 0 ≤ z
         ·rw [if_pos hz0] at h2
          by_cases hzE : z < (E.length : Int)
          ·rw [if_pos hzE] at h2
           have hEn := cs_len S3.out
           obtain ⟨_, _, e0, _, _, hfr, _, _, _⟩ := cs_elem S3.out z hz0 (by omega)
           have fr0 : wr.frozen? ⟨g, z.toNat * 3, none⟩ = false := hfr 0
           obtain ⟨y, hy⟩ : ∃ y, wrap64 ((rd_T68 E z).f0 + 1) = y := ⟨_, rfl⟩
           rw [hy] at h2
           have s1 : (z ≥ 0) = True := eq_true hz0
           have s2 : (0 ≤ z) = True := eq_true hz0
           have s3 : (z < (n : Int)) = True := eq_true (by omega)
           have d0 : wr.cell? ⟨xg, 0, none⟩ = some (.slice (some ⟨g, 0, none⟩) n c) := (blk_cell X3.out 0).trans rfl
           obtain ⟨w6, hw6⟩ : ∃ W, wr.setCell ⟨g, z.toNat * 3, none⟩ (.int .i64 y) = W := ⟨_, rfl⟩
           have hPg := (Kd.S_R S3.out).1 g rfl
           have KK : Kept wr w6 (fun j => j = g) := by rw [← hw6]; exact (Kept.refl wr (fun j => j = g)).setCell (p := ⟨g, z.toNat * 3, none⟩) (.inl rfl) _
           have S4 := Aside0.mk (show CS w6 w0.heap.size (fun k => P k ∧ k < xg) (.slice (some ⟨g, 0, none⟩) n c) (E.set z.toNat ⟨y, (rd_T68 E z).f1, (rd_T68 E z).f2⟩) by rw [← hw6]; exact cs_put0 S3.out z hz0 (by omega) y)
           have X4 := Aside0.mk (blk_kept X3.out KK (by have := hPg.2; omega))
           have Z4 := Aside0.mk (blk_kept Z3.out KK (by have := hPg.2; have := XZ.out; omega))
           have Y4 := Aside0.mk (blk_kept Y3.out KK (by have := hPg.2; have := XZ.out; have := ZY.out; omega))
           have V4 := Aside0.mk (Kd.R_kept V3.out KK (fun j hj => by have := VC.out j hj; have := YL7.out; have := hPg.2; have := XZ.out; have := ZY.out; omega))
           have B4 := Aside0.mk (show Below w0.heap.size w0 w6 by rw [← hw6]; exact below_set B3.out (Kd.S_base S3.out g rfl))
           have K4 := Aside0.mk (K3.out.then_ KK (fun j hj => .inl (by rw [hj]; exact hPg.1)))
           have H2 := Aside0.mk h2
           clear h2 hfr hPg S3 X3 Z3 Y3 V3 B3 K3 hz0 hzE hEn hq KK
           go_wp2
           clear e0 fr0 d0 hw6 hy hy2 s1 s2 s3 hqq
           go_roundw
           case rel => exact ⟨q + 1, _, hql, by go_num, H2, S4, X4, Z4, Y4, V4, B4, K4⟩
           case measure => simp [intOf]; omega
          ·rw [if_neg hzE] at h2
           cases h2
         ·rw [if_neg hz0] at h2
          have s1 : (z ≥ 0) = False := eq_false hz0
          have s2 : (0 ≤ z) = False := eq_false hz0
          have H2 := Aside0.mk h2
          clear h2 hz0 hq
          go_wp2
          clear hy2 s1 s2 hqq
          go_roundw
          case rel => exact ⟨q + 1, E, hql, by go_num, H2, S3, X3, Z3, Y3, V3, B3, K3⟩
          case measure => simp [intOf]; omega
        ·have hqq : ((q : Int) < (x.f2.length : Int)) = False := eq_false (by omega)
         have h3 := HL.out
         rw [List.drop_of_length_le (by omega)] at h3
         simp only [incL, Option.some.injEq] at h3
         subst h3
         have hEn := cs_len S3.out
         clear hql hq HL
         subst hEn
         have hsz := K3.out.1
         have YL8 := Aside0.mk (show W2.heap.size < wr.heap.size from blk_lt Y3.out)
         have T := Aside0.mk (new_calls L n1 c1 c A1 (some ⟨g, 0, none⟩) E (fun k => P k ∧ k ≠ xg ∧ k ≠ W1.heap.size) ⟨1, x.f1, x.f2⟩ (.slice Ac x.f2.length cc) w0 wr B3.out (Kd.S_mono S3.out (fun j hj => (have h_ := hj.2; have h1_ := XZ.out; have h2_ := ZY.out; have h3_ := YL7.out; ⟨⟨hj.1, by omega, by omega⟩, fun e_ => by have := VC.out j e_; omega⟩))) V3.out (fun j hj => (have h_ := VC.out j hj; have h1_ := XZ.out; have h2_ := ZY.out; have h3_ := YL7.out; ⟨FP.out j (by omega), by omega, by omega⟩)) (fun j hj => (have h1_ := XZ.out; have h2_ := ZY.out; have h3_ := YL8.out; ⟨FP.out j (by omega), by omega, by omega⟩)) HN.out)
         have y0 : wr.cell? ⟨W2.heap.size, 0, none⟩ = some (.int .i64 1) := (blk_cell Y3.out 0).trans rfl
         have y1 : wr.cell? ⟨W2.heap.size, 1, none⟩ = some (.string x.f1) := (blk_cell Y3.out 1).trans rfl
         have y2 : wr.cell? ⟨W2.heap.size, 2, none⟩ = some (.slice Ac x.f2.length cc) := (blk_cell Y3.out 2).trans rfl
         have d0 : wr.cell? ⟨xg, 0, none⟩ = some (.slice (some ⟨g, 0, none⟩) E.length c) := (blk_cell X3.out 0).trans rfl
         have d1 : wr.cell? ⟨xg, 1, none⟩ = some (.slice A1 n1 c1) := (blk_cell X3.out 1).trans rfl
         have d2 : wr.cell? ⟨xg, 2, none⟩ = some (.int .i64 L) := (blk_cell X3.out 2).trans rfl
         have Z5_ := Z3
         have K5_ := K3
         clear S3 X3 Y3 V3 B3 hsz
         go_wp2_with (go_at_call 92; refine T.out.mono ?_; (first | rintro e w9 v0 rfl hS9 hB9 hK9 | rintro e w9 ⟨v0, rfl, hS9, hB9, hK9⟩); (obtain ⟨A9, c9, rfl⟩ := Kd.S_slice hS9); (have Z9 := Aside0.mk (blk_kept Z5_.out hK9 (fun h_ => h_.2.2 rfl))); (have S9 := Aside0.mk hS9); (have B9 := Aside0.mk hB9); (have K9 := Aside0.mk (K5_.out.then_ hK9 (fun j hj => .inl hj.1))); (have r0 : w9.cell? ⟨W1.heap.size, 0, none⟩ = some (.slice none 0 0) := (blk_cell Z9.out 0).trans rfl); (have r1 : w9.cell? ⟨W1.heap.size, 1, none⟩ = some (.slice none 0 0) := (blk_cell Z9.out 1).trans rfl); (have r2 : w9.cell? ⟨W1.heap.size, 2, none⟩ = some (.int .i64 0) := (blk_cell Z9.out 2).trans rfl); (have s0 := blk_frozen Z9.out 0); (have s1 := blk_frozen Z9.out 1); (have s2 := blk_frozen Z9.out 2); clear hS9 hB9 hK9)
         refine bodyPost_ret (results_ct rfl _ _ W1.heap.size 25 #[.slice A9 _ c9, .slice A1 n1 c1, .int .i64 L] (0, 0) _ rfl (put3 Z9.out _ _ _) Try.underlying25 rfl (by kernel_rfl)) rfl ?_
         have hz : xg ≤ W1.heap.size := Nat.le_of_lt XZ.out
         exact ⟨_, rfl, Kd.S_mono (far3 S9.out Z9.out) (fun k hk => hk.1), below3 B9.out (Nat.le_trans BX.out hz), keep3 K9.out (.inr (HXG.out ▸ hz))⟩
      ·obtain ⟨W3, W4, hW3, hW4, y0, y1, y2, z0, z1, z2, Y4, BL⟩ := local_cell W2 (.int .i64 1) (.string ⟨#[]⟩) (.slice none 0 0)
       have ZY := Aside0.mk (show W1.heap.size < W2.heap.size from blk_lt Z2.out)
       have X4 := Aside0.mk (blk_below X2.out BL.out)
       have Z4 := Aside0.mk (blk_below Z2.out BL.out)
       have S4 := Aside0.mk (Kd.S_below S2.out BL.out)
       have B4 := Aside0.mk (below_then B2.out B2.out.size BL.out)
       have K4 := Aside0.mk (K2.out.below BL.out)
       have dd0 : W4.cell? ⟨xg, 0, none⟩ = some (.slice (some ⟨g, 0, none⟩) C.length c) := (blk_cell X4.out 0).trans rfl
       have dd1 : W4.cell? ⟨xg, 1, none⟩ = some (.slice A1 n1 c1) := (blk_cell X4.out 1).trans rfl
       have dd2 : W4.cell? ⟨xg, 2, none⟩ = some (.int .i64 L) := (blk_cell X4.out 2).trans rfl
       obtain ⟨W5, hW5⟩ : ∃ W, W4.alloc (.cells #[.int .i64 (-1), .int .i64 (-1), .int .i64 (-1), .int .i64 (-1)] 3) = W := ⟨_, rfl⟩
       obtain ⟨W6, hW6⟩ : ∃ W, W5.setCell ⟨W2.heap.size, 2, none⟩ (.slice (some ⟨W4.heap.size, 0, none⟩) 4 4) = W := ⟨_, rfl⟩
       have hb5 : Below W4.heap.size W4 W5 := by rw [← hW5]; exact below_alloc (Below.refl _ _) _
       have Y5 := blk_below Y4.out hb5
       have ly2 : W5.cell? ⟨W2.heap.size, 2, none⟩ = some (.slice none 0 0) := (blk_cell Y5 2).trans rfl
       have lz2 := blk_frozen Y5 2
       have ZY2 := Aside0.mk (show W2.heap.size < W4.heap.size from blk_lt Y4.out)
       have KK6 : Kept W4 W6 (fun j => j = W2.heap.size) := by rw [← hW6]; exact (Kept.of_below hb5 (fun j => j = W2.heap.size)).setCell (p := ⟨W2.heap.size, 2, none⟩) (.inl rfl) _
       have X6 := Aside0.mk (blk_kept X4.out KK6 (by have := XZ.out; have := ZY.out; omega))
       have Z6 := Aside0.mk (blk_kept Z4.out KK6 (by have := ZY.out; omega))
       have Y6 := Aside0.mk (show W6.heap[W2.heap.size]? = some (.cells #[.int .i64 1, .string ⟨#[]⟩, .slice (some ⟨W4.heap.size, 0, none⟩) 4 4] 68 (0, 0)) by rw [← hW6]; exact blk_put (cs := #[.int .i64 1, .string ⟨#[]⟩, .slice none 0 0]) Y5 2 _ rfl)
       have S6 := Aside0.mk (Kd.S_kept S4.out KK6 (fun k hk => by have := hk.2; have := XZ.out; have := ZY.out; omega))
       have B6 := Aside0.mk (show Below w0.heap.size w0 W6 by rw [← hW6]; exact below_set (below_then B4.out B4.out.size hb5) (by have := BX.out; have := XZ.out; have := ZY.out; omega))
       have K6 := Aside0.mk (K4.out.then_ KK6 (fun j hj => .inr (by rw [hj]; have := HXG.out; have := XZ.out; have := ZY.out; omega)))
       have V6 := Aside0.mk (show IR W6 w0.heap.size (fun k => some k = (Value.slice (some ⟨W4.heap.size, 0, none⟩) 4 4).ownBlock) (.slice (some ⟨W4.heap.size, 0, none⟩) 4 4) [-1, -1, -1, -1] by
        have h_ : (W4.alloc (Obj.cells #[.int .i64 (-1), .int .i64 (-1), .int .i64 (-1), .int .i64 (-1)] 3)).ownsRow W4.heap.size 3 1 (Value.slice (some ⟨W4.heap.size, 0, none⟩) 4 4) 4 [.int .i64 (-1), .int .i64 (-1), .int .i64 (-1), .int .i64 (-1)] := by simpa using World.ownsRow_lit (base := W4.heap.size) (e := 3) (size := 1) W4 #[.int .i64 (-1), .int .i64 (-1), .int .i64 (-1), .int .i64 (-1)] 4 (Nat.le_refl _) (by decide) (by simp)
        have h2_ : IR W5 w0.heap.size (fun k => some k = (Value.slice (some ⟨W4.heap.size, 0, none⟩) 4 4).ownBlock) (.slice (some ⟨W4.heap.size, 0, none⟩) 4 4) [-1, -1, -1, -1] := by
         rw [← hW5]
         exact Kd.R_lower (Kd.R_of_own (xs := [(-1 : Int), -1, -1, -1]) (enc := Value.int .i64) h_ (fun _ hk => hk.symm)) B4.out.size
        rw [← hW6]
        exact Kd.R_far (p := ⟨W2.heap.size, 2, none⟩) h2_ (fun j hj => by have h3_ : j = W4.heap.size := Option.some.inj hj; have := ZY2.out; show j ≠ W2.heap.size; omega) _)
       have d60 : W6.cell? ⟨xg, 0, none⟩ = some (.slice (some ⟨g, 0, none⟩) C.length c) := (blk_cell X6.out 0).trans rfl
       have d61 : W6.cell? ⟨xg, 1, none⟩ = some (.slice A1 n1 c1) := (blk_cell X6.out 1).trans rfl
       have d62 : W6.cell? ⟨xg, 2, none⟩ = some (.int .i64 L) := (blk_cell X6.out 2).trans rfl
       have hq : ((level : Int) > 1) = True := eq_true (by omega)
       have hq2 : (1 < (level : Int)) = True := eq_true (by omega)
       have hq3 : (1 < level) = True := eq_true (by omega)
       clear KK6 hb5 Y5
       have yy0 : W6.cell? ⟨W2.heap.size, 0, none⟩ = some (.int .i64 1) := (blk_cell Y6.out 0).trans rfl
       have yy1 : W6.cell? ⟨W2.heap.size, 1, none⟩ = some (.string ⟨#[]⟩) := (blk_cell Y6.out 1).trans rfl
       have yy2 : W6.cell? ⟨W2.heap.size, 2, none⟩ = some (.slice (some ⟨W4.heap.size, 0, none⟩) 4 4) := (blk_cell Y6.out 2).trans rfl
       have YL := Aside0.mk (show W2.heap.size < W6.heap.size from blk_lt Y6.out)
       obtain ⟨_, v_, f0, f1, f2, hfr4, _, hR4, _⟩ := cs_elem S6.out k (by omega) hkC
       rw [hx] at f0 f1 hR4
       obtain ⟨Ak, ck, rfl⟩ := Kd.R_slice hR4
       obtain ⟨W7, hW7⟩ : ∃ W, W6.setCell ⟨W2.heap.size, 1, none⟩ (.string x.f1) = W := ⟨_, rfl⟩
       have yf1 := blk_frozen Y6.out 1
       have KK7 : Kept W6 W7 (fun j => j = W2.heap.size) := by rw [← hW7]; exact (Kept.refl W6 (fun j => j = W2.heap.size)).setCell (p := ⟨W2.heap.size, 1, none⟩) (.inl rfl) _
       have X7 := Aside0.mk (blk_kept X6.out KK7 (by have := XZ.out; have := ZY.out; omega))
       have Z7 := Aside0.mk (blk_kept Z6.out KK7 (by have := ZY.out; omega))
       have Y7 := Aside0.mk (show W7.heap[W2.heap.size]? = some (.cells #[.int .i64 1, .string x.f1, .slice (some ⟨W4.heap.size, 0, none⟩) 4 4] 68 (0, 0)) by rw [← hW7]; exact blk_put (cs := #[.int .i64 1, .string ⟨#[]⟩, .slice (some ⟨W4.heap.size, 0, none⟩) 4 4]) Y6.out 1 _ rfl)
       have S7 := Aside0.mk (Kd.S_kept S6.out KK7 (fun k hk => by have := hk.2; have := XZ.out; have := ZY.out; omega))
       have B7 := Aside0.mk (show Below w0.heap.size w0 W7 by rw [← hW7]; exact below_set B6.out (by have := BX.out; have := XZ.out; have := ZY.out; omega))
       have K7 := Aside0.mk (K6.out.then_ KK7 (fun j hj => .inr (by rw [hj]; have := HXG.out; have := XZ.out; have := ZY.out; omega)))
       have YL7 := Aside0.mk (show W2.heap.size < W7.heap.size from blk_lt Y7.out)
       have d70 : W7.cell? ⟨xg, 0, none⟩ = some (.slice (some ⟨g, 0, none⟩) C.length c) := (blk_cell X7.out 0).trans rfl
       obtain ⟨_, v7_, h70, h71, h72, hfr7, _, hR7, _⟩ := cs_elem S7.out k (by omega) hkC
       rw [hx] at h70 h71 hR7
       obtain ⟨Ak7, ck7, rfl⟩ := Kd.R_slice hR7
       have C7 := Aside0.mk (Kd.R_reads' hR7).2.2
       have HKL := Aside0.mk hkl
       have hkl2 : x.f2.length ≤ 9223372036854775807 := by omega
       have HD := Aside0.mk hD
       have HX := Aside0.mk hx
       have KC := Aside0.mk (show 0 ≤ k ∧ k < (C.length : Int) by omega)
       have NL := Aside0.mk (show C.length = C.length from rfl)
       generalize hnn : C.length = n at *
       replace NL := Aside0.mk hnn
       clear h1 h hk0 hfr hn hkC hlv hx hS hD hkl hfr4 hR4 hR7 hfr7 KK7 hnn f2
       go_enter Try.func88, Try.ntmps88
       go_wp2_with (first
        | ((with_reducible refine gate_dst (N := 38) rfl ?_); refine Kd.R_lit (Kd.int .i64) W7.heap.size 3 ?hg (N := 38) ?hd (xs := ([] : List Int)) (inner := []) (ok := fun _ => True) (okp := fun _ => True) ?hr ?hp (fun _ hk => hk) trivial (Below.refl W7.heap.size W7) (Nat.le_refl _) (by simp) ?_; (case hd => rfl); (case hg => rfl); (case hr => first | (go_simp; done) | (go_simp; rfl)); (case hp => exact (Reps.none _ _)); intro v8 w8 ho8 hb8 hg_ hnew_; clear hg_ hnew_; have HO8 := Aside0.mk ho8; have HB8 := Aside0.mk hb8; (have d80 : w8.cell? ⟨xg, 0, none⟩ = some (.slice (some ⟨g, 0, none⟩) n c) := (blk_cell (blk_below X7.out hb8) 0).trans rfl); (have d82 := cell_kept h72 (Kept.of_below hb8 (fun _ => False)) id); clear ho8 hb8)
        | ((with_reducible refine gate_builtin (b := .append) (xs := #[.tmp 38, .tmp 44]) rfl ?_); at_builtin; refine Kd.R_append_rows (Kd.int .i64) (w0 := W7) W7.heap.size rfl (.tmp 38) (.tmp 44) 23 3 (.int .i64 0) 8 rfl Try.underlying23 info3 rfl (by decide) (by omega) v8 [] x.f2 _ _ _ (fun _ => True) (fun _ => False) rfl rfl HO8.out (Kd.C_below C7.out HB8.out) (fun _ _ h => h) (fun _ h => h.elim) (fun _ _ => trivial) HB8.out HB8.out.size (by have := HKL.out; simp; omega) ?_; intro v9 w9 hr hb hg_ hat_; clear hg_ hat_ HO8 HB8 d80 d82; (replace hr : IR w9 W7.heap.size (fun _ => True) v9 x.f2 := hr); (obtain ⟨Ac, cc, rfl⟩ := Kd.R_slice hr); (have VC := Aside0.mk (show ∀ j, some j = (Value.slice Ac x.f2.length cc).ownBlock → W7.heap.size ≤ j from fun j hj => Kd.R_base hr j hj.symm)); (obtain ⟨W10, hW10⟩ : ∃ W, w9.setCell ⟨W2.heap.size, 2, none⟩ (.slice Ac x.f2.length cc) = W := ⟨_, rfl⟩); (have Y9 := blk_below Y7.out hb); (have q2 : w9.cell? ⟨W2.heap.size, 2, none⟩ = some (.slice (some ⟨W4.heap.size, 0, none⟩) 4 4) := (blk_cell Y9 2).trans rfl); (have qz2 := blk_frozen Y9 2); (have KK10 : Kept w9 W10 (fun j => j = W2.heap.size) := by rw [← hW10]; exact (Kept.refl w9 (fun j => j = W2.heap.size)).setCell (p := ⟨W2.heap.size, 2, none⟩) (.inl rfl) _); (have X10 := Aside0.mk (blk_kept (blk_below X7.out hb) KK10 (by have := XZ.out; have := ZY.out; omega))); (have Z10 := Aside0.mk (blk_kept (blk_below Z7.out hb) KK10 (by have := ZY.out; omega))); (have Y10 := Aside0.mk (show W10.heap[W2.heap.size]? = some (.cells #[.int .i64 1, .string x.f1, .slice Ac x.f2.length cc] 68 (0, 0)) by rw [← hW10]; exact blk_put (cs := #[.int .i64 1, .string x.f1, .slice (some ⟨W4.heap.size, 0, none⟩) 4 4]) Y9 2 _ rfl)); (have S10 := Aside0.mk (Kd.S_kept (Kd.S_below S7.out hb) KK10 (fun k hk => by have := hk.2; have := XZ.out; have := ZY.out; omega))); (have V10 := Aside0.mk (Kd.R_kept (Kd.R_of_own (Kd.own_of_R (Kd.R_lower hr B7.out.size)) (fun j hj => hj.symm) : IR w9 w0.heap.size (fun j => some j = (Value.slice Ac x.f2.length cc).ownBlock) (.slice Ac x.f2.length cc) x.f2) KK10 (fun j hj => by have := VC.out j hj; have := YL7.out; omega))); (have B10 := Aside0.mk (show Below w0.heap.size w0 W10 by rw [← hW10]; exact below_set (below_then B7.out B7.out.size hb) (by have := BX.out; have := XZ.out; have := ZY.out; omega))); (have K10 := Aside0.mk ((K7.out.below hb).then_ KK10 (fun j hj => .inr (by rw [hj]; have := HXG.out; have := XZ.out; have := ZY.out; omega)))); (obtain ⟨_, va_, ha0, ha1, ha2, hfra, _, hRa, _⟩ := cs_elem S10.out k KC.out.1 (by have := KC.out.2; omega)); (rw [HX.out] at ha0); (have fra : W10.frozen? ⟨g, k.toNat * 3, none⟩ = false := hfra 0); (have da0 : W10.cell? ⟨xg, 0, none⟩ = some (.slice (some ⟨g, 0, none⟩) n c) := (blk_cell X10.out 0).trans rfl); (obtain ⟨W11, hW11⟩ : ∃ W, W10.setCell ⟨g, k.toNat * 3, none⟩ (.int .i64 y) = W := ⟨_, rfl⟩); (have hPg := (Kd.S_R S10.out).1 g rfl); (have KK11 : Kept W10 W11 (fun j => j = g) := by rw [← hW11]; exact (Kept.refl W10 (fun j => j = g)).setCell (p := ⟨g, k.toNat * 3, none⟩) (.inl rfl) _); (have X11 := Aside0.mk (blk_kept X10.out KK11 (by have := hPg.2; omega))); (have Z11 := Aside0.mk (blk_kept Z10.out KK11 (by have := hPg.2; have := XZ.out; omega))); (have Y11 := Aside0.mk (blk_kept Y10.out KK11 (by have := hPg.2; have := XZ.out; have := ZY.out; omega))); (have S11 := Aside0.mk (show CS W11 w0.heap.size (fun k => P k ∧ k < xg) (.slice (some ⟨g, 0, none⟩) n c) (C.set k.toNat ⟨y, x.f1, x.f2⟩) by rw [← hW11]; have h_ := cs_put0 S10.out k KC.out.1 (by have := KC.out.2; omega) y; rw [HX.out] at h_; exact h_)); (have V11 := Aside0.mk (Kd.R_kept V10.out KK11 (fun j hj => by have := VC.out j hj; have := YL7.out; have := hPg.2; have := XZ.out; have := ZY.out; omega))); (have B11 := Aside0.mk (show Below w0.heap.size w0 W11 by rw [← hW11]; exact below_set B10.out (Kd.S_base S10.out g rfl))); (have K11 := Aside0.mk (K10.out.then_ KK11 (fun j hj => .inl (by rw [hj]; exact hPg.1)))); (have yb2 : W11.cell? ⟨W2.heap.size, 2, none⟩ = some (.slice Ac x.f2.length cc) := (blk_cell Y11.out 2).trans rfl); clear hr hb Y9 KK10 KK11 hPg hfra hRa))
       clear d0 d1 d2 dd0 dd1 dd2 yy0 yy1 yy2 f0 f1 d70 h70 h71 h72 q2 qz2 ha0 ha1 ha2 fra da0 hW1 hW2 hW3 hW4 hW7 hW10 hW11 yb2 y0 y1 y2 z0 z1 z2 yf1
       go_loopw [10, 59] (fun v10 vi wr => ∃ (q : Nat) (E : List CL), q ≤ x.f2.length ∧ vi = .int .i64 q ∧ Aside0 (incL (x.f2.drop q) E = some D) ∧ Aside0 (CS wr w0.heap.size (fun k => P k ∧ k < xg) (.slice (some ⟨g, 0, none⟩) n c) E) ∧ Aside0 (wr.heap[xg]? = some (.cells #[.slice (some ⟨g, 0, none⟩) n c, .slice A1 n1 c1, .int .i64 L] 25 (0, 0))) ∧ Aside0 (wr.heap[W1.heap.size]? = some (.cells #[.slice none 0 0, .slice none 0 0, .int .i64 0] 25 (0, 0))) ∧ Aside0 (wr.heap[W2.heap.size]? = some (.cells #[.int .i64 1, .string x.f1, .slice Ac x.f2.length cc] 68 (0, 0))) ∧ Aside0 (IR wr w0.heap.size (fun j => some j = (Value.slice Ac x.f2.length cc).ownBlock) (.slice Ac x.f2.length cc) x.f2) ∧ Aside0 (Below w0.heap.size w0 wr) ∧ Aside0 (Kept w wr P)) (fun v10 vi _ => x.f2.length - (intOf vi).toNat)
       case atStart => exact ⟨0, _, Nat.zero_le _, rfl, ⟨by rw [List.drop_zero]; exact HD.out⟩, S11, X11, Z11, Y11, V11, B11, K11⟩
       case round =>
        clear HD S11 X11 Z11 Y11 V11 B11 K11
        obtain ⟨q, E, hq, rfl, HL, S3, X3, Z3, Y3, V3, B3, K3⟩ := hrel
        by_cases hql : q < x.f2.length
        ·have hqq : ((q : Int) < (x.f2.length : Int)) = True := eq_true (by omega)
         obtain ⟨ad2, e3, hy2⟩ := Kd.at_int (Kd.R_reads' V3.out).2.2 (q : Int) (by omega) (by omega)
         subst e3
         simp only [Int.toNat_natCast] at hy2
         obtain ⟨z, hz⟩ : ∃ z, rd x.f2 (q : Int) = z := ⟨_, rfl⟩
         rw [hz] at hy2
         have hd : x.f2.drop q = z :: x.f2.drop (q + 1) := by
          rw [List.drop_eq_getElem_cons hql, ← hz]
          congr 1
          unfold rd
          rw [List.getD_eq_getElem?_getD, Int.toNat_natCast, List.getElem?_eq_getElem hql]
          rfl
         have h2 := HL.out
         rw [hd] at h2
         simp only [incL] at h2
         clear hd hz HL
         by_cases hz0 : 0 ≤ z
         ·rw [if_pos hz0] at h2
          by_cases hzE : z < (E.length : Int)
          ·rw [if_pos hzE] at h2
           have hEn := cs_len S3.out
           obtain ⟨_, _, e0, _, _, hfr, _, _, _⟩ := cs_elem S3.out z hz0 (by omega)
           have fr0 : wr.frozen? ⟨g, z.toNat * 3, none⟩ = false := hfr 0
           obtain ⟨y, hy⟩ : ∃ y, wrap64 ((rd_T68 E z).f0 + 1) = y := ⟨_, rfl⟩
           rw [hy] at h2
           have s1 : (z ≥ 0) = True := eq_true hz0
           have s2 : (0 ≤ z) = True := eq_true hz0
           have s3 : (z < (n : Int)) = True := eq_true (by omega)
           have d0 : wr.cell? ⟨xg, 0, none⟩ = some (.slice (some ⟨g, 0, none⟩) n c) := (blk_cell X3.out 0).trans rfl
           obtain ⟨w6, hw6⟩ : ∃ W, wr.setCell ⟨g, z.toNat * 3, none⟩ (.int .i64 y) = W := ⟨_, rfl⟩
           have hPg := (Kd.S_R S3.out).1 g rfl
           have KK : Kept wr w6 (fun j => j = g) := by rw [← hw6]; exact (Kept.refl wr (fun j => j = g)).setCell (p := ⟨g, z.toNat * 3, none⟩) (.inl rfl) _
           have S4 := Aside0.mk (show CS w6 w0.heap.size (fun k => P k ∧ k < xg) (.slice (some ⟨g, 0, none⟩) n c) (E.set z.toNat ⟨y, (rd_T68 E z).f1, (rd_T68 E z).f2⟩) by rw [← hw6]; exact cs_put0 S3.out z hz0 (by omega) y)
           have X4 := Aside0.mk (blk_kept X3.out KK (by have := hPg.2; omega))
           have Z4 := Aside0.mk (blk_kept Z3.out KK (by have := hPg.2; have := XZ.out; omega))
           have Y4 := Aside0.mk (blk_kept Y3.out KK (by have := hPg.2; have := XZ.out; have := ZY.out; omega))
           have V4 := Aside0.mk (Kd.R_kept V3.out KK (fun j hj => by have := VC.out j hj; have := YL7.out; have := hPg.2; have := XZ.out; have := ZY.out; omega))
           have B4 := Aside0.mk (show Below w0.heap.size w0 w6 by rw [← hw6]; exact below_set B3.out (Kd.S_base S3.out g rfl))
           have K4 := Aside0.mk (K3.out.then_ KK (fun j hj => .inl (by rw [hj]; exact hPg.1)))
           have H2 := Aside0.mk h2
           clear h2 hfr hPg S3 X3 Z3 Y3 V3 B3 K3 hz0 hzE hEn hq KK
           go_wp2
           clear e0 fr0 d0 hw6 hy hy2 s1 s2 s3 hqq
           go_roundw
           case rel => exact ⟨q + 1, _, hql, by go_num, H2, S4, X4, Z4, Y4, V4, B4, K4⟩
           case measure => simp [intOf]; omega
          ·rw [if_neg hzE] at h2
           cases h2
         ·rw [if_neg hz0] at h2
          have s1 : (z ≥ 0) = False := eq_false hz0
          have s2 : (0 ≤ z) = False := eq_false hz0
          have H2 := Aside0.mk h2
          clear h2 hz0 hq
          go_wp2
          clear hy2 s1 s2 hqq
          go_roundw
          case rel => exact ⟨q + 1, E, hql, by go_num, H2, S3, X3, Z3, Y3, V3, B3, K3⟩
          case measure => simp [intOf]; omega
        ·have hqq : ((q : Int) < (x.f2.length : Int)) = False := eq_false (by omega)
         have h3 := HL.out
         rw [List.drop_of_length_le (by omega)] at h3
         simp only [incL, Option.some.injEq] at h3
         subst h3
         have hEn := cs_len S3.out
         clear hql hq HL
         subst hEn
         have hsz := K3.out.1
         have YL8 := Aside0.mk (show W2.heap.size < wr.heap.size from blk_lt Y3.out)
         have T := Aside0.mk (new_calls L n1 c1 c A1 (some ⟨g, 0, none⟩) E (fun k => P k ∧ k ≠ xg ∧ k ≠ W1.heap.size) ⟨1, x.f1, x.f2⟩ (.slice Ac x.f2.length cc) w0 wr B3.out (Kd.S_mono S3.out (fun j hj => (have h_ := hj.2; have h1_ := XZ.out; have h2_ := ZY.out; have h3_ := YL7.out; ⟨⟨hj.1, by omega, by omega⟩, fun e_ => by have := VC.out j e_; omega⟩))) V3.out (fun j hj => (have h_ := VC.out j hj; have h1_ := XZ.out; have h2_ := ZY.out; have h3_ := YL7.out; ⟨FP.out j (by omega), by omega, by omega⟩)) (fun j hj => (have h1_ := XZ.out; have h2_ := ZY.out; have h3_ := YL8.out; ⟨FP.out j (by omega), by omega, by omega⟩)) HN.out)
         have y0 : wr.cell? ⟨W2.heap.size, 0, none⟩ = some (.int .i64 1) := (blk_cell Y3.out 0).trans rfl
         have y1 : wr.cell? ⟨W2.heap.size, 1, none⟩ = some (.string x.f1) := (blk_cell Y3.out 1).trans rfl
         have y2 : wr.cell? ⟨W2.heap.size, 2, none⟩ = some (.slice Ac x.f2.length cc) := (blk_cell Y3.out 2).trans rfl
         have d0 : wr.cell? ⟨xg, 0, none⟩ = some (.slice (some ⟨g, 0, none⟩) E.length c) := (blk_cell X3.out 0).trans rfl
         have d1 : wr.cell? ⟨xg, 1, none⟩ = some (.slice A1 n1 c1) := (blk_cell X3.out 1).trans rfl
         have d2 : wr.cell? ⟨xg, 2, none⟩ = some (.int .i64 L) := (blk_cell X3.out 2).trans rfl
         have Z5_ := Z3
         have K5_ := K3
         clear S3 X3 Y3 V3 B3 hsz
         go_wp2_with (go_at_call 92; refine T.out.mono ?_; (first | rintro e w9 v0 rfl hS9 hB9 hK9 | rintro e w9 ⟨v0, rfl, hS9, hB9, hK9⟩); (obtain ⟨A9, c9, rfl⟩ := Kd.S_slice hS9); (have Z9 := Aside0.mk (blk_kept Z5_.out hK9 (fun h_ => h_.2.2 rfl))); (have S9 := Aside0.mk hS9); (have B9 := Aside0.mk hB9); (have K9 := Aside0.mk (K5_.out.then_ hK9 (fun j hj => .inl hj.1))); (have r0 : w9.cell? ⟨W1.heap.size, 0, none⟩ = some (.slice none 0 0) := (blk_cell Z9.out 0).trans rfl); (have r1 : w9.cell? ⟨W1.heap.size, 1, none⟩ = some (.slice none 0 0) := (blk_cell Z9.out 1).trans rfl); (have r2 : w9.cell? ⟨W1.heap.size, 2, none⟩ = some (.int .i64 0) := (blk_cell Z9.out 2).trans rfl); (have s0 := blk_frozen Z9.out 0); (have s1 := blk_frozen Z9.out 1); (have s2 := blk_frozen Z9.out 2); clear hS9 hB9 hK9)
         refine bodyPost_ret (results_ct rfl _ _ W1.heap.size 25 #[.slice A9 _ c9, .slice A1 n1 c1, .int .i64 L] (0, 0) _ rfl (put3 Z9.out _ _ _) Try.underlying25 rfl (by kernel_rfl)) rfl ?_
         have hz : xg ≤ W1.heap.size := Nat.le_of_lt XZ.out
         exact ⟨_, rfl, Kd.S_mono (far3 S9.out Z9.out) (fun k hk => hk.1), below3 B9.out (Nat.le_trans BX.out hz), keep3 K9.out (.inr (HXG.out ▸ hz))⟩
     ·rw [if_neg hkl] at h
      cases h
   ·rw [if_neg hkC] at h
    cases h
 ·rw [if_neg hn] at h
  cases h
end Go.Proofs.Ytacfalpgmibfnaa.PCow
namespace Go.Proofs.Ytacfalpgmibfnaa.PCow
open Go.RowKit Go.Proofs.YtacfalpgmibfnaaW.PrintWords Go.Proofs.YtacfalpgmibfnaaW.PrintLast Go.Proofs.YtacfalpgmibfnaaW.PrintMore Go.Proofs.Ytacfalpgmibfnaa.E
section
variable {P : Program} {ops : Array Oper} {Q : Exit → Act → World → Prop} {md : Region.Mode} {S : World → Prop} {ds : List Nat}
theorem two_last {i j : Nat} {Ni Nj : Option Tmp} {oi oj : Oper} {fuel : Nat} {l : Array Bool} {a : Act} {w : World} (li lj : Array Bool) (hi : ops[i]? = some oi) (hj : ops[j]? = some oj) (hNi : oi.dst = Ni) (hNj : oj.dst = Nj)
  (hc : (Region.ready md ops l == [i, j] && l.setIfInBounds i true == li && l.setIfInBounds j true == lj) = true) (hdi : i ∈ ds) (hdj : j ∉ ds)
  (h1 : ∀ K : Act → World → Prop, Shut (∀ a' w', wpAnyLast P md ops Q S ds fuel li a' w' → K a' w') → if Region.wanted oi (yielded ops a.tmps) = true then Oper.wp P oi a w K Q else K (a.put Ni undef) w)
  (h2 : ∀ K : Act → World → Prop, Shut (∀ a' w', S w' → (S w' → wpAnyLast P md ops Q S ds fuel lj a' w') → K a' w') → if Region.wanted oj (yielded ops a.tmps) = true then Oper.wp P oj a w K Q else K (a.put Nj undef) w) :
  wpAnyLast P md ops Q S ds (fuel + 1) l a w := by
 subst hNi
 subst hNj
 simp only [Bool.and_eq_true, beq_iff_eq] at hc
 obtain ⟨⟨h3, h4⟩, h5⟩ := hc
 subst h4
 subst h5
 exact wpAnyLast_ready h3 (by simp) (AllReadyL.cons_last hi hdi (fun K hK => h1 K hK) (AllReadyL.cons hj hdj (fun K hK => h2 K hK) AllReadyL.nil))
theorem one_c {i : Nat} {N : Option Tmp} {oi : Oper} {fuel : Nat} {l : Array Bool} {a : Act} {w : World} (l' : Array Bool) (hi : ops[i]? = some oi) (hN : oi.dst = N) (hc : readyB md ops l l' i = true)
  (h : ∀ K : Act → World → Prop, Shut (∀ a' w', (S w → S w') → wpAnyLast P md ops Q S ds fuel l' a' w' → K a' w') → if Region.wanted oi (yielded ops a.tmps) = true then Oper.wp P oi a w K Q else K (a.put N undef) w) :
  wpAnyLast P md ops Q S ds (fuel + 1) l a w := by
 subst hN
 simp only [readyB, Bool.and_eq_true, beq_iff_eq] at hc
 obtain ⟨h1, h2⟩ := hc
 subst h2
 refine wpAnyLast_all h1 (by simp) (fun j hj => ?_)
 obtain rfl : j = i := by simpa using hj
 exact wpOp_step hi (fun K' hK => h K' (fun a' w' hs hW => hK a' w' ⟨fun _ => hs, hW⟩))
end
end Go.Proofs.Ytacfalpgmibfnaa.PCow
namespace Go.Proofs.Ytacfalpgmibfnaa.PCow
open Go.RowKit Go.Proofs.YtacfalpgmibfnaaW.PrintWords Go.Proofs.YtacfalpgmibfnaaW.PrintLast Go.Proofs.YtacfalpgmibfnaaW.PrintMore
attribute [local go_sem] max2_int min2_int max_two min_two max_three min_three max_four min_four
set_option linter.unusedVariables false
set_option linter.unusedSimpArgs false
def spec_l14Size.l0 : Nat → Int → Int → Option (Int)
 | 0, _, _ => none
 | k + 1, x0, x3 => if x0 > 1 then (spec_l14Size.l0 k (wrap64 (x0 - 1)) (wrap64 (x3 * 4))) else (some x3)
def spec_l14Size.f (k : Nat) (a0 : Int) : Option (Int) := spec_l14Size.l0 k a0 1
set_option maxHeartbeats 8000000 in
set_option maxRecDepth 100000 in
theorem spec_l14Size.calls (k : Nat) (a0 : Int) (r : Int) (w : World) (h : spec_l14Size.f k a0 = some r) :
  Calls Try.prog 85 #[.int .i64 a0] w fun e w' => e = .returned (.int .i64 r) ∧ Drawn0 w w' := by
 have H : (spec_l14Size.l0 k a0 1) = some r := h
 clear h
 have H' := Aside0.mk H
 clear H
 go_enter Try.func85, Try.ntmps85
 go_wp2
 go_loopg [0, 3] k (fun kq v0 v3 w' => ∃ (x0_1 : Int) (x3_1 : Int), v0 = .int .i64 x0_1 ∧ v3 = .int .i64 x3_1 ∧ Aside0 (spec_l14Size.l0 kq x0_1 x3_1 = some r) ∧ Aside0 (kq ≤ k) ∧ Drawn0 w w')
 case atStart => exact ⟨(a0), (1), (by first | rfl | (simp; done) | (simp [*]; done)), (by first | rfl | (simp; done) | (simp [*]; done)), H', ⟨Nat.le_refl _⟩, by repeat (first | exact Drawn0.refl _ | apply Drawn0.step)⟩
 case round =>
  clear H'
  obtain ⟨x0_1, x3_1, rfl, rfl, HA, HK1, ⟨m1, rfl⟩⟩ := hrel
  cases gk with
  | zero => exact absurd HA.out (by simp [spec_l14Size.l0])
  | succ k1 =>
   have H := HA.out
   clear HA
   simp only [spec_l14Size.l0] at H
   by_cases c2 : x0_1 > 1
   ·rw [if_pos c2] at H
    have c2b0 : decide (1 < x0_1) = true := decide_eq_true c2
    clear c2
    have H' := Aside0.mk H
    clear H
    go_wp2
    go_roundg k1
    case measure => have := HK1.out; omega
    case rel => exact ⟨(wrap64 (x0_1 - 1)), (wrap64 (x3_1 * 4)), (by first | rfl | (simp; done) | (simp [*]; done)), (by first | rfl | (simp; done) | (simp [*]; done)), H', ⟨by have := HK1.out; omega⟩, by repeat (first | exact Drawn0.refl _ | apply Drawn0.step)⟩
   ·rw [if_neg c2] at H
    have c2b0 : decide (1 < x0_1) = false := decide_eq_false c2
    clear c2
    obtain rfl := Option.some.inj H
    go_wp2
    go_ret
    exact ⟨by first | rfl | (simp; done) | (simp [*]; done), by repeat (first | exact Drawn0.refl _ | apply Drawn0.step)⟩
def spec_l14Places.f (k : Nat) (l0_0 : List (S68)) (l0_1 : List Int) (a0_2 : Int) : Option (Int) := (spec_l14Size.f k (wrap64 (a0_2 + 1))).bind fun t206 => (some (wrap64 (Int.tdiv t206 4)))
set_option maxHeartbeats 8000000 in
set_option maxRecDepth 100000 in
theorem spec_l14Places.calls (k : Nat) (A0_0 : Option Addr) (c0_0 : Nat) (l0_0 : List (S68)) (A0_1 : Option Addr) (c0_1 : Nat) (l0_1 : List Int) (a0_2 : Int) (r : Int) (w : World) (hr0_0 : Kd.C k68 w A0_0 l0_0.length l0_0) (hc0_0 : l0_0.length ≤ c0_0) (hr0_1 : Kd.C (Kd.int .i64) w A0_1 l0_1.length l0_1) (hc0_1 : l0_1.length ≤ c0_1) (h : spec_l14Places.f k l0_0 l0_1 a0_2 = some r) :
  Calls Try.prog 61 #[.agg #[.slice A0_0 l0_0.length c0_0, .slice A0_1 l0_1.length c0_1, .int .i64 a0_2]] w fun e w' => e = .returned (.int .i64 r) ∧ Below w.heap.size w w' := by
 have hu25 := Try.underlying25
 have HR0_0 := Aside0.mk hr0_0
 have HC0_0 := Aside0.mk hc0_0
 clear hr0_0 hc0_0
 have HR0_1 := Aside0.mk hr0_1
 have HC0_1 := Aside0.mk hc0_1
 clear hr0_1 hc0_1
 have HB := Aside0.mk (Below.refl w.heap.size w)
 have H : ((spec_l14Size.f k (wrap64 (a0_2 + 1))).bind fun t206 => (some (wrap64 (Int.tdiv t206 4)))) = some r := h
 clear h
 replace H := Option.bind_eq_some_iff.mp H
 obtain ⟨t206, A20, H⟩ := H
 replace H : (some (wrap64 (Int.tdiv t206 4))) = some r := H
 have A2 := Aside0.mk A20
 clear A20
 obtain rfl := Option.some.inj H
 go_enter Try.func61, Try.ntmps61
 go_wp2_with (first | ((with_reducible refine gate_dst (N := 1) rfl ?_); refine box_event ?hg (N := 1) ?hd (cs := #[.slice A0_0 l0_0.length c0_0, .slice A0_1 l0_1.length c0_1, .int .i64 a0_2]) (t := 25) ?hr ?_; (case hd => rfl); (case hg => rfl); (case hr => first | (go_simp; done) | (go_simp; rfl)); intro gb205 hg w3 hbox hb; have BK205 := Aside0.mk (hbox); have GW205 := Aside0.mk ((by rw [hg]; exact (below_size (by with_reducible repeat (first | exact HB.out | apply below_alloc | apply pw_below_drewN | apply below_drew1))) : w.heap.size ≤ gb205)); have GE205 := Aside0.mk ((by rw [hg]; exact (below_size (by with_reducible repeat (first | exact HB.out | apply below_alloc | apply pw_below_drewN | apply below_drew1))) : w.heap.size ≤ gb205)); replace HB := Aside0.mk (below_step (by with_reducible repeat (first | exact HB.out | apply below_alloc | apply pw_below_drewN | apply below_drew1)) hb); clear hb hbox hg; have hcz4_0 : w3.cell? ⟨gb205, 0, none⟩ = some (.slice A0_0 l0_0.length c0_0) := (blk_cell BK205.out 0).trans rfl; have hcz4_1 : w3.cell? ⟨gb205, 1, none⟩ = some (.slice A0_1 l0_1.length c0_1) := (blk_cell BK205.out 1).trans rfl; have hcz4_2 : w3.cell? ⟨gb205, 2, none⟩ = some (.int .i64 a0_2) := (blk_cell BK205.out 2).trans rfl; have hfz4_0 := blk_frozen BK205.out 0; have hfz4_1 := blk_frozen BK205.out 1; have hfz4_2 := blk_frozen BK205.out 2) | ((with_reducible refine gate_callee (f := 85) rfl ?_); refine goesL_ (some 6) rfl rfl Try.func85 (by kernel_rfl) rfl #[.int .i64 (wrap64 (a0_2 + 1))] rfl (by (try simp only [List.map_toArray, List.map_cons, List.map_nil]); first | done | rfl | (simp only [List.length_drop, List.length_take]; rfl)) ?_; (with_reducible refine (spec_l14Size.calls k (wrap64 (a0_2 + 1)) t206 _ A2.out).mono ?_); rintro e w' ⟨rfl, ⟨nd, rfl⟩⟩; refine ⟨_, rfl, ?_⟩))
 go_ret
 exact ⟨by first | rfl | (simp [errW_none, errW_some] <;> rfl) | (simp [*, errW_none, errW_some] <;> rfl) | (simp [E.isEmpty_bne]; done) | (rw [E.bne_empty]), by with_reducible repeat (first | exact HB.out | apply below_alloc | apply pw_below_drewN | apply below_drew1 | refine below_set ?_ GE205.out)⟩
def spec_l14Leaf.l0 : Nat → Int → Int → Int → List (S68) → List Int → Int → Option (ByteArray)
 | 0, _, _, _, _, _, _ => none
 | k + 1, x1, x2, x7, x208000, x208001, x208002 => if x1 ≥ 0 then (if x7 > 1 then ((spec_l14Size.f k x7).bind fun t208 => (if 0 ≤ x1 then (if x1 < (x208000.length : Int) then (if (wrap64 (Int.tdiv t208 4)) = 0 then (none) else (if 0 ≤ (wrap64 (Int.tdiv x2 (wrap64 (Int.tdiv t208 4)))) then (if (wrap64 (Int.tdiv x2 (wrap64 (Int.tdiv t208 4)))) < (((rd_T68 x208000 x1).f2).length : Int) then (spec_l14Leaf.l0 k (rd ((rd_T68 x208000 x1).f2) (wrap64 (Int.tdiv x2 (wrap64 (Int.tdiv t208 4))))) (Int.tmod x2 (wrap64 (Int.tdiv t208 4))) (wrap64 (x7 - 1)) x208000 x208001 x208002) else (none)) else (none))) else (none)) else (none))) else (if x1 < 0 then (some (⟨#[]⟩ : ByteArray)) else (if 0 ≤ x1 then (if x1 < (x208000.length : Int) then (some ((rd_T68 x208000 x1).f1)) else (none)) else (none)))) else (if x1 < 0 then (some (⟨#[]⟩ : ByteArray)) else (if 0 ≤ x1 then (if x1 < (x208000.length : Int) then (some ((rd_T68 x208000 x1).f1)) else (none)) else (none)))
def spec_l14Leaf.f (k : Nat) (l0_0 : List (S68)) (l0_1 : List Int) (a0_2 : Int) (a1 : Int) (a2 : Int) : Option (ByteArray) := spec_l14Leaf.l0 k a1 a2 a0_2 l0_0 l0_1 a0_2
set_option maxHeartbeats 8000000 in
set_option maxRecDepth 100000 in
theorem spec_l14Leaf.calls (k : Nat) (A0_0 : Option Addr) (c0_0 : Nat) (l0_0 : List (S68)) (A0_1 : Option Addr) (c0_1 : Nat) (l0_1 : List Int) (a0_2 : Int) (a1 : Int) (a2 : Int) (r : ByteArray) (w : World) (hr0_0 : Kd.C k68 w A0_0 l0_0.length l0_0) (hc0_0 : l0_0.length ≤ c0_0) (hr0_1 : Kd.C (Kd.int .i64) w A0_1 l0_1.length l0_1) (hc0_1 : l0_1.length ≤ c0_1) (h : spec_l14Leaf.f k l0_0 l0_1 a0_2 a1 a2 = some r) :
  Calls Try.prog 62 #[.agg #[.slice A0_0 l0_0.length c0_0, .slice A0_1 l0_1.length c0_1, .int .i64 a0_2], .int .i64 a1, .int .i64 a2] w fun e w' => e = .returned (.string r) ∧ Below w.heap.size w w' := by
 have hu25 := Try.underlying25
 have HR0_0 := Aside0.mk hr0_0
 have HC0_0 := Aside0.mk hc0_0
 clear hr0_0 hc0_0
 have HR0_1 := Aside0.mk hr0_1
 have HC0_1 := Aside0.mk hc0_1
 clear hr0_1 hc0_1
 have HB := Aside0.mk (Below.refl w.heap.size w)
 have H : (spec_l14Leaf.l0 k a1 a2 a0_2 l0_0 l0_1 a0_2) = some r := h
 clear h
 have H' := Aside0.mk H
 clear H
 go_enter Try.func62, Try.ntmps62
 go_wp2_with (first | ((with_reducible refine gate_dst (N := 3) rfl ?_); refine box_event ?hg (N := 3) ?hd (cs := #[.slice A0_0 l0_0.length c0_0, .slice A0_1 l0_1.length c0_1, .int .i64 a0_2]) (t := 25) ?hr ?_; (case hd => rfl); (case hg => rfl); (case hr => first | (go_simp; done) | (go_simp; rfl)); intro gb207 hg w4 hbox hb; have BK207 := Aside0.mk (hbox); have GW207 := Aside0.mk ((by rw [hg]; exact (below_size (by with_reducible repeat (first | exact HB.out | apply below_alloc | apply pw_below_drewN | apply below_drew1))) : w.heap.size ≤ gb207)); have GE207 := Aside0.mk ((by rw [hg]; exact (below_size (by with_reducible repeat (first | exact HB.out | apply below_alloc | apply pw_below_drewN | apply below_drew1))) : w.heap.size ≤ gb207)); replace HB := Aside0.mk (below_step (by with_reducible repeat (first | exact HB.out | apply below_alloc | apply pw_below_drewN | apply below_drew1)) hb); clear hb hbox hg; have hcz5_0 : w4.cell? ⟨gb207, 0, none⟩ = some (.slice A0_0 l0_0.length c0_0) := (blk_cell BK207.out 0).trans rfl; have hcz5_1 : w4.cell? ⟨gb207, 1, none⟩ = some (.slice A0_1 l0_1.length c0_1) := (blk_cell BK207.out 1).trans rfl; have hcz5_2 : w4.cell? ⟨gb207, 2, none⟩ = some (.int .i64 a0_2) := (blk_cell BK207.out 2).trans rfl; have hfz5_0 := blk_frozen BK207.out 0; have hfz5_1 := blk_frozen BK207.out 1; have hfz5_2 := blk_frozen BK207.out 2))
 repeat (go_quiet (first | ((with_reducible refine gate_dst (N := 3) rfl ?_); refine box_event ?hg (N := 3) ?hd (cs := #[.slice A0_0 l0_0.length c0_0, .slice A0_1 l0_1.length c0_1, .int .i64 a0_2]) (t := 25) ?hr ?_; (case hd => rfl); (case hg => rfl); (case hr => first | (go_simp; done) | (go_simp; rfl)); intro gb207 hg w4 hbox hb; have BK207 := Aside0.mk (hbox); have GW207 := Aside0.mk ((by rw [hg]; exact (below_size (by with_reducible repeat (first | exact HB.out | apply below_alloc | apply pw_below_drewN | apply below_drew1))) : w.heap.size ≤ gb207)); have GE207 := Aside0.mk ((by rw [hg]; exact (below_size (by with_reducible repeat (first | exact HB.out | apply below_alloc | apply pw_below_drewN | apply below_drew1))) : w.heap.size ≤ gb207)); replace HB := Aside0.mk (below_step (by with_reducible repeat (first | exact HB.out | apply below_alloc | apply pw_below_drewN | apply below_drew1)) hb); clear hb hbox hg; have hcz5_0 : w4.cell? ⟨gb207, 0, none⟩ = some (.slice A0_0 l0_0.length c0_0) := (blk_cell BK207.out 0).trans rfl; have hcz5_1 : w4.cell? ⟨gb207, 1, none⟩ = some (.slice A0_1 l0_1.length c0_1) := (blk_cell BK207.out 1).trans rfl; have hcz5_2 : w4.cell? ⟨gb207, 2, none⟩ = some (.int .i64 a0_2) := (blk_cell BK207.out 2).trans rfl; have hfz5_0 := blk_frozen BK207.out 0; have hfz5_1 := blk_frozen BK207.out 1; have hfz5_2 := blk_frozen BK207.out 2)); try go_wp2_with (first | ((with_reducible refine gate_dst (N := 3) rfl ?_); refine box_event ?hg (N := 3) ?hd (cs := #[.slice A0_0 l0_0.length c0_0, .slice A0_1 l0_1.length c0_1, .int .i64 a0_2]) (t := 25) ?hr ?_; (case hd => rfl); (case hg => rfl); (case hr => first | (go_simp; done) | (go_simp; rfl)); intro gb207 hg w4 hbox hb; have BK207 := Aside0.mk (hbox); have GW207 := Aside0.mk ((by rw [hg]; exact (below_size (by with_reducible repeat (first | exact HB.out | apply below_alloc | apply pw_below_drewN | apply below_drew1))) : w.heap.size ≤ gb207)); have GE207 := Aside0.mk ((by rw [hg]; exact (below_size (by with_reducible repeat (first | exact HB.out | apply below_alloc | apply pw_below_drewN | apply below_drew1))) : w.heap.size ≤ gb207)); replace HB := Aside0.mk (below_step (by with_reducible repeat (first | exact HB.out | apply below_alloc | apply pw_below_drewN | apply below_drew1)) hb); clear hb hbox hg; have hcz5_0 : w4.cell? ⟨gb207, 0, none⟩ = some (.slice A0_0 l0_0.length c0_0) := (blk_cell BK207.out 0).trans rfl; have hcz5_1 : w4.cell? ⟨gb207, 1, none⟩ = some (.slice A0_1 l0_1.length c0_1) := (blk_cell BK207.out 1).trans rfl; have hcz5_2 : w4.cell? ⟨gb207, 2, none⟩ = some (.int .i64 a0_2) := (blk_cell BK207.out 2).trans rfl; have hfz5_0 := blk_frozen BK207.out 0; have hfz5_1 := blk_frozen BK207.out 1; have hfz5_2 := blk_frozen BK207.out 2)))
 go_loopg [1, 2, 7] k (fun kq v1 v2 v7 w' => ∃ (x1_1 : Int) (x2_1 : Int) (x7_1 : Int), v1 = .int .i64 x1_1 ∧ v2 = .int .i64 x2_1 ∧ v7 = .int .i64 x7_1 ∧ Aside0 (spec_l14Leaf.l0 kq x1_1 x2_1 x7_1 l0_0 l0_1 a0_2 = some r) ∧ Aside0 (kq ≤ k) ∧ Aside0 (w'.heap[gb207]? = some (.cells #[(.slice A0_0 l0_0.length c0_0), (.slice A0_1 l0_1.length c0_1), .int .i64 a0_2] 25 (0, 0))) ∧ Aside0 (Below w.heap.size w w'))
 case atStart => exact ⟨(a1), (a2), (a0_2), (by first | rfl | (simp; done) | (simp [*]; done)), (by first | rfl | (simp; done) | (simp [*]; done)), (by first | rfl | (simp; done) | (simp [*]; done)), H', ⟨Nat.le_refl _⟩, ⟨by (with_reducible repeat (first | refine blk_drewN ?_ _ | refine blk_drew ?_ | refine blk_alloc ?_ _)); exact BK207.out⟩, ⟨by with_reducible repeat (first | exact HB.out | apply below_alloc | apply pw_below_drewN | apply below_drew1 | refine below_set ?_ GE207.out)⟩⟩
 case round =>
  clear H'
  try clear p2
  try clear hcz5_0
  try clear hcz5_1
  try clear hcz5_2
  try clear hfz5_0
  try clear hfz5_1
  try clear hfz5_2
  obtain ⟨x1_1, x2_1, x7_1, rfl, rfl, rfl, HA, HK1, BK207, HB⟩ := hrel
  cases gk with
  | zero => exact absurd HA.out (by simp [spec_l14Leaf.l0])
  | succ k1 =>
   have H := HA.out
   clear HA
   simp only [spec_l14Leaf.l0] at H
   by_cases c6 : x1_1 ≥ 0
   ·rw [if_pos c6] at H
    have c6b0 : decide (0 ≤ x1_1) = true := decide_eq_true c6
    clear c6
    by_cases c7 : x7_1 > 1
    ·rw [if_pos c7] at H
     have c7b0 : decide (1 < x7_1) = true := decide_eq_true c7
     clear c7
     replace H := Option.bind_eq_some_iff.mp H
     obtain ⟨t208, A80, H⟩ := H
     replace H : (if 0 ≤ x1_1 then (if x1_1 < (l0_0.length : Int) then (if (wrap64 (Int.tdiv t208 4)) = 0 then (none) else (if 0 ≤ (wrap64 (Int.tdiv x2_1 (wrap64 (Int.tdiv t208 4)))) then (if (wrap64 (Int.tdiv x2_1 (wrap64 (Int.tdiv t208 4)))) < (((rd_T68 l0_0 x1_1).f2).length : Int) then (spec_l14Leaf.l0 k1 (rd ((rd_T68 l0_0 x1_1).f2) (wrap64 (Int.tdiv x2_1 (wrap64 (Int.tdiv t208 4))))) (Int.tmod x2_1 (wrap64 (Int.tdiv t208 4))) (wrap64 (x7_1 - 1)) l0_0 l0_1 a0_2) else (none)) else (none))) else (none)) else (none)) = some r := H
     have A8 := Aside0.mk A80
     clear A80
     by_cases c9 : 0 ≤ x1_1
     ·rw [if_pos c9] at H
      have c9b0 : decide (0 ≤ x1_1) = true := decide_eq_true c9
      clear c9
      by_cases c10 : x1_1 < (l0_0.length : Int)
      ·rw [if_pos c10] at H
       have c10b0 : decide (x1_1 < (l0_0.length : Int)) = true := decide_eq_true c10
       clear c10
       by_cases c11 : (wrap64 (Int.tdiv t208 4)) = 0
       ·rw [if_pos c11] at H
        exact absurd H (by simp)
       ·rw [if_neg c11] at H
        have c11b0 : ((wrap64 (Int.tdiv t208 4)) == 0) = false := beq_eq_false_iff_ne.mpr c11
        have c11b1 : ((wrap64 (Int.tdiv t208 4)) != 0) = true := bne_iff_ne.mpr c11
        obtain ⟨ji12, hji12⟩ : ∃ j_ : Int, (wrap64 (Int.tdiv x2_1 (wrap64 (Int.tdiv t208 4)))) = j_ := ⟨_, rfl⟩
        replace H : (if 0 ≤ (ji12) then (if (ji12) < (((rd_T68 l0_0 x1_1).f2).length : Int) then (spec_l14Leaf.l0 k1 (rd ((rd_T68 l0_0 x1_1).f2) (ji12)) (Int.tmod x2_1 (wrap64 (Int.tdiv t208 4))) (wrap64 (x7_1 - 1)) l0_0 l0_1 a0_2) else (none)) else (none)) = some r := by first | (rw [hji12] at H; exact H) | (simp only [hji12] at H ⊢; exact H)
        (try rw [hji12] at A8)
        have hji12w : (IntKind.i64.wrap (Int.tdiv x2_1 (wrap64 (Int.tdiv t208 4)))) = ji12 := (i64_w _).trans hji12
        by_cases c13 : 0 ≤ (ji12)
        ·rw [if_pos c13] at H
         have c13b0 : decide (0 ≤ (ji12)) = true := decide_eq_true c13
         clear c13
         by_cases c14 : (ji12) < (((rd_T68 l0_0 x1_1).f2).length : Int)
         ·rw [if_pos c14] at H
          have c14b0 : decide ((ji12) < (((rd_T68 l0_0 x1_1).f2).length : Int)) = true := decide_eq_true c14
          clear c14
          have H' := Aside0.mk H
          clear H
          go_wp2_with (first | (go_at_call 85; (with_reducible refine (spec_l14Size.calls k1 x7_1 t208 _ A8.out).mono ?_); rintro e w' ⟨rfl, ⟨nd, rfl⟩⟩; (try first | exact ⟨rfl, _, World.drewN_drewN _ _ _⟩ | exact ⟨rfl, _, Eq.trans (World.drewN_drewN _ _ _) (congrArg (World.drewN _) (Nat.add_assoc _ _ _))⟩); have hcz15_0 : wr.cell? ⟨gb207, 0, none⟩ = some (.slice A0_0 l0_0.length c0_0) := (blk_cell BK207.out 0).trans rfl; have hcz15_1 : wr.cell? ⟨gb207, 1, none⟩ = some (.slice A0_1 l0_1.length c0_1) := (blk_cell BK207.out 1).trans rfl; have hcz15_2 : wr.cell? ⟨gb207, 2, none⟩ = some (.int .i64 a0_2) := (blk_cell BK207.out 2).trans rfl; have hfz15_0 := blk_frozen BK207.out 0; have hfz15_1 := blk_frozen BK207.out 1; have hfz15_2 := blk_frozen BK207.out 2; have p209 : 0 ≤ (x1_1 : Int) := of_decide_eq_true (by assumption); have q209 : x1_1 < (l0_0.length : Int) := of_decide_eq_true (by assumption); obtain ⟨ad209, A209_2, c209_2, e209, hx209_0, hx209_1, hx209_2, hl209_2, hi209_2⟩ := at_T68 HR0_0.out x1_1 p209 q209; cases e209; replace hx209_0 := (HB.out.cell (World.block_lt_of_cell? w _ hx209_0)).trans hx209_0; replace hx209_1 := (HB.out.cell (World.block_lt_of_cell? w _ hx209_1)).trans hx209_1; replace hx209_2 := (HB.out.cell (World.block_lt_of_cell? w _ hx209_2)).trans hx209_2; have HR209_2 := Aside0.mk hi209_2; have HC209_2 := Aside0.mk hl209_2; clear hi209_2 hl209_2; replace p209 := eq_true p209; replace q209 := eq_true q209; have p210 : 0 ≤ ((ji12) : Int) := of_decide_eq_true (by assumption); have q210 : (ji12) < (((rd_T68 l0_0 x1_1).f2).length : Int) := of_decide_eq_true (by assumption); obtain ⟨ad210, e210, hx210_0⟩ := Kd.at_int HR209_2.out (ji12) p210 q210; cases e210; replace hx210_0 := (HB.out.cell (World.block_lt_of_cell? w _ hx210_0)).trans hx210_0; replace p210 := eq_true p210; replace q210 := eq_true q210))
          repeat (go_quiet (first | (go_at_call 85; (with_reducible refine (spec_l14Size.calls k1 x7_1 t208 _ A8.out).mono ?_); rintro e w' ⟨rfl, ⟨nd, rfl⟩⟩; (try first | exact ⟨rfl, _, World.drewN_drewN _ _ _⟩ | exact ⟨rfl, _, Eq.trans (World.drewN_drewN _ _ _) (congrArg (World.drewN _) (Nat.add_assoc _ _ _))⟩); have hcz15_0 : wr.cell? ⟨gb207, 0, none⟩ = some (.slice A0_0 l0_0.length c0_0) := (blk_cell BK207.out 0).trans rfl; have hcz15_1 : wr.cell? ⟨gb207, 1, none⟩ = some (.slice A0_1 l0_1.length c0_1) := (blk_cell BK207.out 1).trans rfl; have hcz15_2 : wr.cell? ⟨gb207, 2, none⟩ = some (.int .i64 a0_2) := (blk_cell BK207.out 2).trans rfl; have hfz15_0 := blk_frozen BK207.out 0; have hfz15_1 := blk_frozen BK207.out 1; have hfz15_2 := blk_frozen BK207.out 2; have p209 : 0 ≤ (x1_1 : Int) := of_decide_eq_true (by assumption); have q209 : x1_1 < (l0_0.length : Int) := of_decide_eq_true (by assumption); obtain ⟨ad209, A209_2, c209_2, e209, hx209_0, hx209_1, hx209_2, hl209_2, hi209_2⟩ := at_T68 HR0_0.out x1_1 p209 q209; cases e209; replace hx209_0 := (HB.out.cell (World.block_lt_of_cell? w _ hx209_0)).trans hx209_0; replace hx209_1 := (HB.out.cell (World.block_lt_of_cell? w _ hx209_1)).trans hx209_1; replace hx209_2 := (HB.out.cell (World.block_lt_of_cell? w _ hx209_2)).trans hx209_2; have HR209_2 := Aside0.mk hi209_2; have HC209_2 := Aside0.mk hl209_2; clear hi209_2 hl209_2; replace p209 := eq_true p209; replace q209 := eq_true q209; have p210 : 0 ≤ ((ji12) : Int) := of_decide_eq_true (by assumption); have q210 : (ji12) < (((rd_T68 l0_0 x1_1).f2).length : Int) := of_decide_eq_true (by assumption); obtain ⟨ad210, e210, hx210_0⟩ := Kd.at_int HR209_2.out (ji12) p210 q210; cases e210; replace hx210_0 := (HB.out.cell (World.block_lt_of_cell? w _ hx210_0)).trans hx210_0; replace p210 := eq_true p210; replace q210 := eq_true q210)); try go_wp2_with (first | (go_at_call 85; (with_reducible refine (spec_l14Size.calls k1 x7_1 t208 _ A8.out).mono ?_); rintro e w' ⟨rfl, ⟨nd, rfl⟩⟩; (try first | exact ⟨rfl, _, World.drewN_drewN _ _ _⟩ | exact ⟨rfl, _, Eq.trans (World.drewN_drewN _ _ _) (congrArg (World.drewN _) (Nat.add_assoc _ _ _))⟩); have hcz15_0 : wr.cell? ⟨gb207, 0, none⟩ = some (.slice A0_0 l0_0.length c0_0) := (blk_cell BK207.out 0).trans rfl; have hcz15_1 : wr.cell? ⟨gb207, 1, none⟩ = some (.slice A0_1 l0_1.length c0_1) := (blk_cell BK207.out 1).trans rfl; have hcz15_2 : wr.cell? ⟨gb207, 2, none⟩ = some (.int .i64 a0_2) := (blk_cell BK207.out 2).trans rfl; have hfz15_0 := blk_frozen BK207.out 0; have hfz15_1 := blk_frozen BK207.out 1; have hfz15_2 := blk_frozen BK207.out 2; have p209 : 0 ≤ (x1_1 : Int) := of_decide_eq_true (by assumption); have q209 : x1_1 < (l0_0.length : Int) := of_decide_eq_true (by assumption); obtain ⟨ad209, A209_2, c209_2, e209, hx209_0, hx209_1, hx209_2, hl209_2, hi209_2⟩ := at_T68 HR0_0.out x1_1 p209 q209; cases e209; replace hx209_0 := (HB.out.cell (World.block_lt_of_cell? w _ hx209_0)).trans hx209_0; replace hx209_1 := (HB.out.cell (World.block_lt_of_cell? w _ hx209_1)).trans hx209_1; replace hx209_2 := (HB.out.cell (World.block_lt_of_cell? w _ hx209_2)).trans hx209_2; have HR209_2 := Aside0.mk hi209_2; have HC209_2 := Aside0.mk hl209_2; clear hi209_2 hl209_2; replace p209 := eq_true p209; replace q209 := eq_true q209; have p210 : 0 ≤ ((ji12) : Int) := of_decide_eq_true (by assumption); have q210 : (ji12) < (((rd_T68 l0_0 x1_1).f2).length : Int) := of_decide_eq_true (by assumption); obtain ⟨ad210, e210, hx210_0⟩ := Kd.at_int HR209_2.out (ji12) p210 q210; cases e210; replace hx210_0 := (HB.out.cell (World.block_lt_of_cell? w _ hx210_0)).trans hx210_0; replace p210 := eq_true p210; replace q210 := eq_true q210)))
          go_roundg k1
          case measure => have := HK1.out; omega
          case rel => exact ⟨(rd ((rd_T68 l0_0 x1_1).f2) (ji12)), (Int.tmod x2_1 (wrap64 (Int.tdiv t208 4))), (wrap64 (x7_1 - 1)), (by first | rfl | (simp; done) | (simp only [← hji12] <;> (first | rfl | simp)) | (simp [*]; done)), (by first | rfl | (simp; done) | (simp [*]; done)), (by first | rfl | (simp; done) | (simp [*]; done)), H', ⟨by have := HK1.out; omega⟩, ⟨by (with_reducible repeat (first | refine blk_drewN ?_ _ | refine blk_drew ?_ | refine blk_alloc ?_ _)); exact BK207.out⟩, ⟨by with_reducible repeat (first | exact HB.out | apply below_alloc | apply pw_below_drewN | apply below_drew1 | refine below_set ?_ GE207.out)⟩⟩
         ·rw [if_neg c14] at H
          exact absurd H (by simp)
        ·rw [if_neg c13] at H
         exact absurd H (by simp)
      ·rw [if_neg c10] at H
       exact absurd H (by simp)
     ·rw [if_neg c9] at H
      exact absurd H (by simp)
    ·rw [if_neg c7] at H
     have c7b0 : decide (1 < x7_1) = false := decide_eq_false c7
     clear c7
     by_cases c16 : x1_1 < 0
     ·rw [if_pos c16] at H
      have c16b0 : decide (x1_1 < 0) = true := decide_eq_true c16
      clear c16
      obtain rfl := Option.some.inj H
      go_wp2
      repeat (go_quiet (fail); try go_wp2)
      go_ret
      exact ⟨by first | rfl | (simp [errW_none, errW_some] <;> rfl) | (simp [*, errW_none, errW_some] <;> rfl) | (simp [E.isEmpty_bne]; done) | (rw [E.bne_empty]), by with_reducible repeat (first | exact HB.out | apply below_alloc | apply pw_below_drewN | apply below_drew1 | refine below_set ?_ GE207.out)⟩
     ·rw [if_neg c16] at H
      have c16b0 : decide (x1_1 < 0) = false := decide_eq_false c16
      clear c16
      by_cases c17 : 0 ≤ x1_1
      ·rw [if_pos c17] at H
       have c17b0 : decide (0 ≤ x1_1) = true := decide_eq_true c17
       clear c17
       by_cases c18 : x1_1 < (l0_0.length : Int)
       ·rw [if_pos c18] at H
        have c18b0 : decide (x1_1 < (l0_0.length : Int)) = true := decide_eq_true c18
        clear c18
        obtain rfl := Option.some.inj H
        have hcz19_0 : wr.cell? ⟨gb207, 0, none⟩ = some (.slice A0_0 l0_0.length c0_0) := (blk_cell BK207.out 0).trans rfl
        have hcz19_1 : wr.cell? ⟨gb207, 1, none⟩ = some (.slice A0_1 l0_1.length c0_1) := (blk_cell BK207.out 1).trans rfl
        have hcz19_2 : wr.cell? ⟨gb207, 2, none⟩ = some (.int .i64 a0_2) := (blk_cell BK207.out 2).trans rfl
        have hfz19_0 := blk_frozen BK207.out 0
        have hfz19_1 := blk_frozen BK207.out 1
        have hfz19_2 := blk_frozen BK207.out 2
        have p211 : 0 ≤ (x1_1 : Int) := of_decide_eq_true (by assumption)
        have q211 : x1_1 < (l0_0.length : Int) := of_decide_eq_true (by assumption)
        obtain ⟨ad211, A211_2, c211_2, e211, hx211_0, hx211_1, hx211_2, hl211_2, hi211_2⟩ := at_T68 HR0_0.out x1_1 p211 q211
        cases e211
        replace hx211_0 := (HB.out.cell (World.block_lt_of_cell? w _ hx211_0)).trans hx211_0
        replace hx211_1 := (HB.out.cell (World.block_lt_of_cell? w _ hx211_1)).trans hx211_1
        replace hx211_2 := (HB.out.cell (World.block_lt_of_cell? w _ hx211_2)).trans hx211_2
        have HR211_2 := Aside0.mk hi211_2
        have HC211_2 := Aside0.mk hl211_2
        clear hi211_2 hl211_2
        replace p211 := eq_true p211
        replace q211 := eq_true q211
        go_wp2
        repeat (go_quiet (fail); try go_wp2)
        go_ret
        exact ⟨by first | rfl | (simp [errW_none, errW_some] <;> rfl) | (simp [*, errW_none, errW_some] <;> rfl) | (simp [E.isEmpty_bne]; done) | (rw [E.bne_empty]), by with_reducible repeat (first | exact HB.out | apply below_alloc | apply pw_below_drewN | apply below_drew1 | refine below_set ?_ GE207.out)⟩
       ·rw [if_neg c18] at H
        exact absurd H (by simp)
      ·rw [if_neg c17] at H
       exact absurd H (by simp)
   ·rw [if_neg c6] at H
    have c6b0 : decide (0 ≤ x1_1) = false := decide_eq_false c6
    clear c6
    by_cases c20 : x1_1 < 0
    ·rw [if_pos c20] at H
     have c20b0 : decide (x1_1 < 0) = true := decide_eq_true c20
     clear c20
     obtain rfl := Option.some.inj H
     go_wp2
     repeat (go_quiet (fail); try go_wp2)
     go_ret
     exact ⟨by first | rfl | (simp [errW_none, errW_some] <;> rfl) | (simp [*, errW_none, errW_some] <;> rfl) | (simp [E.isEmpty_bne]; done) | (rw [E.bne_empty]), by with_reducible repeat (first | exact HB.out | apply below_alloc | apply pw_below_drewN | apply below_drew1 | refine below_set ?_ GE207.out)⟩
    ·rw [if_neg c20] at H
     exact (c20 (by have h_ := of_decide_eq_false c6b0; omega)).elim
end Go.Proofs.Ytacfalpgmibfnaa.PCow
