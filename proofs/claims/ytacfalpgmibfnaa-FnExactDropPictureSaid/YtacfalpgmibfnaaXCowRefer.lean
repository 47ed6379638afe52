import Derived.StillTailTactics
import Derived.Test.YtacfalpgmibfnaaXCowLev
/-! isGoodCell of the program: a predicate handed to the library, the greatest of a row; walked by hand. -/
namespace Go.Proofs.Ytacfalpgmibfnaa.PCow
open Go.RowKit Go.Proofs.YtacfalpgmibfnaaW.PrintWords Go.Proofs.YtacfalpgmibfnaaW.PrintLast Go.Proofs.YtacfalpgmibfnaaW.PrintMore Go.Proofs.Ytacfalpgmibfnaa.E
set_option linter.unusedSimpArgs false
set_option linter.unusedVariables false
attribute [local go_sem] max2_int max_two
def isNum (n : Nat) (k : Int) : Bool := decide (-1 ≤ k ∧ k ≤ (n : Int) - 1)
theorem within_dec (a b c : Int) : impl_within.f a b c = some (decide (b ≤ a ∧ a ≤ c)) := by
  unfold impl_within.f
  by_cases h : a ≥ b
  · by_cases h2 : a ≤ c
    · simp [h, h2] <;> omega
    · simp [h, h2]
  · simp [h] <;> omega
set_option maxHeartbeats 1000000 in
set_option maxRecDepth 100000 in
theorem num_calls (A0 : Option Addr) (n c0 : Nat) (A1 : Option Addr) (n1 c1 : Nat) (a2 k : Int) (w : World) (hn : n ≤ 9223372036854775807) :
    Calls Try.prog 59 #[.agg #[.slice A0 n c0, .slice A1 n1 c1, .int .i64 a2], .int .i64 k] w fun e w' => e = .returned (.bool (isNum n k)) ∧ Below w.heap.size w w' := by
  have hu25 := Try.underlying25
  have hw := Aside0.mk (show impl_within.f k (-1) ((n : Int) - 1) = some (isNum n k) from within_dec k (-1) ((n : Int) - 1))
  go_enter Try.func59, Try.ntmps59
  go_wp2_with (go_at_call 45; refine (impl_within.calls k (-1) ((n : Int) - 1) _ _ hw.out).mono ?_)
  (first | rintro e w' rfl ⟨⟨nd, rfl⟩⟩ | rintro e w' ⟨rfl, ⟨⟨nd, rfl⟩⟩⟩)
  go_wp2
  go_ret
  exact ⟨rfl, pw_below_drewN ((Below.refl _ _).alloc (Nat.le_refl _) _) nd⟩
set_option maxHeartbeats 1000000 in
set_option maxRecDepth 100000 in
theorem bad_calls (b : Nat) (A0 : Option Addr) (n c0 : Nat) (A1 : Option Addr) (n1 c1 : Nat) (a2 k : Int) (w : World) (hn : n ≤ 9223372036854775807) (hb : w.heap[b]? = some (.cells #[.slice A0 n c0, .slice A1 n1 c1, .int .i64 a2] 25 (0, 0))) :
    Calls Try.prog 83 #[.int .i64 k, .pointer (some ⟨b, 0, none⟩)] w fun e w' => e = .returned (.bool (!isNum n k)) ∧ Below w.heap.size w w' := by
  have hu25 := Try.underlying25
  have e0 : w.cell? ⟨b, 0, none⟩ = some (.slice A0 n c0) := (blk_cell hb _).trans rfl
  have e1 : w.cell? ⟨b, 1, none⟩ = some (.slice A1 n1 c1) := (blk_cell hb _).trans rfl
  have e2 : w.cell? ⟨b, 2, none⟩ = some (.int .i64 a2) := (blk_cell hb _).trans rfl
  have hc := Aside0.mk (num_calls A0 n c0 A1 n1 c1 a2 k w hn)
  clear hb
  go_enter Try.func83, Try.ntmps83
  go_wp2_with (go_at_call 59; refine hc.out.mono ?_)
  (first | rintro e w' rfl hb | rintro e w' ⟨rfl, hb⟩)
  go_wp2
  go_ret
  exact ⟨rfl, hb⟩
def badKid (n : Nat) (ks : List Int) : Bool := ks.any fun k => !isNum n k
def IdxPost (n : Nat) (ks : List Int) (w : World) (e : Ending) (w' : World) : Prop := ∃ r : Int, e = .returned (.int .i64 r) ∧ decide (0 ≤ r) = badKid n ks ∧ Below w.heap.size w w'
set_option maxHeartbeats 1000000 in
set_option maxRecDepth 100000 in
theorem idx_calls (ks : List Int) (A : Option Addr) (c : Nat) (b : Nat) (A0 : Option Addr) (n c0 : Nat) (A1 : Option Addr) (n1 c1 : Nat) (a2 : Int) (w : World) (hn : n ≤ 9223372036854775807) (hb : w.heap[b]? = some (.cells #[.slice A0 n c0, .slice A1 n1 c1, .int .i64 a2] 25 (0, 0)))
    (hr : (Kd.int .i64).C w A ks.length ks) (hc : ks.length ≤ c) :
    Calls Try.prog 91 #[.slice A ks.length c, .func (.func 83) #[] #[.pointer (some ⟨b, 0, none⟩)]] w (IdxPost n ks w) := by
  have HR := Aside0.mk hr
  have HB := Aside0.mk hb
  have hk : ks.length ≤ 9223372036854775807 := hr.2.1
  clear hr hb
  go_enter Try.func91, Try.ntmps91
  go_wp2
  go_loopw [8] (fun i wr => ∃ q : Nat, q ≤ ks.length ∧ i = .int .i64 q ∧ Aside0 (badKid n (ks.take q) = false) ∧ Aside0 (Below w.heap.size w wr)) (fun i _ => ks.length - (intOf i).toNat)
  case atStart => exact ⟨0, Nat.zero_le _, rfl, ⟨rfl⟩, ⟨Below.refl _ _⟩⟩
  case round =>
    obtain ⟨q, hq, rfl, hT, B⟩ := hrel
    by_cases hql : q < ks.length
    · obtain ⟨ad2, e3, hy⟩ := Kd.at_int HR.out (q : Int) (by omega) (by omega)
      subst e3
      simp only [Int.toNat_natCast] at hy
      replace hy := pw_cell_below B.out hy
      obtain ⟨z, hz⟩ : ∃ z, rd ks (q : Int) = z := ⟨_, rfl⟩
      rw [hz] at hy
      have hqq : ((q : Int) < (ks.length : Int)) = True := eq_true (by omega)
      have hbt := Aside0.mk (show badKid n (ks.take (q + 1)) = (!isNum n z) by
        have er : rd ks (q : Int) = ks[q] := by
          unfold rd
          rw [List.getD_eq_getElem?_getD, Int.toNat_natCast, List.getElem?_eq_getElem hql]
          rfl
        have h1 := hT.out
        unfold badKid at h1 ⊢
        rw [List.take_succ_eq_append_getElem hql, List.any_append, h1, ← er, hz]
        simp)
      have hcall := Aside0.mk (bad_calls b A0 n c0 A1 n1 c1 a2 z wr hn (blk_below HB.out ⟨B.out.os, B.out.tape, B.out.output, B.out.size, B.out.block⟩))
      clear hz
      cases hnz : isNum n z with
      | true =>
        have hbt2 := Aside0.mk (show badKid n (ks.take (q + 1)) = false by rw [hbt.out, hnz]; rfl)
        rw [hnz] at hcall
        clear hbt hnz hT
        go_wp2_with (go_at_call 83; refine hcall.out.mono ?_)
        (first | rintro e w' rfl hb1 | rintro e w' ⟨rfl, hb1⟩)
        have B1 := Aside0.mk (below_then B.out B.out.size hb1)
        clear hb1 hcall
        go_wp2
        go_roundw
        case rel => exact ⟨q + 1, hql, by go_num, hbt2, B1⟩
        case measure => simp [intOf]; omega
      | false =>
        have hbad := Aside0.mk (show badKid n ks = true by
          have h1 := hbt.out
          rw [hnz] at h1
          unfold badKid at h1 ⊢
          obtain ⟨x, hx, hx2⟩ := List.any_eq_true.1 h1
          exact List.any_eq_true.2 ⟨x, List.mem_of_mem_take hx, hx2⟩)
        rw [hnz] at hcall
        clear hbt hnz hT
        go_wp2_with (go_at_call 83; refine hcall.out.mono ?_)
        (first | rintro e w' rfl hb1 | rintro e w' ⟨rfl, hb1⟩)
        have B1 := Aside0.mk (below_then B.out B.out.size hb1)
        clear hb1 hcall
        go_wp2
        go_ret
        exact ⟨q, rfl, by rw [hbad.out]; simp, B1.out⟩
    · have hqq : ((q : Int) < (ks.length : Int)) = False := eq_false (by omega)
      have hbad := Aside0.mk (show badKid n ks = false by
        have h1 := hT.out
        rwa [List.take_of_length_le (by omega)] at h1)
      clear hql hq hT
      go_wp2
      go_ret
      exact ⟨-1, rfl, by rw [hbad.out]; rfl, B.out⟩
set_option maxHeartbeats 1000000 in
set_option maxRecDepth 100000 in
theorem contains_calls (ks : List Int) (A : Option Addr) (c : Nat) (b : Nat) (A0 : Option Addr) (n c0 : Nat) (A1 : Option Addr) (n1 c1 : Nat) (a2 : Int) (w : World) (hn : n ≤ 9223372036854775807) (hb : w.heap[b]? = some (.cells #[.slice A0 n c0, .slice A1 n1 c1, .int .i64 a2] 25 (0, 0)))
    (hr : (Kd.int .i64).C w A ks.length ks) (hc : ks.length ≤ c) :
    Calls Try.prog 82 #[.slice A ks.length c, .func (.func 83) #[] #[.pointer (some ⟨b, 0, none⟩)]] w fun e w' => e = .returned (.bool (badKid n ks)) ∧ Below w.heap.size w w' := by
  have hcall := Aside0.mk (idx_calls ks A c b A0 n c0 A1 n1 c1 a2 w hn hb hr hc)
  clear hb hr
  go_enter Try.func82, Try.ntmps82
  go_wp2_with (go_at_call 91; refine hcall.out.mono ?_)
  rintro e w' ⟨r, rfl, hr, hb⟩
  go_wp2
  go_ret
  exact ⟨rfl, hb⟩
def maxOf (m : Int) (ks : List Int) : Int := ks.foldl (fun m x => if m < x then x else m) m
theorem maxOf_ge (ks : List Int) : ∀ m : Int, (0 ≤ maxOf m ks ↔ 0 ≤ m ∨ someKid ks = true) := by
  induction ks with
  | nil => intro m; simp [maxOf, someKid]
  | cons k r ih =>
    intro m
    have e : maxOf m (k :: r) = maxOf (if m < k then k else m) r := rfl
    have e2 : someKid (k :: r) = (decide (k ≥ 0) || someKid r) := rfl
    rw [e, ih, e2]
    simp only [Bool.or_eq_true, decide_eq_true_eq]
    have h0 : (0 ≤ (if m < k then k else m)) ↔ (0 ≤ m ∨ 0 ≤ k) := by split <;> omega
    rw [h0, or_assoc]
set_option maxHeartbeats 1000000 in
set_option maxRecDepth 100000 in
theorem max_calls (ks : List Int) (A : Option Addr) (c : Nat) (w : World) (hr : (Kd.int .i64).C w A ks.length ks) (hc : ks.length ≤ c) (h4 : ks.length = 4) :
    Calls Try.prog 84 #[.slice A ks.length c] w fun e w' => (∃ m : Int, e = .returned (.int .i64 m) ∧ decide (0 ≤ m) = someKid ks) ∧ w = w' := by
  obtain ⟨k0, k1, k2, k3, rfl⟩ : ∃ a b c d, ks = [a, b, c, d] := by
    match ks, h4 with
    | [a, b, c, d], _ => exact ⟨a, b, c, d, rfl⟩
  have g0 := Kd.at_int hr 0 (by omega) (by simp)
  have g1 := Kd.at_int hr 1 (by omega) (by simp)
  have g2 := Kd.at_int hr 2 (by omega) (by simp)
  have g3 := Kd.at_int hr 3 (by omega) (by simp)
  obtain ⟨ad, rfl, g0⟩ := g0
  obtain ⟨_, e1, g1⟩ := g1
  cases e1
  obtain ⟨_, e1, g2⟩ := g2
  cases e1
  obtain ⟨_, e1, g3⟩ := g3
  cases e1
  have x0 : w.cell? ad = some (.int .i64 k0) := by
    have := g0
    rw [show (0 : Int).toNat = 0 from rfl, show ad.add 0 = ad by simp [Addr.add]] at this
    exact this
  have x1 : w.cell? ⟨ad.block, ad.off + 1, none⟩ = some (.int .i64 k1) := by
    have := g1
    rwa [show ad.add (1 : Int).toNat = ⟨ad.block, ad.off + 1, none⟩ from by simp [Addr.add]] at this
  have x2 : w.cell? ⟨ad.block, ad.off + 2, none⟩ = some (.int .i64 k2) := by
    have := g2
    rwa [show ad.add (2 : Int).toNat = ⟨ad.block, ad.off + 2, none⟩ from by simp [Addr.add]] at this
  have x3 : w.cell? ⟨ad.block, ad.off + 3, none⟩ = some (.int .i64 k3) := by
    have := g3
    rwa [show ad.add (3 : Int).toNat = ⟨ad.block, ad.off + 3, none⟩ from by simp [Addr.add]] at this
  have x0' : w.cell? (ad.add 0) = some (.int .i64 k0) := g0
  clear g0 g1 g2 g3 hr h4
  simp only [List.length_cons, List.length_nil] at hc ⊢
  go_enter Try.func84, Try.ntmps84
  go_wp2
  go_loop [3, 4] (fun m i => ∃ q : Nat, 1 ≤ q ∧ q ≤ 4 ∧ i = .int .i64 q ∧ m = .int .i64 (maxOf k0 ([k1, k2, k3].take (q - 1)))) (fun _ i => 4 - (intOf i).toNat)
  case atStart => exact ⟨1, Nat.le_refl _, by omega, rfl, rfl⟩
  case round =>
    obtain ⟨q, hq1, hq, rfl, rfl⟩ := hrel
    rcases (show q = 1 ∨ q = 2 ∨ q = 3 ∨ q = 4 by omega) with rfl | rfl | rfl | rfl
    · go_wp2
      go_round
      case rel => exact ⟨2, by omega, by omega, rfl, rfl⟩
      case measure => simp [intOf]
    · go_wp2
      go_round
      case rel => exact ⟨3, by omega, by omega, rfl, rfl⟩
      case measure => simp [intOf]
    · go_wp2
      go_round
      case rel => exact ⟨4, by omega, by omega, rfl, rfl⟩
      case measure => simp [intOf]
    · go_wp2
      go_ret
      refine ⟨⟨_, rfl, ?_⟩, rfl⟩
      have h := maxOf_ge [k1, k2, k3] k0
      have e2 : someKid [k0, k1, k2, k3] = (decide (k0 ≥ 0) || someKid [k1, k2, k3]) := rfl
      rw [e2]
      by_cases h0 : 0 ≤ maxOf k0 [k1, k2, k3]
      · have h1 := h.1 h0
        rw [decide_eq_true h0]
        rcases h1 with h1 | h1
        · simp [h1]
        · simp [h1]
      · have h1 := fun x => h0 (h.2 x)
        rw [decide_eq_false h0]
        have h2 : ¬ 0 ≤ k0 := fun x => h1 (.inl x)
        have h3 : someKid [k1, k2, k3] = false := by
          cases h4 : someKid [k1, k2, k3] with
          | true => exact absurd (.inr h4) h1
          | false => rfl
        simp [h2, h3]
def goodB (n : Nat) (x : S68) (lev : Int) : Bool :=
  if lev = 1 then (if 1 ≤ (x.f1.size : Int) ∧ (x.f1.size : Int) ≤ 8 then decide (x.f2.length = 0) else false)
  else if x.f1.size = 0 then (if (x.f2.length : Int) = 4 then (if badKid n x.f2 = true then false else someKid x.f2) else false) else false
set_option maxHeartbeats 2000000 in
set_option maxRecDepth 100000 in
theorem cell_calls (A0 : Option Addr) (n c0 : Nat) (A1 : Option Addr) (n1 c1 : Nat) (a2 : Int) (x : S68) (A2 : Option Addr) (c2 : Nat) (lev : Int) (w : World) (hn : n ≤ 9223372036854775807) (hr : (Kd.int .i64).C w A2 x.f2.length x.f2) (hc : x.f2.length ≤ c2) :
    Calls Try.prog 60 #[.agg #[.slice A0 n c0, .slice A1 n1 c1, .int .i64 a2], .agg #[.int .i64 x.f0, .string x.f1, .slice A2 x.f2.length c2], .int .i64 lev] w fun e w' => e = .returned (.bool (goodB n x lev)) ∧ Below w.heap.size w w' := by
  have hu25 := Try.underlying25
  have hu68 := Try.underlying68
  have HR := Aside0.mk hr
  have hx2 : x.f2.length ≤ 9223372036854775807 := hr.2.1
  obtain ⟨r, hG⟩ : ∃ r, goodB n x lev = r := ⟨_, rfl⟩
  rw [hG]
  have HG := Aside0.mk hG
  clear hr hG
  have bel : Aside0 (∀ o o', Below w.heap.size w ((w.alloc o).alloc o')) := ⟨fun o o' => ((Below.refl _ _).alloc (Nat.le_refl _) _).alloc (by simp) _⟩
  by_cases hl : lev = 1
  · subst hl
    have hw := Aside0.mk (within_dec (x.f1.size : Int) 1 8)
    by_cases h8 : 1 ≤ (x.f1.size : Int) ∧ (x.f1.size : Int) ≤ 8
    · rw [decide_eq_true h8] at hw
      have hg2 := HG.out
      unfold goodB at hg2
      rw [if_pos rfl, if_pos h8] at hg2
      by_cases h0 : x.f2.length = 0
      · rw [decide_eq_true h0] at hg2
        subst hg2
        have hz : ((x.f2.length : Int) == 0) = true := by simp [h0]
        have hz' : ((x.f2.length : Int) = 0) = True := eq_true (by omega)
        clear h8 h0
        go_enter Try.func60, Try.ntmps60
        go_wp2_with (go_at_call 45; refine (impl_within.calls _ 1 8 _ _ hw.out).mono ?_)
        (first | rintro e w' rfl ⟨⟨nd, rfl⟩⟩ | rintro e w' ⟨rfl, ⟨⟨nd, rfl⟩⟩⟩)
        go_wp2
        go_ret
        exact ⟨rfl, pw_below_drewN (bel.out _ _) nd⟩
      · rw [decide_eq_false h0] at hg2
        subst hg2
        have hz : ((x.f2.length : Int) == 0) = false := beq_eq_false_iff_ne.2 (by omega)
        have hz' : ((x.f2.length : Int) = 0) = False := eq_false (by omega)
        clear h8 h0
        go_enter Try.func60, Try.ntmps60
        go_wp2_with (go_at_call 45; refine (impl_within.calls _ 1 8 _ _ hw.out).mono ?_)
        (first | rintro e w' rfl ⟨⟨nd, rfl⟩⟩ | rintro e w' ⟨rfl, ⟨⟨nd, rfl⟩⟩⟩)
        go_wp2
        go_ret
        exact ⟨rfl, pw_below_drewN (bel.out _ _) nd⟩
    · rw [decide_eq_false h8] at hw
      have hg2 := HG.out
      unfold goodB at hg2
      rw [if_pos rfl, if_neg h8] at hg2
      subst hg2
      clear h8
      go_enter Try.func60, Try.ntmps60
      go_wp2_with (go_at_call 45; refine (impl_within.calls _ 1 8 _ _ hw.out).mono ?_)
      (first | rintro e w' rfl ⟨⟨nd, rfl⟩⟩ | rintro e w' ⟨rfl, ⟨⟨nd, rfl⟩⟩⟩)
      go_wp2
      go_ret
      exact ⟨rfl, pw_below_drewN (bel.out _ _) nd⟩
  · have hl1 : (lev == 1) = false := beq_eq_false_iff_ne.2 hl
    have hl2 : (lev = 1) = False := eq_false hl
    have hg2 := HG.out
    unfold goodB at hg2
    rw [if_neg hl] at hg2
    clear hl
    by_cases h6 : x.f1.size = 0
    · have h7 : (x.f1.toList = []) = True := eq_true (ba_nil.2 h6)
      have h8 : x.f1.toList.isEmpty = true := by rw [ba_nil.2 h6]; rfl
      rw [if_pos h6] at hg2
      clear h6
      by_cases h5 : (x.f2.length : Int) = 4
      · rw [if_pos h5] at hg2
        have h5' : ((x.f2.length : Int) == 4) = true := by simpa using h5
        have h5'' : ((x.f2.length : Int) = 4) = True := eq_true h5
        have HF := Aside0.mk (show x.f2.length = 4 by omega)
        clear h5
        have hcon : ∀ W, Below ((w.alloc (.cells #[.slice A0 n c0, .slice A1 n1 c1, .int .i64 a2] 25)).alloc (.cells #[.int .i64 x.f0, .string x.f1, .slice A2 x.f2.length c2] 68)).heap.size ((w.alloc (.cells #[.slice A0 n c0, .slice A1 n1 c1, .int .i64 a2] 25)).alloc (.cells #[.int .i64 x.f0, .string x.f1, .slice A2 x.f2.length c2] 68)) W → True := fun _ _ => trivial
        clear hcon
        have hcont := Aside0.mk (contains_calls x.f2 A2 c2 w.heap.size A0 n c0 A1 n1 c1 a2 ((w.alloc (.cells #[.slice A0 n c0, .slice A1 n1 c1, .int .i64 a2] 25)).alloc (.cells #[.int .i64 x.f0, .string x.f1, .slice A2 x.f2.length c2] 68)) hn (blk_alloc (heap_alloc_new w _) _) (Kd.C_alloc (Kd.C_alloc HR.out _) _) hc)
        cases hb : badKid n x.f2 with
        | true =>
          rw [hb, if_pos rfl] at hg2
          rw [hb] at hcont
          subst hg2
          clear hb
          go_enter Try.func60, Try.ntmps60
          go_wp2_with (go_at_call 82; (with_reducible refine hcont.out.mono ?_))
          (first | rintro e w' rfl hb1 | rintro e w' ⟨rfl, hb1⟩)
          go_wp2
          go_ret
          exact ⟨rfl, below_then (bel.out _ _) (by simp; omega) hb1⟩
        | false =>
          rw [hb, if_neg (by simp)] at hg2
          rw [hb] at hcont
          clear hb
          go_enter Try.func60, Try.ntmps60
          go_wp2_with (go_at_call 82; (with_reducible refine hcont.out.mono ?_))
          (first | rintro e w' rfl hb1 | rintro e w' ⟨rfl, hb1⟩)
          have Y1 := Aside0.mk (blk_below (heap_alloc_new (w.alloc (.cells #[.slice A0 n c0, .slice A1 n1 c1, .int .i64 a2] 25)) (.cells #[.int .i64 x.f0, .string x.f1, .slice A2 x.f2.length c2] 68)) hb1)
          have B1 := Aside0.mk (below_then (bel.out (.cells #[.slice A0 n c0, .slice A1 n1 c1, .int .i64 a2] 25) (.cells #[.int .i64 x.f0, .string x.f1, .slice A2 x.f2.length c2] 68)) (by simp; omega) hb1)
          have C1 := Aside0.mk (Kd.C_below HR.out B1.out)
          have y2 : w'.cell? ⟨(w.alloc (.cells #[.slice A0 n c0, .slice A1 n1 c1, .int .i64 a2] 25)).heap.size, 2, none⟩ = some (.slice A2 x.f2.length c2) := (blk_cell Y1.out _).trans rfl
          rw [show (w.alloc (.cells #[.slice A0 n c0, .slice A1 n1 c1, .int .i64 a2] 25)).heap.size = w.heap.size + 1 from by simp] at y2
          clear hb1 hcont
          go_wp2_with (go_at_call 84; (with_reducible refine (max_calls x.f2 A2 c2 _ C1.out hc HF.out).mono ?_))
          rintro e w5 ⟨⟨m, rfl, hm⟩, rfl⟩
          rw [hg2] at hm
          clear hg2
          go_wp2
          go_ret
          exact ⟨rfl, B1.out⟩
      · rw [if_neg h5] at hg2
        have h5' : ((x.f2.length : Int) == 4) = false := beq_eq_false_iff_ne.2 h5
        have h5'' : ((x.f2.length : Int) = 4) = False := eq_false h5
        subst hg2
        clear h5
        go_enter Try.func60, Try.ntmps60
        go_wp2
        go_ret
        exact ⟨rfl, bel.out _ _⟩
    · have h7 : (x.f1.toList = []) = False := eq_false (fun h9 => h6 (ba_nil.1 h9))
      have h8 : x.f1.toList.isEmpty = false := by
        cases h9 : x.f1.toList with
        | nil => exact absurd (ba_nil.1 h9) h6
        | cons a b => rfl
      rw [if_neg h6] at hg2
      subst hg2
      clear h6
      go_enter Try.func60, Try.ntmps60
      go_wp2
      go_ret
      exact ⟨rfl, bel.out _ _⟩
end Go.Proofs.Ytacfalpgmibfnaa.PCow

/-! The closure of GoodCow that takes a reference: what it counts, which level it notes, what it puts in line; walked by hand. -/
namespace Go.Proofs.Ytacfalpgmibfnaa.PCow
open Go.RowKit Go.Proofs.YtacfalpgmibfnaaW.PrintWords Go.Proofs.YtacfalpgmibfnaaW.PrintLast Go.Proofs.YtacfalpgmibfnaaW.PrintMore Go.Proofs.Ytacfalpgmibfnaa.E
set_option linter.unusedSimpArgs false
set_option linter.unusedVariables false
abbrev RI (w0 w : World) (v : Value) (xs : List Int) : Prop := (Kd.int .i64).R 3 w w0.heap.size (fun _ => True) v xs
/-- What stands in memory while references are taken. -/
structure RS (w0 : World) (gb bc bl bn : Nat) (box : Array Value) (vc vl : Value) (w : World) (cnt lev line : List Int) : Prop where
  below : Below w0.heap.size w0 w
  box_ : w.heap[gb]? = some (.cells box 25 (0, 0))
  cb : w.heap[bc]? = some (.cells #[vc] 23 (0, 0))
  lb : w.heap[bl]? = some (.cells #[vl] 23 (0, 0))
  nb : ∃ vn, w.heap[bn]? = some (.cells #[vn] 23 (0, 0)) ∧ RI w0 w vn line ∧ NeRow vc vn ∧ NeRow vl vn
  rc : RI w0 w vc cnt
  rl : RI w0 w vl lev
  ne : NeRow vc vl
  at_ : bc ≠ bl ∧ bc ≠ bn ∧ bl ≠ bn ∧ w0.heap.size ≤ bc ∧ w0.heap.size ≤ bl ∧ w0.heap.size ≤ bn
section
variable {g n c : Nat} {w0 : World} {gb bc bl bn : Nat} {box : Array Value} {vc vl : Value} {w w' : World} {cnt lev line : List Int}
theorem RI_far {v : Value} {xs : List Int} (h : RI w0 w v xs) {p : Addr} (hne : some p.block ≠ v.ownBlock) (u : Value) : RI w0 (w.setCell p u) v xs := Kd.R_of_own (own_setCell (Kd.own_of_R h) hne u) (fun _ _ => trivial)
theorem RI_other {v : Value} {xs : List Int} (h : RI w0 w v xs) {row : Option Nat} (hg : w.grownBy w' row) (hne : v.ownBlock = none ∨ v.ownBlock ≠ row) : RI w0 w' v xs := Kd.R_of_own (own_other (Kd.own_of_R h) hg hne) (fun _ _ => trivial)
theorem RI_blk {v : Value} {xs : List Int} (h : RI w0 w v xs) {g t : Nat} {cs : Array Value} (hb : w.heap[g]? = some (.cells cs t (0, 0))) (ht : 3 ≠ t) : some g ≠ v.ownBlock := Kd.R_ne h hb ht
theorem RS.below_ (h : RS w0 gb bc bl bn box vc vl w cnt lev line) (hb : Below w.heap.size w w') : RS w0 gb bc bl bn box vc vl w' cnt lev line := by
  obtain ⟨vn, h1, h2, h3⟩ := h.nb
  exact ⟨below_then h.below h.below.size hb, blk_below h.box_ hb, blk_below h.cb hb, blk_below h.lb hb, ⟨vn, blk_below h1 hb, Kd.R_below h2 hb, h3⟩, Kd.R_below h.rc hb, Kd.R_below h.rl hb, h.ne, h.at_⟩
theorem RS.putC (h : RS w0 gb bc bl bn box (.slice (some ⟨g, 0, none⟩) n c) vl w cnt lev line) (i x : Int) : RS w0 gb bc bl bn box (.slice (some ⟨g, 0, none⟩) n c) vl (w.setCell ⟨g, i.toNat, none⟩ (.int .i64 x)) (cnt.set i.toNat x) lev line := by
  obtain ⟨vn, h1, h2, h3, h4⟩ := h.nb
  have e : (Value.slice (some ⟨g, 0, none⟩) n c).ownBlock = some g := by simp [Value.ownBlock]
  have hg := Kd.R_base h.rc g e
  refine ⟨below_set h.below hg, blk_far h.box_ (fun q => RI_blk h.rc h.box_ (by decide) (by rw [e, q])) _, blk_far h.cb (fun q => RI_blk h.rc h.cb (by decide) (by rw [e, q])) _, blk_far h.lb (fun q => RI_blk h.rc h.lb (by decide) (by rw [e, q])) _,
    ⟨vn, blk_far h1 (fun q => RI_blk h.rc h1 (by decide) (by rw [e, q])) _, RI_far h2 (fun q => h3 g e q.symm) _, h3, h4⟩, Kd.R_putn h.rc i x, RI_far h.rl (fun q => h.ne g e q.symm) _, h.ne, h.at_⟩
theorem RS.putL (h : RS w0 gb bc bl bn box vc (.slice (some ⟨g, 0, none⟩) n c) w cnt lev line) (i x : Int) : RS w0 gb bc bl bn box vc (.slice (some ⟨g, 0, none⟩) n c) (w.setCell ⟨g, i.toNat, none⟩ (.int .i64 x)) cnt (lev.set i.toNat x) line := by
  obtain ⟨vn, h1, h2, h3, h4⟩ := h.nb
  have e : (Value.slice (some ⟨g, 0, none⟩) n c).ownBlock = some g := by simp [Value.ownBlock]
  have hg := Kd.R_base h.rl g e
  refine ⟨below_set h.below hg, blk_far h.box_ (fun q => RI_blk h.rl h.box_ (by decide) (by rw [e, q])) _, blk_far h.cb (fun q => RI_blk h.rl h.cb (by decide) (by rw [e, q])) _, blk_far h.lb (fun q => RI_blk h.rl h.lb (by decide) (by rw [e, q])) _,
    ⟨vn, blk_far h1 (fun q => RI_blk h.rl h1 (by decide) (by rw [e, q])) _, RI_far h2 (fun q => h4 g e q.symm) _, h3, h4⟩, RI_far h.rc (fun q => (ne_symm h.ne) g e q.symm) _, Kd.R_putn h.rl i x, h.ne, h.at_⟩
/-- The line, told anew: its row was appended to, its variable set. -/
theorem RS.line_ (h : RS w0 gb bc bl bn box vc vl w cnt lev line) {vn v1 : Value} {w1 : World} {line1 : List Int} (hn : w.heap[bn]? = some (.cells #[vn] 23 (0, 0))) (hnr : RI w0 w vn line) (hc : NeRow vc vn) (hl : NeRow vl vn)
    (hg : w.grownBy w1 vn.ownBlock) (hb : Below w0.heap.size w0 w1) (hat : v1.ownBlock = vn.ownBlock ∨ ∃ b, v1.ownBlock = some b ∧ w.heap.size ≤ b) (hr : RI w0 w1 v1 line1) :
    RS w0 gb bc bl bn box vc vl (w1.setCell ⟨bn, 0, none⟩ v1) cnt lev line1 := by
  have k1 := blk_grown h.box_ hg (RI_blk hnr h.box_ (by decide))
  have k2 := blk_grown h.cb hg (RI_blk hnr h.cb (by decide))
  have k3 := blk_grown h.lb hg (RI_blk hnr h.lb (by decide))
  have k4 := blk_grown hn hg (RI_blk hnr hn (by decide))
  have r1 := RI_other h.rc hg (ne_other (ne_symm hc))
  have r2 := RI_other h.rl hg (ne_other (ne_symm hl))
  have o1 := RI_blk r1 k4 (by decide)
  have o2 := RI_blk r2 k4 (by decide)
  have o3 := RI_blk hr k4 (by decide)
  refine ⟨below_set hb h.at_.2.2.2.2.2, blk_far k1 (blk_ne k1 k4 (by decide)) _, blk_far k2 h.at_.2.1 _, blk_far k3 h.at_.2.2.1 _, ⟨v1, ?_, RI_far hr o3 _, ne_append' hc hat (Kd.own_of_R h.rc), ne_append' hl hat (Kd.own_of_R h.rl)⟩, RI_far r1 o1 _, RI_far r2 o2 _, h.ne, h.at_⟩
  have := blk_set k4 0 v1
  simpa using this
def referM (C : List S68) (k own : Int) (cnt lev line : List Int) : Bool × List Int × List Int × List Int :=
  if isNum C.length k = true then
    (if k < 0 then (true, cnt, lev, line)
     else if rd lev k = 0 then (goodB C.length (rd_T68 C k) own, cnt.set k.toNat (wrap64 (rd cnt k + 1)), lev.set k.toNat own, line ++ [k])
     else (decide (rd lev k = own), cnt.set k.toNat (wrap64 (rd cnt k + 1)), lev, line))
  else (false, cnt, lev, line)
end
set_option maxHeartbeats 2000000 in
set_option maxRecDepth 100000 in
theorem refer_calls (C : List S68) (w0 : World) (gb bc bl bn : Nat) (A0 : Option Addr) (c0 : Nat) (A1 : Option Addr) (n1 c1 : Nat) (a2 : Int) (vc vl : Value) (w : World) (cnt lev line : List Int) (k own : Int)
    (hr : Kd.C k68 w0 A0 C.length C) (h : RS w0 gb bc bl bn #[.slice A0 C.length c0, .slice A1 n1 c1, .int .i64 a2] vc vl w cnt lev line) (h1 : cnt.length = C.length) (h2 : lev.length = C.length) (h3 : line.length ≤ 1000000000) :
    Calls Try.prog 58 #[.int .i64 k, .int .i64 own, .pointer (some ⟨gb, 0, none⟩), .pointer (some ⟨bc, 0, none⟩), .pointer (some ⟨bl, 0, none⟩), .pointer (some ⟨bn, 0, none⟩)] w fun e w' => e = .returned (.bool (referM C k own cnt lev line).1) ∧ RS w0 gb bc bl bn #[.slice A0 C.length c0, .slice A1 n1 c1, .int .i64 a2] vc vl w' (referM C k own cnt lev line).2.1 (referM C k own cnt lev line).2.2.1 (referM C k own cnt lev line).2.2.2 := by
  have hu25 := Try.underlying25
  have hu68 := Try.underlying68
  have hn : C.length ≤ 9223372036854775807 := hr.2.1
  have HR := Aside0.mk hr
  have H := Aside0.mk h
  have H1 := Aside0.mk h1
  have H2 := Aside0.mk h2
  have H3 := Aside0.mk h3
  have e0 : w.cell? ⟨gb, 0, none⟩ = some (.slice A0 C.length c0) := (blk_cell H.out.box_ _).trans rfl
  have e1 : w.cell? ⟨gb, 1, none⟩ = some (.slice A1 n1 c1) := (blk_cell H.out.box_ _).trans rfl
  have e2 : w.cell? ⟨gb, 2, none⟩ = some (.int .i64 a2) := (blk_cell H.out.box_ _).trans rfl
  have hnum := Aside0.mk (num_calls A0 C.length c0 A1 n1 c1 a2 k w hn)
  clear hr h h1 h2 h3
  by_cases hk : isNum C.length k = true
  · by_cases hneg : k < 0
    · have er : referM C k own cnt lev line = (true, cnt, lev, line) := by unfold referM; rw [if_pos hk, if_pos hneg]
      rw [er]
      rw [hk] at hnum
      have hd : decide (k < 0) = true := decide_eq_true hneg
      clear hk hneg er
      go_enter Try.func58, Try.ntmps58
      go_wp2_with (go_at_call 59; (with_reducible refine hnum.out.mono ?_))
      (first | rintro e w' rfl hb1 | rintro e w' ⟨rfl, hb1⟩)
      have HS := Aside0.mk (H.out.below_ hb1)
      clear hb1
      go_wp2
      go_ret
      exact ⟨rfl, HS.out⟩
    · have hk2 : k ≤ (C.length : Int) - 1 := by
        unfold isNum at hk
        have := of_decide_eq_true hk
        omega
      obtain ⟨x, hx⟩ : ∃ x, rd_T68 C k = x := ⟨_, rfl⟩
      obtain ⟨v, hv⟩ : ∃ v, wrap64 (rd cnt k + 1) = v := ⟨_, rfl⟩
      have p1 : (0 ≤ k) = True := eq_true (by omega)
      have hd : decide (k < 0) = false := decide_eq_false hneg
      have p2 : (k < (C.length : Int)) = True := eq_true (by omega)
      have p3 : (k < (cnt.length : Int)) = True := eq_true (by have := H1.out; omega)
      have p4 : (k < (lev.length : Int)) = True := eq_true (by have := H2.out; omega)
      obtain ⟨gc, cc, hvc, hgc1, hgc2, csc, hgcb⟩ := Kd.R_form H.out.rc (by have := H1.out; omega)
      obtain ⟨gl, cl, hvl, hgl1, hgl2, csl, hglb⟩ := Kd.R_form H.out.rl (by have := H2.out; omega)
      subst hvc
      subst hvl
      rw [hk] at hnum
      have HB0 := Aside0.mk (show 0 ≤ k ∧ k ≤ (C.length : Int) - 1 by omega)
      obtain ⟨ad, A2, c2, hA0, hx0, hx1, hx2, hxl, hxC⟩ := at_T68 HR.out k HB0.out.1 (by have := HB0.out; omega)
      subst hA0
      rw [hx] at hx0 hx1 hx2 hxl hxC
      have X0 := Aside0.mk hx0
      have X1 := Aside0.mk hx1
      have X2 := Aside0.mk hx2
      have XC := Aside0.mk hxC
      clear hx0 hx1 hx2 hxC
      by_cases hz : rd lev k = 0
      · have er : referM C k own cnt lev line = (goodB C.length x own, cnt.set k.toNat v, lev.set k.toNat own, line ++ [k]) := by unfold referM; rw [if_pos hk, if_neg hneg, if_pos hz, hx, hv]
        rw [er]
        clear hk hneg er
        go_enter Try.func58, Try.ntmps58
        go_wp2_with (go_at_call 59; (with_reducible refine hnum.out.mono ?_))
        (first | rintro e w1 rfl hb1 | rintro e w1 ⟨rfl, hb1⟩)
        have S1 := Aside0.mk (H.out.below_ hb1)
        clear hb1 hnum H e0 e1 e2
        have c1' : w1.cell? ⟨bc, 0, none⟩ = some (.slice (some ⟨gc, 0, none⟩) cnt.length cc) := (blk_cell S1.out.cb _).trans rfl
        have c2' : w1.cell? ⟨gc, k.toNat, none⟩ = some (.int .i64 (rd cnt k)) := (Kd.R_celln (d := (0 : Int)) S1.out.rc k HB0.out.1 (by have := H1.out; have := HB0.out; omega)).1
        have c3' : w1.frozen? ⟨gc, k.toNat, none⟩ = false := (Kd.R_celln (d := (0 : Int)) S1.out.rc k HB0.out.1 (by have := H1.out; have := HB0.out; omega)).2
        obtain ⟨w2, hw2, hS2⟩ : ∃ w2, w1.setCell ⟨gc, k.toNat, none⟩ (.int .i64 v) = w2 ∧ RS w0 gb bc bl bn #[.slice (some ad) C.length c0, .slice A1 n1 c1, .int .i64 a2] (.slice (some ⟨gc, 0, none⟩) cnt.length cc) (.slice (some ⟨gl, 0, none⟩) lev.length cl) w2 (cnt.set k.toNat v) lev line := ⟨_, rfl, S1.out.putC k v⟩
        have S2 := Aside0.mk hS2
        clear hS2
        have d1 : w2.cell? ⟨bl, 0, none⟩ = some (.slice (some ⟨gl, 0, none⟩) lev.length cl) := (blk_cell S2.out.lb _).trans rfl
        have d2 : w2.cell? ⟨gl, k.toNat, none⟩ = some (.int .i64 0) := by
          have := (Kd.R_celln (d := (0 : Int)) S2.out.rl k HB0.out.1 (by have := H2.out; have := HB0.out; omega)).1
          rw [show rdOf (0 : Int) lev k = 0 from hz] at this
          exact this
        have d3 : w2.frozen? ⟨gl, k.toNat, none⟩ = false := (Kd.R_celln (d := (0 : Int)) S2.out.rl k HB0.out.1 (by have := H2.out; have := HB0.out; omega)).2
        obtain ⟨w3, hw3, hS3⟩ : ∃ w3, w2.setCell ⟨gl, k.toNat, none⟩ (.int .i64 own) = w3 ∧ RS w0 gb bc bl bn #[.slice (some ad) C.length c0, .slice A1 n1 c1, .int .i64 a2] (.slice (some ⟨gc, 0, none⟩) cnt.length cc) (.slice (some ⟨gl, 0, none⟩) lev.length cl) w3 (cnt.set k.toNat v) (lev.set k.toNat own) line := ⟨_, rfl, S2.out.putL k own⟩
        obtain ⟨vn, hnb, hnr, hnc, hnl⟩ := hS3.nb
        have S3 := Aside0.mk hS3
        have NB := Aside0.mk hnb
        have NR := Aside0.mk hnr
        have NC := Aside0.mk hnc
        have NL := Aside0.mk hnl
        have f1 : w3.cell? ⟨bn, 0, none⟩ = some vn := (blk_cell NB.out _).trans rfl
        have HLen := Aside0.mk (show (line.length + 1) * 8 ≤ 140737488355328 by have := H3.out; omega)
        clear hS3 hnb hnr hnc hnl hz
        go_wp2_with (at_builtin; refine print_append_num w0.heap.size rfl _ _ 23 3 .i64 8 rfl Try.underlying23 info3 (by decide) vn line k rfl rfl (Kd.own_of_R NR.out) S3.out.below S3.out.below.size HLen.out ?_)
        intro v1 w4 ho4 hb4 hg4 hat4
        have k4 := blk_grown NB.out hg4 (RI_blk NR.out NB.out (by decide))
        have R4 : RI w0 w4 v1 (line ++ [k]) := Kd.R_of_own (by rw [List.length_append]; exact ho4) (fun _ _ => trivial)
        obtain ⟨A4, c4, hv1⟩ := own_slice ho4
        obtain ⟨w5, hw5, hS5⟩ : ∃ w5, w4.setCell ⟨bn, 0, none⟩ v1 = w5 ∧ RS w0 gb bc bl bn #[.slice (some ad) C.length c0, .slice A1 n1 c1, .int .i64 a2] (.slice (some ⟨gc, 0, none⟩) cnt.length cc) (.slice (some ⟨gl, 0, none⟩) lev.length cl) w5 (cnt.set k.toNat v) (lev.set k.toNat own) (line ++ [k]) := ⟨_, rfl, RS.line_ S3.out NB.out NR.out NC.out NL.out hg4 hb4 hat4 R4⟩
        have S5 := Aside0.mk hS5
        subst hv1
        have g1 : w4.cell? ⟨bn, 0, none⟩ = some vn := (blk_cell k4 _).trans rfl
        have g2 : w4.frozen? ⟨bn, 0, none⟩ = false := blk_frozen k4 0
        clear hS5 R4 ho4 hb4 hg4 hat4 k4 c1' c2' c3' d1 d2 d3 f1 hw2 hw3 NB NR NC NL
        go_wp2
        clear g1 g2 hw5
        have S5' := Aside0.mk (show RS w0 gb bc bl bn #[.slice (some ad) C.length c0, .slice A1 n1 c1, .int .i64 a2] (.slice (some ⟨gc, 0, none⟩) cnt.length cc) (.slice (some ⟨gl, 0, none⟩) lev.length cl) w5.drew (cnt.set k.toNat v) (lev.set k.toNat own) (line ++ [k]) from S5.out.below_ (below_drew (Below.refl _ _)))
        refine wp_region_still_tail 7 (by kernel_rfl) (by kernel_rfl) ?_
        simp only [List.take_succ_cons, List.take_zero, List.drop_succ_cons, List.drop_zero]
        change wpStill _ _ w5.drew (fun a' => wpList _ _ _ _ a' w5.drew) _ _
        generalize w5.drew = w7 at S5' ⊢
        have e0 : w7.cell? ⟨gb, 0, none⟩ = some (.slice (some ad) C.length c0) := (blk_cell S5'.out.box_ _).trans rfl
        have e1 : w7.cell? ⟨gb, 1, none⟩ = some (.slice A1 n1 c1) := (blk_cell S5'.out.box_ _).trans rfl
        have e2 : w7.cell? ⟨gb, 2, none⟩ = some (.int .i64 a2) := (blk_cell S5'.out.box_ _).trans rfl
        have x0 := pw_cell_below S5'.out.below X0.out
        have x1 := pw_cell_below S5'.out.below X1.out
        have x2 := pw_cell_below S5'.out.below X2.out
        have hcell := Aside0.mk (cell_calls (some ad) C.length c0 A1 n1 c1 a2 x A2 c2 own w7 hn (Kd.C_below XC.out S5'.out.below) hxl)
        repeat still_step
        try refine wpStill_nil ?_
        clear e0 e1 e2 x0 x1 x2 S5
        go_wp2_with (go_at_call 60; (with_reducible refine hcell.out.mono ?_))
        (first | rintro e w6 rfl hb6 | rintro e w6 ⟨rfl, hb6⟩)
        have S6 := Aside0.mk (S5'.out.below_ hb6)
        clear hb6 hcell
        go_wp2
        go_ret
        exact ⟨rfl, S6.out⟩
      · have er : referM C k own cnt lev line = (decide (rd lev k = own), cnt.set k.toNat v, lev, line) := by unfold referM; rw [if_pos hk, if_neg hneg, if_neg hz, hv]
        rw [er]
        obtain ⟨z, hzz⟩ : ∃ z, rd lev k = z := ⟨_, rfl⟩
        rw [hzz] at hz ⊢
        have hz1 : (z == 0) = false := beq_eq_false_iff_ne.2 hz
        have hz2 : (z = 0) = False := eq_false hz
        obtain ⟨b, hb⟩ : ∃ b : Bool, decide (z = own) = b := ⟨_, rfl⟩
        have hb2 : (z == own) = b := by rw [← hb]; rfl
        rw [hb]
        clear hk hneg er hz
        go_enter Try.func58, Try.ntmps58
        go_wp2_with (go_at_call 59; (with_reducible refine hnum.out.mono ?_))
        (first | rintro e w1 rfl hb1 | rintro e w1 ⟨rfl, hb1⟩)
        have S1 := Aside0.mk (H.out.below_ hb1)
        clear hb1 hnum H e0 e1 e2
        have c1' : w1.cell? ⟨bc, 0, none⟩ = some (.slice (some ⟨gc, 0, none⟩) cnt.length cc) := (blk_cell S1.out.cb _).trans rfl
        have c2' : w1.cell? ⟨gc, k.toNat, none⟩ = some (.int .i64 (rd cnt k)) := (Kd.R_celln (d := (0 : Int)) S1.out.rc k HB0.out.1 (by have := H1.out; have := HB0.out; omega)).1
        have c3' : w1.frozen? ⟨gc, k.toNat, none⟩ = false := (Kd.R_celln (d := (0 : Int)) S1.out.rc k HB0.out.1 (by have := H1.out; have := HB0.out; omega)).2
        obtain ⟨w2, hw2, hS2⟩ : ∃ w2, w1.setCell ⟨gc, k.toNat, none⟩ (.int .i64 v) = w2 ∧ RS w0 gb bc bl bn #[.slice (some ad) C.length c0, .slice A1 n1 c1, .int .i64 a2] (.slice (some ⟨gc, 0, none⟩) cnt.length cc) (.slice (some ⟨gl, 0, none⟩) lev.length cl) w2 (cnt.set k.toNat v) lev line := ⟨_, rfl, S1.out.putC k v⟩
        have S2 := Aside0.mk hS2
        clear hS2
        have d1 : w2.cell? ⟨bl, 0, none⟩ = some (.slice (some ⟨gl, 0, none⟩) lev.length cl) := (blk_cell S2.out.lb _).trans rfl
        have d2 : w2.cell? ⟨gl, k.toNat, none⟩ = some (.int .i64 z) := by
          have := (Kd.R_celln (d := (0 : Int)) S2.out.rl k HB0.out.1 (by have := H2.out; have := HB0.out; omega)).1
          rw [show rdOf (0 : Int) lev k = z from hzz] at this
          exact this
        clear hzz
        go_wp2
        go_ret
        exact ⟨rfl, S2.out⟩
  · have hk' : isNum C.length k = false := by simpa using hk
    have er : referM C k own cnt lev line = (false, cnt, lev, line) := by unfold referM; rw [if_neg hk]
    rw [er]
    rw [hk'] at hnum
    clear hk hk' er
    go_enter Try.func58, Try.ntmps58
    go_wp2_with (go_at_call 59; (with_reducible refine hnum.out.mono ?_))
    (first | rintro e w' rfl hb1 | rintro e w' ⟨rfl, hb1⟩)
    have HS := Aside0.mk (H.out.below_ hb1)
    clear hb1
    go_wp2
    go_ret
    exact ⟨rfl, HS.out⟩
end Go.Proofs.Ytacfalpgmibfnaa.PCow
