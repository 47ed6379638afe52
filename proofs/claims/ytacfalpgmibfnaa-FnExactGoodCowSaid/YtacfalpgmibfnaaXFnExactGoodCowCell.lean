import Derived.Test.YtacfalpgmibfnaaXFnExactGoodCowDeep
import Derived.Test.YtacfalpgmibfnaaYFnExactGoodCowx4
/-! isGoodCell of the program: a predicate handed to the library, the greatest of a row; walked by hand. -/
namespace Go.Proofs.Ytacfalpgmibfnaa.PFnExactGoodCow
open Go.RowKit Go.Proofs.YtacfalpgmibfnaaW.PrintWords Go.Proofs.YtacfalpgmibfnaaW.PrintLast Go.Proofs.YtacfalpgmibfnaaW.PrintMore Go.Proofs.Ytacfalpgmibfnaa.E
set_option linter.unusedSimpArgs false
set_option linter.unusedVariables false
attribute [local go_sem] max2_int max_two
def isNum (n : Nat) (k : Int) : Bool := decide (-1 ≤ k ∧ k ≤ (n : Int) - 1)
theorem within_dec (a b c : Int) : impl_within.f a b c = some (decide (b ≤ a ∧ a ≤ c)) := by
  unfold impl_within.f
  by_cases h : a ≥ b
  · by_cases h2 : a ≤ c
    · simp [h, h2] <;> omega
    · simp [h, h2]
  · simp [h] <;> omega
set_option maxHeartbeats 1000000 in
set_option maxRecDepth 100000 in
theorem num_calls (A0 : Option Addr) (n c0 : Nat) (A1 : Option Addr) (n1 c1 : Nat) (a2 k : Int) (w : World) (hn : n ≤ 9223372036854775807) :
    Calls Try.prog 59 #[.agg #[.slice A0 n c0, .slice A1 n1 c1, .int .i64 a2], .int .i64 k] w fun e w' => e = .returned (.bool (isNum n k)) ∧ Below w.heap.size w w' := by
  have hu25 := Try.underlying25
  have hw := Aside0.mk (show impl_within.f k (-1) ((n : Int) - 1) = some (isNum n k) from within_dec k (-1) ((n : Int) - 1))
  go_enter Try.func59, Try.ntmps59
  go_wp2_with (go_at_call 45; refine (impl_within.calls k (-1) ((n : Int) - 1) _ _ hw.out).mono ?_)
  (first | rintro e w' rfl ⟨⟨nd, rfl⟩⟩ | rintro e w' ⟨rfl, ⟨⟨nd, rfl⟩⟩⟩)
  go_wp2
  go_ret
  exact ⟨rfl, pw_below_drewN ((Below.refl _ _).alloc (Nat.le_refl _) _) nd⟩
set_option maxHeartbeats 1000000 in
set_option maxRecDepth 100000 in
theorem bad_calls (b : Nat) (A0 : Option Addr) (n c0 : Nat) (A1 : Option Addr) (n1 c1 : Nat) (a2 k : Int) (w : World) (hn : n ≤ 9223372036854775807) (hb : w.heap[b]? = some (.cells #[.slice A0 n c0, .slice A1 n1 c1, .int .i64 a2] 25 (0, 0))) :
    Calls Try.prog 83 #[.int .i64 k, .pointer (some ⟨b, 0, none⟩)] w fun e w' => e = .returned (.bool (!isNum n k)) ∧ Below w.heap.size w w' := by
  have hu25 := Try.underlying25
  have e0 : w.cell? ⟨b, 0, none⟩ = some (.slice A0 n c0) := (blk_cell hb _).trans rfl
  have e1 : w.cell? ⟨b, 1, none⟩ = some (.slice A1 n1 c1) := (blk_cell hb _).trans rfl
  have e2 : w.cell? ⟨b, 2, none⟩ = some (.int .i64 a2) := (blk_cell hb _).trans rfl
  have hc := Aside0.mk (num_calls A0 n c0 A1 n1 c1 a2 k w hn)
  clear hb
  go_enter Try.func83, Try.ntmps83
  go_wp2_with (go_at_call 59; refine hc.out.mono ?_)
  (first | rintro e w' rfl hb | rintro e w' ⟨rfl, hb⟩)
  go_wp2
  go_ret
  exact ⟨rfl, hb⟩
def badKid (n : Nat) (ks : List Int) : Bool := ks.any fun k => !isNum n k
def IdxPost (n : Nat) (ks : List Int) (w : World) (e : Ending) (w' : World) : Prop := ∃ r : Int, e = .returned (.int .i64 r) ∧ decide (0 ≤ r) = badKid n ks ∧ Below w.heap.size w w'
set_option maxHeartbeats 1000000 in
set_option maxRecDepth 100000 in
theorem idx_calls (ks : List Int) (A : Option Addr) (c : Nat) (b : Nat) (A0 : Option Addr) (n c0 : Nat) (A1 : Option Addr) (n1 c1 : Nat) (a2 : Int) (w : World) (hn : n ≤ 9223372036854775807) (hb : w.heap[b]? = some (.cells #[.slice A0 n c0, .slice A1 n1 c1, .int .i64 a2] 25 (0, 0)))
    (hr : (Kd.int .i64).C w A ks.length ks) (hc : ks.length ≤ c) :
    Calls Try.prog 91 #[.slice A ks.length c, .func (.func 83) #[] #[.pointer (some ⟨b, 0, none⟩)]] w (IdxPost n ks w) := by
  have HR := Aside0.mk hr
  have HB := Aside0.mk hb
  have hk : ks.length ≤ 9223372036854775807 := hr.2.1
  clear hr hb
  go_enter Try.func91, Try.ntmps91
  go_wp2
  go_loopw [8] (fun i wr => ∃ q : Nat, q ≤ ks.length ∧ i = .int .i64 q ∧ Aside0 (badKid n (ks.take q) = false) ∧ Aside0 (Below w.heap.size w wr)) (fun i _ => ks.length - (intOf i).toNat)
  case atStart => exact ⟨0, Nat.zero_le _, rfl, ⟨rfl⟩, ⟨Below.refl _ _⟩⟩
  case round =>
    obtain ⟨q, hq, rfl, hT, B⟩ := hrel
    by_cases hql : q < ks.length
    · obtain ⟨ad2, e3, hy⟩ := Kd.at_int HR.out (q : Int) (by omega) (by omega)
      subst e3
      simp only [Int.toNat_natCast] at hy
      replace hy := pw_cell_below B.out hy
      obtain ⟨z, hz⟩ : ∃ z, rd ks (q : Int) = z := ⟨_, rfl⟩
      rw [hz] at hy
      have hqq : ((q : Int) < (ks.length : Int)) = True := eq_true (by omega)
      have hbt := Aside0.mk (show badKid n (ks.take (q + 1)) = (!isNum n z) by
        have er : rd ks (q : Int) = ks[q] := by
          unfold rd
          rw [List.getD_eq_getElem?_getD, Int.toNat_natCast, List.getElem?_eq_getElem hql]
          rfl
        have h1 := hT.out
        unfold badKid at h1 ⊢
        rw [List.take_succ_eq_append_getElem hql, List.any_append, h1, ← er, hz]
        simp)
      have hcall := Aside0.mk (bad_calls b A0 n c0 A1 n1 c1 a2 z wr hn (blk_below HB.out ⟨B.out.os, B.out.tape, B.out.output, B.out.size, B.out.block⟩))
      clear hz
      cases hnz : isNum n z with
      | true =>
        have hbt2 := Aside0.mk (show badKid n (ks.take (q + 1)) = false by rw [hbt.out, hnz]; rfl)
        rw [hnz] at hcall
        clear hbt hnz hT
        go_wp2_with (go_at_call 83; refine hcall.out.mono ?_)
        (first | rintro e w' rfl hb1 | rintro e w' ⟨rfl, hb1⟩)
        have B1 := Aside0.mk (below_then B.out B.out.size hb1)
        clear hb1 hcall
        go_wp2
        go_roundw
        case rel => exact ⟨q + 1, hql, by go_num, hbt2, B1⟩
        case measure => simp [intOf]; omega
      | false =>
        have hbad := Aside0.mk (show badKid n ks = true by
          have h1 := hbt.out
          rw [hnz] at h1
          unfold badKid at h1 ⊢
          obtain ⟨x, hx, hx2⟩ := List.any_eq_true.1 h1
          exact List.any_eq_true.2 ⟨x, List.mem_of_mem_take hx, hx2⟩)
        rw [hnz] at hcall
        clear hbt hnz hT
        go_wp2_with (go_at_call 83; refine hcall.out.mono ?_)
        (first | rintro e w' rfl hb1 | rintro e w' ⟨rfl, hb1⟩)
        have B1 := Aside0.mk (below_then B.out B.out.size hb1)
        clear hb1 hcall
        go_wp2
        go_ret
        exact ⟨q, rfl, by rw [hbad.out]; simp, B1.out⟩
    · have hqq : ((q : Int) < (ks.length : Int)) = False := eq_false (by omega)
      have hbad := Aside0.mk (show badKid n ks = false by
        have h1 := hT.out
        rwa [List.take_of_length_le (by omega)] at h1)
      clear hql hq hT
      go_wp2
      go_ret
      exact ⟨-1, rfl, by rw [hbad.out]; rfl, B.out⟩
set_option maxHeartbeats 1000000 in
set_option maxRecDepth 100000 in
theorem contains_calls (ks : List Int) (A : Option Addr) (c : Nat) (b : Nat) (A0 : Option Addr) (n c0 : Nat) (A1 : Option Addr) (n1 c1 : Nat) (a2 : Int) (w : World) (hn : n ≤ 9223372036854775807) (hb : w.heap[b]? = some (.cells #[.slice A0 n c0, .slice A1 n1 c1, .int .i64 a2] 25 (0, 0)))
    (hr : (Kd.int .i64).C w A ks.length ks) (hc : ks.length ≤ c) :
    Calls Try.prog 82 #[.slice A ks.length c, .func (.func 83) #[] #[.pointer (some ⟨b, 0, none⟩)]] w fun e w' => e = .returned (.bool (badKid n ks)) ∧ Below w.heap.size w w' := by
  have hcall := Aside0.mk (idx_calls ks A c b A0 n c0 A1 n1 c1 a2 w hn hb hr hc)
  clear hb hr
  go_enter Try.func82, Try.ntmps82
  go_wp2_with (go_at_call 91; refine hcall.out.mono ?_)
  rintro e w' ⟨r, rfl, hr, hb⟩
  go_wp2
  go_ret
  exact ⟨rfl, hb⟩
def maxOf (m : Int) (ks : List Int) : Int := ks.foldl (fun m x => if m < x then x else m) m
theorem maxOf_ge (ks : List Int) : ∀ m : Int, (0 ≤ maxOf m ks ↔ 0 ≤ m ∨ someKid ks = true) := by
  induction ks with
  | nil => intro m; simp [maxOf, someKid]
  | cons k r ih =>
    intro m
    have e : maxOf m (k :: r) = maxOf (if m < k then k else m) r := rfl
    have e2 : someKid (k :: r) = (decide (k ≥ 0) || someKid r) := rfl
    rw [e, ih, e2]
    simp only [Bool.or_eq_true, decide_eq_true_eq]
    have h0 : (0 ≤ (if m < k then k else m)) ↔ (0 ≤ m ∨ 0 ≤ k) := by split <;> omega
    rw [h0, or_assoc]
set_option maxHeartbeats 1000000 in
set_option maxRecDepth 100000 in
theorem max_calls (ks : List Int) (A : Option Addr) (c : Nat) (w : World) (hr : (Kd.int .i64).C w A ks.length ks) (hc : ks.length ≤ c) (h4 : ks.length = 4) :
    Calls Try.prog 84 #[.slice A ks.length c] w fun e w' => (∃ m : Int, e = .returned (.int .i64 m) ∧ decide (0 ≤ m) = someKid ks) ∧ w = w' := by
  obtain ⟨k0, k1, k2, k3, rfl⟩ : ∃ a b c d, ks = [a, b, c, d] := by
    match ks, h4 with
    | [a, b, c, d], _ => exact ⟨a, b, c, d, rfl⟩
  have g0 := Kd.at_int hr 0 (by omega) (by simp)
  have g1 := Kd.at_int hr 1 (by omega) (by simp)
  have g2 := Kd.at_int hr 2 (by omega) (by simp)
  have g3 := Kd.at_int hr 3 (by omega) (by simp)
  obtain ⟨ad, rfl, g0⟩ := g0
  obtain ⟨_, e1, g1⟩ := g1
  cases e1
  obtain ⟨_, e1, g2⟩ := g2
  cases e1
  obtain ⟨_, e1, g3⟩ := g3
  cases e1
  have x0 : w.cell? ad = some (.int .i64 k0) := by
    have := g0
    rw [show (0 : Int).toNat = 0 from rfl, show ad.add 0 = ad by simp [Addr.add]] at this
    exact this
  have x1 : w.cell? ⟨ad.block, ad.off + 1, none⟩ = some (.int .i64 k1) := by
    have := g1
    rwa [show ad.add (1 : Int).toNat = ⟨ad.block, ad.off + 1, none⟩ from by simp [Addr.add]] at this
  have x2 : w.cell? ⟨ad.block, ad.off + 2, none⟩ = some (.int .i64 k2) := by
    have := g2
    rwa [show ad.add (2 : Int).toNat = ⟨ad.block, ad.off + 2, none⟩ from by simp [Addr.add]] at this
  have x3 : w.cell? ⟨ad.block, ad.off + 3, none⟩ = some (.int .i64 k3) := by
    have := g3
    rwa [show ad.add (3 : Int).toNat = ⟨ad.block, ad.off + 3, none⟩ from by simp [Addr.add]] at this
  have x0' : w.cell? (ad.add 0) = some (.int .i64 k0) := g0
  clear g0 g1 g2 g3 hr h4
  simp only [List.length_cons, List.length_nil] at hc ⊢
  go_enter Try.func84, Try.ntmps84
  go_wp2
  go_loop [3, 4] (fun m i => ∃ q : Nat, 1 ≤ q ∧ q ≤ 4 ∧ i = .int .i64 q ∧ m = .int .i64 (maxOf k0 ([k1, k2, k3].take (q - 1)))) (fun _ i => 4 - (intOf i).toNat)
  case atStart => exact ⟨1, Nat.le_refl _, by omega, rfl, rfl⟩
  case round =>
    obtain ⟨q, hq1, hq, rfl, rfl⟩ := hrel
    rcases (show q = 1 ∨ q = 2 ∨ q = 3 ∨ q = 4 by omega) with rfl | rfl | rfl | rfl
    · go_wp2
      go_round
      case rel => exact ⟨2, by omega, by omega, rfl, rfl⟩
      case measure => simp [intOf]
    · go_wp2
      go_round
      case rel => exact ⟨3, by omega, by omega, rfl, rfl⟩
      case measure => simp [intOf]
    · go_wp2
      go_round
      case rel => exact ⟨4, by omega, by omega, rfl, rfl⟩
      case measure => simp [intOf]
    · go_wp2
      go_ret
      refine ⟨⟨_, rfl, ?_⟩, rfl⟩
      have h := maxOf_ge [k1, k2, k3] k0
      have e2 : someKid [k0, k1, k2, k3] = (decide (k0 ≥ 0) || someKid [k1, k2, k3]) := rfl
      rw [e2]
      by_cases h0 : 0 ≤ maxOf k0 [k1, k2, k3]
      · have h1 := h.1 h0
        rw [decide_eq_true h0]
        rcases h1 with h1 | h1
        · simp [h1]
        · simp [h1]
      · have h1 := fun x => h0 (h.2 x)
        rw [decide_eq_false h0]
        have h2 : ¬ 0 ≤ k0 := fun x => h1 (.inl x)
        have h3 : someKid [k1, k2, k3] = false := by
          cases h4 : someKid [k1, k2, k3] with
          | true => exact absurd (.inr h4) h1
          | false => rfl
        simp [h2, h3]
def goodB (n : Nat) (x : S68) (lev : Int) : Bool :=
  if lev = 1 then (if 1 ≤ (x.f1.size : Int) ∧ (x.f1.size : Int) ≤ 8 then decide (x.f2.length = 0) else false)
  else if x.f1.size = 0 then (if (x.f2.length : Int) = 4 then (if badKid n x.f2 = true then false else someKid x.f2) else false) else false
set_option maxHeartbeats 2000000 in
set_option maxRecDepth 100000 in
theorem cell_calls (A0 : Option Addr) (n c0 : Nat) (A1 : Option Addr) (n1 c1 : Nat) (a2 : Int) (x : S68) (A2 : Option Addr) (c2 : Nat) (lev : Int) (w : World) (hn : n ≤ 9223372036854775807) (hr : (Kd.int .i64).C w A2 x.f2.length x.f2) (hc : x.f2.length ≤ c2) :
    Calls Try.prog 60 #[.agg #[.slice A0 n c0, .slice A1 n1 c1, .int .i64 a2], .agg #[.int .i64 x.f0, .string x.f1, .slice A2 x.f2.length c2], .int .i64 lev] w fun e w' => e = .returned (.bool (goodB n x lev)) ∧ Below w.heap.size w w' := by
  have hu25 := Try.underlying25
  have hu68 := Try.underlying68
  have HR := Aside0.mk hr
  have hx2 : x.f2.length ≤ 9223372036854775807 := hr.2.1
  obtain ⟨r, hG⟩ : ∃ r, goodB n x lev = r := ⟨_, rfl⟩
  rw [hG]
  have HG := Aside0.mk hG
  clear hr hG
  have bel : Aside0 (∀ o o', Below w.heap.size w ((w.alloc o).alloc o')) := ⟨fun o o' => ((Below.refl _ _).alloc (Nat.le_refl _) _).alloc (by simp) _⟩
  by_cases hl : lev = 1
  · subst hl
    have hw := Aside0.mk (within_dec (x.f1.size : Int) 1 8)
    by_cases h8 : 1 ≤ (x.f1.size : Int) ∧ (x.f1.size : Int) ≤ 8
    · rw [decide_eq_true h8] at hw
      have hg2 := HG.out
      unfold goodB at hg2
      rw [if_pos rfl, if_pos h8] at hg2
      by_cases h0 : x.f2.length = 0
      · rw [decide_eq_true h0] at hg2
        subst hg2
        have hz : ((x.f2.length : Int) == 0) = true := by simp [h0]
        have hz' : ((x.f2.length : Int) = 0) = True := eq_true (by omega)
        clear h8 h0
        go_enter Try.func60, Try.ntmps60
        go_wp2_with (go_at_call 45; refine (impl_within.calls _ 1 8 _ _ hw.out).mono ?_)
        (first | rintro e w' rfl ⟨⟨nd, rfl⟩⟩ | rintro e w' ⟨rfl, ⟨⟨nd, rfl⟩⟩⟩)
        go_wp2
        go_ret
        exact ⟨rfl, pw_below_drewN (bel.out _ _) nd⟩
      · rw [decide_eq_false h0] at hg2
        subst hg2
        have hz : ((x.f2.length : Int) == 0) = false := beq_eq_false_iff_ne.2 (by omega)
        have hz' : ((x.f2.length : Int) = 0) = False := eq_false (by omega)
        clear h8 h0
        go_enter Try.func60, Try.ntmps60
        go_wp2_with (go_at_call 45; refine (impl_within.calls _ 1 8 _ _ hw.out).mono ?_)
        (first | rintro e w' rfl ⟨⟨nd, rfl⟩⟩ | rintro e w' ⟨rfl, ⟨⟨nd, rfl⟩⟩⟩)
        go_wp2
        go_ret
        exact ⟨rfl, pw_below_drewN (bel.out _ _) nd⟩
    · rw [decide_eq_false h8] at hw
      have hg2 := HG.out
      unfold goodB at hg2
      rw [if_pos rfl, if_neg h8] at hg2
      subst hg2
      clear h8
      go_enter Try.func60, Try.ntmps60
      go_wp2_with (go_at_call 45; refine (impl_within.calls _ 1 8 _ _ hw.out).mono ?_)
      (first | rintro e w' rfl ⟨⟨nd, rfl⟩⟩ | rintro e w' ⟨rfl, ⟨⟨nd, rfl⟩⟩⟩)
      go_wp2
      go_ret
      exact ⟨rfl, pw_below_drewN (bel.out _ _) nd⟩
  · have hl1 : (lev == 1) = false := beq_eq_false_iff_ne.2 hl
    have hl2 : (lev = 1) = False := eq_false hl
    have hg2 := HG.out
    unfold goodB at hg2
    rw [if_neg hl] at hg2
    clear hl
    by_cases h6 : x.f1.size = 0
    · have h7 : (x.f1.toList = []) = True := eq_true (ba_nil.2 h6)
      have h8 : x.f1.toList.isEmpty = true := by rw [ba_nil.2 h6]; rfl
      rw [if_pos h6] at hg2
      clear h6
      by_cases h5 : (x.f2.length : Int) = 4
      · rw [if_pos h5] at hg2
        have h5' : ((x.f2.length : Int) == 4) = true := by simpa using h5
        have h5'' : ((x.f2.length : Int) = 4) = True := eq_true h5
        have HF := Aside0.mk (show x.f2.length = 4 by omega)
        clear h5
        have hcon : ∀ W, Below ((w.alloc (.cells #[.slice A0 n c0, .slice A1 n1 c1, .int .i64 a2] 25)).alloc (.cells #[.int .i64 x.f0, .string x.f1, .slice A2 x.f2.length c2] 68)).heap.size ((w.alloc (.cells #[.slice A0 n c0, .slice A1 n1 c1, .int .i64 a2] 25)).alloc (.cells #[.int .i64 x.f0, .string x.f1, .slice A2 x.f2.length c2] 68)) W → True := fun _ _ => trivial
        clear hcon
        have hcont := Aside0.mk (contains_calls x.f2 A2 c2 w.heap.size A0 n c0 A1 n1 c1 a2 ((w.alloc (.cells #[.slice A0 n c0, .slice A1 n1 c1, .int .i64 a2] 25)).alloc (.cells #[.int .i64 x.f0, .string x.f1, .slice A2 x.f2.length c2] 68)) hn (blk_alloc (heap_alloc_new w _) _) (Kd.C_alloc (Kd.C_alloc HR.out _) _) hc)
        cases hb : badKid n x.f2 with
        | true =>
          rw [hb, if_pos rfl] at hg2
          rw [hb] at hcont
          subst hg2
          clear hb
          go_enter Try.func60, Try.ntmps60
          go_wp2_with (go_at_call 82; (with_reducible refine hcont.out.mono ?_))
          (first | rintro e w' rfl hb1 | rintro e w' ⟨rfl, hb1⟩)
          go_wp2
          go_ret
          exact ⟨rfl, below_then (bel.out _ _) (by simp; omega) hb1⟩
        | false =>
          rw [hb, if_neg (by simp)] at hg2
          rw [hb] at hcont
          clear hb
          go_enter Try.func60, Try.ntmps60
          go_wp2_with (go_at_call 82; (with_reducible refine hcont.out.mono ?_))
          (first | rintro e w' rfl hb1 | rintro e w' ⟨rfl, hb1⟩)
          have Y1 := Aside0.mk (blk_below (heap_alloc_new (w.alloc (.cells #[.slice A0 n c0, .slice A1 n1 c1, .int .i64 a2] 25)) (.cells #[.int .i64 x.f0, .string x.f1, .slice A2 x.f2.length c2] 68)) hb1)
          have B1 := Aside0.mk (below_then (bel.out (.cells #[.slice A0 n c0, .slice A1 n1 c1, .int .i64 a2] 25) (.cells #[.int .i64 x.f0, .string x.f1, .slice A2 x.f2.length c2] 68)) (by simp; omega) hb1)
          have C1 := Aside0.mk (Kd.C_below HR.out B1.out)
          have y2 : w'.cell? ⟨(w.alloc (.cells #[.slice A0 n c0, .slice A1 n1 c1, .int .i64 a2] 25)).heap.size, 2, none⟩ = some (.slice A2 x.f2.length c2) := (blk_cell Y1.out _).trans rfl
          rw [show (w.alloc (.cells #[.slice A0 n c0, .slice A1 n1 c1, .int .i64 a2] 25)).heap.size = w.heap.size + 1 from by simp] at y2
          clear hb1 hcont
          go_wp2_with (go_at_call 84; (with_reducible refine (max_calls x.f2 A2 c2 _ C1.out hc HF.out).mono ?_))
          rintro e w5 ⟨⟨m, rfl, hm⟩, rfl⟩
          rw [hg2] at hm
          clear hg2
          go_wp2
          go_ret
          exact ⟨rfl, B1.out⟩
      · rw [if_neg h5] at hg2
        have h5' : ((x.f2.length : Int) == 4) = false := beq_eq_false_iff_ne.2 h5
        have h5'' : ((x.f2.length : Int) = 4) = False := eq_false h5
        subst hg2
        clear h5
        go_enter Try.func60, Try.ntmps60
        go_wp2
        go_ret
        exact ⟨rfl, bel.out _ _⟩
    · have h7 : (x.f1.toList = []) = False := eq_false (fun h9 => h6 (ba_nil.1 h9))
      have h8 : x.f1.toList.isEmpty = false := by
        cases h9 : x.f1.toList with
        | nil => exact absurd (ba_nil.1 h9) h6
        | cons a b => rfl
      rw [if_neg h6] at hg2
      subst hg2
      clear h6
      go_enter Try.func60, Try.ntmps60
      go_wp2
      go_ret
      exact ⟨rfl, bel.out _ _⟩
end Go.Proofs.Ytacfalpgmibfnaa.PFnExactGoodCow
