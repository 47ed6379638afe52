import Derived.Test.YtjepecinpgjgdaaXVauRow
/-! slices.IndexFunc over pieces with PutText's closure: walked by hand. -/
namespace Go.Proofs.Ytjepecinpgjgdaa.PVau
open Go.RowKit Go.Proofs.YtjepecinpgjgdaaW.PrintWords Go.Proofs.YtjepecinpgjgdaaW.PrintLast Go.Proofs.YtjepecinpgjgdaaW.PrintMore Go.Proofs.Ytjepecinpgjgdaa.E
set_option linter.unusedSimpArgs false
set_option linter.unusedVariables false
/-- Where a text stands. -/
def idxFrom (t : ByteArray) : List KL → Nat → Int
 | [], _ => -1
 | x :: l, i => if x.f0.toList = t.toList then (i : Int) else idxFrom t l (i + 1)
theorem rd_nat {l : List KL} {j : Nat} (h : j < l.length) : rd_T89 l (j : Int) = l[j] := by
 rw [rd_kl, Int.toNat_natCast, List.getD_eq_getElem?_getD, List.getElem?_eq_getElem h]
 rfl
theorem idx_hit (t : ByteArray) : ∀ (l : List KL) (i j : Nat), j < l.length → (rd_T89 l (j : Int)).f0.toList = t.toList → (∀ n : Nat, n < j → (rd_T89 l (n : Int)).f0.toList ≠ t.toList) → idxFrom t l i = ((i + j : Nat) : Int)
 | [], _, j, hj, _, _ => absurd hj (Nat.not_lt_zero _)
 | x :: l, i, 0, hj, he, hn => by
  rw [rd_nat hj, List.getElem_cons_zero] at he
  unfold idxFrom
  rw [if_pos he]; simp
 | x :: l, i, j + 1, hj, he, hn => by
  have h0 := hn 0 (by omega)
  rw [rd_nat (by simp), List.getElem_cons_zero] at h0
  unfold idxFrom
  rw [if_neg h0, idx_hit t l (i + 1) j (by simpa using hj) (by rw [rd_nat (by simpa using hj)]; rw [rd_nat hj] at he; exact he) (fun n h => by
   have h1 := hn (n + 1) (by omega)
   have hl : n + 1 < (x :: l).length := by omega
   rw [rd_nat hl] at h1
   rw [rd_nat (by simpa using hl)]; exact h1)]
  congr 1; omega
theorem idx_miss (t : ByteArray) : ∀ (l : List KL) (i : Nat), (∀ n : Nat, n < l.length → (rd_T89 l (n : Int)).f0.toList ≠ t.toList) → idxFrom t l i = -1
 | [], _, _ => rfl
 | x :: l, i, hn => by
  have h0 := hn 0 (by simp)
  rw [rd_nat (by simp), List.getElem_cons_zero] at h0
  unfold idxFrom
  rw [if_neg h0, idx_miss t l (i + 1) (fun n h => by
   have h1 := hn (n + 1) (by simp; omega)
   have hl : n + 1 < (x :: l).length := by simp; omega
   rw [rd_nat hl] at h1
   rw [rd_nat h]; exact h1)]
/-- Where a text stands among pieces, or -1. -/
def idxK (l : List KL) (t : ByteArray) : Int := idxFrom t l 0
set_option maxHeartbeats 2000000 in
set_option maxRecDepth 100000 in
theorem slices_IndexFunc_K.calls (A0 : Option Addr) (c0 : Nat) (l0 : List KL) (t : ByteArray) (B : Nat) (w : World) (hr0 : Kd.C k89 w A0 l0.length l0) (hc0 : l0.length ≤ c0) (hl : l0.length ≤ 1048576) (hB : w.heap[B]? = some (.cells #[.string t] 9 (0, 0))) :
  Calls Try.prog 81 #[.slice A0 l0.length c0, .func (.func 82) #[] #[.pointer (some ⟨B, 0, none⟩)]] w fun e w' => e = .returned (.int .i64 (idxK l0 t)) ∧ Below w.heap.size w w' := by
 have hu := Try.underlying89
 have hu2 := Try.underlying48
 have HR := Aside0.mk hr0
 have HB := Aside0.mk hB
 have hl2 : l0.length ≤ 9223372036854775807 := by omega
 clear hr0 hc0 hB hl
 go_enter Try.func81, Try.ntmps81
 go_wp2
 go_loopw [5, 8] (fun v5 vi wr => ∃ q : Nat, q ≤ l0.length ∧ vi = .int .i64 q ∧ Aside0 (∀ n : Nat, n < q → (rd_T89 l0 (n : Int)).f0.toList ≠ t.toList) ∧ Aside0 (Below w.heap.size w wr)) (fun _ vi _ => l0.length - (intOf vi).toNat)
 case atStart => exact ⟨0, Nat.zero_le _, rfl, ⟨fun n h => by omega⟩, ⟨Below.refl _ _⟩⟩
 case round =>
  obtain ⟨q, hq, rfl, HN, HW⟩ := hrel
  by_cases hql : q < l0.length
  ·have hqq : ((q : Int) < (l0.length : Int)) = True := eq_true (by omega)
   obtain ⟨ad, e4, x0, x1⟩ := at_T89 (Kd.C_below HR.out HW.out) (q : Int) (by omega) (by omega)
   subst e4
   obtain ⟨x, hx⟩ : ∃ x, rd_T89 l0 (q : Int) = x := ⟨_, rfl⟩
   rw [hx] at x0 x1
   simp only [Int.toNat_natCast] at x0 x1
   have HX := Aside0.mk hx
   have hb : Below wr.heap.size wr (wr.alloc (.cells #[.string x.f0, .int .i64 x.f1] 89)) := below_alloc (Below.refl _ _) _
   have hc : (wr.alloc (.cells #[.string x.f0, .int .i64 x.f1] 89)).cell? ⟨B, 0, none⟩ = some (.string t) := (blk_cell (blk_below (blk_below HB.out HW.out) hb) 0).trans rfl
   have HB' := Aside0.mk hb
   clear hb
   clear hx
   by_cases he : x.f0.toList = t.toList
   ·have hE : (x.f0.toList == t.toList) = true := beq_iff_eq.2 he
    have HE := Aside0.mk he
    clear he
    go_wp2
    go_ret
    refine ⟨?_, below_step HW.out HB'.out⟩
    show _ = Ending.returned (Value.int .i64 (idxFrom t l0 0))
    rw [idx_hit t l0 0 q hql (by rw [HX.out]; exact HE.out) HN.out]
    simp
   ·have hE : (x.f0.toList == t.toList) = false := beq_eq_false_iff_ne.2 he
    have HE := Aside0.mk he
    clear he
    go_wp2
    go_roundw
    case rel => exact ⟨q + 1, hql, by go_num, ⟨fun n hn => by
     by_cases h : n = q
     ·subst h; rw [HX.out]; exact HE.out
     ·exact HN.out n (by omega)⟩, ⟨below_step HW.out HB'.out⟩⟩
    case measure => simp [intOf]; omega
  ·have hqq : ((q : Int) < (l0.length : Int)) = False := eq_false (by omega)
   go_wp2
   go_ret
   refine ⟨?_, HW.out⟩
   show _ = Ending.returned (Value.int .i64 (idxFrom t l0 0))
   rw [idx_miss t l0 0 (fun n hn => HN.out n (by omega))]
   rfl
end Go.Proofs.Ytjepecinpgjgdaa.PVau
