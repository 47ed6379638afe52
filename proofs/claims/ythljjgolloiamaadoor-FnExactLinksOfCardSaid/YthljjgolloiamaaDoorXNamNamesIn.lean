import Derived.Test.YthljjgolloiamaaDoorXNamPath
/-! impl.namesIn, walked. -/
namespace Go.Proofs.YthljjgolloiamaaDoor.PNam
open Go.RowKit Go.Shelf Go.Proofs.YthljjgolloiamaaDoorW.PrintWords Go.Proofs.YthljjgolloiamaaDoorW.PrintLast Go.Proofs.YthljjgolloiamaaDoorW.PrintMore Go.Proofs.YthljjgolloiamaaDoor.E Go.Proofs.YthljjgolloiamaaDoor.ZNam
set_option linter.unusedSimpArgs false
set_option linter.unusedVariables false
theorem row_tail {W : World} {g : Nat} {x : ByteArray} {l : List ByteArray} (h : W.heap[g]? = some (.cells (((x :: l).map Value.string).toArray) 9 (0, 0))) (hl : l.length ≤ 1000) : Kd.C Kd.string W (some ⟨g, 1, none⟩) l.length l := by
  refine ⟨rfl, by omega, fun _ => ⟨_, rfl, fun j p hp => ⟨[.string p], rfl, rfl, fun i u hu => ?_⟩⟩⟩
  have hi : i = 0 := by
    rcases i with _ | i
    · rfl
    · simp at hu
  subst hi
  have e := blk_cell h (1 + (j * 1 + 0))
  refine Eq.trans ?_ (e.trans ?_)
  · have ea : (⟨g, 1, none⟩ : Addr).add (j * Kd.string.sz + 0) = ⟨g, 1 + (j * 1 + 0), none⟩ := by
      show (if j * 1 + 0 = 0 then (⟨g, 1, none⟩ : Addr) else ⟨g, 1 + (j * 1 + 0), none⟩) = _
      by_cases hj : j * 1 + 0 = 0
      · rw [if_pos hj, hj]
      · rw [if_neg hj]
    rw [ea]
  · have hu' : Value.string p = u := by simpa using hu
    rw [← hu']
    simp [Nat.add_comm 1, List.getElem?_cons_succ, hp]
set_option maxHeartbeats 8000000 in
set_option maxRecDepth 100000 in
theorem namesIn_calls (s : ByteArray) (hs : s.size < 4294967281) (w : World) :
    Calls Tryd.prog 88 #[.string s] w fun e w' => ∃ (A : Option Addr) (c : Nat), e = .returned (.tuple #[.slice A (pathI s).1.length c, .bool (pathI s).2]) ∧ Kd.C Kd.string w' A (pathI s).1.length (pathI s).1 ∧ (pathI s).1.length ≤ c ∧ Below w.heap.size w w' := by
  have nil_ : ∀ W : World, Kd.C Kd.string W none ([] : List ByteArray).length ([] : List ByteArray) := fun W => ⟨rfl, by simp, fun h => by simp at h⟩
  by_cases h0 : s.toList = [47]
  · have hp : pathI s = ([], true) := by unfold pathI; rw [if_pos h0]
    rw [hp]
    have q1 : (s.toList == ([47] : List UInt8)) = true := by rw [h0]; rfl
    clear h0
    go_enter Tryd.func88, Tryd.ntmps88
    go_wp2
    go_ret2
    exact ⟨none, 0, rfl, nil_ _, Nat.zero_le _, Below.refl _ _⟩
  · have q1 : (s.toList == ([47] : List UInt8)) = false := beq_eq_false_iff_ne.2 h0
    have hpl := parts_len s
    have hcn := Lib.countB_le slash (by decide) s.size s (Nat.le_refl _)
    have TT := Aside0.mk (split_calls s hs w)
    have hP : pathI s = if ((parts s).headD ⟨#[]⟩).toList = [] ∧ 2 ≤ (parts s).length ∧ (parts s).length ≤ 9 ∧ (parts s).tail.all okName = true then ((parts s).tail, true) else ([], false) := by unfold pathI; rw [if_neg h0]
    generalize parts s = P at TT hpl hP
    obtain ⟨W1, hW1⟩ : ∃ W, w.alloc (.cells ((P.map Value.string).toArray) 9) = W := ⟨_, rfl⟩
    have X1 : W1.heap[w.heap.size]? = some (.cells ((P.map Value.string).toArray) 9 (0, 0)) := by rw [← hW1]; exact heap_alloc_new w _
    have B1 := Aside0.mk (show Below w.heap.size w W1 by rw [← hW1]; exact below_alloc (Below.refl _ _) _)
    rw [hW1] at TT
    clear hW1
    obtain ⟨x, l, rfl⟩ : ∃ x l, P = x :: l := by
      cases P with
      | nil => simp at hpl
      | cons x l => exact ⟨x, l, rfl⟩
    rw [List.headD_cons, List.tail_cons, List.length_cons] at hP
    rw [List.length_cons] at TT
    have c0 : W1.cell? ⟨w.heap.size, 0, none⟩ = some (.string x) := (blk_cell X1 0).trans rfl
    have hlb : l.length ≤ 4294967281 := by rw [List.length_cons] at hpl; omega
    clear hpl hcn h0
    have hwi : impl_within.f ((l.length + 1 : Nat) : Int) 2 9 = some (decide (1 ≤ l.length ∧ l.length ≤ 8)) := by
      unfold impl_within.f
      by_cases h1 : ((l.length + 1 : Nat) : Int) ≥ 2
      · rw [if_pos h1, Option.some.injEq, Bool.eq_iff_iff, decide_eq_true_iff, decide_eq_true_iff]
        omega
      · rw [if_neg h1, Option.some.injEq, Bool.eq_iff_iff, decide_eq_true_iff]
        constructor
        · intro h; cases h
        · intro h; omega
    by_cases hx : x.toList = []
    · have e1 : x.toList.isEmpty = true := by rw [hx]; rfl
      have e2 : (x.toList != ([] : List UInt8)) = false := by rw [hx]; rfl
      by_cases hn : 1 ≤ l.length ∧ l.length ≤ 8
      · have X := Aside0.mk X1
        have HN := Aside0.mk hn
        have C1 := Aside0.mk (row_tail X1 (by omega))
        have c1 : W1.cell? ⟨w.heap.size, 0, none⟩ = some (.string x) := c0
        rw [decide_eq_true hn] at hwi
        have TW := Aside0.mk (impl_within.calls _ 2 9 true W1 hwi)
        clear hwi X1 c1
        have HP := Aside0.mk hP
        clear hP
        obtain ⟨b, hb⟩ : ∃ b, l.all okName = b := ⟨_, rfl⟩
        have HB := Aside0.mk hb
        have HX := Aside0.mk hx
        have CC := Aside0.mk (fun (W : World) (hb_ : Below W1.heap.size W1 W) => anyBad_calls (some ⟨w.heap.size, 1, none⟩) l.length l W (Kd.C_below C1.out hb_) (by omega))
        have BW := Aside0.mk (Below.refl W1.heap.size W1)
        rw [hb] at CC
        obtain ⟨m, hm⟩ : ∃ m, l.length = m + 1 := ⟨l.length - 1, by omega⟩
        have HM := Aside0.mk hm
        rw [hm] at TT TW CC C1
        clear hn hx hb hm hlb
        go_enter Tryd.func88, Tryd.ntmps88
        go_wp2_with (first | (go_at_call 115; refine TT.out.mono ?_; rintro e w' ⟨rfl, rfl⟩) | (go_at_call 69; refine TW.out.mono ?_; (rintro e w' ⟨rfl, hd⟩); (have hb := hd.below); (replace B1 := Aside0.mk (below_step B1.out hb)); (replace BW := Aside0.mk (below_step BW.out hb)); clear hd hb) | (go_at_call 116; refine (CC.out _ BW.out).mono ?_; (rintro e w' ⟨rfl, hb⟩); (replace B1 := Aside0.mk (below_step B1.out hb)); (replace BW := Aside0.mk (below_step BW.out hb)); clear hb))
        · have hbf : b = false := by simpa using ‹(!b) = true›
          have hp : pathI s = ([], false) := by rw [HP.out, if_neg (fun h => by have h4 := h.2.2.2; rw [HB.out, hbf] at h4; cases h4)]
          rw [hp]
          go_ret2
          exact ⟨none, 0, rfl, nil_ _, Nat.zero_le _, B1.out⟩
        · have hbt : b = true := by simpa using ‹(!b) = false›
          have hp : pathI s = (l, true) := by rw [HP.out, if_pos ⟨HX.out, by have := HN.out; omega, by have := HN.out; omega, by rw [HB.out, hbt]⟩]
          rw [hp]
          go_ret2
          refine ⟨some ⟨w.heap.size, 1, none⟩, l.length, ?_, Kd.C_below (by rw [HM.out]; exact C1.out) BW.out, Nat.le_refl _, B1.out⟩
          show _ = Ending.returned (.tuple #[.slice (some ⟨w.heap.size, 1, none⟩) l.length l.length, .bool true])
          rw [HM.out]
          rfl
      · have hp : pathI s = ([], false) := by rw [hP, if_neg (fun h => hn ⟨by omega, by omega⟩)]
        rw [hp]
        rw [decide_eq_false hn] at hwi
        have TW := Aside0.mk (impl_within.calls _ 2 9 false W1 hwi)
        clear hwi hP hp hn X1 hx
        go_enter Tryd.func88, Tryd.ntmps88
        go_wp2_with (first | (go_at_call 115; refine TT.out.mono ?_; rintro e w' ⟨rfl, rfl⟩) | (go_at_call 69; refine TW.out.mono ?_; (rintro e w' ⟨rfl, hd⟩); (have hb := hd.below); (replace B1 := Aside0.mk (below_step B1.out hb)); clear hd hb))
        go_ret2
        exact ⟨none, 0, rfl, nil_ _, Nat.zero_le _, B1.out⟩
    · have hp : pathI s = ([], false) := by rw [hP, if_neg (fun h => hx h.1)]
      rw [hp]
      have e1 : x.toList.isEmpty = false := by cases h : x.toList with
        | nil => exact absurd h hx
        | cons _ _ => rfl
      have e2 : (x.toList != ([] : List UInt8)) = true := bne_iff_ne.2 hx
      clear hwi hP hp hx X1
      go_enter Tryd.func88, Tryd.ntmps88
      go_wp2_with (go_at_call 115; refine TT.out.mono ?_; rintro e w' ⟨rfl, rfl⟩)
      go_ret2
      exact ⟨none, 0, rfl, nil_ _, Nat.zero_le _, B1.out⟩
end Go.Proofs.YthljjgolloiamaaDoor.PNam
