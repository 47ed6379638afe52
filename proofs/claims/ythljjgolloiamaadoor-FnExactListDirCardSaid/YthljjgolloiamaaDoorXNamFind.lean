import Derived.Test.YthljjgolloiamaaDoorXNamGraph
import Derived.Test.YthljjgolloiamaaDoorZNamOrd
import Derived.Test.YthljjgolloiamaaDoorShelf
import Derived.Shelf.Small.Strs
/-! (impl.Inode).find: what it answers. -/
namespace Go.Proofs.YthljjgolloiamaaDoor.PNam
open Go.RowKit Go.Shelf Go.Proofs.YthljjgolloiamaaDoorW.PrintWords Go.Proofs.YthljjgolloiamaaDoorW.PrintLast Go.Proofs.YthljjgolloiamaaDoorW.PrintMore Go.Proofs.YthljjgolloiamaaDoor.E Go.Proofs.YthljjgolloiamaaDoor.ZNam
set_option linter.unusedSimpArgs false
set_option linter.unusedVariables false
def ltN (l : List NL) (name : ByteArray) (h : Nat) : Bool := decide (Lib.compareBytes (rd_T60 l (h : Int)).f0.data.toList name.data.toList < 0)
def findN (l : List NL) (name : ByteArray) : Nat := bsL (ltN l name) l.length 0 l.length
def hasN (l : List NL) (name : ByteArray) : Bool := decide (findN l name < l.length) && decide (Lib.compareBytes (rd_T60 l (findN l name : Int)).f0.data.toList name.data.toList = 0)
def impl_Inode_find.f (_ : Bool) (_ : Int) (l : List NL) (name : ByteArray) : Option (Int × Bool) := if l.length ≤ 4611686018427387904 then some ((findN l name : Int), hasN l name) else none
theorem cmpName_calls (x : ByteArray) (n : Int) (name : ByteArray) (w : World) :
    Calls Tryd.prog 141 #[.agg #[.string x, .int .i64 n], .string name] w fun e w' => e = .returned (.int .i64 (Lib.compareBytes x.data.toList name.data.toList)) ∧ Below w.heap.size w w' := by
  obtain ⟨W1, hW1⟩ : ∃ W, w.alloc (.cells #[.string x, .int .i64 n] 60) = W := ⟨_, rfl⟩
  have B1 := Aside0.mk (show Below w.heap.size w W1 by rw [← hW1]; exact below_alloc (Below.refl _ _) _)
  have c0 : W1.cell? ⟨w.heap.size, 0, none⟩ = some (.string x) := (blk_cell (by rw [← hW1]; exact heap_alloc_new w _) 0).trans rfl
  have TT := Aside0.mk (show Calls Tryd.prog 108 #[.string x, .string name] W1 fun e w' => e = .returned (.int .i64 (Lib.compareBytes x.data.toList name.data.toList)) ∧ w' = W1 from Any.strings_Compare Tryd.lays106 x name W1)
  generalize Lib.compareBytes x.data.toList name.data.toList = r at TT
  go_enter Tryd.func141, Tryd.ntmps141
  go_wp2_with (go_at_call 108; refine TT.out.mono ?_; rintro e w' ⟨rfl, rfl⟩)
  go_ret
  exact ⟨rfl, B1.out⟩
set_option maxHeartbeats 8000000 in
set_option maxRecDepth 100000 in
theorem search_calls (A : Option Addr) (c : Nat) (l : List NL) (name : ByteArray) (w : World) (hr : Kd.C k60 w A l.length l) (hl : l.length ≤ 4611686018427387904) :
    Calls Tryd.prog 106 #[.slice A l.length c, .string name, .func (.func 141) #[] #[]] w fun e w' => e = .returned (.tuple #[.int .i64 (findN l name : Int), .bool (hasN l name)]) ∧ Below w.heap.size w w' := by
  have hu := Tryd.underlying60
  have HR := Aside0.mk hr
  have HL := Aside0.mk hl
  clear hr
  go_enter Tryd.func106, Tryd.ntmps106
  go_wp2
  go_loopw [9, 10] (fun v u wr => ∃ i j : Nat, i ≤ j ∧ j ≤ l.length ∧ v = .int .i64 i ∧ u = .int .i64 j ∧ Aside0 (bsL (ltN l name) (j - i) i j = findN l name) ∧ Aside0 (Below w.heap.size w wr)) (fun v u _ => (intOf u).toNat - (intOf v).toNat)
  case atStart => exact ⟨0, l.length, Nat.zero_le _, Nat.le_refl _, rfl, rfl, ⟨rfl⟩, ⟨Below.refl _ _⟩⟩
  case round =>
    obtain ⟨i, j, hij, hj, rfl, rfl, HI, HB⟩ := hrel
    have hl4 := HL.out
    by_cases hlt : i < j
    · have hij' : ((i : Int) < (j : Int)) = True := eq_true (by omega)
      have ws : wrap64 ((i : Int) + (j : Int)) = (i : Int) + (j : Int) := w64 (by omega) (by omega)
      obtain ⟨h, hh⟩ : ∃ h, (i + j) / 2 = h := ⟨_, rfl⟩
      have wh : ((i : Int) + (j : Int)) / 2 = (h : Int) := by omega
      have hhl : h < l.length := by omega
      have h0 : (0 ≤ (h : Int)) = True := eq_true (by omega)
      have h1 : ((h : Int) < (l.length : Int)) = True := eq_true (by omega)
      obtain ⟨ad, ea, hx0, hx1⟩ := at_T60 HR.out (h : Int) (by omega) (by omega)
      subst ea
      simp only [Int.toNat_natCast] at hx0 hx1
      replace hx0 := pw_cell_below HB.out hx0
      replace hx1 := pw_cell_below HB.out hx1
      have hi := HI.out
      rw [show j - i = (j - i - 1) + 1 by omega, bsL, if_pos hlt, hh] at hi
      have hlt_ : ltN l name h = decide (Lib.compareBytes (rd_T60 l (h : Int)).f0.data.toList name.data.toList < 0) := rfl
      generalize (rd_T60 l (h : Int)).f0 = x at hx0 hlt_
      generalize (rd_T60 l (h : Int)).f1 = n at hx1
      have TT := Aside0.mk (cmpName_calls x n name wr)
      generalize Lib.compareBytes x.data.toList name.data.toList = r at TT hlt_
      have wn : wrap64 ((h : Int) + 1) = (h : Int) + 1 := w64 (by omega) (by omega)
      by_cases hr : r < 0
      · rw [decide_eq_true hr] at hlt_
        rw [if_pos hlt_, bsL_fuel (ltN l name) (j - (h + 1)) (j - i - 1) (h + 1) j (by omega) (by omega)] at hi
        have q1 : (r < 0) = True := eq_true hr
        have HE := Aside0.mk hi
        have HN := Aside0.mk (show h + 1 ≤ j ∧ i ≤ h ∧ h < j by omega)
        clear hi hlt_ HI hr hlt hh
        go_wp2_with (go_at_call 141; refine TT.out.mono ?_; (rintro e w' ⟨rfl, hb⟩); (have B1 := Aside0.mk (below_step HB.out hb)); clear hb)
        go_roundw
        case rel => exact ⟨h + 1, j, HN.out.1, hj, by go_num, rfl, HE, B1⟩
        case measure => have := HN.out; simp [intOf]; omega
      · rw [decide_eq_false hr] at hlt_
        rw [hlt_, if_neg (by simp), bsL_fuel (ltN l name) (h - i) (j - i - 1) i h (by omega) (by omega)] at hi
        have q1 : (r < 0) = False := eq_false hr
        have HE := Aside0.mk hi
        have HN := Aside0.mk (show h + 1 ≤ j ∧ i ≤ h ∧ h < j by omega)
        clear hi hlt_ HI hr hlt hh
        go_wp2_with (go_at_call 141; refine TT.out.mono ?_; (rintro e w' ⟨rfl, hb⟩); (have B1 := Aside0.mk (below_step HB.out hb)); clear hb)
        go_roundw
        case rel => exact ⟨i, h, HN.out.2.1, by have := HN.out; omega, rfl, rfl, HE, B1⟩
        case measure => have := HN.out; simp [intOf]; omega
    · have hij' : ((i : Int) < (j : Int)) = False := eq_false (by omega)
      have hi := HI.out
      rw [show j - i = 0 by omega, bsL] at hi
      have hh : hasN l name = (decide (i < l.length) && decide (Lib.compareBytes (rd_T60 l (i : Int)).f0.data.toList name.data.toList = 0)) := by unfold hasN; rw [← hi]
      have HE := Aside0.mk hi
      by_cases hil : i < l.length
      · have h0 : (0 ≤ (i : Int)) = True := eq_true (by omega)
        have h1 : ((i : Int) < (l.length : Int)) = True := eq_true (by omega)
        have h2 : decide ((i : Int) < (l.length : Int)) = true := decide_eq_true (by omega)
        obtain ⟨ad, ea, hx0, hx1⟩ := at_T60 HR.out (i : Int) (by omega) (by omega)
        subst ea
        simp only [Int.toNat_natCast] at hx0 hx1
        replace hx0 := pw_cell_below HB.out hx0
        replace hx1 := pw_cell_below HB.out hx1
        rw [decide_eq_true hil, Bool.true_and] at hh
        generalize (rd_T60 l (i : Int)).f0 = x at hx0 hh
        generalize (rd_T60 l (i : Int)).f1 = n at hx1
        have TT := Aside0.mk (cmpName_calls x n name wr)
        generalize Lib.compareBytes x.data.toList name.data.toList = r at TT hh
        have HH := Aside0.mk hh
        clear hi hh HI hlt hil
        go_wp2_with (go_at_call 141; refine TT.out.mono ?_; (rintro e w' ⟨rfl, hb⟩); (have B1 := Aside0.mk (below_step HB.out hb)); clear hb)
        go_ret2
        exact ⟨by rw [HH.out, ← HE.out]; rfl, B1.out⟩
      · have h1 : ((i : Int) < (l.length : Int)) = False := eq_false (by omega)
        have h2 : decide ((i : Int) < (l.length : Int)) = false := decide_eq_false (by omega)
        rw [decide_eq_false hil, Bool.false_and] at hh
        have HH := Aside0.mk hh
        clear hi hh HI hlt hil
        go_wp2
        go_ret2
        exact ⟨by rw [HH.out, ← HE.out]; rfl, HB.out⟩
theorem impl_Inode_find.calls (d : Bool) (n : Int) (A : Option Addr) (c : Nat) (l : List NL) (name : ByteArray) (r1 : Int) (r2 : Bool) (w : World) (hr : Kd.C k60 w A l.length l) (hc : l.length ≤ c) (h : impl_Inode_find.f d n l name = some (r1, r2)) :
    Calls Tryd.prog 118 #[.agg #[.bool d, .int .i64 n, .slice A l.length c], .string name] w fun e w' => e = .returned (.tuple #[.int .i64 r1, .bool r2]) ∧ Below w.heap.size w w' := by
  unfold impl_Inode_find.f at h
  by_cases hl : l.length ≤ 4611686018427387904
  · rw [if_pos hl] at h
    obtain ⟨rfl, rfl⟩ := Prod.mk.inj (Option.some.inj h)
    obtain ⟨W1, hW1⟩ : ∃ W, w.alloc (.cells #[.bool d, .int .i64 n, .slice A l.length c] 76) = W := ⟨_, rfl⟩
    have hb1 : Below w.heap.size w W1 := by rw [← hW1]; exact below_alloc (Below.refl _ _) _
    have B1 := Aside0.mk hb1
    have c2 : W1.cell? ⟨w.heap.size, 2, none⟩ = some (.slice A l.length c) := (blk_cell (by rw [← hW1]; exact heap_alloc_new w _) 2).trans rfl
    have TT := Aside0.mk (search_calls A c l name W1 (Kd.C_below hr hb1) hl)
    generalize hasN l name = b at TT
    generalize (findN l name : Int) = i at TT
    clear hr h hb1
    go_enter Tryd.func118, Tryd.ntmps118
    go_wp2_with (go_at_call 106; refine TT.out.mono ?_; (rintro e w' ⟨rfl, hb⟩); (replace B1 := Aside0.mk (below_step B1.out hb)); clear hb)
    go_ret2
    exact ⟨rfl, B1.out⟩
  · rw [if_neg hl] at h; cases h
end Go.Proofs.YthljjgolloiamaaDoor.PNam
