import Derived.Test.YthljjgolloiamaaDoorXNamName
import Derived.Lib.SplitLaws
import Derived.Shelf.Strings.SplitShaped
/-! impl.namesIn: what it answers. -/
namespace Go.Proofs.YthljjgolloiamaaDoor.PNam
open Go.RowKit Go.Shelf Go.Proofs.YthljjgolloiamaaDoorW.PrintWords Go.Proofs.YthljjgolloiamaaDoorW.PrintLast Go.Proofs.YthljjgolloiamaaDoorW.PrintMore Go.Proofs.YthljjgolloiamaaDoor.E Go.Proofs.YthljjgolloiamaaDoor.ZNam
set_option linter.unusedSimpArgs false
set_option linter.unusedVariables false
def slash : ByteArray := ⟨#[47]⟩
def parts (s : ByteArray) : List ByteArray := Lib.splitB slash 0 (Lib.countB s slash) s
theorem parts_len (s : ByteArray) : (parts s).length = Lib.countB s slash + 1 := Lib.splitB_all slash (by decide) 0 _ s rfl
/-- Which is the first text that is no name, behind so many; -1 for none. -/
def badI : List ByteArray → Int → Int
  | [], _ => -1
  | x :: l, i => if okName x = true then badI l (i + 1) else i
theorem badI_neg : ∀ (l : List ByteArray) (i : Int), 0 ≤ i → decide (badI l i ≥ 0) = !l.all okName
  | [], i, _ => rfl
  | x :: l, i, h => by
    rw [badI, List.all_cons]
    cases hx : okName x with
    | true => rw [if_pos rfl, badI_neg l (i + 1) (by omega), Bool.true_and]
    | false => rw [if_neg (by simp), Bool.false_and]; exact decide_eq_true h
def pathI (s : ByteArray) : List ByteArray × Bool :=
  if s.toList = [47] then ([], true)
  else if ((parts s).headD ⟨#[]⟩).toList = [] ∧ 2 ≤ (parts s).length ∧ (parts s).length ≤ 9 ∧ (parts s).tail.all okName = true then ((parts s).tail, true)
  else ([], false)
def impl_namesIn.f (s : ByteArray) : Option (List ByteArray × Bool) := if s.size < 4294967281 then some (pathI s) else none
theorem split_calls (s : ByteArray) (hs : s.size < 4294967281) (w : World) :
    Calls Tryd.prog 115 #[.string s, .string ⟨#[47]⟩] w fun e w' => e = .returned (.slice (some ⟨w.heap.size, 0, none⟩) (parts s).length (parts s).length) ∧ w' = w.alloc (.cells ((parts s).map Value.string).toArray 9) := by
  have hc := Lib.countB_le slash (by decide) s.size s (Nat.le_refl _)
  have hC : Calls Tryd.prog 155 #[.string s, .string slash] w fun e w' => e = .returned (.int .i64 (Lib.countB s slash)) ∧ w' = w := by
    refine (Any.strings_Count_one Tryd.lays138 s 47 w).mono fun e w' ⟨he, hw⟩ => ⟨?_, hw⟩
    rw [he]
    show _ = Ending.returned (Value.int .i64 ((Lib.count s.data.toList [47] : Nat) : Int))
    rw [Lib.count_one]
    rfl
  have hI : ∀ (x : ByteArray) (c : Array Value), x.size ≤ s.size → Calls Tryd.prog 156 #[.string x, .string slash] (w.alloc (.cells c 9)) fun e w' => e = .returned (.int .i64 (Lib.indexB x slash)) ∧ w' = w.alloc (.cells c 9) := by
    intro x c _
    refine (Any.strings_Index_one Tryd.lays143 x 47 _).mono fun e w' ⟨he, hw⟩ => ⟨?_, hw⟩
    rw [he]
    show _ = Ending.returned (Value.int .i64 (Lib.index x.data.toList [47]))
    rw [Lib.index_one]
  have hg := Any.strings_genSplit_core Tryd.lays221 (by kernel_rfl) s slash 0 (-1) (Lib.countB s slash + 1) w hs (by decide) (by decide) hI hC (by decide) (by decide) (by rw [if_pos (by decide)]; omega)
  rw [Nat.add_sub_cancel, show Lib.splitB slash 0 (Lib.countB s slash) s = parts s from rfl, parts_len] at hg
  have e2 : Lib.cellsOf (parts s) (Lib.countB s slash + 1) = ((parts s).map Value.string).toArray := by rw [← parts_len]; exact Lib.cellsOf_full _
  rw [e2, ← parts_len] at hg
  have TT := Aside0.mk (show Calls Tryd.prog 139 #[.string s, .string ⟨#[47]⟩, .int .i64 0, .int .i64 (-1)] w fun e w' => e = .returned (.slice (some ⟨w.heap.size, 0, none⟩) (parts s).length (parts s).length) ∧ w' = w.alloc (.cells ((parts s).map Value.string).toArray 9) from hg)
  clear hg e2 hI hC hc
  go_enter Tryd.func115, Tryd.ntmps115
  go_wp2_with (go_at_call 139; refine TT.out.mono ?_; rintro e w' ⟨rfl, rfl⟩)
  go_ret
  exact ⟨rfl, rfl⟩
theorem notName_calls (s : ByteArray) (w : World) :
    Calls Tryd.prog 117 #[.string s] w fun e w' => e = .returned (.bool (!okName s)) ∧ Below w.heap.size w w' := by
  have TT := Aside0.mk (impl_isName.calls s (okName s) w rfl)
  generalize okName s = b at TT
  go_enter Tryd.func117, Tryd.ntmps117
  go_wp2_with (go_at_call 68; refine TT.out.mono ?_; rintro e w' ⟨rfl, hB⟩)
  go_ret
  exact ⟨rfl, hB⟩
set_option maxHeartbeats 4000000 in
theorem badName_calls (A : Option Addr) (c : Nat) (l : List ByteArray) (w : World) (hr : Kd.C Kd.string w A l.length l) (hl : l.length ≤ 1000) :
    Calls Tryd.prog 140 #[.slice A l.length c, .func (.func 117) #[] #[]] w fun e w' => e = .returned (.int .i64 (badI l 0)) ∧ Below w.heap.size w w' := by
  have HR := Aside0.mk hr
  have HL := Aside0.mk hl
  clear hr
  go_enter Tryd.func140, Tryd.ntmps140
  go_wp2
  go_loopw [8] (fun v wr => ∃ q : Nat, q ≤ l.length ∧ v = .int .i64 q ∧ Aside0 (badI (l.drop q) (q : Int) = badI l 0) ∧ Aside0 (Below w.heap.size w wr)) (fun v _ => l.length - (intOf v).toNat)
  case atStart => exact ⟨0, Nat.zero_le _, rfl, ⟨rfl⟩, ⟨Below.refl _ _⟩⟩
  case round =>
    obtain ⟨q, hq, rfl, HI, HB⟩ := hrel
    by_cases hql : q < l.length
    · have hqq : ((q : Int) < (l.length : Int)) = True := eq_true (by omega)
      obtain ⟨ad, ea, hx⟩ := Kd.at_string HR.out (q : Int) (by omega) (by omega)
      subst ea
      simp only [Int.toNat_natCast] at hx
      replace hx := pw_cell_below HB.out hx
      have h1 := HI.out
      have hd : l.drop q = rdOf ByteArray.empty l (q : Int) :: l.drop (q + 1) := by
        rw [List.drop_eq_getElem_cons hql, rdOf, Int.toNat_natCast, List.getD_eq_getElem?_getD, List.getElem?_eq_getElem hql]; rfl
      rw [hd, badI] at h1
      generalize rdOf ByteArray.empty l (q : Int) = x at hx h1
      have TT := Aside0.mk (notName_calls x wr)
      clear hd HI
      cases hb : okName x with
      | false =>
        rw [hb, if_neg (by simp)] at h1
        have HE := Aside0.mk h1
        rw [hb] at TT
        clear h1 hb
        go_wp2_with (go_at_call 117; refine TT.out.mono ?_; (rintro e w' ⟨rfl, hb⟩); (have B1 := Aside0.mk (below_step HB.out hb)); clear hb)
        go_ret
        exact ⟨by rw [← HE.out]; rfl, B1.out⟩
      | true =>
        rw [hb, if_pos rfl] at h1
        have HE := Aside0.mk (show badI (l.drop (q + 1)) ((q + 1 : Nat) : Int) = badI l 0 by rw [← h1]; rfl)
        rw [hb] at TT
        clear h1 hb
        go_wp2_with (go_at_call 117; refine TT.out.mono ?_; (rintro e w' ⟨rfl, hb⟩); (have B1 := Aside0.mk (below_step HB.out hb)); clear hb)
        go_roundw
        case rel => exact ⟨q + 1, hql, by go_num, HE, B1⟩
        case measure => simp [intOf]; omega
    · have hqq : ((q : Int) < (l.length : Int)) = False := eq_false (by omega)
      have h1 := HI.out
      rw [List.drop_of_length_le (by omega), badI] at h1
      have HE := Aside0.mk h1
      clear h1
      go_wp2
      go_ret
      exact ⟨by rw [← HE.out]; rfl, HB.out⟩
theorem anyBad_calls (A : Option Addr) (c : Nat) (l : List ByteArray) (w : World) (hr : Kd.C Kd.string w A l.length l) (hl : l.length ≤ 1000) :
    Calls Tryd.prog 116 #[.slice A l.length c, .func (.func 117) #[] #[]] w fun e w' => e = .returned (.bool (!l.all okName)) ∧ Below w.heap.size w w' := by
  have TT := Aside0.mk (badName_calls A c l w hr hl)
  have HQ := Aside0.mk (badI_neg l 0 (Int.le_refl _))
  generalize badI l 0 = i at TT HQ
  clear hr hl
  go_enter Tryd.func116, Tryd.ntmps116
  go_wp2_with (go_at_call 140; refine TT.out.mono ?_; rintro e w' ⟨rfl, hB⟩)
  go_ret
  exact ⟨by rw [← HQ.out]; rfl, hB⟩
end Go.Proofs.YthljjgolloiamaaDoor.PNam
