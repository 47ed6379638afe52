import Derived.Test.YthljjgolloiamaaDoorXNamName
import Derived.Lib.SplitLaws
import Derived.Shelf.Strings.SplitShaped
import Derived.Test.YthljjgolloiamaaDoorXNamGoodI
import Derived.Test.YthljjgolloiamaaDoorYNamimplNameswalk
/-! impl.namesIn: what it answers. -/
namespace Go.Proofs.YthljjgolloiamaaDoor.PNam
open Go.RowKit Go.Shelf Go.Proofs.YthljjgolloiamaaDoorW.PrintWords Go.Proofs.YthljjgolloiamaaDoorW.PrintLast Go.Proofs.YthljjgolloiamaaDoorW.PrintMore Go.Proofs.YthljjgolloiamaaDoor.E Go.Proofs.YthljjgolloiamaaDoor.ZNam
set_option linter.unusedSimpArgs false
set_option linter.unusedVariables false
def slash : ByteArray := ⟨#[47]⟩
def parts (s : ByteArray) : List ByteArray := Lib.splitB slash 0 (Lib.countB s slash) s
theorem parts_len (s : ByteArray) : (parts s).length = Lib.countB s slash + 1 := Lib.splitB_all slash (by decide) 0 _ s rfl
/-- Which is the first text that is no name, behind so many; -1 for none. -/
def badI : List ByteArray → Int → Int
  | [], _ => -1
  | x :: l, i => if okName x = true then badI l (i + 1) else i
theorem badI_neg : ∀ (l : List ByteArray) (i : Int), 0 ≤ i → decide (badI l i ≥ 0) = !l.all okName
  | [], i, _ => rfl
  | x :: l, i, h => by
    rw [badI, List.all_cons]
    cases hx : okName x with
    | true => rw [if_pos rfl, badI_neg l (i + 1) (by omega), Bool.true_and]
    | false => rw [if_neg (by simp), Bool.false_and]; exact decide_eq_true h
def pathI (s : ByteArray) : List ByteArray × Bool :=
  if s.toList = [47] then ([], true)
  else if ((parts s).headD ⟨#[]⟩).toList = [] ∧ 2 ≤ (parts s).length ∧ (parts s).length ≤ 9 ∧ (parts s).tail.all okName = true then ((parts s).tail, true)
  else ([], false)
def impl_namesIn.f (s : ByteArray) : Option (List ByteArray × Bool) := if s.size < 4294967281 then some (pathI s) else none
theorem split_calls (s : ByteArray) (hs : s.size < 4294967281) (w : World) :
    Calls Tryd.prog 115 #[.string s, .string ⟨#[47]⟩] w fun e w' => e = .returned (.slice (some ⟨w.heap.size, 0, none⟩) (parts s).length (parts s).length) ∧ w' = w.alloc (.cells ((parts s).map Value.string).toArray 9) := by
  have hc := Lib.countB_le slash (by decide) s.size s (Nat.le_refl _)
  have hC : Calls Tryd.prog 155 #[.string s, .string slash] w fun e w' => e = .returned (.int .i64 (Lib.countB s slash)) ∧ w' = w := by
    refine (Any.strings_Count_one Tryd.lays138 s 47 w).mono fun e w' ⟨he, hw⟩ => ⟨?_, hw⟩
    rw [he]
    show _ = Ending.returned (Value.int .i64 ((Lib.count s.data.toList [47] : Nat) : Int))
    rw [Lib.count_one]
    rfl
  have hI : ∀ (x : ByteArray) (c : Array Value), x.size ≤ s.size → Calls Tryd.prog 156 #[.string x, .string slash] (w.alloc (.cells c 9)) fun e w' => e = .returned (.int .i64 (Lib.indexB x slash)) ∧ w' = w.alloc (.cells c 9) := by
    intro x c _
    refine (Any.strings_Index_one Tryd.lays143 x 47 _).mono fun e w' ⟨he, hw⟩ => ⟨?_, hw⟩
    rw [he]
    show _ = Ending.returned (Value.int .i64 (Lib.index x.data.toList [47]))
    rw [Lib.index_one]
  have hg := Any.strings_genSplit_core Tryd.lays221 (by kernel_rfl) s slash 0 (-1) (Lib.countB s slash + 1) w hs (by decide) (by decide) hI hC (by decide) (by decide) (by rw [if_pos (by decide)]; omega)
  rw [Nat.add_sub_cancel, show Lib.splitB slash 0 (Lib.countB s slash) s = parts s from rfl, parts_len] at hg
  have e2 : Lib.cellsOf (parts s) (Lib.countB s slash + 1) = ((parts s).map Value.string).toArray := by rw [← parts_len]; exact Lib.cellsOf_full _
  rw [e2, ← parts_len] at hg
  have TT := Aside0.mk (show Calls Tryd.prog 139 #[.string s, .string ⟨#[47]⟩, .int .i64 0, .int .i64 (-1)] w fun e w' => e = .returned (.slice (some ⟨w.heap.size, 0, none⟩) (parts s).length (parts s).length) ∧ w' = w.alloc (.cells ((parts s).map Value.string).toArray 9) from hg)
  clear hg e2 hI hC hc
  go_enter Tryd.func115, Tryd.ntmps115
  go_wp2_with (go_at_call 139; refine TT.out.mono ?_; rintro e w' ⟨rfl, rfl⟩)
  go_ret
  exact ⟨rfl, rfl⟩
theorem notName_calls (s : ByteArray) (w : World) :
    Calls Tryd.prog 117 #[.string s] w fun e w' => e = .returned (.bool (!okName s)) ∧ Below w.heap.size w w' := by
  have TT := Aside0.mk (impl_isName.calls s (okName s) w rfl)
  generalize okName s = b at TT
  go_enter Tryd.func117, Tryd.ntmps117
  go_wp2_with (go_at_call 68; refine TT.out.mono ?_; rintro e w' ⟨rfl, hB⟩)
  go_ret
  exact ⟨rfl, hB⟩
set_option maxHeartbeats 4000000 in
theorem badName_calls (A : Option Addr) (c : Nat) (l : List ByteArray) (w : World) (hr : Kd.C Kd.string w A l.length l) (hl : l.length ≤ 1000) :
    Calls Tryd.prog 140 #[.slice A l.length c, .func (.func 117) #[] #[]] w fun e w' => e = .returned (.int .i64 (badI l 0)) ∧ Below w.heap.size w w' := by
  have HR := Aside0.mk hr
  have HL := Aside0.mk hl
  clear hr
  go_enter Tryd.func140, Tryd.ntmps140
  go_wp2
  go_loopw [8] (fun v wr => ∃ q : Nat, q ≤ l.length ∧ v = .int .i64 q ∧ Aside0 (badI (l.drop q) (q : Int) = badI l 0) ∧ Aside0 (Below w.heap.size w wr)) (fun v _ => l.length - (intOf v).toNat)
  case atStart => exact ⟨0, Nat.zero_le _, rfl, ⟨rfl⟩, ⟨Below.refl _ _⟩⟩
  case round =>
    obtain ⟨q, hq, rfl, HI, HB⟩ := hrel
    by_cases hql : q < l.length
    · have hqq : ((q : Int) < (l.length : Int)) = True := eq_true (by omega)
      obtain ⟨ad, ea, hx⟩ := Kd.at_string HR.out (q : Int) (by omega) (by omega)
      subst ea
      simp only [Int.toNat_natCast] at hx
      replace hx := pw_cell_below HB.out hx
      have h1 := HI.out
      have hd : l.drop q = rdOf ByteArray.empty l (q : Int) :: l.drop (q + 1) := by
        rw [List.drop_eq_getElem_cons hql, rdOf, Int.toNat_natCast, List.getD_eq_getElem?_getD, List.getElem?_eq_getElem hql]; rfl
      rw [hd, badI] at h1
      generalize rdOf ByteArray.empty l (q : Int) = x at hx h1
      have TT := Aside0.mk (notName_calls x wr)
      clear hd HI
      cases hb : okName x with
      | false =>
        rw [hb, if_neg (by simp)] at h1
        have HE := Aside0.mk h1
        rw [hb] at TT
        clear h1 hb
        go_wp2_with (go_at_call 117; refine TT.out.mono ?_; (rintro e w' ⟨rfl, hb⟩); (have B1 := Aside0.mk (below_step HB.out hb)); clear hb)
        go_ret
        exact ⟨by rw [← HE.out]; rfl, B1.out⟩
      | true =>
        rw [hb, if_pos rfl] at h1
        have HE := Aside0.mk (show badI (l.drop (q + 1)) ((q + 1 : Nat) : Int) = badI l 0 by rw [← h1]; rfl)
        rw [hb] at TT
        clear h1 hb
        go_wp2_with (go_at_call 117; refine TT.out.mono ?_; (rintro e w' ⟨rfl, hb⟩); (have B1 := Aside0.mk (below_step HB.out hb)); clear hb)
        go_roundw
        case rel => exact ⟨q + 1, hql, by go_num, HE, B1⟩
        case measure => simp [intOf]; omega
    · have hqq : ((q : Int) < (l.length : Int)) = False := eq_false (by omega)
      have h1 := HI.out
      rw [List.drop_of_length_le (by omega), badI] at h1
      have HE := Aside0.mk h1
      clear h1
      go_wp2
      go_ret
      exact ⟨by rw [← HE.out]; rfl, HB.out⟩
theorem anyBad_calls (A : Option Addr) (c : Nat) (l : List ByteArray) (w : World) (hr : Kd.C Kd.string w A l.length l) (hl : l.length ≤ 1000) :
    Calls Tryd.prog 116 #[.slice A l.length c, .func (.func 117) #[] #[]] w fun e w' => e = .returned (.bool (!l.all okName)) ∧ Below w.heap.size w w' := by
  have TT := Aside0.mk (badName_calls A c l w hr hl)
  have HQ := Aside0.mk (badI_neg l 0 (Int.le_refl _))
  generalize badI l 0 = i at TT HQ
  clear hr hl
  go_enter Tryd.func116, Tryd.ntmps116
  go_wp2_with (go_at_call 140; refine TT.out.mono ?_; rintro e w' ⟨rfl, hB⟩)
  go_ret
  exact ⟨by rw [← HQ.out]; rfl, hB⟩
end Go.Proofs.YthljjgolloiamaaDoor.PNam
/-! impl.namesIn, walked. -/
namespace Go.Proofs.YthljjgolloiamaaDoor.PNam
open Go.RowKit Go.Shelf Go.Proofs.YthljjgolloiamaaDoorW.PrintWords Go.Proofs.YthljjgolloiamaaDoorW.PrintLast Go.Proofs.YthljjgolloiamaaDoorW.PrintMore Go.Proofs.YthljjgolloiamaaDoor.E Go.Proofs.YthljjgolloiamaaDoor.ZNam
set_option linter.unusedSimpArgs false
set_option linter.unusedVariables false
theorem row_tail {W : World} {g : Nat} {x : ByteArray} {l : List ByteArray} (h : W.heap[g]? = some (.cells (((x :: l).map Value.string).toArray) 9 (0, 0))) (hl : l.length ≤ 1000) : Kd.C Kd.string W (some ⟨g, 1, none⟩) l.length l := by
  refine ⟨rfl, by omega, fun _ => ⟨_, rfl, fun j p hp => ⟨[.string p], rfl, rfl, fun i u hu => ?_⟩⟩⟩
  have hi : i = 0 := by
    rcases i with _ | i
    · rfl
    · simp at hu
  subst hi
  have e := blk_cell h (1 + (j * 1 + 0))
  refine Eq.trans ?_ (e.trans ?_)
  · have ea : (⟨g, 1, none⟩ : Addr).add (j * Kd.string.sz + 0) = ⟨g, 1 + (j * 1 + 0), none⟩ := by
      show (if j * 1 + 0 = 0 then (⟨g, 1, none⟩ : Addr) else ⟨g, 1 + (j * 1 + 0), none⟩) = _
      by_cases hj : j * 1 + 0 = 0
      · rw [if_pos hj, hj]
      · rw [if_neg hj]
    rw [ea]
  · have hu' : Value.string p = u := by simpa using hu
    rw [← hu']
    simp [Nat.add_comm 1, List.getElem?_cons_succ, hp]
set_option maxHeartbeats 8000000 in
set_option maxRecDepth 100000 in
theorem namesIn_calls (s : ByteArray) (hs : s.size < 4294967281) (w : World) :
    Calls Tryd.prog 88 #[.string s] w fun e w' => ∃ (A : Option Addr) (c : Nat), e = .returned (.tuple #[.slice A (pathI s).1.length c, .bool (pathI s).2]) ∧ Kd.C Kd.string w' A (pathI s).1.length (pathI s).1 ∧ (pathI s).1.length ≤ c ∧ Below w.heap.size w w' := by
  have nil_ : ∀ W : World, Kd.C Kd.string W none ([] : List ByteArray).length ([] : List ByteArray) := fun W => ⟨rfl, by simp, fun h => by simp at h⟩
  by_cases h0 : s.toList = [47]
  · have hp : pathI s = ([], true) := by unfold pathI; rw [if_pos h0]
    rw [hp]
    have q1 : (s.toList == ([47] : List UInt8)) = true := by rw [h0]; rfl
    clear h0
    go_enter Tryd.func88, Tryd.ntmps88
    go_wp2
    go_ret2
    exact ⟨none, 0, rfl, nil_ _, Nat.zero_le _, Below.refl _ _⟩
  · have q1 : (s.toList == ([47] : List UInt8)) = false := beq_eq_false_iff_ne.2 h0
    have hpl := parts_len s
    have hcn := Lib.countB_le slash (by decide) s.size s (Nat.le_refl _)
    have TT := Aside0.mk (split_calls s hs w)
    have hP : pathI s = if ((parts s).headD ⟨#[]⟩).toList = [] ∧ 2 ≤ (parts s).length ∧ (parts s).length ≤ 9 ∧ (parts s).tail.all okName = true then ((parts s).tail, true) else ([], false) := by unfold pathI; rw [if_neg h0]
    generalize parts s = P at TT hpl hP
    obtain ⟨W1, hW1⟩ : ∃ W, w.alloc (.cells ((P.map Value.string).toArray) 9) = W := ⟨_, rfl⟩
    have X1 : W1.heap[w.heap.size]? = some (.cells ((P.map Value.string).toArray) 9 (0, 0)) := by rw [← hW1]; exact heap_alloc_new w _
    have B1 := Aside0.mk (show Below w.heap.size w W1 by rw [← hW1]; exact below_alloc (Below.refl _ _) _)
    rw [hW1] at TT
    clear hW1
    obtain ⟨x, l, rfl⟩ : ∃ x l, P = x :: l := by
      cases P with
      | nil => simp at hpl
      | cons x l => exact ⟨x, l, rfl⟩
    rw [List.headD_cons, List.tail_cons, List.length_cons] at hP
    rw [List.length_cons] at TT
    have c0 : W1.cell? ⟨w.heap.size, 0, none⟩ = some (.string x) := (blk_cell X1 0).trans rfl
    have hlb : l.length ≤ 4294967281 := by rw [List.length_cons] at hpl; omega
    clear hpl hcn h0
    have hwi : impl_within.f ((l.length + 1 : Nat) : Int) 2 9 = some (decide (1 ≤ l.length ∧ l.length ≤ 8)) := by
      unfold impl_within.f
      by_cases h1 : ((l.length + 1 : Nat) : Int) ≥ 2
      · rw [if_pos h1, Option.some.injEq, Bool.eq_iff_iff, decide_eq_true_iff, decide_eq_true_iff]
        omega
      · rw [if_neg h1, Option.some.injEq, Bool.eq_iff_iff, decide_eq_true_iff]
        constructor
        · intro h; cases h
        · intro h; omega
    by_cases hx : x.toList = []
    · have e1 : x.toList.isEmpty = true := by rw [hx]; rfl
      have e2 : (x.toList != ([] : List UInt8)) = false := by rw [hx]; rfl
      by_cases hn : 1 ≤ l.length ∧ l.length ≤ 8
      · have X := Aside0.mk X1
        have HN := Aside0.mk hn
        have C1 := Aside0.mk (row_tail X1 (by omega))
        have c1 : W1.cell? ⟨w.heap.size, 0, none⟩ = some (.string x) := c0
        rw [decide_eq_true hn] at hwi
        have TW := Aside0.mk (impl_within.calls _ 2 9 true W1 hwi)
        clear hwi X1 c1
        have HP := Aside0.mk hP
        clear hP
        obtain ⟨b, hb⟩ : ∃ b, l.all okName = b := ⟨_, rfl⟩
        have HB := Aside0.mk hb
        have HX := Aside0.mk hx
        have CC := Aside0.mk (fun (W : World) (hb_ : Below W1.heap.size W1 W) => anyBad_calls (some ⟨w.heap.size, 1, none⟩) l.length l W (Kd.C_below C1.out hb_) (by omega))
        have BW := Aside0.mk (Below.refl W1.heap.size W1)
        rw [hb] at CC
        obtain ⟨m, hm⟩ : ∃ m, l.length = m + 1 := ⟨l.length - 1, by omega⟩
        have HM := Aside0.mk hm
        rw [hm] at TT TW CC C1
        clear hn hx hb hm hlb
        go_enter Tryd.func88, Tryd.ntmps88
        go_wp2_with (first | (go_at_call 115; refine TT.out.mono ?_; rintro e w' ⟨rfl, rfl⟩) | (go_at_call 69; refine TW.out.mono ?_; (rintro e w' ⟨rfl, hd⟩); (have hb := hd.below); (replace B1 := Aside0.mk (below_step B1.out hb)); (replace BW := Aside0.mk (below_step BW.out hb)); clear hd hb) | (go_at_call 116; refine (CC.out _ BW.out).mono ?_; (rintro e w' ⟨rfl, hb⟩); (replace B1 := Aside0.mk (below_step B1.out hb)); (replace BW := Aside0.mk (below_step BW.out hb)); clear hb))
        · have hbf : b = false := by simpa using ‹(!b) = true›
          have hp : pathI s = ([], false) := by rw [HP.out, if_neg (fun h => by have h4 := h.2.2.2; rw [HB.out, hbf] at h4; cases h4)]
          rw [hp]
          go_ret2
          exact ⟨none, 0, rfl, nil_ _, Nat.zero_le _, B1.out⟩
        · have hbt : b = true := by simpa using ‹(!b) = false›
          have hp : pathI s = (l, true) := by rw [HP.out, if_pos ⟨HX.out, by have := HN.out; omega, by have := HN.out; omega, by rw [HB.out, hbt]⟩]
          rw [hp]
          go_ret2
          refine ⟨some ⟨w.heap.size, 1, none⟩, l.length, ?_, Kd.C_below (by rw [HM.out]; exact C1.out) BW.out, Nat.le_refl _, B1.out⟩
          show _ = Ending.returned (.tuple #[.slice (some ⟨w.heap.size, 1, none⟩) l.length l.length, .bool true])
          rw [HM.out]
          rfl
      · have hp : pathI s = ([], false) := by rw [hP, if_neg (fun h => hn ⟨by omega, by omega⟩)]
        rw [hp]
        rw [decide_eq_false hn] at hwi
        have TW := Aside0.mk (impl_within.calls _ 2 9 false W1 hwi)
        clear hwi hP hp hn X1 hx
        go_enter Tryd.func88, Tryd.ntmps88
        go_wp2_with (first | (go_at_call 115; refine TT.out.mono ?_; rintro e w' ⟨rfl, rfl⟩) | (go_at_call 69; refine TW.out.mono ?_; (rintro e w' ⟨rfl, hd⟩); (have hb := hd.below); (replace B1 := Aside0.mk (below_step B1.out hb)); clear hd hb))
        go_ret2
        exact ⟨none, 0, rfl, nil_ _, Nat.zero_le _, B1.out⟩
    · have hp : pathI s = ([], false) := by rw [hP, if_neg (fun h => hx h.1)]
      rw [hp]
      have e1 : x.toList.isEmpty = false := by cases h : x.toList with
        | nil => exact absurd h hx
        | cons _ _ => rfl
      have e2 : (x.toList != ([] : List UInt8)) = true := bne_iff_ne.2 hx
      clear hwi hP hp hx X1
      go_enter Tryd.func88, Tryd.ntmps88
      go_wp2_with (go_at_call 115; refine TT.out.mono ?_; rintro e w' ⟨rfl, rfl⟩)
      go_ret2
      exact ⟨none, 0, rfl, nil_ _, Nat.zero_le _, B1.out⟩
end Go.Proofs.YthljjgolloiamaaDoor.PNam
/-! impl.WalkPath, walked. -/
namespace Go.Proofs.YthljjgolloiamaaDoor.PNam
open Go.RowKit Go.Shelf Go.Proofs.YthljjgolloiamaaDoorW.PrintWords Go.Proofs.YthljjgolloiamaaDoorW.PrintLast Go.Proofs.YthljjgolloiamaaDoorW.PrintMore Go.Proofs.YthljjgolloiamaaDoor.E Go.Proofs.YthljjgolloiamaaDoor.ZNam
set_option linter.unusedSimpArgs false
set_option linter.unusedVariables false
noncomputable def impl_WalkPath.f (k : Nat) (l0 : List S76) (a1 : ByteArray) : Option (Int × Int) :=
  (impl_namesIn.f a1).bind fun b => if b.2 = true then (impl_GoodNames.f l0).bind fun t => if t = true then (impl_Names_walk.f k l0 b.1).bind fun x => some (x.1, x.2) else some (0, 1) else some (0, 1)
theorem impl_WalkPath.mono : ∀ a0 a1 k, LeO (impl_WalkPath.f k a0 a1) (impl_WalkPath.f (k + 1) a0 a1) := by
  intro a0 a1 k
  unfold impl_WalkPath.f
  repeat' first
    | (with_reducible exact impl_Names_walk.mono _ _ _)
    | (with_reducible exact LeO.refl _)
    | (with_reducible refine LeO.ite ?_ ?_)
    | (with_reducible refine LeO.bind ?_ (fun _ => ?_))
set_option maxHeartbeats 8000000 in
set_option maxRecDepth 100000 in
theorem impl_WalkPath.calls (k : Nat) (A0 : Option Addr) (c0 : Nat) (l0 : List S76) (a1 : ByteArray) (r1 r2 : Int) (w : World) (hr0 : Kd.C k76 w A0 l0.length l0) (hc0 : l0.length ≤ c0) (h : impl_WalkPath.f k l0 a1 = some (r1, r2)) :
    Calls Tryd.prog 43 #[.agg #[.slice A0 l0.length c0], .string a1] w fun e w' => e = .returned (.tuple #[.int .i64 r1, .int .i64 r2]) ∧ Below w.heap.size w w' := by
  unfold impl_WalkPath.f impl_namesIn.f at h
  by_cases hs : a1.size < 4294967281
  case neg => rw [if_neg hs] at h; cases h
  rw [if_pos hs, Option.bind_some] at h
  obtain ⟨W1, hW1⟩ : ∃ W, w.alloc (.cells #[.slice A0 l0.length c0] 30) = W := ⟨_, rfl⟩
  have X1 := Aside0.mk (show W1.heap[w.heap.size]? = some (.cells #[.slice A0 l0.length c0] 30 (0, 0)) by rw [← hW1]; exact heap_alloc_new w _)
  have hb1 : Below w.heap.size w W1 := by rw [← hW1]; exact below_alloc (Below.refl _ _) _
  have B1 := Aside0.mk hb1
  have HR := Aside0.mk (Kd.C_below hr0 hb1)
  have HC := Aside0.mk hc0
  have TT := Aside0.mk (namesIn_calls a1 hs W1)
  have huN := Tryd.underlying30
  clear hb1 hr0 hc0 hs
  generalize pathI a1 = p at TT h
  obtain ⟨L, ok⟩ := p
  simp only at TT h
  cases ok with
  | false =>
    rw [if_neg (by simp)] at h
    obtain ⟨rfl, rfl⟩ := Prod.mk.inj (Option.some.inj h)
    clear h
    go_enter Tryd.func43, Tryd.ntmps43
    go_wp2_with (go_at_call 88; refine TT.out.mono ?_; (rintro e w2 ⟨A, c, rfl, hk, hlc, hb⟩); (replace B1 := Aside0.mk (below_step B1.out hb)); clear hk hlc hb)
    go_ret2
    exact ⟨rfl, B1.out⟩
  | true =>
    rw [if_pos rfl] at h
    obtain ⟨t, ht, h⟩ := Option.bind_eq_some_iff.1 h
    have HG := Aside0.mk ht
    cases t with
    | false =>
      rw [if_neg (by simp)] at h
      obtain ⟨rfl, rfl⟩ := Prod.mk.inj (Option.some.inj h)
      clear h ht
      go_enter Tryd.func43, Tryd.ntmps43
      go_wp2_with (first | (go_at_call 88; refine TT.out.mono ?_; (rintro e w2 ⟨A, c, rfl, hk, hlc, hb⟩); (replace B1 := Aside0.mk (below_step B1.out hb)); (replace X1 := Aside0.mk (blk_below X1.out hb)); (replace HR := Aside0.mk (Kd.C_below HR.out hb)); (have d0 : w2.cell? ⟨w.heap.size, 0, none⟩ = some (.slice A0 l0.length c0) := (blk_cell X1.out 0).trans rfl); clear hk hlc hb) | (go_at_call 51; refine (impl_GoodNames.calls A0 c0 l0 false _ HR.out HC.out HG.out).mono ?_; (rintro e w3 ⟨rfl, hb⟩); (replace B1 := Aside0.mk (below_step B1.out hb)); clear hb d0))
      go_ret2
      exact ⟨rfl, B1.out⟩
    | true =>
      rw [if_pos rfl] at h
      obtain ⟨⟨x1, x2⟩, hx, h⟩ := Option.bind_eq_some_iff.1 h
      obtain ⟨rfl, rfl⟩ := Prod.mk.inj (Option.some.inj h)
      have HX := Aside0.mk hx
      clear h ht hx
      go_enter Tryd.func43, Tryd.ntmps43
      go_wp2_with (first | (go_at_call 88; refine TT.out.mono ?_; (rintro e w2 ⟨A, c, rfl, hk, hlc, hb⟩); (replace B1 := Aside0.mk (below_step B1.out hb)); (replace X1 := Aside0.mk (blk_below X1.out hb)); (replace HR := Aside0.mk (Kd.C_below HR.out hb)); (have HK := Aside0.mk hk); (have HL := Aside0.mk hlc); (have d0 : w2.cell? ⟨w.heap.size, 0, none⟩ = some (.slice A0 l0.length c0) := (blk_cell X1.out 0).trans rfl); clear hk hlc hb) | (go_at_call 51; refine (impl_GoodNames.calls A0 c0 l0 true _ HR.out HC.out HG.out).mono ?_; (rintro e w3 ⟨rfl, hb⟩); (replace B1 := Aside0.mk (below_step B1.out hb)); (replace X1 := Aside0.mk (blk_below X1.out hb)); (replace HR := Aside0.mk (Kd.C_below HR.out hb)); (replace HK := Aside0.mk (Kd.C_below HK.out hb)); clear d0; (have d0 : w3.cell? ⟨w.heap.size, 0, none⟩ = some (.slice A0 l0.length c0) := (blk_cell X1.out 0).trans rfl); clear hb) | (go_at_call 89; refine (impl_Names_walk.calls k A0 c0 l0 A c L x1 x2 _ HR.out HC.out HK.out HL.out HX.out).mono ?_; (rintro e w4 ⟨rfl, hb⟩); (replace B1 := Aside0.mk (below_step B1.out hb)); clear hb d0))
      go_ret2
      exact ⟨rfl, B1.out⟩
end Go.Proofs.YthljjgolloiamaaDoor.PNam
