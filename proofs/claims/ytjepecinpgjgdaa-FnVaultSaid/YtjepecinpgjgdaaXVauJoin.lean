import Derived.Test.YtjepecinpgjgdaaYVaux0
import Derived.Test.YtjepecinpgjgdaaBld
import Derived.Test.YtjepecinpgjgdaaEv
/-! strings.Join with nothing between: a builder that is made room in, then filled. (grow and Grow follow the library's own proofs, at this program's numbers.) -/
namespace Go.Proofs.Ytjepecinpgjgdaa.PVau
open Go.RowKit Go.Proofs.YtjepecinpgjgdaaW.PrintWords Go.Proofs.YtjepecinpgjgdaaW.PrintLast Go.Proofs.YtjepecinpgjgdaaW.PrintMore Go.Proofs.Ytjepecinpgjgdaa.E
set_option linter.unusedSimpArgs false
set_option linter.unusedVariables false
theorem infoStr : (Try.prog.info? 9).map (fun i => (i.zero, i.size, i.bytes)) = some (some (.string ⟨#[]⟩), 1, 16) := by kernel_rfl
def joinB (l : List ByteArray) : List UInt8 := l.flatMap (fun s => s.data.toList)
theorem joinB_take (l : List ByteArray) (k : Nat) (h : k < l.length) : joinB (l.take (k + 1)) = joinB (l.take k) ++ (l[k]).data.toList := by
 unfold joinB
 rw [List.take_succ_eq_append_getElem h, List.flatMap_append]
 simp
theorem joinB_take_len (l : List ByteArray) (k : Nat) : (joinB (l.take k)).length ≤ (joinB l).length := by
 unfold joinB
 conv => rhs; rw [← List.take_append_drop k l, List.flatMap_append, List.length_append]
 exact Nat.le_add_right _ _
theorem joinB_at_len (l : List ByteArray) (k : Nat) (h : k < l.length) : (joinB (l.take k)).length + (l[k]).size ≤ (joinB l).length := by
 have h1 := joinB_take_len l (k + 1)
 rw [joinB_take l k h, List.length_append, Array.length_toList] at h1
 exact h1
theorem byteCells_str' (l : List UInt8) (s : ByteArray) : Lib.byteCells l ++ Lib.strCells s = Lib.byteCells (l ++ s.data.toList) := by
 simp [Lib.byteCells, Lib.strCells]
theorem rdOf_nat (l : List ByteArray) (k : Nat) (h : k < l.length) : rdOf ByteArray.empty l (k : Int) = l[k] := by
 unfold rdOf
 rw [List.getD_eq_getElem?_getD, Int.toNat_natCast, List.getElem?_eq_getElem h]
 rfl
set_option maxHeartbeats 4000000 in
set_option maxRecDepth 100000 in
theorem join_calls (A : Option Addr) (c : Nat) (l : List ByteArray) (w : World) (hr : Kd.string.C w A l.length l) (hc : l.length ≤ c) (hs : (joinB l).length ≤ 1000000000) :
  Calls Try.prog 94 #[.slice A l.length c, .string ⟨#[]⟩] w fun e w' => e = .returned (.string ⟨(joinB l).toArray⟩) ∧ Below w.heap.size w w' := by
 have HR := Aside0.mk hr
 have HS := Aside0.mk hs
 have hn : l.length ≤ 9223372036854775807 := hr.2.1
 clear hr hs
 by_cases h0 : l.length = 0
 ·obtain rfl : l = [] := List.eq_nil_of_length_eq_zero h0
  go_enter Try.func94, Try.ntmps94
  go_wp2
  go_ret
  exact ⟨rfl, Below.refl _ _⟩
 by_cases h1 : l.length = 1
 ·obtain ⟨x, rfl⟩ : ∃ x, l = [x] := List.length_eq_one_iff.1 h1
  obtain ⟨ad, e, hx⟩ := Kd.at_string HR.out 0 (by omega) (by simp)
  subst e
  have hx' : w.cell? (ad.add 0) = some (.string x) := hx
  have hx2 := hx'
  rw [show ad.add 0 = ad by simp [Addr.add]] at hx2
  clear hx h0 h1
  go_enter Try.func94, Try.ntmps94
  go_wp2
  go_ret
  exact ⟨by simp [joinB], Below.refl _ _⟩
 have e0 : ((l.length : Int) == 0) = false := beq_eq_false_iff_ne.2 (by omega)
 have e1 : ((l.length : Int) == 1) = false := beq_eq_false_iff_ne.2 (by omega)
 have e0' : ((l.length : Int) = 0) = False := eq_false (by omega)
 have e1' : ((l.length : Int) = 1) = False := eq_false (by omega)
 have H2 : 2 ≤ l.length := by omega
 obtain ⟨ad, e, hx⟩ := Kd.at_string HR.out 0 (by omega) (by omega)
 subst e
 have hx0 := Aside0.mk (show w.cell? ad = some (.string l[0]) by
  have := hx
  rw [show (0 : Int) = ((0 : Nat) : Int) from rfl, rdOf_nat l 0 (by omega)] at this
  simpa [Addr.add] using this)
 obtain ⟨i9, hi9, _, hsz9, _⟩ := info_parts infoStr
 obtain ⟨A', hcut, hread, hcap⟩ := print_drop_of (P := Try.prog) Value.string ByteArray.empty 35 9 .i64 Try.underlying35 hi9 hsz9 (some ad) c l 1 (by omega) (by omega) hc
 have hRT := Aside0.mk (hread w (Kd.reads_of_C HR.out))
 simp only [show ((1 : Int).toNat) = 1 from rfl] at hcut hRT hcap
 obtain ⟨T, hTd⟩ : ∃ T, l.drop 1 = T := ⟨_, rfl⟩
 rw [hTd] at hcut hRT hcap
 have hTg := Aside0.mk (show ∀ k : Nat, k < T.length → ∃ h : k + 1 < l.length, T[k]? = some (l[k + 1]'h) by
  intro k hk
  rw [← hTd] at hk ⊢
  rw [List.length_drop] at hk
  exact ⟨by omega, by rw [List.getElem?_drop, List.getElem?_eq_getElem (by omega)]; congr 1; congr 1; omega⟩)
 have hTl := Aside0.mk (show T.length = l.length - 1 by rw [← hTd]; exact List.length_drop)
 clear hTd
 have HS1 := Aside0.mk (show (joinB (l.take l.length)).length = (joinB l).length by rw [List.take_length])
 clear h0 h1 hx hread hi9 hsz9 hcap
 go_enter Try.func94, Try.ntmps94
 go_wp2
 go_loop [5, 41] (fun n i => ∃ k : Nat, k ≤ l.length ∧ i = .int .i64 k ∧ n = .int .i64 ((joinB (l.take k)).length : Nat)) (fun _ i => l.length - (intOf i).toNat)
 case atStart => exact ⟨0, Nat.zero_le _, rfl, rfl⟩
 case round =>
  obtain ⟨k, hk, rfl, rfl⟩ := hrel
  by_cases hkl : k < l.length
  ·obtain ⟨ad2, e2, hx2⟩ := Kd.at_string HR.out (k : Int) (by omega) (by omega)
   cases e2
   rw [rdOf_nat l k hkl] at hx2
   simp only [Int.toNat_natCast] at hx2
   have hkk : ((k : Int) < (l.length : Int)) = True := eq_true (by omega)
   have hle := joinB_at_len l k hkl
   have hle2 := HS.out
   have hj := Aside0.mk (show (joinB (l.take (k + 1))).length = (joinB (l.take k)).length + (l[k]).size by rw [joinB_take l k hkl, List.length_append, Array.length_toList]; rfl)
   obtain ⟨m, hm⟩ : ∃ m, (joinB (l.take k)).length = m := ⟨_, rfl⟩
   rw [hm] at hle
   rw [hm]
   have HM := Aside0.mk hm
   clear hm
   have hgt : decide (9223372036854775807 - (m : Int) < ((l[k]).size : Int)) = false := decide_eq_false (by omega)
   go_wp2
   go_round
   case rel => exact ⟨k + 1, hkl, by go_num, by rw [hj.out, HM.out]; go_num⟩
   case measure => simp [intOf]; omega
  ·have hkk : ((k : Int) < (l.length : Int)) = False := eq_false (by omega)
   obtain rfl : k = l.length := by omega
   clear hk hkl
   rw [HS1.out]
   have hbk := heap_alloc_new w (.cells #[.pointer none, .slice none 0 0] 121)
   go_wp2_with (go_at_call 100; refine (Bld.Grow_fresh w.heap.size w.heap.size (joinB l).length _ (Nat.le_refl _) hbk (by simp) (by have := HS.out; omega)).mono ?_)
   rintro e w1 rfl h1 hb1
   have B1 := Aside0.mk (show Below w.heap.size w w1 from ((Below.refl _ _).alloc (Nat.le_refl _) _).trans hb1)
   have I1 := Aside0.mk (show Lib.IsBuilderF 121 5 w.heap.size w.heap.size [] w1 from .inr (Lib.BuilderAtF.of h1))
   clear h1 hb1 hbk
   have c0 : w1.cell? ad = some (.string l[0]) := pw_cell_below B1.out hx0.out
   have hl0 := Aside0.mk (joinB_at_len l 0 (by omega))
   go_wp2_with (go_at_call 101; refine (Bld.writeString w.heap.size w.heap.size _ _ _ I1.out (by have := hl0.out; have := HS.out; simp; omega) B1.out.size).mono ?_)
   rintro e w2 ⟨rfl, h2, hb2, _⟩
   rw [List.nil_append] at h2
   have B2 := Aside0.mk (B1.out.trans hb2)
   have I2 := Aside0.mk (show Lib.IsBuilderF 121 5 w.heap.size w.heap.size (Lib.byteCells (joinB (l.take (0 + 1)))) w2 from .inr (by
    rw [joinB_take l 0 (by omega)]
    simpa [joinB, Lib.byteCells, Lib.strCells] using h2))
   clear h2 hb2 c0 I1 B1
   go_wp2
   go_loopw [65] (fun i wr => ∃ k : Nat, k ≤ T.length ∧ i = .int .i64 k ∧ Aside0 (Lib.IsBuilderF 121 5 w.heap.size w.heap.size (Lib.byteCells (joinB (l.take (k + 1)))) wr) ∧ Aside0 (Below w.heap.size w wr)) (fun i _ => T.length - (intOf i).toNat)
   case atStart => exact ⟨0, Nat.zero_le _, rfl, I2, B2⟩
   case round =>
    clear I2 B2
    obtain ⟨k, hk, rfl, I2, B2⟩ := hrel
    by_cases hkl : k < T.length
    ·obtain ⟨ad2, e2, hx2⟩ := ReadsOf.at_ hRT.out (k : Int) (by omega) (by omega)
     subst e2
     obtain ⟨hk1', hTk⟩ := hTg.out k hkl
     have hk1 := Aside0.mk hk1'
     have hx3 := Aside0.mk (show w.cell? (ad2.add k) = some (.string (l[k + 1]'hk1.out)) by
      rw [rdOf_nat _ k hkl] at hx2
      rw [List.getElem?_eq_getElem hkl] at hTk
      rw [Option.some.inj hTk] at hx2
      exact hx2)
     clear hTk hk1'
     have c0 : wr.cell? (ad2.add k) = some (.string (l[k + 1]'hk1.out)) := pw_cell_below B2.out hx3.out
     have hkk : ((k : Int) < (T.length : Int)) = True := eq_true (by omega)
     have hlk := Aside0.mk (joinB_at_len l (k + 1) hk1.out)
     have hn2 : T.length ≤ 9223372036854775806 := by have := hTl.out; omega
     clear hx2
     go_wp2_with (go_at_call 101; refine (Bld.writeString w.heap.size w.heap.size _ ⟨#[]⟩ _ I2.out (by have := hlk.out; have := HS.out; rw [Lib.byteCells_length]; have : (⟨#[]⟩ : ByteArray).size = 0 := rfl; omega) B2.out.size).mono ?_)
     rintro e w3 ⟨rfl, h3, hb3, _⟩
     have B3 := Aside0.mk (B2.out.trans hb3)
     have I3 := Aside0.mk (show Lib.IsBuilderF 121 5 w.heap.size w.heap.size (Lib.byteCells (joinB (l.take (k + 1)))) w3 from .inr (by simpa [Lib.strCells] using h3))
     clear h3 hb3 I2 B2 c0
     go_wp2_with (go_at_call 101; refine (Bld.writeString w.heap.size w.heap.size _ (l[k + 1]'hk1.out) _ I3.out (by have := hlk.out; have := HS.out; rw [Lib.byteCells_length]; omega) B3.out.size).mono ?_)
     rintro e w4 ⟨rfl, h4, hb4, _⟩
     have B4 := Aside0.mk (B3.out.trans hb4)
     have I4 := Aside0.mk (show Lib.IsBuilderF 121 5 w.heap.size w.heap.size (Lib.byteCells (joinB (l.take (k + 1 + 1)))) w4 from .inr (by
      rw [joinB_take l (k + 1) hk1.out, ← byteCells_str']
      exact h4))
     clear h4 hb4 I3 B3
     go_wp2
     go_roundw
     case rel => exact ⟨k + 1, hkl, by go_num, I4, B4⟩
     case measure => simp [intOf]; omega
    ·have hkk : ((k : Int) < (T.length : Int)) = False := eq_false (by omega)
     have hkT := Aside0.mk (show joinB (l.take (k + 1)) = joinB l by rw [show k + 1 = l.length by have := hTl.out; omega, List.take_length])
     rw [hkT.out] at I2
     clear hk hkl
     go_wp2_with (go_at_call 102; refine (Try.Builder_String_any_f w.heap.size w.heap.size (joinB l) _ I2.out B2.out.size).mono ?_)
     rintro e w5 ⟨rfl, _, hb5⟩
     go_wp2
     go_ret
     exact ⟨rfl, B2.out.trans hb5⟩
def strings_Join.f (l0 : List ByteArray) (a1 : ByteArray) : Option ByteArray := if a1 = ⟨#[]⟩ ∧ (joinB l0).length ≤ 1000000000 then some ⟨(joinB l0).toArray⟩ else none
theorem strings_Join.calls (A0 : Option Addr) (c0 : Nat) (l0 : List ByteArray) (a1 : ByteArray) (r : ByteArray) (w : World) (hr0 : Kd.string.C w A0 l0.length l0) (hc0 : l0.length ≤ c0) (h : strings_Join.f l0 a1 = some r) :
  Calls Try.prog 94 #[.slice A0 l0.length c0, .string a1] w fun e w' => e = .returned (.string r) ∧ Below w.heap.size w w' := by
 unfold strings_Join.f at h
 split at h
 ·rename_i hh
  obtain rfl := Option.some.inj h
  rw [hh.1]
  exact join_calls A0 c0 l0 w hr0 hc0 hh.2
 ·cases h
end Go.Proofs.Ytjepecinpgjgdaa.PVau
