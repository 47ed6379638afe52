import Derived.Test.YthljjgolloiamaaDoorYNamsmall
import Derived.Test.YthljjgolloiamaaDoorZNamName
import Derived.Test.YthljjgolloiamaaDoorShelf
import Derived.Lib.SlTrimSet
import Derived.Shelf.Strings.SlTrimAscii
/-! impl.isName: what it answers. -/
namespace Go.Proofs.YthljjgolloiamaaDoor.PNam
open Go.RowKit Go.Shelf Go.Proofs.YthljjgolloiamaaDoorW.PrintWords Go.Proofs.YthljjgolloiamaaDoorW.PrintLast Go.Proofs.YthljjgolloiamaaDoorW.PrintMore Go.Proofs.YthljjgolloiamaaDoor.E Go.Proofs.YthljjgolloiamaaDoor.ZNam
set_option linter.unusedSimpArgs false
set_option linter.unusedVariables false
def nameSet : List UInt8 := [97, 98, 99, 100, 101, 102, 103, 104, 105, 106, 107, 108, 109, 110, 111, 112, 113, 114, 115, 116, 117, 118, 119, 120, 121, 122, 48, 49, 50, 51, 52, 53, 54, 55, 56, 57, 46, 45]
def okName (s : ByteArray) : Bool := decide (1 ≤ s.size ∧ s.size ≤ 12) && s.data.toList.all (nameSet.contains ·)
def impl_isName.f (s : ByteArray) : Option Bool := some (okName s)
set_option maxHeartbeats 4000000 in
set_option maxRecDepth 100000 in
theorem impl_isName.calls (s : ByteArray) (r : Bool) (w : World) (h : impl_isName.f s = some r) :
    Calls Tryd.prog 68 #[.string s] w fun e w' => e = .returned (.bool r) ∧ Below w.heap.size w w' := by
  obtain rfl := Option.some.inj h
  clear h
  have hwi : impl_within.f (s.size : Int) 1 12 = some (decide (1 ≤ s.size ∧ s.size ≤ 12)) := by
    unfold impl_within.f
    by_cases h1 : (s.size : Int) ≥ 1
    · rw [if_pos h1, Option.some.injEq, Bool.eq_iff_iff, decide_eq_true_iff, decide_eq_true_iff]
      omega
    · rw [if_neg h1, Option.some.injEq, Bool.eq_iff_iff, decide_eq_true_iff]
      constructor
      · intro h; cases h
      · intro h; omega
  have HB := Aside0.mk (Below.refl w.heap.size w)
  by_cases hl : 1 ≤ s.size ∧ s.size ≤ 12
  · have hcon : ∀ W : World, Calls Tryd.prog 104 #[.string s, .string ⟨#[97, 98, 99, 100, 101, 102, 103, 104, 105, 106, 107, 108, 109, 110, 111, 112, 113, 114, 115, 116, 117, 118, 119, 120, 121, 122, 48, 49, 50, 51, 52, 53, 54, 55, 56, 57, 46, 45]⟩] W (fun e w' => e = .returned (.string ⟨(Lib.trimS s.data.toList nameSet).toArray⟩) ∧ Below W.heap.size W w') :=
      fun W => Any.strings_Trim_laid Tryd.lays160 (by kernel_rfl) s ⟨#[97, 98, 99, 100, 101, 102, 103, 104, 105, 106, 107, 108, 109, 110, 111, 112, 113, 114, 115, 116, 117, 118, 119, 120, 121, 122, 48, 49, 50, 51, 52, 53, 54, 55, 56, 57, 46, 45]⟩ W (by omega) (by decide) (ascii_of_all (by decide))
    have hq : okName s = decide (Lib.trimS s.data.toList nameSet = []) := by
      unfold okName
      rw [decide_eq_true hl, Bool.true_and]
      cases ha : s.data.toList.all (nameSet.contains ·) with
      | true => exact (decide_eq_true ((trim_nil _ _).2 ha)).symm
      | false => exact (decide_eq_false (fun h_ => by rw [(trim_nil _ _).1 h_] at ha; cases ha)).symm
    have hq2 : (⟨(Lib.trimS s.data.toList nameSet).toArray⟩ : ByteArray).toList.isEmpty = okName s := by
      rw [hq, Lib.toList_data]
      cases Lib.trimS s.data.toList nameSet <;> rfl
    generalize (⟨(Lib.trimS s.data.toList nameSet).toArray⟩ : ByteArray) = t at hcon hq2
    rw [decide_eq_true hl] at hwi
    have TW := Aside0.mk (impl_within.calls (s.size : Int) 1 12 true w hwi)
    have TT := Aside0.mk hcon
    have Q := Aside0.mk hq2
    clear hcon hq hq2 hl hwi
    go_enter Tryd.func68, Tryd.ntmps68
    go_wp2_with (first | (go_at_call 69; refine TW.out.mono ?_; (rintro e w' ⟨rfl, hd⟩); (have hb := hd.below); (replace HB := Aside0.mk (below_step HB.out hb)); clear hd hb) | (go_at_call 104; refine (TT.out _).mono ?_; (rintro e w' ⟨rfl, hb⟩); (replace HB := Aside0.mk (below_step HB.out hb)); clear hb))
    go_ret
    exact ⟨by rw [← Q.out]; rfl, HB.out⟩
  · rw [decide_eq_false hl] at hwi
    have hr : okName s = false := by unfold okName; rw [decide_eq_false hl, Bool.false_and]
    rw [hr]
    have TW := Aside0.mk (impl_within.calls (s.size : Int) 1 12 false w hwi)
    clear hwi hl hr
    go_enter Tryd.func68, Tryd.ntmps68
    go_wp2_with (go_at_call 69; refine TW.out.mono ?_; (rintro e w' ⟨rfl, hd⟩); (have hb := hd.below); (replace HB := Aside0.mk (below_step HB.out hb)); clear hd hb)
    go_ret
    exact ⟨rfl, HB.out⟩
end Go.Proofs.YthljjgolloiamaaDoor.PNam
