-- of this session: its walks are told by a program (wip/ext.py) out of the translation
import Derived.Test.YtdlaegianaofjaaYFnCutsx0
import Derived.Test.YtdlaegianaofjaaXFnCutsDraw
import Derived.Test.YtdlaegianaofjaaXFnCutsDraw2
import Derived.Test.YtdlaegianaofjaaYFnCutsx1
import Derived.Test.YtdlaegianaofjaaYFnCutsx2
import Derived.Test.YtdlaegianaofjaaYFnCutsx3
import Derived.Test.YtdlaegianaofjaaYFnCutsx4
namespace Go.Proofs.Ytdlaegianaofjaa.PFnCuts
open Go.RowKit Go.Proofs.YtdlaegianaofjaaW.PrintWords Go.Proofs.YtdlaegianaofjaaW.PrintLast Go.Proofs.YtdlaegianaofjaaW.PrintMore
attribute [local go_sem] max2_int min2_int max_two min_two max_three min_three max_four min_four   -- for this text's walks alone
set_option linter.unusedVariables false
set_option linter.unusedSimpArgs false

/-! ### laws_FnCuts: function 6 -/
mutual
def laws_FnCuts.j0 : Nat → List Int → ByteArray → List Int → Bool → List ByteArray → Bool → Option (Bool)
  | 0, _, _, _, _, _, _ => none
  | k + 1, x1, x5, x6, x7, x10, x77 => if x77 = true then (some false) else (if x7 = true then (laws_FnCuts.l0 k x1 x5 x6 x10 (⟨#[]⟩ : ByteArray) x10 (x10.length : Int) 0) else ((spec_DrawRollOn.f x1).bind fun bt262 => ((impl_RollOn.f bt262.1 bt262.2.1 bt262.2.2).bind fun bt265 => ((spec_RollOn.f bt262.1 bt262.2.1 bt262.2.2).bind fun bt267 => (if (bt265.2 == bt267.2) = true then (some (bt265.1 == bt267.1)) else (some false))))))
def laws_FnCuts.l0 : Nat → List Int → ByteArray → List Int → List ByteArray → ByteArray → List ByteArray → Int → Int → Option (Bool)
  | 0, _, _, _, _, _, _, _, _ => none
  | k + 1, x1, x5, x6, x10, x12, x79, x80, x81 => if x81 < x80 then (if 0 ≤ x81 then (if x81 < (x79.length : Int) then (if x12.size + (rdOf ByteArray.empty x79 x81).size ≤ 9223372036854775807 then (if ((rdOf ByteArray.empty x79 x81).size : Int) > 24 then (some false) else (if x81 < (wrap64 ((x10.length : Int) - 1)) then (if ((rdOf ByteArray.empty x79 x81).size : Int) < 3 then (some false) else (if x81 < (x6.length : Int) then (if (rd x6 x81) = ((x12 ++ (rdOf ByteArray.empty x79 x81)).size : Int) then (laws_FnCuts.l0 k x1 x5 x6 x10 (x12 ++ (rdOf ByteArray.empty x79 x81)) x79 x80 (wrap64 (x81 + 1))) else (some false)) else (none))) else (if x81 < (x6.length : Int) then (if (rd x6 x81) = ((x12 ++ (rdOf ByteArray.empty x79 x81)).size : Int) then (laws_FnCuts.l0 k x1 x5 x6 x10 (x12 ++ (rdOf ByteArray.empty x79 x81)) x79 x80 (wrap64 (x81 + 1))) else (some false)) else (none)))) else (none)) else (none)) else (none)) else (if x12.toList = x5.toList then (laws_FnCuts.l1 k x1 x5 x6 x6 (x6.length : Int) 0) else (some false))
def laws_FnCuts.l1 : Nat → List Int → ByteArray → List Int → List Int → Int → Int → Option (Bool)
  | 0, _, _, _, _, _, _ => none
  | k + 1, x1, x5, x6, x117, x118, x119 => if x119 < x118 then (if 0 ≤ x119 then (if x119 < (x117.length : Int) then (if (rd x117 x119) < 8 then (laws_FnCuts.l1 k x1 x5 x6 x117 x118 (wrap64 (x119 + 1))) else (if 0 ≤ (wrap64 ((rd x117 x119) - 4)) then (if (wrap64 ((rd x117 x119) - 4)) ≤ (x5.size : Int) then (if 4 + (x5.extract ((wrap64 ((rd x117 x119) - 4)) : Int).toNat x5.size).size ≤ 9223372036854775807 then ((impl_CutsOf.f k ((⟨#[122, 122, 122, 122]⟩ : ByteArray) ++ (x5.extract ((wrap64 ((rd x117 x119) - 4)) : Int).toNat x5.size))).bind fun bt246 => (if bt246.2 = true then (laws_FnCuts.l2 k x1 x5 x6 (rd x117 x119) false ([] : List Int) x117 x118 x119 bt246.1 (bt246.1.length : Int) 0) else (laws_FnCuts.l1 k x1 x5 x6 x117 x118 (wrap64 (x119 + 1))))) else (none)) else (none)) else (none))) else (none)) else (none)) else ((spec_DrawRollOn.f x1).bind fun bt238 => ((impl_RollOn.f bt238.1 bt238.2.1 bt238.2.2).bind fun bt241 => ((spec_RollOn.f bt238.1 bt238.2.1 bt238.2.2).bind fun bt243 => (if (bt241.2 == bt243.2) = true then (some (bt241.1 == bt243.1)) else (some false)))))
def laws_FnCuts.l2 : Nat → List Int → ByteArray → List Int → Int → Bool → List Int → List Int → Int → Int → List Int → Int → Int → Option (Bool)
  | 0, _, _, _, _, _, _, _, _, _, _, _, _ => none
  | k + 1, x1, x5, x6, x16, x20, x22, x117, x118, x119, x137, x138, x139 => if x139 < x138 then (if 0 ≤ x139 then (if x139 < (x137.length : Int) then (if x20 = true then (if (rd x137 x139) > 8 then (if x22.length < 17592186044416 then (laws_FnCuts.l2 k x1 x5 x6 x16 true (x22 ++ [wrap64 ((wrap64 ((rd x137 x139) - 4)) - 4)]) x117 x118 x119 x137 x138 (wrap64 (x139 + 1))) else (none)) else (laws_FnCuts.l2 k x1 x5 x6 x16 true x22 x117 x118 x119 x137 x138 (wrap64 (x139 + 1)))) else (if (rd x137 x139) > 8 then (if x22.length < 17592186044416 then (laws_FnCuts.l2 k x1 x5 x6 x16 ((rd x137 x139) == 8) (x22 ++ [wrap64 ((wrap64 ((rd x137 x139) - 4)) - 4)]) x117 x118 x119 x137 x138 (wrap64 (x139 + 1))) else (none)) else (laws_FnCuts.l2 k x1 x5 x6 x16 ((rd x137 x139) == 8) x22 x117 x118 x119 x137 x138 (wrap64 (x139 + 1))))) else (none)) else (none)) else (laws_FnCuts.l3 k x1 x5 x6 x16 x20 ([] : List Int) x22 x117 x118 x119 x6 (x6.length : Int) 0)
def laws_FnCuts.l3 : Nat → List Int → ByteArray → List Int → Int → Bool → List Int → List Int → List Int → Int → Int → List Int → Int → Int → Option (Bool)
  | 0, _, _, _, _, _, _, _, _, _, _, _, _, _ => none
  | k + 1, x1, x5, x6, x16, x20, x21, x22, x117, x118, x119, x157, x158, x159 => if x159 < x158 then (if 0 ≤ x159 then (if x159 < (x157.length : Int) then (if (rd x157 x159) > x16 then (if x21.length < 17592186044416 then (laws_FnCuts.l3 k x1 x5 x6 x16 x20 (x21 ++ [wrap64 ((rd x157 x159) - x16)]) x22 x117 x118 x119 x157 x158 (wrap64 (x159 + 1))) else (none)) else (laws_FnCuts.l3 k x1 x5 x6 x16 x20 x21 x22 x117 x118 x119 x157 x158 (wrap64 (x159 + 1)))) else (none)) else (none)) else (if x20 = true then ((laws_sameInts.f k x21 x22).bind fun t261 => (if t261 = true then (laws_FnCuts.l1 k x1 x5 x6 x117 x118 (wrap64 (x119 + 1))) else (some false))) else (laws_FnCuts.l1 k x1 x5 x6 x117 x118 (wrap64 (x119 + 1))))
end
def laws_FnCuts.f (k : Nat) (l0 : List Int) (l1 : List Int) : Option (Bool) := if (wrap64 ((l0.length : Int) + (l1.length : Int))) > 1048576 then (some true) else ((spec_DrawCutsOf.f k l0).bind fun t221 => ((impl_CutsOf.f k t221).bind fun bt222 => ((spec_CutsOf.f k t221).bind fun bt226 => ((impl_PiecesOf.f k t221).bind fun bt230 => (if (bt222.2 != bt226.2) = true then (laws_FnCuts.j0 k l1 t221 bt222.1 bt222.2 bt230.1 true) else ((laws_sameInts.f k bt222.1 bt226.1).bind fun t234 => (if t234 = true then (if (bt230.2 != bt226.2) = true then (laws_FnCuts.j0 k l1 t221 bt222.1 bt222.2 bt230.1 true) else (laws_FnCuts.j0 k l1 t221 bt222.1 bt222.2 bt230.1 ((bt230.1.length : Int) != (bt222.1.length : Int)))) else (laws_FnCuts.j0 k l1 t221 bt222.1 bt222.2 bt230.1 true))))))))
theorem laws_FnCuts.mono_l : ∀ k, (∀ y0 y1 y2 y3 y4 y5, LeO (laws_FnCuts.j0 k y0 y1 y2 y3 y4 y5) (laws_FnCuts.j0 (k + 1) y0 y1 y2 y3 y4 y5)) ∧ (∀ y0 y1 y2 y3 y4 y5 y6 y7, LeO (laws_FnCuts.l0 k y0 y1 y2 y3 y4 y5 y6 y7) (laws_FnCuts.l0 (k + 1) y0 y1 y2 y3 y4 y5 y6 y7)) ∧ (∀ y0 y1 y2 y3 y4 y5, LeO (laws_FnCuts.l1 k y0 y1 y2 y3 y4 y5) (laws_FnCuts.l1 (k + 1) y0 y1 y2 y3 y4 y5)) ∧ (∀ y0 y1 y2 y3 y4 y5 y6 y7 y8 y9 y10 y11, LeO (laws_FnCuts.l2 k y0 y1 y2 y3 y4 y5 y6 y7 y8 y9 y10 y11) (laws_FnCuts.l2 (k + 1) y0 y1 y2 y3 y4 y5 y6 y7 y8 y9 y10 y11)) ∧ (∀ y0 y1 y2 y3 y4 y5 y6 y7 y8 y9 y10 y11 y12, LeO (laws_FnCuts.l3 k y0 y1 y2 y3 y4 y5 y6 y7 y8 y9 y10 y11 y12) (laws_FnCuts.l3 (k + 1) y0 y1 y2 y3 y4 y5 y6 y7 y8 y9 y10 y11 y12))
  | 0 => ⟨fun _ _ _ _ _ _ r h => by simp [laws_FnCuts.j0] at h, fun _ _ _ _ _ _ _ _ r h => by simp [laws_FnCuts.l0] at h, fun _ _ _ _ _ _ r h => by simp [laws_FnCuts.l1] at h, fun _ _ _ _ _ _ _ _ _ _ _ _ r h => by simp [laws_FnCuts.l2] at h, fun _ _ _ _ _ _ _ _ _ _ _ _ _ r h => by simp [laws_FnCuts.l3] at h⟩
  | k + 1 => by
    obtain ⟨ih0, ih1, ih2, ih3, ih4⟩ := laws_FnCuts.mono_l k
    refine ⟨?_, ?_, ?_, ?_, ?_⟩
    · intro y0 y1 y2 y3 y4 y5
      unfold laws_FnCuts.j0
      repeat' first
      | (with_reducible exact ih0 _ _ _ _ _ _)
      | (with_reducible exact ih1 _ _ _ _ _ _ _ _)
      | (with_reducible exact ih2 _ _ _ _ _ _)
      | (with_reducible exact ih3 _ _ _ _ _ _ _ _ _ _ _ _)
      | (with_reducible exact ih4 _ _ _ _ _ _ _ _ _ _ _ _ _)
      | (with_reducible exact impl_CutsOf.mono _ _)
      | (with_reducible exact impl_PiecesOf.mono _ _)
      | (with_reducible exact laws_sameInts.mono _ _ _)
      | (with_reducible exact spec_CutsOf.mono _ _)
      | (with_reducible exact spec_DrawCutsOf.mono _ _)
      | (with_reducible exact LeO.refl _)
      | (with_reducible exact LeO.none _)
      | (with_reducible refine LeO.ite ?_ ?_)
      | (with_reducible refine LeO.bind ?_ (fun _ => ?_))
      | exact ih0 _ _ _ _ _ _
      | exact ih1 _ _ _ _ _ _ _ _
      | exact ih2 _ _ _ _ _ _
      | exact ih3 _ _ _ _ _ _ _ _ _ _ _ _
      | exact ih4 _ _ _ _ _ _ _ _ _ _ _ _ _
      | exact impl_CutsOf.mono _ _
      | exact impl_PiecesOf.mono _ _
      | exact laws_sameInts.mono _ _ _
      | exact spec_CutsOf.mono _ _
      | exact spec_DrawCutsOf.mono _ _
      | exact LeO.none _
      | refine LeO.ite ?_ ?_
      | refine LeO.bind ?_ (fun _ => ?_)
    · intro y0 y1 y2 y3 y4 y5 y6 y7
      unfold laws_FnCuts.l0
      repeat' first
      | (with_reducible exact ih0 _ _ _ _ _ _)
      | (with_reducible exact ih1 _ _ _ _ _ _ _ _)
      | (with_reducible exact ih2 _ _ _ _ _ _)
      | (with_reducible exact ih3 _ _ _ _ _ _ _ _ _ _ _ _)
      | (with_reducible exact ih4 _ _ _ _ _ _ _ _ _ _ _ _ _)
      | (with_reducible exact impl_CutsOf.mono _ _)
      | (with_reducible exact impl_PiecesOf.mono _ _)
      | (with_reducible exact laws_sameInts.mono _ _ _)
      | (with_reducible exact spec_CutsOf.mono _ _)
      | (with_reducible exact spec_DrawCutsOf.mono _ _)
      | (with_reducible exact LeO.refl _)
      | (with_reducible exact LeO.none _)
      | (with_reducible refine LeO.ite ?_ ?_)
      | (with_reducible refine LeO.bind ?_ (fun _ => ?_))
      | exact ih0 _ _ _ _ _ _
      | exact ih1 _ _ _ _ _ _ _ _
      | exact ih2 _ _ _ _ _ _
      | exact ih3 _ _ _ _ _ _ _ _ _ _ _ _
      | exact ih4 _ _ _ _ _ _ _ _ _ _ _ _ _
      | exact impl_CutsOf.mono _ _
      | exact impl_PiecesOf.mono _ _
      | exact laws_sameInts.mono _ _ _
      | exact spec_CutsOf.mono _ _
      | exact spec_DrawCutsOf.mono _ _
      | exact LeO.none _
      | refine LeO.ite ?_ ?_
      | refine LeO.bind ?_ (fun _ => ?_)
    · intro y0 y1 y2 y3 y4 y5
      unfold laws_FnCuts.l1
      repeat' first
      | (with_reducible exact ih0 _ _ _ _ _ _)
      | (with_reducible exact ih1 _ _ _ _ _ _ _ _)
      | (with_reducible exact ih2 _ _ _ _ _ _)
      | (with_reducible exact ih3 _ _ _ _ _ _ _ _ _ _ _ _)
      | (with_reducible exact ih4 _ _ _ _ _ _ _ _ _ _ _ _ _)
      | (with_reducible exact impl_CutsOf.mono _ _)
      | (with_reducible exact impl_PiecesOf.mono _ _)
      | (with_reducible exact laws_sameInts.mono _ _ _)
      | (with_reducible exact spec_CutsOf.mono _ _)
      | (with_reducible exact spec_DrawCutsOf.mono _ _)
      | (with_reducible exact LeO.refl _)
      | (with_reducible exact LeO.none _)
      | (with_reducible refine LeO.ite ?_ ?_)
      | (with_reducible refine LeO.bind ?_ (fun _ => ?_))
      | exact ih0 _ _ _ _ _ _
      | exact ih1 _ _ _ _ _ _ _ _
      | exact ih2 _ _ _ _ _ _
      | exact ih3 _ _ _ _ _ _ _ _ _ _ _ _
      | exact ih4 _ _ _ _ _ _ _ _ _ _ _ _ _
      | exact impl_CutsOf.mono _ _
      | exact impl_PiecesOf.mono _ _
      | exact laws_sameInts.mono _ _ _
      | exact spec_CutsOf.mono _ _
      | exact spec_DrawCutsOf.mono _ _
      | exact LeO.none _
      | refine LeO.ite ?_ ?_
      | refine LeO.bind ?_ (fun _ => ?_)
    · intro y0 y1 y2 y3 y4 y5 y6 y7 y8 y9 y10 y11
      unfold laws_FnCuts.l2
      repeat' first
      | (with_reducible exact ih0 _ _ _ _ _ _)
      | (with_reducible exact ih1 _ _ _ _ _ _ _ _)
      | (with_reducible exact ih2 _ _ _ _ _ _)
      | (with_reducible exact ih3 _ _ _ _ _ _ _ _ _ _ _ _)
      | (with_reducible exact ih4 _ _ _ _ _ _ _ _ _ _ _ _ _)
      | (with_reducible exact impl_CutsOf.mono _ _)
      | (with_reducible exact impl_PiecesOf.mono _ _)
      | (with_reducible exact laws_sameInts.mono _ _ _)
      | (with_reducible exact spec_CutsOf.mono _ _)
      | (with_reducible exact spec_DrawCutsOf.mono _ _)
      | (with_reducible exact LeO.refl _)
      | (with_reducible exact LeO.none _)
      | (with_reducible refine LeO.ite ?_ ?_)
      | (with_reducible refine LeO.bind ?_ (fun _ => ?_))
      | exact ih0 _ _ _ _ _ _
      | exact ih1 _ _ _ _ _ _ _ _
      | exact ih2 _ _ _ _ _ _
      | exact ih3 _ _ _ _ _ _ _ _ _ _ _ _
      | exact ih4 _ _ _ _ _ _ _ _ _ _ _ _ _
      | exact impl_CutsOf.mono _ _
      | exact impl_PiecesOf.mono _ _
      | exact laws_sameInts.mono _ _ _
      | exact spec_CutsOf.mono _ _
      | exact spec_DrawCutsOf.mono _ _
      | exact LeO.none _
      | refine LeO.ite ?_ ?_
      | refine LeO.bind ?_ (fun _ => ?_)
    · intro y0 y1 y2 y3 y4 y5 y6 y7 y8 y9 y10 y11 y12
      unfold laws_FnCuts.l3
      repeat' first
      | (with_reducible exact ih0 _ _ _ _ _ _)
      | (with_reducible exact ih1 _ _ _ _ _ _ _ _)
      | (with_reducible exact ih2 _ _ _ _ _ _)
      | (with_reducible exact ih3 _ _ _ _ _ _ _ _ _ _ _ _)
      | (with_reducible exact ih4 _ _ _ _ _ _ _ _ _ _ _ _ _)
      | (with_reducible exact impl_CutsOf.mono _ _)
      | (with_reducible exact impl_PiecesOf.mono _ _)
      | (with_reducible exact laws_sameInts.mono _ _ _)
      | (with_reducible exact spec_CutsOf.mono _ _)
      | (with_reducible exact spec_DrawCutsOf.mono _ _)
      | (with_reducible exact LeO.refl _)
      | (with_reducible exact LeO.none _)
      | (with_reducible refine LeO.ite ?_ ?_)
      | (with_reducible refine LeO.bind ?_ (fun _ => ?_))
      | exact ih0 _ _ _ _ _ _
      | exact ih1 _ _ _ _ _ _ _ _
      | exact ih2 _ _ _ _ _ _
      | exact ih3 _ _ _ _ _ _ _ _ _ _ _ _
      | exact ih4 _ _ _ _ _ _ _ _ _ _ _ _ _
      | exact impl_CutsOf.mono _ _
      | exact impl_PiecesOf.mono _ _
      | exact laws_sameInts.mono _ _ _
      | exact spec_CutsOf.mono _ _
      | exact spec_DrawCutsOf.mono _ _
      | exact LeO.none _
      | refine LeO.ite ?_ ?_
      | refine LeO.bind ?_ (fun _ => ?_)
theorem laws_FnCuts.mono : ∀ a0 a1 k, LeO (laws_FnCuts.f k a0 a1) (laws_FnCuts.f (k + 1) a0 a1) := by
  intro a0 a1 k
  obtain ⟨ih0, ih1, ih2, ih3, ih4⟩ := laws_FnCuts.mono_l k
  unfold laws_FnCuts.f
  repeat' first
      | (with_reducible exact ih0 _ _ _ _ _ _)
      | (with_reducible exact ih1 _ _ _ _ _ _ _ _)
      | (with_reducible exact ih2 _ _ _ _ _ _)
      | (with_reducible exact ih3 _ _ _ _ _ _ _ _ _ _ _ _)
      | (with_reducible exact ih4 _ _ _ _ _ _ _ _ _ _ _ _ _)
      | (with_reducible exact impl_CutsOf.mono _ _)
      | (with_reducible exact impl_PiecesOf.mono _ _)
      | (with_reducible exact laws_sameInts.mono _ _ _)
      | (with_reducible exact spec_CutsOf.mono _ _)
      | (with_reducible exact spec_DrawCutsOf.mono _ _)
      | (with_reducible exact LeO.refl _)
      | (with_reducible exact LeO.none _)
      | (with_reducible refine LeO.ite ?_ ?_)
      | (with_reducible refine LeO.bind ?_ (fun _ => ?_))
      | exact ih0 _ _ _ _ _ _
      | exact ih1 _ _ _ _ _ _ _ _
      | exact ih2 _ _ _ _ _ _
      | exact ih3 _ _ _ _ _ _ _ _ _ _ _ _
      | exact ih4 _ _ _ _ _ _ _ _ _ _ _ _ _
      | exact impl_CutsOf.mono _ _
      | exact impl_PiecesOf.mono _ _
      | exact laws_sameInts.mono _ _ _
      | exact spec_CutsOf.mono _ _
      | exact spec_DrawCutsOf.mono _ _
      | exact LeO.none _
      | refine LeO.ite ?_ ?_
      | refine LeO.bind ?_ (fun _ => ?_)
set_option maxHeartbeats 8000000 in
set_option maxRecDepth 100000 in
theorem laws_FnCuts.calls (k : Nat) (A0 : Option Addr) (c0 : Nat) (l0 : List Int) (A1 : Option Addr) (c1 : Nat) (l1 : List Int) (r : Bool) (w : World) (hr0 : Kd.C (Kd.int .u8) w A0 l0.length l0) (hc0 : l0.length ≤ c0) (hr1 : Kd.C (Kd.int .u8) w A1 l1.length l1) (hc1 : l1.length ≤ c1) (h : laws_FnCuts.f k l0 l1 = some r) :
    Calls Try.prog 6 #[.slice A0 l0.length c0, .slice A1 l1.length c1] w fun e w' => e = .returned (.bool r) ∧ Below w.heap.size w w' := by
  have HR0 := Aside0.mk hr0
  have HC0 := Aside0.mk hc0
  clear hr0 hc0
  have HR1 := Aside0.mk hr1
  have HC1 := Aside0.mk hc1
  clear hr1 hc1
  have HB := Aside0.mk (Below.refl w.heap.size w)
  have H : (if (wrap64 ((l0.length : Int) + (l1.length : Int))) > 1048576 then (some true) else ((spec_DrawCutsOf.f k l0).bind fun t221 => ((impl_CutsOf.f k t221).bind fun bt222 => ((spec_CutsOf.f k t221).bind fun bt226 => ((impl_PiecesOf.f k t221).bind fun bt230 => (if (bt222.2 != bt226.2) = true then (laws_FnCuts.j0 k l1 t221 bt222.1 bt222.2 bt230.1 true) else ((laws_sameInts.f k bt222.1 bt226.1).bind fun t234 => (if t234 = true then (if (bt230.2 != bt226.2) = true then (laws_FnCuts.j0 k l1 t221 bt222.1 bt222.2 bt230.1 true) else (laws_FnCuts.j0 k l1 t221 bt222.1 bt222.2 bt230.1 ((bt230.1.length : Int) != (bt222.1.length : Int)))) else (laws_FnCuts.j0 k l1 t221 bt222.1 bt222.2 bt230.1 true))))))))) = some r := h
  clear h
  by_cases c3 : (wrap64 ((l0.length : Int) + (l1.length : Int))) > 1048576
  · rw [if_pos c3] at H
    have c3b0 : decide (1048576 < (wrap64 ((l0.length : Int) + (l1.length : Int)))) = true := decide_eq_true c3
    clear c3
    obtain rfl := Option.some.inj H
    go_enter Try.func6, Try.ntmps6
    go_wp2
    go_ret
    exact ⟨by first | rfl | (simp [errW_none, errW_some] <;> rfl) | (simp [*, errW_none, errW_some] <;> rfl) | (simp [Go.Proofs.Ytdlaegianaofjaa.E.isEmpty_bne]; done) | (rw [Go.Proofs.Ytdlaegianaofjaa.E.bne_empty]), by repeat (first | (with_reducible first | exact HB.out | apply below_alloc | apply pw_below_drewN | apply below_drew1) | exact HB.out)⟩
  · rw [if_neg c3] at H
    have c3b0 : decide (1048576 < (wrap64 ((l0.length : Int) + (l1.length : Int)))) = false := decide_eq_false c3
    clear c3
    replace H := Option.bind_eq_some_iff.mp H
    obtain ⟨t221, A40, H⟩ := H
    replace H : ((impl_CutsOf.f k t221).bind fun bt222 => ((spec_CutsOf.f k t221).bind fun bt226 => ((impl_PiecesOf.f k t221).bind fun bt230 => (if (bt222.2 != bt226.2) = true then (laws_FnCuts.j0 k l1 t221 bt222.1 bt222.2 bt230.1 true) else ((laws_sameInts.f k bt222.1 bt226.1).bind fun t234 => (if t234 = true then (if (bt230.2 != bt226.2) = true then (laws_FnCuts.j0 k l1 t221 bt222.1 bt222.2 bt230.1 true) else (laws_FnCuts.j0 k l1 t221 bt222.1 bt222.2 bt230.1 ((bt230.1.length : Int) != (bt222.1.length : Int)))) else (laws_FnCuts.j0 k l1 t221 bt222.1 bt222.2 bt230.1 true))))))) = some r := H
    have A4 := Aside0.mk A40
    clear A40
    replace H := Option.bind_eq_some_iff.mp H
    obtain ⟨⟨t222, t223⟩, A50, H⟩ := H
    replace H : ((spec_CutsOf.f k t221).bind fun bt226 => ((impl_PiecesOf.f k t221).bind fun bt230 => (if (t223 != bt226.2) = true then (laws_FnCuts.j0 k l1 t221 t222 t223 bt230.1 true) else ((laws_sameInts.f k t222 bt226.1).bind fun t234 => (if t234 = true then (if (bt230.2 != bt226.2) = true then (laws_FnCuts.j0 k l1 t221 t222 t223 bt230.1 true) else (laws_FnCuts.j0 k l1 t221 t222 t223 bt230.1 ((bt230.1.length : Int) != (t222.length : Int)))) else (laws_FnCuts.j0 k l1 t221 t222 t223 bt230.1 true)))))) = some r := H
    have A5 := Aside0.mk A50
    clear A50
    replace H := Option.bind_eq_some_iff.mp H
    obtain ⟨⟨t226, t227⟩, A60, H⟩ := H
    replace H : ((impl_PiecesOf.f k t221).bind fun bt230 => (if (t223 != t227) = true then (laws_FnCuts.j0 k l1 t221 t222 t223 bt230.1 true) else ((laws_sameInts.f k t222 t226).bind fun t234 => (if t234 = true then (if (bt230.2 != t227) = true then (laws_FnCuts.j0 k l1 t221 t222 t223 bt230.1 true) else (laws_FnCuts.j0 k l1 t221 t222 t223 bt230.1 ((bt230.1.length : Int) != (t222.length : Int)))) else (laws_FnCuts.j0 k l1 t221 t222 t223 bt230.1 true))))) = some r := H
    have A6 := Aside0.mk A60
    clear A60
    replace H := Option.bind_eq_some_iff.mp H
    obtain ⟨⟨t230, t231⟩, A70, H⟩ := H
    replace H : (if (t223 != t227) = true then (laws_FnCuts.j0 k l1 t221 t222 t223 t230 true) else ((laws_sameInts.f k t222 t226).bind fun t234 => (if t234 = true then (if (t231 != t227) = true then (laws_FnCuts.j0 k l1 t221 t222 t223 t230 true) else (laws_FnCuts.j0 k l1 t221 t222 t223 t230 ((t230.length : Int) != (t222.length : Int)))) else (laws_FnCuts.j0 k l1 t221 t222 t223 t230 true)))) = some r := H
    have A7 := Aside0.mk A70
    clear A70
    have HC8 := Aside0.mk H
    clear H
    go_enter Try.func6, Try.ntmps6
    go_upto_region 7 with (first | ((with_reducible refine gate_callee (f := 29) rfl ?_); refine goesL_ (some 41) rfl rfl Try.func29 (by kernel_rfl) rfl #[.slice A0 l0.length c0] rfl (by (try simp only [List.map_toArray, List.map_cons, List.map_nil]); first | done | rfl | (simp only [List.length_drop, List.length_take]; rfl)) ?_; (with_reducible refine (spec_DrawCutsOf.calls k _ _ l0 t221 _ ?side1 ?side2 A4.out).mono ?_); (case side1 => repeat (first | exact HR0.out | (with_reducible refine Kd.C_alloc ?_ _) | (with_reducible refine Kd.C_drewN ?_ _) | (with_reducible refine Kd.C_drew ?_))); (case side2 => exact HC0.out); rintro e w9 ⟨rfl, hb⟩; refine ⟨_, rfl, ?_⟩; have n0_ := Aside0.mk (below_step (by repeat (first | (with_reducible first | exact HB.out | apply below_alloc | apply pw_below_drewN | apply below_drew1) | exact HB.out)) hb); clear HB; have HB := n0_; clear n0_; (try clear hb); (try clear hb2); (try clear hk); (try clear hi)) | ((with_reducible refine gate_callee (f := 20) rfl ?_); refine goesL_ (some 44) rfl rfl Try.func20 (by kernel_rfl) rfl #[.string t221] rfl (by (try simp only [List.map_toArray, List.map_cons, List.map_nil]); first | done | rfl | (simp only [List.length_drop, List.length_take]; rfl)) ?_; (with_reducible refine (impl_CutsOf.calls k t221 t222 t223 _ A5.out).mono ?_); rintro e w10 ⟨v224, rfl, ho0, hb⟩; refine ⟨_, rfl, ?_⟩; have n0_ := Aside0.mk (Kd.R_lower ho0 (below_size (by repeat (first | (with_reducible first | exact HB.out | apply below_alloc | apply pw_below_drewN | apply below_drew1) | exact HB.out)))); have n1_ := Aside0.mk (below_step (by repeat (first | (with_reducible first | exact HB.out | apply below_alloc | apply pw_below_drewN | apply below_drew1) | exact HB.out)) hb); clear HB; have HO225 := n0_; have HB := n1_; clear n0_ n1_; (try clear hb); (try clear hb2); (try clear hk); (try clear hi); (try clear ho0)) | ((with_reducible refine gate_callee (f := 19) rfl ?_); refine goesL_ (some 49) rfl rfl Try.func19 (by kernel_rfl) rfl #[.string t221] rfl (by (try simp only [List.map_toArray, List.map_cons, List.map_nil]); first | done | rfl | (simp only [List.length_drop, List.length_take]; rfl)) ?_; (with_reducible refine (spec_CutsOf.calls k t221 t226 t227 _ A6.out).mono ?_); rintro e w11 ⟨v228, rfl, ho0, hb⟩; refine ⟨_, rfl, ?_⟩; have n0_ := Aside0.mk (Kd.R_elder' (by (with_reducible repeat (first | apply Kd.R_alloc | apply Kd.R_drewN | apply Kd.R_drew)); exact HO225.out) (Kd.R_base ho0) hb); have n1_ := Aside0.mk (Kd.R_lower (Kd.R_new' ho0 (Kd.R_lt (by (with_reducible repeat (first | apply Kd.R_alloc | apply Kd.R_drewN | apply Kd.R_drew)); exact HO225.out))) (below_size (by repeat (first | (with_reducible first | exact HB.out | apply below_alloc | apply pw_below_drewN | apply below_drew1) | exact HB.out)))); have n2_ := Aside0.mk (below_step (by repeat (first | (with_reducible first | exact HB.out | apply below_alloc | apply pw_below_drewN | apply below_drew1) | exact HB.out)) hb); clear HO225; clear HB; have HO225 := n0_; have HO229 := n1_; have HB := n2_; clear n0_ n1_ n2_; (try clear hb); (try clear hb2); (try clear hk); (try clear hi); (try clear ho0)) | ((with_reducible refine gate_callee (f := 25) rfl ?_); refine goesL_ (some 54) rfl rfl Try.func25 (by kernel_rfl) rfl #[.string t221] rfl (by (try simp only [List.map_toArray, List.map_cons, List.map_nil]); first | done | rfl | (simp only [List.length_drop, List.length_take]; rfl)) ?_; (with_reducible refine (impl_PiecesOf.calls k t221 t230 t231 _ A7.out).mono ?_); rintro e w12 ⟨v232, rfl, ho0, hb⟩; refine ⟨_, rfl, ?_⟩; have n0_ := Aside0.mk (Kd.R_below (by (with_reducible repeat (first | apply Kd.R_alloc | apply Kd.R_drewN | apply Kd.R_drew)); exact HO225.out) hb); have n1_ := Aside0.mk (Kd.R_below (by (with_reducible repeat (first | apply Kd.R_alloc | apply Kd.R_drewN | apply Kd.R_drew)); exact HO229.out) hb); have n2_ := Aside0.mk (Kd.R_lower ho0 (below_size (by repeat (first | (with_reducible first | exact HB.out | apply below_alloc | apply pw_below_drewN | apply below_drew1) | exact HB.out)))); have n3_ := Aside0.mk (below_step (by repeat (first | (with_reducible first | exact HB.out | apply below_alloc | apply pw_below_drewN | apply below_drew1) | exact HB.out)) hb); clear HO225; clear HO229; clear HB; have HO225 := n0_; have HO229 := n1_; have HO233 := n2_; have HB := n3_; clear n0_ n1_ n2_ n3_; (try clear hb); (try clear hb2); (try clear hk); (try clear hi); (try clear ho0)))
    (try simp only [Act.put, List.setIfInBounds_toArray, List.set_cons_zero, List.set_cons_succ])
    go_cut [77] (fun v77 wc => ∃ (kq : Nat) (x77_7 : Bool), v77 = .bool x77_7 ∧ Aside0 (laws_FnCuts.j0 kq l1 t221 t222 t223 t230 x77_7 = some r) ∧ Aside0 (kq ≤ k) ∧ Aside0 (Kd.R (Kd.int .i64) 3 wc w.heap.size (fun _ => True) v224 t222) ∧ Aside0 (Kd.R Kd.string 9 wc w.heap.size (fun _ => True) v232 t230) ∧ Aside0 (Below w.heap.size w wc))
    case first =>
      have H := HC8.out
      clear HC8
      by_cases c13 : (t223 != t227) = true
      · rw [if_pos c13] at H
        have c13b0 : (t223 != t227) = true := c13
        (try (have c13b1 : decide (t223 = t227) = false := by simpa using c13))
        (try (have c13b2 : (t223 == t227) = false := by simpa using c13))
        (try (have c13b3 : ¬ (t223 = t227) := by simpa using c13))
        clear c13
        (first | rw [c13b0] | (simp only [i64_w, i32_w]; rw [c13b0]) | skip)
        have H' := Aside0.mk H
        clear H
        go_wp2
        go_meet
        case rel => exact ⟨_, (true), (by first | rfl | (simp; done) | (simp [*]; done)), H', ⟨by first | omega | exact Nat.le_refl _⟩, ⟨by (with_reducible repeat (first | apply Kd.R_alloc | apply Kd.R_drewN | apply Kd.R_drew)); exact Kd.R_mono HO225.out (fun _ hk => trivial)⟩, ⟨by (with_reducible repeat (first | apply Kd.R_alloc | apply Kd.R_drewN | apply Kd.R_drew)); exact HO233.out⟩, ⟨by repeat (first | (with_reducible first | exact HB.out | apply below_alloc | apply pw_below_drewN | apply below_drew1) | exact HB.out)⟩⟩
      · rw [if_neg c13] at H
        have c13b0 : (t223 != t227) = false := by simpa using c13
        (try (have c13b1 : decide (t223 = t227) = true := by simpa using c13))
        (try (have c13b2 : (t223 == t227) = true := by simpa using c13))
        clear c13
        (first | rw [c13b0] | (simp only [i64_w, i32_w]; rw [c13b0]) | skip)
        replace H := Option.bind_eq_some_iff.mp H
        obtain ⟨t234, A140, H⟩ := H
        replace H : (if t234 = true then (if (t231 != t227) = true then (laws_FnCuts.j0 k l1 t221 t222 t223 t230 true) else (laws_FnCuts.j0 k l1 t221 t222 t223 t230 ((t230.length : Int) != (t222.length : Int)))) else (laws_FnCuts.j0 k l1 t221 t222 t223 t230 true)) = some r := H
        have A14 := Aside0.mk A140
        clear A140
        by_cases c15 : t234 = true
        · subst c15
          have H1 : (if (t231 != t227) = true then (laws_FnCuts.j0 k l1 t221 t222 t223 t230 true) else (laws_FnCuts.j0 k l1 t221 t222 t223 t230 ((t230.length : Int) != (t222.length : Int)))) = some r := by rw [if_pos rfl] at H; exact H
          clear H
          have H := H1
          clear H1
          by_cases c16 : (t231 != t227) = true
          · rw [if_pos c16] at H
            have c16b0 : (t231 != t227) = true := c16
            (try (have c16b1 : decide (t231 = t227) = false := by simpa using c16))
            (try (have c16b2 : (t231 == t227) = false := by simpa using c16))
            (try (have c16b3 : ¬ (t231 = t227) := by simpa using c16))
            clear c16
            have H' := Aside0.mk H
            clear H
            obtain ⟨Ao17, co17, eo17⟩ := Kd.R_slice HO225.out
            subst eo17
            obtain ⟨Ao18, co18, eo18⟩ := Kd.R_slice HO229.out
            subst eo18
            go_wp2_with (first | (go_at_call 30; (with_reducible refine (laws_sameInts.calls k _ _ t222 _ _ t226 true _ ?side1 ?side2 ?side3 ?side4 A14.out).mono ?_); (case side1 => repeat (first | exact (Kd.R_reads' HO225.out).2.2 | (with_reducible refine Kd.C_alloc ?_ _) | (with_reducible refine Kd.C_drewN ?_ _) | (with_reducible refine Kd.C_drew ?_))); (case side2 => exact (Kd.R_reads' HO225.out).2.1); (case side3 => repeat (first | exact (Kd.R_reads' HO229.out).2.2 | (with_reducible refine Kd.C_alloc ?_ _) | (with_reducible refine Kd.C_drewN ?_ _) | (with_reducible refine Kd.C_drew ?_))); (case side4 => exact (Kd.R_reads' HO229.out).2.1); rintro e w' ⟨rfl, ⟨nd, rfl⟩⟩))
            go_meet
            case rel => exact ⟨_, (true), (by first | rfl | (simp; done) | (simp [*]; done)), H', ⟨by first | omega | exact Nat.le_refl _⟩, ⟨by (with_reducible repeat (first | apply Kd.R_alloc | apply Kd.R_drewN | apply Kd.R_drew)); exact Kd.R_mono HO225.out (fun _ hk => trivial)⟩, ⟨by (with_reducible repeat (first | apply Kd.R_alloc | apply Kd.R_drewN | apply Kd.R_drew)); exact HO233.out⟩, ⟨by repeat (first | (with_reducible first | exact HB.out | apply below_alloc | apply pw_below_drewN | apply below_drew1) | exact HB.out)⟩⟩
          · rw [if_neg c16] at H
            have c16b0 : (t231 != t227) = false := by simpa using c16
            (try (have c16b1 : decide (t231 = t227) = true := by simpa using c16))
            (try (have c16b2 : (t231 == t227) = true := by simpa using c16))
            clear c16
            have H' := Aside0.mk H
            clear H
            obtain ⟨Ao19, co19, eo19⟩ := Kd.R_slice HO225.out
            subst eo19
            obtain ⟨Ao20, co20, eo20⟩ := Kd.R_slice HO229.out
            subst eo20
            go_wp2_with (first | (go_at_call 30; (with_reducible refine (laws_sameInts.calls k _ _ t222 _ _ t226 true _ ?side1 ?side2 ?side3 ?side4 A14.out).mono ?_); (case side1 => repeat (first | exact (Kd.R_reads' HO225.out).2.2 | (with_reducible refine Kd.C_alloc ?_ _) | (with_reducible refine Kd.C_drewN ?_ _) | (with_reducible refine Kd.C_drew ?_))); (case side2 => exact (Kd.R_reads' HO225.out).2.1); (case side3 => repeat (first | exact (Kd.R_reads' HO229.out).2.2 | (with_reducible refine Kd.C_alloc ?_ _) | (with_reducible refine Kd.C_drewN ?_ _) | (with_reducible refine Kd.C_drew ?_))); (case side4 => exact (Kd.R_reads' HO229.out).2.1); rintro e w' ⟨rfl, ⟨nd, rfl⟩⟩; obtain ⟨Ao21, co21, eo21⟩ := Kd.R_slice HO233.out; subst eo21))
            go_meet
            case rel => exact ⟨_, (((t230.length : Int) != (t222.length : Int))), (by first | rfl | (simp; done) | (simp [*]; done)), H', ⟨by first | omega | exact Nat.le_refl _⟩, ⟨by (with_reducible repeat (first | apply Kd.R_alloc | apply Kd.R_drewN | apply Kd.R_drew)); exact Kd.R_mono HO225.out (fun _ hk => trivial)⟩, ⟨by (with_reducible repeat (first | apply Kd.R_alloc | apply Kd.R_drewN | apply Kd.R_drew)); exact HO233.out⟩, ⟨by repeat (first | (with_reducible first | exact HB.out | apply below_alloc | apply pw_below_drewN | apply below_drew1) | exact HB.out)⟩⟩
        · replace c15 := Bool.eq_false_iff.mpr c15
          subst c15
          have H1 : (laws_FnCuts.j0 k l1 t221 t222 t223 t230 true) = some r := by rw [if_neg (show ¬ (false = true) by decide)] at H; exact H
          clear H
          have H := H1
          clear H1
          have H' := Aside0.mk H
          clear H
          obtain ⟨Ao22, co22, eo22⟩ := Kd.R_slice HO225.out
          subst eo22
          obtain ⟨Ao23, co23, eo23⟩ := Kd.R_slice HO229.out
          subst eo23
          go_wp2_with (first | (go_at_call 30; (with_reducible refine (laws_sameInts.calls k _ _ t222 _ _ t226 false _ ?side1 ?side2 ?side3 ?side4 A14.out).mono ?_); (case side1 => repeat (first | exact (Kd.R_reads' HO225.out).2.2 | (with_reducible refine Kd.C_alloc ?_ _) | (with_reducible refine Kd.C_drewN ?_ _) | (with_reducible refine Kd.C_drew ?_))); (case side2 => exact (Kd.R_reads' HO225.out).2.1); (case side3 => repeat (first | exact (Kd.R_reads' HO229.out).2.2 | (with_reducible refine Kd.C_alloc ?_ _) | (with_reducible refine Kd.C_drewN ?_ _) | (with_reducible refine Kd.C_drew ?_))); (case side4 => exact (Kd.R_reads' HO229.out).2.1); rintro e w' ⟨rfl, ⟨nd, rfl⟩⟩))
          go_meet
          case rel => exact ⟨_, (true), (by first | rfl | (simp; done) | (simp [*]; done)), H', ⟨by first | omega | exact Nat.le_refl _⟩, ⟨by (with_reducible repeat (first | apply Kd.R_alloc | apply Kd.R_drewN | apply Kd.R_drew)); exact Kd.R_mono HO225.out (fun _ hk => trivial)⟩, ⟨by (with_reducible repeat (first | apply Kd.R_alloc | apply Kd.R_drewN | apply Kd.R_drew)); exact HO233.out⟩, ⟨by repeat (first | (with_reducible first | exact HB.out | apply below_alloc | apply pw_below_drewN | apply below_drew1) | exact HB.out)⟩⟩
    case rest =>
      clear HC8
      try clear c1
      try clear c2
      try clear p2
      try clear c3
      try clear c3b0
      try clear c6
      try clear p6
      try clear c13
      try clear c13b0
      try clear c13b1
      try clear c13b2
      try clear c15
      try clear c16
      try clear c16b0
      try clear c16b1
      try clear c16b2
      try clear c19
      try clear c20
      obtain ⟨kq, x77_7, rfl, HA, HJ7, HO_6, HO_10, HB⟩ := hcut
      cases kq with
      | zero => exact absurd HA.out (by simp [laws_FnCuts.j0])
      | succ kj7 =>
        have H := HA.out
        clear HA
        simp only [laws_FnCuts.j0] at H
        by_cases c24 : x77_7 = true
        · subst c24
          have H1 : (some false) = some r := by rw [if_pos rfl] at H; exact H
          clear H
          have H := H1
          clear H1
          obtain rfl := Option.some.inj H
          go_wp2
          go_ret
          exact ⟨by first | rfl | (simp [errW_none, errW_some] <;> rfl) | (simp [*, errW_none, errW_some] <;> rfl) | (simp [Go.Proofs.Ytdlaegianaofjaa.E.isEmpty_bne]; done) | (rw [Go.Proofs.Ytdlaegianaofjaa.E.bne_empty]), by repeat (first | (with_reducible first | exact HB.out | apply below_alloc | apply pw_below_drewN | apply below_drew1) | exact HB.out)⟩
        · replace c24 := Bool.eq_false_iff.mpr c24
          subst c24
          have H1 : (if t223 = true then (laws_FnCuts.l0 kj7 l1 t221 t222 t230 (⟨#[]⟩ : ByteArray) t230 (t230.length : Int) 0) else ((spec_DrawRollOn.f l1).bind fun bt262 => ((impl_RollOn.f bt262.1 bt262.2.1 bt262.2.2).bind fun bt265 => ((spec_RollOn.f bt262.1 bt262.2.1 bt262.2.2).bind fun bt267 => (if (bt265.2 == bt267.2) = true then (some (bt265.1 == bt267.1)) else (some false)))))) = some r := by rw [if_neg (show ¬ (false = true) by decide)] at H; exact H
          clear H
          have H := H1
          clear H1
          by_cases c25 : t223 = true
          · subst c25
            have H1 : (laws_FnCuts.l0 kj7 l1 t221 t222 t230 (⟨#[]⟩ : ByteArray) t230 (t230.length : Int) 0) = some r := by rw [if_pos rfl] at H; exact H
            clear H
            have H := H1
            clear H1
            have H' := Aside0.mk H
            clear H
            obtain ⟨Ao26, co26, eo26⟩ := Kd.R_slice HO_10.out
            subst eo26
            go_wp2
            go_loopg [12, 81] kj7 (fun kq v12 v81 w' => ∃ (x12_2 : ByteArray) (x81_2 : Int), v12 = .string x12_2 ∧ v81 = .int .i64 x81_2 ∧ Aside0 (laws_FnCuts.l0 kq l1 t221 t222 t230 x12_2 t230 (t230.length : Int) x81_2 = some r) ∧ Aside0 (kq ≤ kj7) ∧ Aside0 (Kd.R (Kd.int .i64) 3 w' w.heap.size (fun _ => True) v224 t222) ∧ Aside0 (Kd.R Kd.string 9 w' w.heap.size (fun _ => True) (.slice Ao26 t230.length co26) t230) ∧ Aside0 (Kd.R Kd.string 9 w' w.heap.size (fun _ => True) (.slice Ao26 t230.length co26) t230) ∧ Aside0 (Below w.heap.size w w'))
            case atStart => exact ⟨((⟨#[]⟩ : ByteArray)), (0), (by first | rfl | (simp; done) | (simp [*]; done)), (by first | rfl | (simp; done) | (simp [*]; done)), H', ⟨Nat.le_refl _⟩, ⟨by (with_reducible repeat (first | apply Kd.R_alloc | apply Kd.R_drewN | apply Kd.R_drew)); exact HO_6.out⟩, ⟨by (with_reducible repeat (first | apply Kd.R_alloc | apply Kd.R_drewN | apply Kd.R_drew)); exact HO_10.out⟩, ⟨by (with_reducible repeat (first | apply Kd.R_alloc | apply Kd.R_drewN | apply Kd.R_drew)); exact HO_10.out⟩, ⟨by repeat (first | (with_reducible first | exact HB.out | apply below_alloc | apply pw_below_drewN | apply below_drew1) | exact HB.out)⟩⟩
            case round =>
              clear H'
              try clear c1
              try clear c2
              try clear p2
              try clear c3
              try clear c3b0
              try clear c6
              try clear p6
              try clear c13
              try clear c13b0
              try clear c13b1
              try clear c13b2
              try clear c15
              try clear c16
              try clear c16b0
              try clear c16b1
              try clear c16b2
              try clear c19
              try clear c20
              try clear c24
              try clear c25
              try clear p2
              try clear p6
              obtain ⟨x12_2, x81_2, rfl, rfl, HA, HK2, HO_6, HO_10, HO_79, HB⟩ := hrel
              cases gk with
              | zero => exact absurd HA.out (by simp [laws_FnCuts.l0])
              | succ k2 =>
                have H := HA.out
                clear HA
                simp only [laws_FnCuts.l0] at H
                by_cases c27 : x81_2 < (t230.length : Int)
                · rw [if_pos c27] at H
                  have c27b0 : decide (x81_2 < (t230.length : Int)) = true := decide_eq_true c27
                  clear c27
                  by_cases c28 : 0 ≤ x81_2
                  · rw [if_pos c28] at H
                    have c28b0 : decide (0 ≤ x81_2) = true := decide_eq_true c28
                    clear c28
                    by_cases c29 : x81_2 < (t230.length : Int)
                    · rw [if_pos c29] at H
                      have c29b0 : decide (x81_2 < (t230.length : Int)) = true := decide_eq_true c29
                      clear c29
                      by_cases c30 : x12_2.size + (rdOf ByteArray.empty t230 x81_2).size ≤ 9223372036854775807
                      · rw [if_pos c30] at H
                        have c30b0 := eq_true c30
                        have c30b1 : decide (x12_2.size + (rdOf ByteArray.empty t230 x81_2).size ≤ 9223372036854775807) = true := decide_eq_true c30
                        try have c30b2 : (9223372036854775807 < x12_2.size + (rdOf ByteArray.empty t230 x81_2).size) = False := eq_false (Nat.not_lt.2 c30)
                        by_cases c31 : ((rdOf ByteArray.empty t230 x81_2).size : Int) > 24
                        · rw [if_pos c31] at H
                          have c31b0 : decide (24 < ((rdOf ByteArray.empty t230 x81_2).size : Int)) = true := decide_eq_true c31
                          have c31b1 : decide (24 < (rdOf ByteArray.empty t230 x81_2).size) = true := decide_eq_true (by omega)
                          clear c31
                          obtain rfl := Option.some.inj H
                          have p235 : 0 ≤ (x81_2 : Int) := of_decide_eq_true (by first | (with_reducible assumption) | assumption)
                          have q235 : x81_2 < (t230.length : Int) := of_decide_eq_true (by first | (with_reducible assumption) | assumption)
                          obtain ⟨ad235, e235, hx235_0⟩ := Kd.at_string (Kd.R_reads' HO_79.out).2.2 x81_2 p235 q235
                          cases e235
                          replace p235 := eq_true p235
                          replace q235 := eq_true q235
                          go_wp2
                          go_ret
                          exact ⟨by first | rfl | (simp [errW_none, errW_some] <;> rfl) | (simp [*, errW_none, errW_some] <;> rfl) | (simp [Go.Proofs.Ytdlaegianaofjaa.E.isEmpty_bne]; done) | (rw [Go.Proofs.Ytdlaegianaofjaa.E.bne_empty]), by repeat (first | (with_reducible first | exact HB.out | apply below_alloc | apply pw_below_drewN | apply below_drew1) | exact HB.out)⟩
                        · rw [if_neg c31] at H
                          have c31b0 : decide (24 < ((rdOf ByteArray.empty t230 x81_2).size : Int)) = false := decide_eq_false c31
                          have c31b1 : decide (24 < (rdOf ByteArray.empty t230 x81_2).size) = false := decide_eq_false (by omega)
                          clear c31
                          by_cases c32 : x81_2 < (wrap64 ((t230.length : Int) - 1))
                          · rw [if_pos c32] at H
                            have c32b0 : decide (x81_2 < (wrap64 ((t230.length : Int) - 1))) = true := decide_eq_true c32
                            clear c32
                            by_cases c33 : ((rdOf ByteArray.empty t230 x81_2).size : Int) < 3
                            · rw [if_pos c33] at H
                              have c33b0 : decide (((rdOf ByteArray.empty t230 x81_2).size : Int) < 3) = true := decide_eq_true c33
                              have c33b1 : decide ((rdOf ByteArray.empty t230 x81_2).size < 3) = true := decide_eq_true (by omega)
                              clear c33
                              obtain rfl := Option.some.inj H
                              have p235 : 0 ≤ (x81_2 : Int) := of_decide_eq_true (by first | (with_reducible assumption) | assumption)
                              have q235 : x81_2 < (t230.length : Int) := of_decide_eq_true (by first | (with_reducible assumption) | assumption)
                              obtain ⟨ad235, e235, hx235_0⟩ := Kd.at_string (Kd.R_reads' HO_79.out).2.2 x81_2 p235 q235
                              cases e235
                              replace p235 := eq_true p235
                              replace q235 := eq_true q235
                              go_wp2
                              go_ret
                              exact ⟨by first | rfl | (simp [errW_none, errW_some] <;> rfl) | (simp [*, errW_none, errW_some] <;> rfl) | (simp [Go.Proofs.Ytdlaegianaofjaa.E.isEmpty_bne]; done) | (rw [Go.Proofs.Ytdlaegianaofjaa.E.bne_empty]), by repeat (first | (with_reducible first | exact HB.out | apply below_alloc | apply pw_below_drewN | apply below_drew1) | exact HB.out)⟩
                            · rw [if_neg c33] at H
                              have c33b0 : decide (((rdOf ByteArray.empty t230 x81_2).size : Int) < 3) = false := decide_eq_false c33
                              have c33b1 : decide ((rdOf ByteArray.empty t230 x81_2).size < 3) = false := decide_eq_false (by omega)
                              clear c33
                              by_cases c34 : x81_2 < (t222.length : Int)
                              · rw [if_pos c34] at H
                                have c34b0 : decide (x81_2 < (t222.length : Int)) = true := decide_eq_true c34
                                clear c34
                                by_cases c35 : (rd t222 x81_2) = ((x12_2 ++ (rdOf ByteArray.empty t230 x81_2)).size : Int)
                                · rw [if_pos c35] at H
                                  have c35b0 : ((rd t222 x81_2) == ((x12_2 ++ (rdOf ByteArray.empty t230 x81_2)).size : Int)) = true := beq_iff_eq.mpr c35
                                  try have c35b0x := c35b0
                                  try rw [ByteArray.size_append, Int.natCast_add] at c35b0x
                                  have c35b1 : ((rd t222 x81_2) != ((x12_2 ++ (rdOf ByteArray.empty t230 x81_2)).size : Int)) = false := bne_eq_false_iff_eq.mpr c35
                                  try have c35b1x := c35b1
                                  try rw [ByteArray.size_append, Int.natCast_add] at c35b1x
                                  clear c35
                                  have H' := Aside0.mk H
                                  clear H
                                  have p235 : 0 ≤ (x81_2 : Int) := of_decide_eq_true (by first | (with_reducible assumption) | assumption)
                                  have q235 : x81_2 < (t230.length : Int) := of_decide_eq_true (by first | (with_reducible assumption) | assumption)
                                  obtain ⟨ad235, e235, hx235_0⟩ := Kd.at_string (Kd.R_reads' HO_79.out).2.2 x81_2 p235 q235
                                  cases e235
                                  replace p235 := eq_true p235
                                  replace q235 := eq_true q235
                                  obtain ⟨Ao36, co36, eo36⟩ := Kd.R_slice HO_6.out
                                  subst eo36
                                  have p236 : 0 ≤ (x81_2 : Int) := of_decide_eq_true (by first | (with_reducible assumption) | assumption)
                                  have q236 : x81_2 < (t222.length : Int) := of_decide_eq_true (by first | (with_reducible assumption) | assumption)
                                  obtain ⟨ad236, e236, hx236_0⟩ := Kd.at_int (Kd.R_reads' HO_6.out).2.2 x81_2 p236 q236
                                  cases e236
                                  replace p236 := eq_true p236
                                  replace q236 := eq_true q236
                                  go_wp2
                                  go_roundg k2
                                  case measure => have := HJ7.out; have := HK2.out; omega
                                  case rel => exact ⟨(x12_2 ++ (rdOf ByteArray.empty t230 x81_2)), (wrap64 (x81_2 + 1)), (by first | rfl | (simp; done) | (simp [*]; done)), (by first | rfl | (simp; done) | (simp [*]; done)), H', ⟨by have := HJ7.out; have := HK2.out; omega⟩, ⟨by (with_reducible repeat (first | apply Kd.R_alloc | apply Kd.R_drewN | apply Kd.R_drew)); exact HO_6.out⟩, ⟨by (with_reducible repeat (first | apply Kd.R_alloc | apply Kd.R_drewN | apply Kd.R_drew)); exact HO_10.out⟩, ⟨by (with_reducible repeat (first | apply Kd.R_alloc | apply Kd.R_drewN | apply Kd.R_drew)); exact HO_79.out⟩, ⟨by repeat (first | (with_reducible first | exact HB.out | apply below_alloc | apply pw_below_drewN | apply below_drew1) | exact HB.out)⟩⟩
                                · rw [if_neg c35] at H
                                  have c35b0 : ((rd t222 x81_2) == ((x12_2 ++ (rdOf ByteArray.empty t230 x81_2)).size : Int)) = false := beq_eq_false_iff_ne.mpr c35
                                  try have c35b0x := c35b0
                                  try rw [ByteArray.size_append, Int.natCast_add] at c35b0x
                                  have c35b1 : ((rd t222 x81_2) != ((x12_2 ++ (rdOf ByteArray.empty t230 x81_2)).size : Int)) = true := bne_iff_ne.mpr c35
                                  try have c35b1x := c35b1
                                  try rw [ByteArray.size_append, Int.natCast_add] at c35b1x
                                  obtain rfl := Option.some.inj H
                                  have p235 : 0 ≤ (x81_2 : Int) := of_decide_eq_true (by first | (with_reducible assumption) | assumption)
                                  have q235 : x81_2 < (t230.length : Int) := of_decide_eq_true (by first | (with_reducible assumption) | assumption)
                                  obtain ⟨ad235, e235, hx235_0⟩ := Kd.at_string (Kd.R_reads' HO_79.out).2.2 x81_2 p235 q235
                                  cases e235
                                  replace p235 := eq_true p235
                                  replace q235 := eq_true q235
                                  obtain ⟨Ao37, co37, eo37⟩ := Kd.R_slice HO_6.out
                                  subst eo37
                                  have p236 : 0 ≤ (x81_2 : Int) := of_decide_eq_true (by first | (with_reducible assumption) | assumption)
                                  have q236 : x81_2 < (t222.length : Int) := of_decide_eq_true (by first | (with_reducible assumption) | assumption)
                                  obtain ⟨ad236, e236, hx236_0⟩ := Kd.at_int (Kd.R_reads' HO_6.out).2.2 x81_2 p236 q236
                                  cases e236
                                  replace p236 := eq_true p236
                                  replace q236 := eq_true q236
                                  go_wp2
                                  go_ret
                                  exact ⟨by first | rfl | (simp [errW_none, errW_some] <;> rfl) | (simp [*, errW_none, errW_some] <;> rfl) | (simp [Go.Proofs.Ytdlaegianaofjaa.E.isEmpty_bne]; done) | (rw [Go.Proofs.Ytdlaegianaofjaa.E.bne_empty]), by repeat (first | (with_reducible first | exact HB.out | apply below_alloc | apply pw_below_drewN | apply below_drew1) | exact HB.out)⟩
                              · rw [if_neg c34] at H
                                exact absurd H (by simp)
                          · rw [if_neg c32] at H
                            have c32b0 : decide (x81_2 < (wrap64 ((t230.length : Int) - 1))) = false := decide_eq_false c32
                            clear c32
                            by_cases c38 : x81_2 < (t222.length : Int)
                            · rw [if_pos c38] at H
                              have c38b0 : decide (x81_2 < (t222.length : Int)) = true := decide_eq_true c38
                              clear c38
                              by_cases c39 : (rd t222 x81_2) = ((x12_2 ++ (rdOf ByteArray.empty t230 x81_2)).size : Int)
                              · rw [if_pos c39] at H
                                have c39b0 : ((rd t222 x81_2) == ((x12_2 ++ (rdOf ByteArray.empty t230 x81_2)).size : Int)) = true := beq_iff_eq.mpr c39
                                try have c39b0x := c39b0
                                try rw [ByteArray.size_append, Int.natCast_add] at c39b0x
                                have c39b1 : ((rd t222 x81_2) != ((x12_2 ++ (rdOf ByteArray.empty t230 x81_2)).size : Int)) = false := bne_eq_false_iff_eq.mpr c39
                                try have c39b1x := c39b1
                                try rw [ByteArray.size_append, Int.natCast_add] at c39b1x
                                clear c39
                                have H' := Aside0.mk H
                                clear H
                                have p235 : 0 ≤ (x81_2 : Int) := of_decide_eq_true (by first | (with_reducible assumption) | assumption)
                                have q235 : x81_2 < (t230.length : Int) := of_decide_eq_true (by first | (with_reducible assumption) | assumption)
                                obtain ⟨ad235, e235, hx235_0⟩ := Kd.at_string (Kd.R_reads' HO_79.out).2.2 x81_2 p235 q235
                                cases e235
                                replace p235 := eq_true p235
                                replace q235 := eq_true q235
                                obtain ⟨Ao40, co40, eo40⟩ := Kd.R_slice HO_6.out
                                subst eo40
                                have p237 : 0 ≤ (x81_2 : Int) := of_decide_eq_true (by first | (with_reducible assumption) | assumption)
                                have q237 : x81_2 < (t222.length : Int) := of_decide_eq_true (by first | (with_reducible assumption) | assumption)
                                obtain ⟨ad237, e237, hx237_0⟩ := Kd.at_int (Kd.R_reads' HO_6.out).2.2 x81_2 p237 q237
                                cases e237
                                replace p237 := eq_true p237
                                replace q237 := eq_true q237
                                go_wp2
                                go_roundg k2
                                case measure => have := HJ7.out; have := HK2.out; omega
                                case rel => exact ⟨(x12_2 ++ (rdOf ByteArray.empty t230 x81_2)), (wrap64 (x81_2 + 1)), (by first | rfl | (simp; done) | (simp [*]; done)), (by first | rfl | (simp; done) | (simp [*]; done)), H', ⟨by have := HJ7.out; have := HK2.out; omega⟩, ⟨by (with_reducible repeat (first | apply Kd.R_alloc | apply Kd.R_drewN | apply Kd.R_drew)); exact HO_6.out⟩, ⟨by (with_reducible repeat (first | apply Kd.R_alloc | apply Kd.R_drewN | apply Kd.R_drew)); exact HO_10.out⟩, ⟨by (with_reducible repeat (first | apply Kd.R_alloc | apply Kd.R_drewN | apply Kd.R_drew)); exact HO_79.out⟩, ⟨by repeat (first | (with_reducible first | exact HB.out | apply below_alloc | apply pw_below_drewN | apply below_drew1) | exact HB.out)⟩⟩
                              · rw [if_neg c39] at H
                                have c39b0 : ((rd t222 x81_2) == ((x12_2 ++ (rdOf ByteArray.empty t230 x81_2)).size : Int)) = false := beq_eq_false_iff_ne.mpr c39
                                try have c39b0x := c39b0
                                try rw [ByteArray.size_append, Int.natCast_add] at c39b0x
                                have c39b1 : ((rd t222 x81_2) != ((x12_2 ++ (rdOf ByteArray.empty t230 x81_2)).size : Int)) = true := bne_iff_ne.mpr c39
                                try have c39b1x := c39b1
                                try rw [ByteArray.size_append, Int.natCast_add] at c39b1x
                                obtain rfl := Option.some.inj H
                                have p235 : 0 ≤ (x81_2 : Int) := of_decide_eq_true (by first | (with_reducible assumption) | assumption)
                                have q235 : x81_2 < (t230.length : Int) := of_decide_eq_true (by first | (with_reducible assumption) | assumption)
                                obtain ⟨ad235, e235, hx235_0⟩ := Kd.at_string (Kd.R_reads' HO_79.out).2.2 x81_2 p235 q235
                                cases e235
                                replace p235 := eq_true p235
                                replace q235 := eq_true q235
                                obtain ⟨Ao41, co41, eo41⟩ := Kd.R_slice HO_6.out
                                subst eo41
                                have p237 : 0 ≤ (x81_2 : Int) := of_decide_eq_true (by first | (with_reducible assumption) | assumption)
                                have q237 : x81_2 < (t222.length : Int) := of_decide_eq_true (by first | (with_reducible assumption) | assumption)
                                obtain ⟨ad237, e237, hx237_0⟩ := Kd.at_int (Kd.R_reads' HO_6.out).2.2 x81_2 p237 q237
                                cases e237
                                replace p237 := eq_true p237
                                replace q237 := eq_true q237
                                go_wp2
                                go_ret
                                exact ⟨by first | rfl | (simp [errW_none, errW_some] <;> rfl) | (simp [*, errW_none, errW_some] <;> rfl) | (simp [Go.Proofs.Ytdlaegianaofjaa.E.isEmpty_bne]; done) | (rw [Go.Proofs.Ytdlaegianaofjaa.E.bne_empty]), by repeat (first | (with_reducible first | exact HB.out | apply below_alloc | apply pw_below_drewN | apply below_drew1) | exact HB.out)⟩
                            · rw [if_neg c38] at H
                              exact absurd H (by simp)
                      · rw [if_neg c30] at H
                        exact absurd H (by simp)
                    · rw [if_neg c29] at H
                      exact absurd H (by simp)
                  · rw [if_neg c28] at H
                    exact absurd H (by simp)
                · rw [if_neg c27] at H
                  have c27b0 : decide (x81_2 < (t230.length : Int)) = false := decide_eq_false c27
                  clear c27
                  by_cases c42 : x12_2.toList = t221.toList
                  · rw [if_pos c42] at H
                    have c42b0 : (x12_2.toList == t221.toList) = true := beq_iff_eq.mpr c42
                    have c42b1 : (x12_2.toList != t221.toList) = false := bne_eq_false_iff_eq.mpr c42
                    clear c42
                    have H' := Aside0.mk H
                    clear H
                    obtain ⟨Ao43, co43, eo43⟩ := Kd.R_slice HO_6.out
                    subst eo43
                    go_wp2
                    go_loopg [119] k2 (fun kq v119 w' => ∃ (x119_3 : Int), v119 = .int .i64 x119_3 ∧ Aside0 (laws_FnCuts.l1 kq l1 t221 t222 t222 (t222.length : Int) x119_3 = some r) ∧ Aside0 (kq ≤ k2) ∧ Aside0 (Kd.R (Kd.int .i64) 3 w' w.heap.size (fun _ => True) (.slice Ao43 t222.length co43) t222) ∧ Aside0 (Kd.R (Kd.int .i64) 3 w' w.heap.size (fun _ => True) (.slice Ao43 t222.length co43) t222) ∧ Aside0 (Below w.heap.size w w'))
                    case atStart => exact ⟨(0), (by first | rfl | (simp; done) | (simp [*]; done)), H', ⟨Nat.le_refl _⟩, ⟨by (with_reducible repeat (first | apply Kd.R_alloc | apply Kd.R_drewN | apply Kd.R_drew)); exact HO_6.out⟩, ⟨by (with_reducible repeat (first | apply Kd.R_alloc | apply Kd.R_drewN | apply Kd.R_drew)); exact HO_6.out⟩, ⟨by repeat (first | (with_reducible first | exact HB.out | apply below_alloc | apply pw_below_drewN | apply below_drew1) | exact HB.out)⟩⟩
                    case round =>
                      clear H'
                      try clear c1
                      try clear c2
                      try clear p2
                      try clear q2
                      try clear hx2
                      try clear c3
                      try clear c3b0
                      try clear c4
                      try clear c6
                      try clear p6
                      try clear c13
                      try clear c13b0
                      try clear c13b1
                      try clear c13b2
                      try clear c15
                      try clear c16
                      try clear c16b0
                      try clear c16b1
                      try clear c16b2
                      try clear c19
                      try clear c20
                      try clear p23
                      try clear q23
                      try clear hx23
                      try clear c24
                      try clear c25
                      try clear c27
                      try clear c27b0
                      try clear c28
                      try clear c28b0
                      try clear c29
                      try clear c29b0
                      try clear c30
                      try clear c30b0
                      try clear c30b1
                      try clear c30b2
                      try clear c31
                      try clear c31b0
                      try clear c31b1
                      try clear c32
                      try clear c32b0
                      try clear c33
                      try clear c33b0
                      try clear c33b1
                      try clear c34
                      try clear c34b0
                      try clear c35
                      try clear c35b0
                      try clear c35b1
                      try clear c38
                      try clear c38b0
                      try clear c39
                      try clear c39b0
                      try clear c39b1
                      try clear c42
                      try clear c42b0
                      try clear c42b1
                      try clear hx235_0
                      try clear hx236_0
                      try clear hx237_0
                      try clear p2
                      try clear p235
                      try clear p236
                      try clear p237
                      try clear p6
                      try clear q235
                      try clear q236
                      try clear q237
                      obtain ⟨x119_3, rfl, HA, HK3, HO_6, HO_117, HB⟩ := hrel
                      cases gk with
                      | zero => exact absurd HA.out (by simp [laws_FnCuts.l1])
                      | succ k3 =>
                        have H := HA.out
                        clear HA
                        simp only [laws_FnCuts.l1] at H
                        by_cases c44 : x119_3 < (t222.length : Int)
                        · rw [if_pos c44] at H
                          have c44b0 : decide (x119_3 < (t222.length : Int)) = true := decide_eq_true c44
                          clear c44
                          by_cases c45 : 0 ≤ x119_3
                          · rw [if_pos c45] at H
                            have c45b0 : decide (0 ≤ x119_3) = true := decide_eq_true c45
                            clear c45
                            by_cases c46 : x119_3 < (t222.length : Int)
                            · rw [if_pos c46] at H
                              have c46b0 : decide (x119_3 < (t222.length : Int)) = true := decide_eq_true c46
                              clear c46
                              by_cases c47 : (rd t222 x119_3) < 8
                              · rw [if_pos c47] at H
                                have c47b0 : decide ((rd t222 x119_3) < 8) = true := decide_eq_true c47
                                clear c47
                                have H' := Aside0.mk H
                                clear H
                                have p245 : 0 ≤ (x119_3 : Int) := of_decide_eq_true (by first | (with_reducible assumption) | assumption)
                                have q245 : x119_3 < (t222.length : Int) := of_decide_eq_true (by first | (with_reducible assumption) | assumption)
                                obtain ⟨ad245, e245, hx245_0⟩ := Kd.at_int (Kd.R_reads' HO_117.out).2.2 x119_3 p245 q245
                                cases e245
                                replace p245 := eq_true p245
                                replace q245 := eq_true q245
                                go_wp2
                                go_roundg k3
                                case measure => have := HJ7.out; have := HK2.out; have := HK3.out; omega
                                case rel => exact ⟨(wrap64 (x119_3 + 1)), (by first | rfl | (simp; done) | (simp [*]; done)), H', ⟨by have := HJ7.out; have := HK2.out; have := HK3.out; omega⟩, ⟨by (with_reducible repeat (first | apply Kd.R_alloc | apply Kd.R_drewN | apply Kd.R_drew)); exact HO_6.out⟩, ⟨by (with_reducible repeat (first | apply Kd.R_alloc | apply Kd.R_drewN | apply Kd.R_drew)); exact HO_117.out⟩, ⟨by repeat (first | (with_reducible first | exact HB.out | apply below_alloc | apply pw_below_drewN | apply below_drew1) | exact HB.out)⟩⟩
                              · rw [if_neg c47] at H
                                have c47b0 : decide ((rd t222 x119_3) < 8) = false := decide_eq_false c47
                                clear c47
                                obtain ⟨ji48, hji48⟩ : ∃ j_ : Int, (wrap64 ((rd t222 x119_3) - 4)) = j_ := ⟨_, rfl⟩
                                replace H : (if 0 ≤ (ji48) then (if (ji48) ≤ (t221.size : Int) then (if 4 + (t221.extract ((ji48) : Int).toNat t221.size).size ≤ 9223372036854775807 then ((impl_CutsOf.f k3 ((⟨#[122, 122, 122, 122]⟩ : ByteArray) ++ (t221.extract ((ji48) : Int).toNat t221.size))).bind fun bt246 => (if bt246.2 = true then (laws_FnCuts.l2 k3 l1 t221 t222 (rd t222 x119_3) false ([] : List Int) t222 (t222.length : Int) x119_3 bt246.1 (bt246.1.length : Int) 0) else (laws_FnCuts.l1 k3 l1 t221 t222 t222 (t222.length : Int) (wrap64 (x119_3 + 1))))) else (none)) else (none)) else (none)) = some r := by first | (rw [hji48] at H; exact H) | (simp only [hji48] at H ⊢; exact H)
                                have hji48w : (IntKind.i64.wrap ((rd t222 x119_3) - 4)) = ji48 := (i64_w _).trans hji48
                                by_cases c49 : 0 ≤ (ji48)
                                · rw [if_pos c49] at H
                                  have c49b0 := eq_true c49
                                  have c49b1 : decide (0 ≤ (ji48)) = true := decide_eq_true c49
                                  clear c49
                                  by_cases c50 : (ji48) ≤ (t221.size : Int)
                                  · rw [if_pos c50] at H
                                    have c50b0 := eq_true c50
                                    have c50b1 : decide ((ji48) ≤ (t221.size : Int)) = true := decide_eq_true c50
                                    clear c50
                                    by_cases c51 : 4 + (t221.extract ((ji48) : Int).toNat t221.size).size ≤ 9223372036854775807
                                    · rw [if_pos c51] at H
                                      have c51b0 := eq_true c51
                                      have c51b1 : decide (4 + (t221.extract ((ji48) : Int).toNat t221.size).size ≤ 9223372036854775807) = true := decide_eq_true c51
                                      have c51b3 : (9223372036854775807 < 4 + (t221.size - ji48.toNat)) = False := eq_false (by have h1_ := c51; rw [ByteArray.size_extract, Nat.min_self] at h1_; omega)
                                      try have c51b2 : (9223372036854775807 < 4 + (t221.extract ((ji48) : Int).toNat t221.size).size) = False := eq_false (Nat.not_lt.2 c51)
                                      replace H := Option.bind_eq_some_iff.mp H
                                      obtain ⟨⟨t246, t247⟩, A520, H⟩ := H
                                      replace H : (if t247 = true then (laws_FnCuts.l2 k3 l1 t221 t222 (rd t222 x119_3) false ([] : List Int) t222 (t222.length : Int) x119_3 t246 (t246.length : Int) 0) else (laws_FnCuts.l1 k3 l1 t221 t222 t222 (t222.length : Int) (wrap64 (x119_3 + 1)))) = some r := H
                                      have A52 := Aside0.mk A520
                                      clear A520
                                      by_cases c53 : t247 = true
                                      · subst c53
                                        have H1 : (laws_FnCuts.l2 k3 l1 t221 t222 (rd t222 x119_3) false ([] : List Int) t222 (t222.length : Int) x119_3 t246 (t246.length : Int) 0) = some r := by rw [if_pos rfl] at H; exact H
                                        clear H
                                        have H := H1
                                        clear H1
                                        have H' := Aside0.mk H
                                        clear H
                                        have p245 : 0 ≤ (x119_3 : Int) := of_decide_eq_true (by first | (with_reducible assumption) | assumption)
                                        have q245 : x119_3 < (t222.length : Int) := of_decide_eq_true (by first | (with_reducible assumption) | assumption)
                                        obtain ⟨ad245, e245, hx245_0⟩ := Kd.at_int (Kd.R_reads' HO_117.out).2.2 x119_3 p245 q245
                                        cases e245
                                        replace p245 := eq_true p245
                                        replace q245 := eq_true q245
                                        go_wp2_with (first | ((with_reducible refine gate_callee (f := 20) rfl ?_); refine goesL_ (some 132) rfl rfl Try.func20 (by kernel_rfl) rfl #[.string ((⟨#[122, 122, 122, 122]⟩ : ByteArray) ++ (t221.extract ((ji48) : Int).toNat t221.size))] rfl (by (try simp only [List.map_toArray, List.map_cons, List.map_nil]); first | done | (simp only [hji48]; rfl) | rfl | (simp only [List.length_drop, List.length_take]; rfl)) ?_; (with_reducible refine (impl_CutsOf.calls k3 ((⟨#[122, 122, 122, 122]⟩ : ByteArray) ++ (t221.extract ((ji48) : Int).toNat t221.size)) t246 true _ A52.out).mono ?_); rintro e w54 ⟨v248, rfl, ho0, hb⟩; refine ⟨_, rfl, ?_⟩; have n0_ := Aside0.mk (Kd.R_elder' (by (with_reducible repeat (first | apply Kd.R_alloc | apply Kd.R_drewN | apply Kd.R_drew)); exact HO_6.out) (Kd.R_base ho0) hb); have n1_ := Aside0.mk (Kd.R_elder' (by (with_reducible repeat (first | apply Kd.R_alloc | apply Kd.R_drewN | apply Kd.R_drew)); exact HO_117.out) (Kd.R_base ho0) hb); have n2_ := Aside0.mk (Kd.R_lower (Kd.R_new' (Kd.R_new' ho0 (Kd.R_lt (by (with_reducible repeat (first | apply Kd.R_alloc | apply Kd.R_drewN | apply Kd.R_drew)); exact HO_6.out))) (Kd.R_lt (by (with_reducible repeat (first | apply Kd.R_alloc | apply Kd.R_drewN | apply Kd.R_drew)); exact HO_117.out))) (below_size (by repeat (first | (with_reducible first | exact HB.out | apply below_alloc | apply pw_below_drewN | apply below_drew1) | exact HB.out)))); have n3_ := Aside0.mk (below_step (by repeat (first | (with_reducible first | exact HB.out | apply below_alloc | apply pw_below_drewN | apply below_drew1) | exact HB.out)) hb); clear HO_6; clear HO_117; clear HB; have HO_6 := n0_; have HO_117 := n1_; have HO249 := n2_; have HB := n3_; clear n0_ n1_ n2_ n3_; (try clear hb); (try clear hb2); (try clear hk); (try clear hi); (try clear ho0); obtain ⟨Ao55, co55, eo55⟩ := Kd.R_slice HO249.out; subst eo55))
                                        go_loopg [20, 22, 139] k3 (fun kq v20 v22 v139 w' => ∃ (x20_4 : Bool) (x22_4 : List Int) (x139_4 : Int), v20 = .bool x20_4 ∧ v139 = .int .i64 x139_4 ∧ Aside0 (laws_FnCuts.l2 kq l1 t221 t222 (rd t222 x119_3) x20_4 x22_4 t222 (t222.length : Int) x119_3 t246 (t246.length : Int) x139_4 = some r) ∧ Aside0 (kq ≤ k3) ∧ Aside0 (Kd.R (Kd.int .i64) 3 w' w.heap.size (fun k_ => some k_ ≠ (v22 : Value).ownBlock ∧ some k_ ≠ ((.slice Ao55 t246.length co55) : Value).ownBlock) (.slice (some ad245) t222.length co43) t222) ∧ Aside0 (Kd.R (Kd.int .i64) 3 w' w.heap.size (fun k_ => some k_ ≠ ((.slice (some ad245) t222.length co43) : Value).ownBlock ∧ some k_ ≠ ((.slice (some ad245) t222.length co43) : Value).ownBlock ∧ some k_ ≠ ((.slice Ao55 t246.length co55) : Value).ownBlock) v22 x22_4) ∧ Aside0 (Kd.R (Kd.int .i64) 3 w' w.heap.size (fun k_ => some k_ ≠ (v22 : Value).ownBlock ∧ some k_ ≠ ((.slice Ao55 t246.length co55) : Value).ownBlock) (.slice (some ad245) t222.length co43) t222) ∧ Aside0 (Kd.R (Kd.int .i64) 3 w' w.heap.size (fun k_ => some k_ ≠ ((.slice (some ad245) t222.length co43) : Value).ownBlock ∧ some k_ ≠ (v22 : Value).ownBlock ∧ some k_ ≠ ((.slice (some ad245) t222.length co43) : Value).ownBlock) (.slice Ao55 t246.length co55) t246) ∧ Aside0 (Below w.heap.size w w'))
                                        case atStart => exact ⟨(false), (([] : List Int)), (0), (by first | rfl | (simp; done) | (simp [*]; done)), (by first | rfl | (simp; done) | (simp [*]; done)), H', ⟨Nat.le_refl _⟩, ⟨by (with_reducible repeat (first | apply Kd.R_alloc | apply Kd.R_drewN | apply Kd.R_drew)); exact Kd.R_mono HO_6.out (fun _ hk => ⟨(by simp [Value.ownBlock]), hk.2⟩)⟩, ⟨by first | exact Kd.R_nil _ _ _ _ _ | exact Kd.N_nil _ _ _ _ _ | exact Kd.V_nil _ _ _ _ _ | exact Kd.Q_nil _ _ _ _ _ | exact Kd.S_nil _ _ _ _ _⟩, ⟨by (with_reducible repeat (first | apply Kd.R_alloc | apply Kd.R_drewN | apply Kd.R_drew)); exact Kd.R_mono HO_117.out (fun _ hk => ⟨(by simp [Value.ownBlock]), hk.2⟩)⟩, ⟨by (with_reducible repeat (first | apply Kd.R_alloc | apply Kd.R_drewN | apply Kd.R_drew)); exact Kd.R_mono HO249.out (fun _ hk => ⟨hk.1.2, ⟨(by simp [Value.ownBlock]), hk.2⟩⟩)⟩, ⟨by repeat (first | (with_reducible first | exact HB.out | apply below_alloc | apply pw_below_drewN | apply below_drew1) | exact HB.out)⟩⟩
                                        case round =>
                                          clear H'
                                          try clear c1
                                          try clear c2
                                          try clear p2
                                          try clear q2
                                          try clear hx2
                                          try clear c3
                                          try clear c3b0
                                          try clear c4
                                          try clear c5
                                          try clear c6
                                          try clear p6
                                          try clear c13
                                          try clear c13b0
                                          try clear c13b1
                                          try clear c13b2
                                          try clear c15
                                          try clear c16
                                          try clear c16b0
                                          try clear c16b1
                                          try clear c16b2
                                          try clear c19
                                          try clear c20
                                          try clear p23
                                          try clear q23
                                          try clear hx23
                                          try clear c24
                                          try clear p24
                                          try clear q24
                                          try clear hx24
                                          try clear c25
                                          try clear c27
                                          try clear c27b0
                                          try clear c28
                                          try clear c28b0
                                          try clear c29
                                          try clear c29b0
                                          try clear c30
                                          try clear c30b0
                                          try clear c30b1
                                          try clear c30b2
                                          try clear c31
                                          try clear c31b0
                                          try clear c31b1
                                          try clear c32
                                          try clear c32b0
                                          try clear c33
                                          try clear c33b0
                                          try clear c33b1
                                          try clear c34
                                          try clear c34b0
                                          try clear c35
                                          try clear c35b0
                                          try clear c35b1
                                          try clear c38
                                          try clear c38b0
                                          try clear c39
                                          try clear c39b0
                                          try clear c39b1
                                          try clear c42
                                          try clear c42b0
                                          try clear c42b1
                                          try clear c44
                                          try clear c44b0
                                          try clear c45
                                          try clear c45b0
                                          try clear c46
                                          try clear c46b0
                                          try clear c47
                                          try clear c47b0
                                          try clear c49
                                          try clear c49b0
                                          try clear c49b1
                                          try clear c50
                                          try clear c50b0
                                          try clear c50b1
                                          try clear c51
                                          try clear c51b0
                                          try clear c51b1
                                          try clear c51b2
                                          try clear c53
                                          try clear hx235_0
                                          try clear hx236_0
                                          try clear hx237_0
                                          try clear hx245_0
                                          try clear p2
                                          try clear p23
                                          try clear p235
                                          try clear p236
                                          try clear p237
                                          try clear p245
                                          try clear p6
                                          try clear q2
                                          try clear q23
                                          try clear q235
                                          try clear q236
                                          try clear q237
                                          try clear q245
                                          obtain ⟨x20_4, x22_4, x139_4, rfl, rfl, HA, HK4, HO_6, HO_22, HO_117, HO_137, HB⟩ := hrel
                                          cases gk with
                                          | zero => exact absurd HA.out (by simp [laws_FnCuts.l2])
                                          | succ k4 =>
                                            have H := HA.out
                                            clear HA
                                            simp only [laws_FnCuts.l2] at H
                                            by_cases c56 : x139_4 < (t246.length : Int)
                                            · rw [if_pos c56] at H
                                              have c56b0 : decide (x139_4 < (t246.length : Int)) = true := decide_eq_true c56
                                              clear c56
                                              by_cases c57 : 0 ≤ x139_4
                                              · rw [if_pos c57] at H
                                                have c57b0 : decide (0 ≤ x139_4) = true := decide_eq_true c57
                                                clear c57
                                                by_cases c58 : x139_4 < (t246.length : Int)
                                                · rw [if_pos c58] at H
                                                  have c58b0 : decide (x139_4 < (t246.length : Int)) = true := decide_eq_true c58
                                                  clear c58
                                                  by_cases c59 : x20_4 = true
                                                  · subst c59
                                                    have H1 : (if (rd t246 x139_4) > 8 then (if x22_4.length < 17592186044416 then (laws_FnCuts.l2 k4 l1 t221 t222 (rd t222 x119_3) true (x22_4 ++ [wrap64 ((wrap64 ((rd t246 x139_4) - 4)) - 4)]) t222 (t222.length : Int) x119_3 t246 (t246.length : Int) (wrap64 (x139_4 + 1))) else (none)) else (laws_FnCuts.l2 k4 l1 t221 t222 (rd t222 x119_3) true x22_4 t222 (t222.length : Int) x119_3 t246 (t246.length : Int) (wrap64 (x139_4 + 1)))) = some r := by rw [if_pos rfl] at H; exact H
                                                    clear H
                                                    have H := H1
                                                    clear H1
                                                    by_cases c60 : (rd t246 x139_4) > 8
                                                    · rw [if_pos c60] at H
                                                      have c60b0 : decide (8 < (rd t246 x139_4)) = true := decide_eq_true c60
                                                      clear c60
                                                      by_cases c61 : x22_4.length < 17592186044416
                                                      · rw [if_pos c61] at H
                                                        have LMc61 := Aside0.mk c61
                                                        clear c61
                                                        obtain ⟨y251, hy251⟩ : ∃ y_ : List Int, y_ = (x22_4 ++ [wrap64 ((wrap64 ((rd t246 x139_4) - 4)) - 4)]) := ⟨_, rfl⟩
                                                        replace H : (laws_FnCuts.l2 k4 l1 t221 t222 (rd t222 x119_3) true y251 t222 (t222.length : Int) x119_3 t246 (t246.length : Int) (wrap64 (x139_4 + 1))) = some r := by first | (rw [hy251]; with_reducible exact H) | (have H2_ := (Option.bind_some _ _).symm.trans H; rw [hy251]; with_reducible exact H2_) | (have H2_ := (Option.bind_some _ _).symm.trans H; with_reducible exact H2_) | with_reducible exact H | (rw [hy251]; exact H) | exact H
                                                        have Ny251 := Aside0.mk hy251
                                                        clear hy251
                                                        have H' := Aside0.mk H
                                                        clear H
                                                        have p250 : 0 ≤ (x139_4 : Int) := of_decide_eq_true (by first | (with_reducible assumption) | assumption)
                                                        have q250 : x139_4 < (t246.length : Int) := of_decide_eq_true (by first | (with_reducible assumption) | assumption)
                                                        obtain ⟨ad250, e250, hx250_0⟩ := Kd.at_int (Kd.R_reads' HO_137.out).2.2 x139_4 p250 q250
                                                        cases e250
                                                        replace p250 := eq_true p250
                                                        replace q250 := eq_true q250
                                                        go_wp2_with (first | ((with_reducible refine gate_builtin (b := .append) (xs := #[.tmp 150, .tmp 154]) rfl ?_); (try (refine gate_guard (by rfl) ?_; dsimp only)); at_builtin; refine Kd.R_append (Kd.int .i64) (w0 := w) w.heap.size rfl (.tmp 150) (.tmp 154) 29 3 (.int .i64 0) 8 rfl Try.underlying29 info3 rfl (by decide) (by omega) u22 x22_4 (wrap64 ((wrap64 ((rd t246 x139_4) - 4)) - 4)) [.int .i64 (wrap64 ((wrap64 ((rd t246 x139_4) - 4)) - 4))] (fun k_ => some k_ ≠ (.slice (some ad245) t222.length co43 : Value).ownBlock ∧ some k_ ≠ (.slice (some ad245) t222.length co43 : Value).ownBlock ∧ some k_ ≠ (.slice (some ad250) t246.length co55 : Value).ownBlock) (fun _ => False) rfl rfl ?aP (fun _ hk => hk.elim) ?aF ?aO ?aB ?aS ?aL ?_; (case aP => exact rfl); (case aB => exact (by repeat (first | (with_reducible first | exact HB.out | apply below_alloc | apply pw_below_drewN | apply below_drew1) | exact HB.out))); (case aF => exact (fun k_ hk => ⟨Kd.fresh' (Kd.R_lt (by (with_reducible repeat (first | apply Kd.R_alloc | apply Kd.R_drewN | apply Kd.R_drew)); exact HO_6.out)) k_ hk, Kd.fresh' (Kd.R_lt (by (with_reducible repeat (first | apply Kd.R_alloc | apply Kd.R_drewN | apply Kd.R_drew)); exact HO_117.out)) k_ hk, Kd.fresh' (Kd.R_lt (by (with_reducible repeat (first | apply Kd.R_alloc | apply Kd.R_drewN | apply Kd.R_drew)); exact HO_137.out)) k_ hk⟩)); (case aO => exact (by (with_reducible repeat (first | apply Kd.R_alloc | apply Kd.R_drewN | apply Kd.R_drew)); exact HO_22.out)); (case aS => exact (below_size (by repeat (first | (with_reducible first | exact HB.out | apply below_alloc | apply pw_below_drewN | apply below_drew1) | exact HB.out)))); (case aL => have := LMc61.out; omega); intro v252 w62 ho hb hg hat; rw [← Ny251.out] at ho; have n0_ := Aside0.mk (Kd.R_after (ok := (fun k_ => some k_ ≠ (.slice (some ad250) t246.length co55 : Value).ownBlock)) (by (with_reducible repeat (first | apply Kd.R_alloc | apply Kd.R_drewN | apply Kd.R_drew)); exact Kd.R_mono HO_6.out (fun _ hk => ⟨hk.2, hk.1⟩)) hg hat); have n1_ := Aside0.mk (Kd.R_after (ok := (fun k_ => some k_ ≠ (.slice (some ad250) t246.length co55 : Value).ownBlock)) (by (with_reducible repeat (first | apply Kd.R_alloc | apply Kd.R_drewN | apply Kd.R_drew)); exact Kd.R_mono HO_117.out (fun _ hk => ⟨hk.2, hk.1⟩)) hg hat); have n2_ := Aside0.mk (Kd.R_after (ok := (fun k_ => some k_ ≠ (.slice (some ad245) t222.length co43 : Value).ownBlock ∧ some k_ ≠ (.slice (some ad245) t222.length co43 : Value).ownBlock)) (by (with_reducible repeat (first | apply Kd.R_alloc | apply Kd.R_drewN | apply Kd.R_drew)); exact Kd.R_mono HO_137.out (fun _ hk => ⟨⟨hk.1, hk.2.2⟩, hk.2.1⟩)) hg hat); have n3_ := Aside0.mk (hb); have n4_ := Aside0.mk (ho); clear HO_6; clear HO_117; clear HO_137; clear HB; clear HO_22; have HO_6 := n0_; have HO_117 := n1_; have HO_137 := n2_; have HB := n3_; have HO253 := n4_; clear n0_ n1_ n2_ n3_ n4_; clear ho hb hg hat))
                                                        go_roundg k4
                                                        case measure => have := HJ7.out; have := HK2.out; have := HK3.out; have := HK4.out; omega
                                                        case rel => exact ⟨(true), (y251), (wrap64 (x139_4 + 1)), (by first | rfl | (simp; done) | (simp [*]; done)), (by first | rfl | (simp; done) | (simp [*]; done)), H', ⟨by have := HJ7.out; have := HK2.out; have := HK3.out; have := HK4.out; omega⟩, ⟨by (with_reducible repeat (first | apply Kd.R_alloc | apply Kd.R_drewN | apply Kd.R_drew)); exact Kd.R_mono HO_6.out (fun _ hk => ⟨hk.2, hk.1⟩)⟩, ⟨by (with_reducible repeat (first | apply Kd.R_alloc | apply Kd.R_drewN | apply Kd.R_drew)); exact HO253.out⟩, ⟨by (with_reducible repeat (first | apply Kd.R_alloc | apply Kd.R_drewN | apply Kd.R_drew)); exact Kd.R_mono HO_117.out (fun _ hk => ⟨hk.2, hk.1⟩)⟩, ⟨by (with_reducible repeat (first | apply Kd.R_alloc | apply Kd.R_drewN | apply Kd.R_drew)); exact Kd.R_mono HO_137.out (fun _ hk => ⟨hk.1.1, ⟨hk.2, hk.1.2⟩⟩)⟩, ⟨by repeat (first | (with_reducible first | exact HB.out | apply below_alloc | apply pw_below_drewN | apply below_drew1) | exact HB.out)⟩⟩
                                                      · rw [if_neg c61] at H
                                                        exact absurd H (by simp)
                                                    · rw [if_neg c60] at H
                                                      have c60b0 : decide (8 < (rd t246 x139_4)) = false := decide_eq_false c60
                                                      clear c60
                                                      have H' := Aside0.mk H
                                                      clear H
                                                      have p250 : 0 ≤ (x139_4 : Int) := of_decide_eq_true (by first | (with_reducible assumption) | assumption)
                                                      have q250 : x139_4 < (t246.length : Int) := of_decide_eq_true (by first | (with_reducible assumption) | assumption)
                                                      obtain ⟨ad250, e250, hx250_0⟩ := Kd.at_int (Kd.R_reads' HO_137.out).2.2 x139_4 p250 q250
                                                      cases e250
                                                      replace p250 := eq_true p250
                                                      replace q250 := eq_true q250
                                                      go_wp2
                                                      go_roundg k4
                                                      case measure => have := HJ7.out; have := HK2.out; have := HK3.out; have := HK4.out; omega
                                                      case rel => exact ⟨(true), (x22_4), (wrap64 (x139_4 + 1)), (by first | rfl | (simp; done) | (simp [*]; done)), (by first | rfl | (simp; done) | (simp [*]; done)), H', ⟨by have := HJ7.out; have := HK2.out; have := HK3.out; have := HK4.out; omega⟩, ⟨by (with_reducible repeat (first | apply Kd.R_alloc | apply Kd.R_drewN | apply Kd.R_drew)); exact HO_6.out⟩, ⟨by (with_reducible repeat (first | apply Kd.R_alloc | apply Kd.R_drewN | apply Kd.R_drew)); exact HO_22.out⟩, ⟨by (with_reducible repeat (first | apply Kd.R_alloc | apply Kd.R_drewN | apply Kd.R_drew)); exact HO_117.out⟩, ⟨by (with_reducible repeat (first | apply Kd.R_alloc | apply Kd.R_drewN | apply Kd.R_drew)); exact HO_137.out⟩, ⟨by repeat (first | (with_reducible first | exact HB.out | apply below_alloc | apply pw_below_drewN | apply below_drew1) | exact HB.out)⟩⟩
                                                  · replace c59 := Bool.eq_false_iff.mpr c59
                                                    subst c59
                                                    have H1 : (if (rd t246 x139_4) > 8 then (if x22_4.length < 17592186044416 then (laws_FnCuts.l2 k4 l1 t221 t222 (rd t222 x119_3) ((rd t246 x139_4) == 8) (x22_4 ++ [wrap64 ((wrap64 ((rd t246 x139_4) - 4)) - 4)]) t222 (t222.length : Int) x119_3 t246 (t246.length : Int) (wrap64 (x139_4 + 1))) else (none)) else (laws_FnCuts.l2 k4 l1 t221 t222 (rd t222 x119_3) ((rd t246 x139_4) == 8) x22_4 t222 (t222.length : Int) x119_3 t246 (t246.length : Int) (wrap64 (x139_4 + 1)))) = some r := by rw [if_neg (show ¬ (false = true) by decide)] at H; exact H
                                                    clear H
                                                    have H := H1
                                                    clear H1
                                                    by_cases c63 : (rd t246 x139_4) > 8
                                                    · rw [if_pos c63] at H
                                                      have c63b0 : decide (8 < (rd t246 x139_4)) = true := decide_eq_true c63
                                                      clear c63
                                                      by_cases c64 : x22_4.length < 17592186044416
                                                      · rw [if_pos c64] at H
                                                        have LMc64 := Aside0.mk c64
                                                        clear c64
                                                        obtain ⟨y254, hy254⟩ : ∃ y_ : List Int, y_ = (x22_4 ++ [wrap64 ((wrap64 ((rd t246 x139_4) - 4)) - 4)]) := ⟨_, rfl⟩
                                                        replace H : (laws_FnCuts.l2 k4 l1 t221 t222 (rd t222 x119_3) ((rd t246 x139_4) == 8) y254 t222 (t222.length : Int) x119_3 t246 (t246.length : Int) (wrap64 (x139_4 + 1))) = some r := by first | (rw [hy254]; with_reducible exact H) | (have H2_ := (Option.bind_some _ _).symm.trans H; rw [hy254]; with_reducible exact H2_) | (have H2_ := (Option.bind_some _ _).symm.trans H; with_reducible exact H2_) | with_reducible exact H | (rw [hy254]; exact H) | exact H
                                                        have Ny254 := Aside0.mk hy254
                                                        clear hy254
                                                        have H' := Aside0.mk H
                                                        clear H
                                                        have p250 : 0 ≤ (x139_4 : Int) := of_decide_eq_true (by first | (with_reducible assumption) | assumption)
                                                        have q250 : x139_4 < (t246.length : Int) := of_decide_eq_true (by first | (with_reducible assumption) | assumption)
                                                        obtain ⟨ad250, e250, hx250_0⟩ := Kd.at_int (Kd.R_reads' HO_137.out).2.2 x139_4 p250 q250
                                                        cases e250
                                                        replace p250 := eq_true p250
                                                        replace q250 := eq_true q250
                                                        go_wp2_with (first | ((with_reducible refine gate_builtin (b := .append) (xs := #[.tmp 150, .tmp 154]) rfl ?_); (try (refine gate_guard (by rfl) ?_; dsimp only)); at_builtin; refine Kd.R_append (Kd.int .i64) (w0 := w) w.heap.size rfl (.tmp 150) (.tmp 154) 29 3 (.int .i64 0) 8 rfl Try.underlying29 info3 rfl (by decide) (by omega) u22 x22_4 (wrap64 ((wrap64 ((rd t246 x139_4) - 4)) - 4)) [.int .i64 (wrap64 ((wrap64 ((rd t246 x139_4) - 4)) - 4))] (fun k_ => some k_ ≠ (.slice (some ad245) t222.length co43 : Value).ownBlock ∧ some k_ ≠ (.slice (some ad245) t222.length co43 : Value).ownBlock ∧ some k_ ≠ (.slice (some ad250) t246.length co55 : Value).ownBlock) (fun _ => False) rfl rfl ?aP (fun _ hk => hk.elim) ?aF ?aO ?aB ?aS ?aL ?_; (case aP => exact rfl); (case aB => exact (by repeat (first | (with_reducible first | exact HB.out | apply below_alloc | apply pw_below_drewN | apply below_drew1) | exact HB.out))); (case aF => exact (fun k_ hk => ⟨Kd.fresh' (Kd.R_lt (by (with_reducible repeat (first | apply Kd.R_alloc | apply Kd.R_drewN | apply Kd.R_drew)); exact HO_6.out)) k_ hk, Kd.fresh' (Kd.R_lt (by (with_reducible repeat (first | apply Kd.R_alloc | apply Kd.R_drewN | apply Kd.R_drew)); exact HO_117.out)) k_ hk, Kd.fresh' (Kd.R_lt (by (with_reducible repeat (first | apply Kd.R_alloc | apply Kd.R_drewN | apply Kd.R_drew)); exact HO_137.out)) k_ hk⟩)); (case aO => exact (by (with_reducible repeat (first | apply Kd.R_alloc | apply Kd.R_drewN | apply Kd.R_drew)); exact HO_22.out)); (case aS => exact (below_size (by repeat (first | (with_reducible first | exact HB.out | apply below_alloc | apply pw_below_drewN | apply below_drew1) | exact HB.out)))); (case aL => have := LMc64.out; omega); intro v255 w65 ho hb hg hat; rw [← Ny254.out] at ho; have n0_ := Aside0.mk (Kd.R_after (ok := (fun k_ => some k_ ≠ (.slice (some ad250) t246.length co55 : Value).ownBlock)) (by (with_reducible repeat (first | apply Kd.R_alloc | apply Kd.R_drewN | apply Kd.R_drew)); exact Kd.R_mono HO_6.out (fun _ hk => ⟨hk.2, hk.1⟩)) hg hat); have n1_ := Aside0.mk (Kd.R_after (ok := (fun k_ => some k_ ≠ (.slice (some ad250) t246.length co55 : Value).ownBlock)) (by (with_reducible repeat (first | apply Kd.R_alloc | apply Kd.R_drewN | apply Kd.R_drew)); exact Kd.R_mono HO_117.out (fun _ hk => ⟨hk.2, hk.1⟩)) hg hat); have n2_ := Aside0.mk (Kd.R_after (ok := (fun k_ => some k_ ≠ (.slice (some ad245) t222.length co43 : Value).ownBlock ∧ some k_ ≠ (.slice (some ad245) t222.length co43 : Value).ownBlock)) (by (with_reducible repeat (first | apply Kd.R_alloc | apply Kd.R_drewN | apply Kd.R_drew)); exact Kd.R_mono HO_137.out (fun _ hk => ⟨⟨hk.1, hk.2.2⟩, hk.2.1⟩)) hg hat); have n3_ := Aside0.mk (hb); have n4_ := Aside0.mk (ho); clear HO_6; clear HO_117; clear HO_137; clear HB; clear HO_22; have HO_6 := n0_; have HO_117 := n1_; have HO_137 := n2_; have HB := n3_; have HO256 := n4_; clear n0_ n1_ n2_ n3_ n4_; clear ho hb hg hat))
                                                        go_roundg k4
                                                        case measure => have := HJ7.out; have := HK2.out; have := HK3.out; have := HK4.out; omega
                                                        case rel => exact ⟨(((rd t246 x139_4) == 8)), (y254), (wrap64 (x139_4 + 1)), (by first | rfl | (simp; done) | (simp [*]; done)), (by first | rfl | (simp; done) | (simp [*]; done)), H', ⟨by have := HJ7.out; have := HK2.out; have := HK3.out; have := HK4.out; omega⟩, ⟨by (with_reducible repeat (first | apply Kd.R_alloc | apply Kd.R_drewN | apply Kd.R_drew)); exact Kd.R_mono HO_6.out (fun _ hk => ⟨hk.2, hk.1⟩)⟩, ⟨by (with_reducible repeat (first | apply Kd.R_alloc | apply Kd.R_drewN | apply Kd.R_drew)); exact HO256.out⟩, ⟨by (with_reducible repeat (first | apply Kd.R_alloc | apply Kd.R_drewN | apply Kd.R_drew)); exact Kd.R_mono HO_117.out (fun _ hk => ⟨hk.2, hk.1⟩)⟩, ⟨by (with_reducible repeat (first | apply Kd.R_alloc | apply Kd.R_drewN | apply Kd.R_drew)); exact Kd.R_mono HO_137.out (fun _ hk => ⟨hk.1.1, ⟨hk.2, hk.1.2⟩⟩)⟩, ⟨by repeat (first | (with_reducible first | exact HB.out | apply below_alloc | apply pw_below_drewN | apply below_drew1) | exact HB.out)⟩⟩
                                                      · rw [if_neg c64] at H
                                                        exact absurd H (by simp)
                                                    · rw [if_neg c63] at H
                                                      have c63b0 : decide (8 < (rd t246 x139_4)) = false := decide_eq_false c63
                                                      clear c63
                                                      have H' := Aside0.mk H
                                                      clear H
                                                      have p250 : 0 ≤ (x139_4 : Int) := of_decide_eq_true (by first | (with_reducible assumption) | assumption)
                                                      have q250 : x139_4 < (t246.length : Int) := of_decide_eq_true (by first | (with_reducible assumption) | assumption)
                                                      obtain ⟨ad250, e250, hx250_0⟩ := Kd.at_int (Kd.R_reads' HO_137.out).2.2 x139_4 p250 q250
                                                      cases e250
                                                      replace p250 := eq_true p250
                                                      replace q250 := eq_true q250
                                                      go_wp2
                                                      go_roundg k4
                                                      case measure => have := HJ7.out; have := HK2.out; have := HK3.out; have := HK4.out; omega
                                                      case rel => exact ⟨(((rd t246 x139_4) == 8)), (x22_4), (wrap64 (x139_4 + 1)), (by first | rfl | (simp; done) | (simp [*]; done)), (by first | rfl | (simp; done) | (simp [*]; done)), H', ⟨by have := HJ7.out; have := HK2.out; have := HK3.out; have := HK4.out; omega⟩, ⟨by (with_reducible repeat (first | apply Kd.R_alloc | apply Kd.R_drewN | apply Kd.R_drew)); exact HO_6.out⟩, ⟨by (with_reducible repeat (first | apply Kd.R_alloc | apply Kd.R_drewN | apply Kd.R_drew)); exact HO_22.out⟩, ⟨by (with_reducible repeat (first | apply Kd.R_alloc | apply Kd.R_drewN | apply Kd.R_drew)); exact HO_117.out⟩, ⟨by (with_reducible repeat (first | apply Kd.R_alloc | apply Kd.R_drewN | apply Kd.R_drew)); exact HO_137.out⟩, ⟨by repeat (first | (with_reducible first | exact HB.out | apply below_alloc | apply pw_below_drewN | apply below_drew1) | exact HB.out)⟩⟩
                                                · rw [if_neg c58] at H
                                                  exact absurd H (by simp)
                                              · rw [if_neg c57] at H
                                                exact absurd H (by simp)
                                            · rw [if_neg c56] at H
                                              have c56b0 : decide (x139_4 < (t246.length : Int)) = false := decide_eq_false c56
                                              clear c56
                                              have H' := Aside0.mk H
                                              clear H
                                              go_wp2
                                              go_loopg [21, 159] k4 (fun kq v21 v159 w' => ∃ (x21_5 : List Int) (x159_5 : Int), v159 = .int .i64 x159_5 ∧ Aside0 (laws_FnCuts.l3 kq l1 t221 t222 (rd t222 x119_3) x20_4 x21_5 x22_4 t222 (t222.length : Int) x119_3 t222 (t222.length : Int) x159_5 = some r) ∧ Aside0 (kq ≤ k4) ∧ Aside0 (Kd.R (Kd.int .i64) 3 w' w.heap.size (fun k_ => some k_ ≠ (v21 : Value).ownBlock ∧ some k_ ≠ (u22 : Value).ownBlock) (.slice (some ad245) t222.length co43) t222) ∧ Aside0 (Kd.R (Kd.int .i64) 3 w' w.heap.size (fun k_ => some k_ ≠ ((.slice (some ad245) t222.length co43) : Value).ownBlock ∧ some k_ ≠ (u22 : Value).ownBlock ∧ some k_ ≠ ((.slice (some ad245) t222.length co43) : Value).ownBlock ∧ some k_ ≠ ((.slice (some ad245) t222.length co43) : Value).ownBlock) v21 x21_5) ∧ Aside0 (Kd.R (Kd.int .i64) 3 w' w.heap.size (fun k_ => some k_ ≠ ((.slice (some ad245) t222.length co43) : Value).ownBlock ∧ some k_ ≠ (v21 : Value).ownBlock ∧ some k_ ≠ ((.slice (some ad245) t222.length co43) : Value).ownBlock ∧ some k_ ≠ ((.slice (some ad245) t222.length co43) : Value).ownBlock) u22 x22_4) ∧ Aside0 (Kd.R (Kd.int .i64) 3 w' w.heap.size (fun k_ => some k_ ≠ (v21 : Value).ownBlock ∧ some k_ ≠ (u22 : Value).ownBlock) (.slice (some ad245) t222.length co43) t222) ∧ Aside0 (Kd.R (Kd.int .i64) 3 w' w.heap.size (fun k_ => some k_ ≠ (v21 : Value).ownBlock ∧ some k_ ≠ (u22 : Value).ownBlock) (.slice (some ad245) t222.length co43) t222) ∧ Aside0 (Below w.heap.size w w'))
                                              case atStart => exact ⟨(([] : List Int)), (0), (by first | rfl | (simp; done) | (simp [*]; done)), H', ⟨Nat.le_refl _⟩, ⟨by (with_reducible repeat (first | apply Kd.R_alloc | apply Kd.R_drewN | apply Kd.R_drew)); exact Kd.R_mono HO_6.out (fun _ hk => ⟨(by simp [Value.ownBlock]), hk.1⟩)⟩, ⟨by first | exact Kd.R_nil _ _ _ _ _ | exact Kd.N_nil _ _ _ _ _ | exact Kd.V_nil _ _ _ _ _ | exact Kd.Q_nil _ _ _ _ _ | exact Kd.S_nil _ _ _ _ _⟩, ⟨by (with_reducible repeat (first | apply Kd.R_alloc | apply Kd.R_drewN | apply Kd.R_drew)); exact Kd.R_mono HO_22.out (fun _ hk => ⟨hk.1, ⟨(by simp [Value.ownBlock]), ⟨hk.2.1, hk.1⟩⟩⟩)⟩, ⟨by (with_reducible repeat (first | apply Kd.R_alloc | apply Kd.R_drewN | apply Kd.R_drew)); exact Kd.R_mono HO_117.out (fun _ hk => ⟨(by simp [Value.ownBlock]), hk.1⟩)⟩, ⟨by (with_reducible repeat (first | apply Kd.R_alloc | apply Kd.R_drewN | apply Kd.R_drew)); exact Kd.R_mono HO_6.out (fun _ hk => ⟨(by simp [Value.ownBlock]), hk.1⟩)⟩, ⟨by repeat (first | (with_reducible first | exact HB.out | apply below_alloc | apply pw_below_drewN | apply below_drew1) | exact HB.out)⟩⟩
                                              case round =>
                                                clear H'
                                                try clear c1
                                                try clear c2
                                                try clear p2
                                                try clear q2
                                                try clear hx2
                                                try clear c3
                                                try clear c3b0
                                                try clear c4
                                                try clear c5
                                                try clear c6
                                                try clear p6
                                                try clear c13
                                                try clear c13b0
                                                try clear c13b1
                                                try clear c13b2
                                                try clear c15
                                                try clear c16
                                                try clear c16b0
                                                try clear c16b1
                                                try clear c16b2
                                                try clear c19
                                                try clear c20
                                                try clear p23
                                                try clear q23
                                                try clear hx23
                                                try clear c24
                                                try clear p24
                                                try clear q24
                                                try clear hx24
                                                try clear c25
                                                try clear p25
                                                try clear q25
                                                try clear hx25
                                                try clear c27
                                                try clear c27b0
                                                try clear c28
                                                try clear c28b0
                                                try clear c29
                                                try clear c29b0
                                                try clear c30
                                                try clear c30b0
                                                try clear c30b1
                                                try clear c30b2
                                                try clear c31
                                                try clear c31b0
                                                try clear c31b1
                                                try clear c32
                                                try clear c32b0
                                                try clear c33
                                                try clear c33b0
                                                try clear c33b1
                                                try clear c34
                                                try clear c34b0
                                                try clear c35
                                                try clear c35b0
                                                try clear c35b1
                                                try clear c38
                                                try clear c38b0
                                                try clear c39
                                                try clear c39b0
                                                try clear c39b1
                                                try clear c42
                                                try clear c42b0
                                                try clear c42b1
                                                try clear c44
                                                try clear c44b0
                                                try clear c45
                                                try clear c45b0
                                                try clear c46
                                                try clear c46b0
                                                try clear c47
                                                try clear c47b0
                                                try clear c49
                                                try clear c49b0
                                                try clear c49b1
                                                try clear c50
                                                try clear c50b0
                                                try clear c50b1
                                                try clear c51
                                                try clear c51b0
                                                try clear c51b1
                                                try clear c51b2
                                                try clear c53
                                                try clear c56
                                                try clear c56b0
                                                try clear c57
                                                try clear c57b0
                                                try clear c58
                                                try clear c58b0
                                                try clear c59
                                                try clear c60
                                                try clear c60b0
                                                try clear c61
                                                try clear c63
                                                try clear c63b0
                                                try clear c64
                                                try clear p64
                                                try clear hx235_0
                                                try clear hx236_0
                                                try clear hx237_0
                                                try clear hx245_0
                                                try clear hx250_0
                                                try clear p2
                                                try clear p23
                                                try clear p235
                                                try clear p236
                                                try clear p237
                                                try clear p24
                                                try clear p245
                                                try clear p250
                                                try clear p6
                                                try clear q2
                                                try clear q23
                                                try clear q235
                                                try clear q236
                                                try clear q237
                                                try clear q24
                                                try clear q245
                                                try clear q250
                                                obtain ⟨x21_5, x159_5, rfl, HA, HK5, HO_6, HO_21, HO_22, HO_117, HO_157, HB⟩ := hrel
                                                cases gk with
                                                | zero => exact absurd HA.out (by simp [laws_FnCuts.l3])
                                                | succ k5 =>
                                                  have H := HA.out
                                                  clear HA
                                                  simp only [laws_FnCuts.l3] at H
                                                  by_cases c66 : x159_5 < (t222.length : Int)
                                                  · rw [if_pos c66] at H
                                                    have c66b0 : decide (x159_5 < (t222.length : Int)) = true := decide_eq_true c66
                                                    clear c66
                                                    by_cases c67 : 0 ≤ x159_5
                                                    · rw [if_pos c67] at H
                                                      have c67b0 : decide (0 ≤ x159_5) = true := decide_eq_true c67
                                                      clear c67
                                                      by_cases c68 : x159_5 < (t222.length : Int)
                                                      · rw [if_pos c68] at H
                                                        have c68b0 : decide (x159_5 < (t222.length : Int)) = true := decide_eq_true c68
                                                        clear c68
                                                        by_cases c69 : (rd t222 x159_5) > (rd t222 x119_3)
                                                        · rw [if_pos c69] at H
                                                          have c69b0 : decide ((rd t222 x119_3) < (rd t222 x159_5)) = true := decide_eq_true c69
                                                          clear c69
                                                          by_cases c70 : x21_5.length < 17592186044416
                                                          · rw [if_pos c70] at H
                                                            have LMc70 := Aside0.mk c70
                                                            clear c70
                                                            obtain ⟨y258, hy258⟩ : ∃ y_ : List Int, y_ = (x21_5 ++ [wrap64 ((rd t222 x159_5) - (rd t222 x119_3))]) := ⟨_, rfl⟩
                                                            replace H : (laws_FnCuts.l3 k5 l1 t221 t222 (rd t222 x119_3) x20_4 y258 x22_4 t222 (t222.length : Int) x119_3 t222 (t222.length : Int) (wrap64 (x159_5 + 1))) = some r := by first | (rw [hy258]; with_reducible exact H) | (have H2_ := (Option.bind_some _ _).symm.trans H; rw [hy258]; with_reducible exact H2_) | (have H2_ := (Option.bind_some _ _).symm.trans H; with_reducible exact H2_) | with_reducible exact H | (rw [hy258]; exact H) | exact H
                                                            have Ny258 := Aside0.mk hy258
                                                            clear hy258
                                                            have H' := Aside0.mk H
                                                            clear H
                                                            have p257 : 0 ≤ (x159_5 : Int) := of_decide_eq_true (by first | (with_reducible assumption) | assumption)
                                                            have q257 : x159_5 < (t222.length : Int) := of_decide_eq_true (by first | (with_reducible assumption) | assumption)
                                                            obtain ⟨ad257, e257, hx257_0⟩ := Kd.at_int (Kd.R_reads' HO_157.out).2.2 x159_5 p257 q257
                                                            obtain rfl : ad245 = ad257 := (by injection e257)
                                                            replace p257 := eq_true p257
                                                            replace q257 := eq_true q257
                                                            go_wp2_with (first | ((with_reducible refine gate_builtin (b := .append) (xs := #[.tmp 166, .tmp 170]) rfl ?_); (try (refine gate_guard (by rfl) ?_; dsimp only)); at_builtin; refine Kd.R_append (Kd.int .i64) (w0 := w) w.heap.size rfl (.tmp 166) (.tmp 170) 29 3 (.int .i64 0) 8 rfl Try.underlying29 info3 rfl (by decide) (by omega) u21 x21_5 (wrap64 ((rd t222 x159_5) - (rd t222 x119_3))) [.int .i64 (wrap64 ((rd t222 x159_5) - (rd t222 x119_3)))] (fun k_ => some k_ ≠ (.slice (some ad245) t222.length co43 : Value).ownBlock ∧ some k_ ≠ (u22 : Value).ownBlock ∧ some k_ ≠ (.slice (some ad245) t222.length co43 : Value).ownBlock ∧ some k_ ≠ (.slice (some ad245) t222.length co43 : Value).ownBlock) (fun _ => False) rfl rfl ?aP (fun _ hk => hk.elim) ?aF ?aO ?aB ?aS ?aL ?_; (case aP => exact rfl); (case aB => exact (by repeat (first | (with_reducible first | exact HB.out | apply below_alloc | apply pw_below_drewN | apply below_drew1) | exact HB.out))); (case aF => exact (fun k_ hk => ⟨Kd.fresh' (Kd.R_lt (by (with_reducible repeat (first | apply Kd.R_alloc | apply Kd.R_drewN | apply Kd.R_drew)); exact HO_6.out)) k_ hk, Kd.fresh' (Kd.R_lt (by (with_reducible repeat (first | apply Kd.R_alloc | apply Kd.R_drewN | apply Kd.R_drew)); exact HO_22.out)) k_ hk, Kd.fresh' (Kd.R_lt (by (with_reducible repeat (first | apply Kd.R_alloc | apply Kd.R_drewN | apply Kd.R_drew)); exact HO_117.out)) k_ hk, Kd.fresh' (Kd.R_lt (by (with_reducible repeat (first | apply Kd.R_alloc | apply Kd.R_drewN | apply Kd.R_drew)); exact HO_157.out)) k_ hk⟩)); (case aO => exact (by (with_reducible repeat (first | apply Kd.R_alloc | apply Kd.R_drewN | apply Kd.R_drew)); exact HO_21.out)); (case aS => exact (below_size (by repeat (first | (with_reducible first | exact HB.out | apply below_alloc | apply pw_below_drewN | apply below_drew1) | exact HB.out)))); (case aL => have := LMc70.out; omega); intro v259 w71 ho hb hg hat; rw [← Ny258.out] at ho; have n0_ := Aside0.mk (Kd.R_after (ok := (fun k_ => some k_ ≠ (u22 : Value).ownBlock)) (by (with_reducible repeat (first | apply Kd.R_alloc | apply Kd.R_drewN | apply Kd.R_drew)); exact Kd.R_mono HO_6.out (fun _ hk => ⟨hk.2, hk.1⟩)) hg hat); have n1_ := Aside0.mk (Kd.R_after (ok := (fun k_ => some k_ ≠ (.slice (some ad245) t222.length co43 : Value).ownBlock ∧ some k_ ≠ (.slice (some ad245) t222.length co43 : Value).ownBlock ∧ some k_ ≠ (.slice (some ad245) t222.length co43 : Value).ownBlock)) (by (with_reducible repeat (first | apply Kd.R_alloc | apply Kd.R_drewN | apply Kd.R_drew)); exact Kd.R_mono HO_22.out (fun _ hk => ⟨⟨hk.1, ⟨hk.2.2.1, hk.2.2.2⟩⟩, hk.2.1⟩)) hg hat); have n2_ := Aside0.mk (Kd.R_after (ok := (fun k_ => some k_ ≠ (u22 : Value).ownBlock)) (by (with_reducible repeat (first | apply Kd.R_alloc | apply Kd.R_drewN | apply Kd.R_drew)); exact Kd.R_mono HO_117.out (fun _ hk => ⟨hk.2, hk.1⟩)) hg hat); have n3_ := Aside0.mk (Kd.R_after (ok := (fun k_ => some k_ ≠ (u22 : Value).ownBlock)) (by (with_reducible repeat (first | apply Kd.R_alloc | apply Kd.R_drewN | apply Kd.R_drew)); exact Kd.R_mono HO_157.out (fun _ hk => ⟨hk.2, hk.1⟩)) hg hat); have n4_ := Aside0.mk (hb); have n5_ := Aside0.mk (ho); clear HO_6; clear HO_22; clear HO_117; clear HO_157; clear HB; clear HO_21; have HO_6 := n0_; have HO_22 := n1_; have HO_117 := n2_; have HO_157 := n3_; have HB := n4_; have HO260 := n5_; clear n0_ n1_ n2_ n3_ n4_ n5_; clear ho hb hg hat))
                                                            go_roundg k5
                                                            case measure => have := HJ7.out; have := HK2.out; have := HK3.out; have := HK4.out; have := HK5.out; omega
                                                            case rel => exact ⟨(y258), (wrap64 (x159_5 + 1)), (by first | rfl | (simp; done) | (simp [*]; done)), H', ⟨by have := HJ7.out; have := HK2.out; have := HK3.out; have := HK4.out; have := HK5.out; omega⟩, ⟨by (with_reducible repeat (first | apply Kd.R_alloc | apply Kd.R_drewN | apply Kd.R_drew)); exact Kd.R_mono HO_6.out (fun _ hk => ⟨hk.2, hk.1⟩)⟩, ⟨by (with_reducible repeat (first | apply Kd.R_alloc | apply Kd.R_drewN | apply Kd.R_drew)); exact HO260.out⟩, ⟨by (with_reducible repeat (first | apply Kd.R_alloc | apply Kd.R_drewN | apply Kd.R_drew)); exact Kd.R_mono HO_22.out (fun _ hk => ⟨hk.1.1, ⟨hk.2, ⟨hk.1.2.1, hk.1.2.2⟩⟩⟩)⟩, ⟨by (with_reducible repeat (first | apply Kd.R_alloc | apply Kd.R_drewN | apply Kd.R_drew)); exact Kd.R_mono HO_117.out (fun _ hk => ⟨hk.2, hk.1⟩)⟩, ⟨by (with_reducible repeat (first | apply Kd.R_alloc | apply Kd.R_drewN | apply Kd.R_drew)); exact Kd.R_mono HO_157.out (fun _ hk => ⟨hk.2, hk.1⟩)⟩, ⟨by repeat (first | (with_reducible first | exact HB.out | apply below_alloc | apply pw_below_drewN | apply below_drew1) | exact HB.out)⟩⟩
                                                          · rw [if_neg c70] at H
                                                            exact absurd H (by simp)
                                                        · rw [if_neg c69] at H
                                                          have c69b0 : decide ((rd t222 x119_3) < (rd t222 x159_5)) = false := decide_eq_false c69
                                                          clear c69
                                                          have H' := Aside0.mk H
                                                          clear H
                                                          have p257 : 0 ≤ (x159_5 : Int) := of_decide_eq_true (by first | (with_reducible assumption) | assumption)
                                                          have q257 : x159_5 < (t222.length : Int) := of_decide_eq_true (by first | (with_reducible assumption) | assumption)
                                                          obtain ⟨ad257, e257, hx257_0⟩ := Kd.at_int (Kd.R_reads' HO_157.out).2.2 x159_5 p257 q257
                                                          obtain rfl : ad245 = ad257 := (by injection e257)
                                                          replace p257 := eq_true p257
                                                          replace q257 := eq_true q257
                                                          go_wp2
                                                          go_roundg k5
                                                          case measure => have := HJ7.out; have := HK2.out; have := HK3.out; have := HK4.out; have := HK5.out; omega
                                                          case rel => exact ⟨(x21_5), (wrap64 (x159_5 + 1)), (by first | rfl | (simp; done) | (simp [*]; done)), H', ⟨by have := HJ7.out; have := HK2.out; have := HK3.out; have := HK4.out; have := HK5.out; omega⟩, ⟨by (with_reducible repeat (first | apply Kd.R_alloc | apply Kd.R_drewN | apply Kd.R_drew)); exact HO_6.out⟩, ⟨by (with_reducible repeat (first | apply Kd.R_alloc | apply Kd.R_drewN | apply Kd.R_drew)); exact HO_21.out⟩, ⟨by (with_reducible repeat (first | apply Kd.R_alloc | apply Kd.R_drewN | apply Kd.R_drew)); exact HO_22.out⟩, ⟨by (with_reducible repeat (first | apply Kd.R_alloc | apply Kd.R_drewN | apply Kd.R_drew)); exact HO_117.out⟩, ⟨by (with_reducible repeat (first | apply Kd.R_alloc | apply Kd.R_drewN | apply Kd.R_drew)); exact HO_157.out⟩, ⟨by repeat (first | (with_reducible first | exact HB.out | apply below_alloc | apply pw_below_drewN | apply below_drew1) | exact HB.out)⟩⟩
                                                      · rw [if_neg c68] at H
                                                        exact absurd H (by simp)
                                                    · rw [if_neg c67] at H
                                                      exact absurd H (by simp)
                                                  · rw [if_neg c66] at H
                                                    have c66b0 : decide (x159_5 < (t222.length : Int)) = false := decide_eq_false c66
                                                    clear c66
                                                    by_cases c72 : x20_4 = true
                                                    · subst c72
                                                      have H1 : ((laws_sameInts.f k5 x21_5 x22_4).bind fun t261 => (if t261 = true then (laws_FnCuts.l1 k5 l1 t221 t222 t222 (t222.length : Int) (wrap64 (x119_3 + 1))) else (some false))) = some r := by rw [if_pos rfl] at H; exact H
                                                      clear H
                                                      have H := H1
                                                      clear H1
                                                      replace H := Option.bind_eq_some_iff.mp H
                                                      obtain ⟨t261, A730, H⟩ := H
                                                      replace H : (if t261 = true then (laws_FnCuts.l1 k5 l1 t221 t222 t222 (t222.length : Int) (wrap64 (x119_3 + 1))) else (some false)) = some r := H
                                                      have A73 := Aside0.mk A730
                                                      clear A730
                                                      by_cases c74 : t261 = true
                                                      · subst c74
                                                        have H1 : (laws_FnCuts.l1 k5 l1 t221 t222 t222 (t222.length : Int) (wrap64 (x119_3 + 1))) = some r := by rw [if_pos rfl] at H; exact H
                                                        clear H
                                                        have H := H1
                                                        clear H1
                                                        have H' := Aside0.mk H
                                                        clear H
                                                        obtain ⟨Ao75, co75, eo75⟩ := Kd.R_slice HO_21.out
                                                        subst eo75
                                                        obtain ⟨Ao76, co76, eo76⟩ := Kd.R_slice HO_22.out
                                                        subst eo76
                                                        go_wp2_with (first | (go_at_call 30; (with_reducible refine (laws_sameInts.calls k5 _ _ x21_5 _ _ x22_4 true _ ?side1 ?side2 ?side3 ?side4 A73.out).mono ?_); (case side1 => repeat (first | exact (Kd.R_reads' HO_21.out).2.2 | (with_reducible refine Kd.C_alloc ?_ _) | (with_reducible refine Kd.C_drewN ?_ _) | (with_reducible refine Kd.C_drew ?_))); (case side2 => exact (Kd.R_reads' HO_21.out).2.1); (case side3 => repeat (first | exact (Kd.R_reads' HO_22.out).2.2 | (with_reducible refine Kd.C_alloc ?_ _) | (with_reducible refine Kd.C_drewN ?_ _) | (with_reducible refine Kd.C_drew ?_))); (case side4 => exact (Kd.R_reads' HO_22.out).2.1); rintro e w' ⟨rfl, ⟨nd, rfl⟩⟩))
                                                        go_roundg k5
                                                        case measure => have := HJ7.out; have := HK2.out; have := HK3.out; have := HK4.out; have := HK5.out; omega
                                                        case rel => exact ⟨(wrap64 (x119_3 + 1)), (by first | rfl | (simp; done) | (simp [*]; done)), H', ⟨by have := HJ7.out; have := HK2.out; have := HK3.out; have := HK4.out; have := HK5.out; omega⟩, ⟨by (with_reducible repeat (first | apply Kd.R_alloc | apply Kd.R_drewN | apply Kd.R_drew)); exact Kd.R_mono HO_6.out (fun _ hk => trivial)⟩, ⟨by (with_reducible repeat (first | apply Kd.R_alloc | apply Kd.R_drewN | apply Kd.R_drew)); exact Kd.R_mono HO_117.out (fun _ hk => trivial)⟩, ⟨by repeat (first | (with_reducible first | exact HB.out | apply below_alloc | apply pw_below_drewN | apply below_drew1) | exact HB.out)⟩⟩
                                                      · replace c74 := Bool.eq_false_iff.mpr c74
                                                        subst c74
                                                        have H1 : (some false) = some r := by rw [if_neg (show ¬ (false = true) by decide)] at H; exact H
                                                        clear H
                                                        have H := H1
                                                        clear H1
                                                        obtain rfl := Option.some.inj H
                                                        obtain ⟨Ao77, co77, eo77⟩ := Kd.R_slice HO_21.out
                                                        subst eo77
                                                        obtain ⟨Ao78, co78, eo78⟩ := Kd.R_slice HO_22.out
                                                        subst eo78
                                                        go_wp2_with (first | (go_at_call 30; (with_reducible refine (laws_sameInts.calls k5 _ _ x21_5 _ _ x22_4 false _ ?side1 ?side2 ?side3 ?side4 A73.out).mono ?_); (case side1 => repeat (first | exact (Kd.R_reads' HO_21.out).2.2 | (with_reducible refine Kd.C_alloc ?_ _) | (with_reducible refine Kd.C_drewN ?_ _) | (with_reducible refine Kd.C_drew ?_))); (case side2 => exact (Kd.R_reads' HO_21.out).2.1); (case side3 => repeat (first | exact (Kd.R_reads' HO_22.out).2.2 | (with_reducible refine Kd.C_alloc ?_ _) | (with_reducible refine Kd.C_drewN ?_ _) | (with_reducible refine Kd.C_drew ?_))); (case side4 => exact (Kd.R_reads' HO_22.out).2.1); rintro e w' ⟨rfl, ⟨nd, rfl⟩⟩))
                                                        go_ret
                                                        exact ⟨by first | rfl | (simp [errW_none, errW_some] <;> rfl) | (simp only [← hji48]; first | rfl | (simp [errW_none, errW_some] <;> rfl)) | (simp [*, errW_none, errW_some] <;> rfl) | (simp [Go.Proofs.Ytdlaegianaofjaa.E.isEmpty_bne]; done) | (rw [Go.Proofs.Ytdlaegianaofjaa.E.bne_empty]), by repeat (first | (with_reducible first | exact HB.out | apply below_alloc | apply pw_below_drewN | apply below_drew1) | exact HB.out)⟩
                                                    · replace c72 := Bool.eq_false_iff.mpr c72
                                                      subst c72
                                                      have H1 : (laws_FnCuts.l1 k5 l1 t221 t222 t222 (t222.length : Int) (wrap64 (x119_3 + 1))) = some r := by rw [if_neg (show ¬ (false = true) by decide)] at H; exact H
                                                      clear H
                                                      have H := H1
                                                      clear H1
                                                      have H' := Aside0.mk H
                                                      clear H
                                                      go_wp2
                                                      go_roundg k5
                                                      case measure => have := HJ7.out; have := HK2.out; have := HK3.out; have := HK4.out; have := HK5.out; omega
                                                      case rel => exact ⟨(wrap64 (x119_3 + 1)), (by first | rfl | (simp; done) | (simp [*]; done)), H', ⟨by have := HJ7.out; have := HK2.out; have := HK3.out; have := HK4.out; have := HK5.out; omega⟩, ⟨by (with_reducible repeat (first | apply Kd.R_alloc | apply Kd.R_drewN | apply Kd.R_drew)); exact Kd.R_mono HO_6.out (fun _ hk => trivial)⟩, ⟨by (with_reducible repeat (first | apply Kd.R_alloc | apply Kd.R_drewN | apply Kd.R_drew)); exact Kd.R_mono HO_117.out (fun _ hk => trivial)⟩, ⟨by repeat (first | (with_reducible first | exact HB.out | apply below_alloc | apply pw_below_drewN | apply below_drew1) | exact HB.out)⟩⟩
                                      · replace c53 := Bool.eq_false_iff.mpr c53
                                        subst c53
                                        have H1 : (laws_FnCuts.l1 k3 l1 t221 t222 t222 (t222.length : Int) (wrap64 (x119_3 + 1))) = some r := by rw [if_neg (show ¬ (false = true) by decide)] at H; exact H
                                        clear H
                                        have H := H1
                                        clear H1
                                        have H' := Aside0.mk H
                                        clear H
                                        have p245 : 0 ≤ (x119_3 : Int) := of_decide_eq_true (by first | (with_reducible assumption) | assumption)
                                        have q245 : x119_3 < (t222.length : Int) := of_decide_eq_true (by first | (with_reducible assumption) | assumption)
                                        obtain ⟨ad245, e245, hx245_0⟩ := Kd.at_int (Kd.R_reads' HO_117.out).2.2 x119_3 p245 q245
                                        cases e245
                                        replace p245 := eq_true p245
                                        replace q245 := eq_true q245
                                        go_wp2_with (first | ((with_reducible refine gate_callee (f := 20) rfl ?_); refine goesL_ (some 132) rfl rfl Try.func20 (by kernel_rfl) rfl #[.string ((⟨#[122, 122, 122, 122]⟩ : ByteArray) ++ (t221.extract ((ji48) : Int).toNat t221.size))] rfl (by (try simp only [List.map_toArray, List.map_cons, List.map_nil]); first | done | (simp only [hji48]; rfl) | rfl | (simp only [List.length_drop, List.length_take]; rfl)) ?_; (with_reducible refine (impl_CutsOf.calls k3 ((⟨#[122, 122, 122, 122]⟩ : ByteArray) ++ (t221.extract ((ji48) : Int).toNat t221.size)) t246 false _ A52.out).mono ?_); rintro e w79 ⟨v248, rfl, ho0, hb⟩; refine ⟨_, rfl, ?_⟩; have n0_ := Aside0.mk (Kd.R_elder' (by (with_reducible repeat (first | apply Kd.R_alloc | apply Kd.R_drewN | apply Kd.R_drew)); exact HO_6.out) (Kd.R_base ho0) hb); have n1_ := Aside0.mk (Kd.R_elder' (by (with_reducible repeat (first | apply Kd.R_alloc | apply Kd.R_drewN | apply Kd.R_drew)); exact HO_117.out) (Kd.R_base ho0) hb); have n2_ := Aside0.mk (Kd.R_lower (Kd.R_new' (Kd.R_new' ho0 (Kd.R_lt (by (with_reducible repeat (first | apply Kd.R_alloc | apply Kd.R_drewN | apply Kd.R_drew)); exact HO_6.out))) (Kd.R_lt (by (with_reducible repeat (first | apply Kd.R_alloc | apply Kd.R_drewN | apply Kd.R_drew)); exact HO_117.out))) (below_size (by repeat (first | (with_reducible first | exact HB.out | apply below_alloc | apply pw_below_drewN | apply below_drew1) | exact HB.out)))); have n3_ := Aside0.mk (below_step (by repeat (first | (with_reducible first | exact HB.out | apply below_alloc | apply pw_below_drewN | apply below_drew1) | exact HB.out)) hb); clear HO_6; clear HO_117; clear HB; have HO_6 := n0_; have HO_117 := n1_; have HO249 := n2_; have HB := n3_; clear n0_ n1_ n2_ n3_; (try clear hb); (try clear hb2); (try clear hk); (try clear hi); (try clear ho0)))
                                        go_roundg k3
                                        case measure => have := HJ7.out; have := HK2.out; have := HK3.out; omega
                                        case rel => exact ⟨(wrap64 (x119_3 + 1)), (by first | rfl | (simp; done) | (simp [*]; done)), H', ⟨by have := HJ7.out; have := HK2.out; have := HK3.out; omega⟩, ⟨by (with_reducible repeat (first | apply Kd.R_alloc | apply Kd.R_drewN | apply Kd.R_drew)); exact Kd.R_mono HO_6.out (fun _ hk => trivial)⟩, ⟨by (with_reducible repeat (first | apply Kd.R_alloc | apply Kd.R_drewN | apply Kd.R_drew)); exact Kd.R_mono HO_117.out (fun _ hk => trivial)⟩, ⟨by repeat (first | (with_reducible first | exact HB.out | apply below_alloc | apply pw_below_drewN | apply below_drew1) | exact HB.out)⟩⟩
                                    · rw [if_neg c51] at H
                                      exact absurd H (by simp)
                                  · rw [if_neg c50] at H
                                    exact absurd H (by simp)
                                · rw [if_neg c49] at H
                                  exact absurd H (by simp)
                            · rw [if_neg c46] at H
                              exact absurd H (by simp)
                          · rw [if_neg c45] at H
                            exact absurd H (by simp)
                        · rw [if_neg c44] at H
                          have c44b0 : decide (x119_3 < (t222.length : Int)) = false := decide_eq_false c44
                          clear c44
                          replace H := Option.bind_eq_some_iff.mp H
                          obtain ⟨⟨t238, t239, t240⟩, A800, H⟩ := H
                          replace H : ((impl_RollOn.f t238 t239 t240).bind fun bt241 => ((spec_RollOn.f t238 t239 t240).bind fun bt243 => (if (bt241.2 == bt243.2) = true then (some (bt241.1 == bt243.1)) else (some false)))) = some r := H
                          have A80 := Aside0.mk A800
                          clear A800
                          replace H := Option.bind_eq_some_iff.mp H
                          obtain ⟨⟨t241, t242⟩, A810, H⟩ := H
                          replace H : ((spec_RollOn.f t238 t239 t240).bind fun bt243 => (if (t242 == bt243.2) = true then (some (t241 == bt243.1)) else (some false))) = some r := H
                          have A81 := Aside0.mk A810
                          clear A810
                          replace H := Option.bind_eq_some_iff.mp H
                          obtain ⟨⟨t243, t244⟩, A820, H⟩ := H
                          replace H : (if (t242 == t244) = true then (some (t241 == t243)) else (some false)) = some r := H
                          have A82 := Aside0.mk A820
                          clear A820
                          by_cases c83 : (t242 == t244) = true
                          · rw [if_pos c83] at H
                            have c83b0 : (t242 == t244) = true := c83
                            (try (have c83b1 : decide (t242 = t244) = true := by simpa using c83))
                            (try (have c83b2 : (t242 == t244) = true := by simpa using c83))
                            clear c83
                            obtain rfl := Option.some.inj H
                            go_wp2_with (first | ((with_reducible refine gate_callee (f := 31) rfl ?_); refine goesL_ (some 183) rfl rfl Try.func31 (by kernel_rfl) rfl #[.slice A1 l1.length c1] rfl (by (try simp only [List.map_toArray, List.map_cons, List.map_nil]); first | done | rfl | (simp only [List.length_drop, List.length_take]; rfl)) ?_; (with_reducible refine (spec_DrawRollOn.calls _ _ l1 t238 t239 t240 _ ?side1 ?side2 A80.out).mono ?_); (case side1 => repeat (first | exact (Kd.C_below HR1.out HB.out) | (with_reducible refine Kd.C_alloc ?_ _) | (with_reducible refine Kd.C_drewN ?_ _) | (with_reducible refine Kd.C_drew ?_))); (case side2 => exact HC1.out); rintro e w84 ⟨rfl, hb⟩; refine ⟨_, rfl, ?_⟩; have n0_ := Aside0.mk (Kd.R_below (by (with_reducible repeat (first | apply Kd.R_alloc | apply Kd.R_drewN | apply Kd.R_drew)); exact HO_6.out) hb); have n1_ := Aside0.mk (Kd.R_below (by (with_reducible repeat (first | apply Kd.R_alloc | apply Kd.R_drewN | apply Kd.R_drew)); exact HO_117.out) hb); have n2_ := Aside0.mk (below_step (by repeat (first | (with_reducible first | exact HB.out | apply below_alloc | apply pw_below_drewN | apply below_drew1) | exact HB.out)) hb); clear HO_6; clear HO_117; clear HB; have HO_6 := n0_; have HO_117 := n1_; have HB := n2_; clear n0_ n1_ n2_; (try clear hb); (try clear hb2); (try clear hk); (try clear hi)) | ((with_reducible refine gate_callee (f := 18) rfl ?_); refine goesL_ (some 191) rfl rfl Try.func18 (by kernel_rfl) rfl #[.int .i64 t238, .int .u8 t239, .int .u8 t240] rfl (by (try simp only [List.map_toArray, List.map_cons, List.map_nil]); first | done | rfl | (simp only [List.length_drop, List.length_take]; rfl)) ?_; (with_reducible refine (impl_RollOn.calls t238 t239 t240 t241 t242 _ A81.out).mono ?_); rintro e w' ⟨rfl, ⟨nd, rfl⟩⟩; refine ⟨_, rfl, ?_⟩) | ((with_reducible refine gate_callee (f := 32) rfl ?_); refine goesL_ (some 198) rfl rfl Try.func32 (by kernel_rfl) rfl #[.int .i64 t238, .int .u8 t239, .int .u8 t240] rfl (by (try simp only [List.map_toArray, List.map_cons, List.map_nil]); first | done | rfl | (simp only [List.length_drop, List.length_take]; rfl)) ?_; (with_reducible refine (spec_RollOn.calls t238 t239 t240 t243 t244 _ A82.out).mono ?_); rintro e w' ⟨rfl, ⟨nd, rfl⟩⟩; refine ⟨_, rfl, ?_⟩))
                            go_ret
                            exact ⟨by first | rfl | (simp [errW_none, errW_some] <;> rfl) | (simp [*, errW_none, errW_some] <;> rfl) | (simp [Go.Proofs.Ytdlaegianaofjaa.E.isEmpty_bne]; done) | (rw [Go.Proofs.Ytdlaegianaofjaa.E.bne_empty]), by repeat (first | (with_reducible first | exact HB.out | apply below_alloc | apply pw_below_drewN | apply below_drew1) | exact HB.out)⟩
                          · rw [if_neg c83] at H
                            have c83b0 : (t242 == t244) = false := by simpa using c83
                            (try (have c83b1 : decide (t242 = t244) = false := by simpa using c83))
                            (try (have c83b2 : (t242 == t244) = false := by simpa using c83))
                            (try (have c83b3 : ¬ (t242 = t244) := by simpa using c83))
                            clear c83
                            obtain rfl := Option.some.inj H
                            go_wp2_with (first | ((with_reducible refine gate_callee (f := 31) rfl ?_); refine goesL_ (some 183) rfl rfl Try.func31 (by kernel_rfl) rfl #[.slice A1 l1.length c1] rfl (by (try simp only [List.map_toArray, List.map_cons, List.map_nil]); first | done | rfl | (simp only [List.length_drop, List.length_take]; rfl)) ?_; (with_reducible refine (spec_DrawRollOn.calls _ _ l1 t238 t239 t240 _ ?side1 ?side2 A80.out).mono ?_); (case side1 => repeat (first | exact (Kd.C_below HR1.out HB.out) | (with_reducible refine Kd.C_alloc ?_ _) | (with_reducible refine Kd.C_drewN ?_ _) | (with_reducible refine Kd.C_drew ?_))); (case side2 => exact HC1.out); rintro e w85 ⟨rfl, hb⟩; refine ⟨_, rfl, ?_⟩; have n0_ := Aside0.mk (Kd.R_below (by (with_reducible repeat (first | apply Kd.R_alloc | apply Kd.R_drewN | apply Kd.R_drew)); exact HO_6.out) hb); have n1_ := Aside0.mk (Kd.R_below (by (with_reducible repeat (first | apply Kd.R_alloc | apply Kd.R_drewN | apply Kd.R_drew)); exact HO_117.out) hb); have n2_ := Aside0.mk (below_step (by repeat (first | (with_reducible first | exact HB.out | apply below_alloc | apply pw_below_drewN | apply below_drew1) | exact HB.out)) hb); clear HO_6; clear HO_117; clear HB; have HO_6 := n0_; have HO_117 := n1_; have HB := n2_; clear n0_ n1_ n2_; (try clear hb); (try clear hb2); (try clear hk); (try clear hi)) | ((with_reducible refine gate_callee (f := 18) rfl ?_); refine goesL_ (some 191) rfl rfl Try.func18 (by kernel_rfl) rfl #[.int .i64 t238, .int .u8 t239, .int .u8 t240] rfl (by (try simp only [List.map_toArray, List.map_cons, List.map_nil]); first | done | rfl | (simp only [List.length_drop, List.length_take]; rfl)) ?_; (with_reducible refine (impl_RollOn.calls t238 t239 t240 t241 t242 _ A81.out).mono ?_); rintro e w' ⟨rfl, ⟨nd, rfl⟩⟩; refine ⟨_, rfl, ?_⟩) | ((with_reducible refine gate_callee (f := 32) rfl ?_); refine goesL_ (some 198) rfl rfl Try.func32 (by kernel_rfl) rfl #[.int .i64 t238, .int .u8 t239, .int .u8 t240] rfl (by (try simp only [List.map_toArray, List.map_cons, List.map_nil]); first | done | rfl | (simp only [List.length_drop, List.length_take]; rfl)) ?_; (with_reducible refine (spec_RollOn.calls t238 t239 t240 t243 t244 _ A82.out).mono ?_); rintro e w' ⟨rfl, ⟨nd, rfl⟩⟩; refine ⟨_, rfl, ?_⟩))
                            go_ret
                            exact ⟨by first | rfl | (simp [errW_none, errW_some] <;> rfl) | (simp [*, errW_none, errW_some] <;> rfl) | (simp [Go.Proofs.Ytdlaegianaofjaa.E.isEmpty_bne]; done) | (rw [Go.Proofs.Ytdlaegianaofjaa.E.bne_empty]), by repeat (first | (with_reducible first | exact HB.out | apply below_alloc | apply pw_below_drewN | apply below_drew1) | exact HB.out)⟩
                  · rw [if_neg c42] at H
                    have c42b0 : (x12_2.toList == t221.toList) = false := beq_eq_false_iff_ne.mpr c42
                    have c42b1 : (x12_2.toList != t221.toList) = true := bne_iff_ne.mpr c42
                    obtain rfl := Option.some.inj H
                    go_wp2
                    go_ret
                    exact ⟨by first | rfl | (simp [errW_none, errW_some] <;> rfl) | (simp [*, errW_none, errW_some] <;> rfl) | (simp [Go.Proofs.Ytdlaegianaofjaa.E.isEmpty_bne]; done) | (rw [Go.Proofs.Ytdlaegianaofjaa.E.bne_empty]), by repeat (first | (with_reducible first | exact HB.out | apply below_alloc | apply pw_below_drewN | apply below_drew1) | exact HB.out)⟩
          · replace c25 := Bool.eq_false_iff.mpr c25
            subst c25
            have H1 : ((spec_DrawRollOn.f l1).bind fun bt262 => ((impl_RollOn.f bt262.1 bt262.2.1 bt262.2.2).bind fun bt265 => ((spec_RollOn.f bt262.1 bt262.2.1 bt262.2.2).bind fun bt267 => (if (bt265.2 == bt267.2) = true then (some (bt265.1 == bt267.1)) else (some false))))) = some r := by rw [if_neg (show ¬ (false = true) by decide)] at H; exact H
            clear H
            have H := H1
            clear H1
            replace H := Option.bind_eq_some_iff.mp H
            obtain ⟨⟨t262, t263, t264⟩, A860, H⟩ := H
            replace H : ((impl_RollOn.f t262 t263 t264).bind fun bt265 => ((spec_RollOn.f t262 t263 t264).bind fun bt267 => (if (bt265.2 == bt267.2) = true then (some (bt265.1 == bt267.1)) else (some false)))) = some r := H
            have A86 := Aside0.mk A860
            clear A860
            replace H := Option.bind_eq_some_iff.mp H
            obtain ⟨⟨t265, t266⟩, A870, H⟩ := H
            replace H : ((spec_RollOn.f t262 t263 t264).bind fun bt267 => (if (t266 == bt267.2) = true then (some (t265 == bt267.1)) else (some false))) = some r := H
            have A87 := Aside0.mk A870
            clear A870
            replace H := Option.bind_eq_some_iff.mp H
            obtain ⟨⟨t267, t268⟩, A880, H⟩ := H
            replace H : (if (t266 == t268) = true then (some (t265 == t267)) else (some false)) = some r := H
            have A88 := Aside0.mk A880
            clear A880
            by_cases c89 : (t266 == t268) = true
            · rw [if_pos c89] at H
              have c89b0 : (t266 == t268) = true := c89
              (try (have c89b1 : decide (t266 = t268) = true := by simpa using c89))
              (try (have c89b2 : (t266 == t268) = true := by simpa using c89))
              clear c89
              obtain rfl := Option.some.inj H
              go_wp2_with (first | ((with_reducible refine gate_callee (f := 31) rfl ?_); refine goesL_ (some 183) rfl rfl Try.func31 (by kernel_rfl) rfl #[.slice A1 l1.length c1] rfl (by (try simp only [List.map_toArray, List.map_cons, List.map_nil]); first | done | rfl | (simp only [List.length_drop, List.length_take]; rfl)) ?_; (with_reducible refine (spec_DrawRollOn.calls _ _ l1 t262 t263 t264 _ ?side1 ?side2 A86.out).mono ?_); (case side1 => repeat (first | exact (Kd.C_below HR1.out HB.out) | (with_reducible refine Kd.C_alloc ?_ _) | (with_reducible refine Kd.C_drewN ?_ _) | (with_reducible refine Kd.C_drew ?_))); (case side2 => exact HC1.out); rintro e w90 ⟨rfl, hb⟩; refine ⟨_, rfl, ?_⟩; have n0_ := Aside0.mk (Kd.R_below (by (with_reducible repeat (first | apply Kd.R_alloc | apply Kd.R_drewN | apply Kd.R_drew)); exact HO_6.out) hb); have n1_ := Aside0.mk (Kd.R_below (by (with_reducible repeat (first | apply Kd.R_alloc | apply Kd.R_drewN | apply Kd.R_drew)); exact HO_10.out) hb); have n2_ := Aside0.mk (below_step (by repeat (first | (with_reducible first | exact HB.out | apply below_alloc | apply pw_below_drewN | apply below_drew1) | exact HB.out)) hb); clear HO_6; clear HO_10; clear HB; have HO_6 := n0_; have HO_10 := n1_; have HB := n2_; clear n0_ n1_ n2_; (try clear hb); (try clear hb2); (try clear hk); (try clear hi)) | ((with_reducible refine gate_callee (f := 18) rfl ?_); refine goesL_ (some 191) rfl rfl Try.func18 (by kernel_rfl) rfl #[.int .i64 t262, .int .u8 t263, .int .u8 t264] rfl (by (try simp only [List.map_toArray, List.map_cons, List.map_nil]); first | done | rfl | (simp only [List.length_drop, List.length_take]; rfl)) ?_; (with_reducible refine (impl_RollOn.calls t262 t263 t264 t265 t266 _ A87.out).mono ?_); rintro e w' ⟨rfl, ⟨nd, rfl⟩⟩; refine ⟨_, rfl, ?_⟩) | ((with_reducible refine gate_callee (f := 32) rfl ?_); refine goesL_ (some 198) rfl rfl Try.func32 (by kernel_rfl) rfl #[.int .i64 t262, .int .u8 t263, .int .u8 t264] rfl (by (try simp only [List.map_toArray, List.map_cons, List.map_nil]); first | done | rfl | (simp only [List.length_drop, List.length_take]; rfl)) ?_; (with_reducible refine (spec_RollOn.calls t262 t263 t264 t267 t268 _ A88.out).mono ?_); rintro e w' ⟨rfl, ⟨nd, rfl⟩⟩; refine ⟨_, rfl, ?_⟩))
              go_ret
              exact ⟨by first | rfl | (simp [errW_none, errW_some] <;> rfl) | (simp [*, errW_none, errW_some] <;> rfl) | (simp [Go.Proofs.Ytdlaegianaofjaa.E.isEmpty_bne]; done) | (rw [Go.Proofs.Ytdlaegianaofjaa.E.bne_empty]), by repeat (first | (with_reducible first | exact HB.out | apply below_alloc | apply pw_below_drewN | apply below_drew1) | exact HB.out)⟩
            · rw [if_neg c89] at H
              have c89b0 : (t266 == t268) = false := by simpa using c89
              (try (have c89b1 : decide (t266 = t268) = false := by simpa using c89))
              (try (have c89b2 : (t266 == t268) = false := by simpa using c89))
              (try (have c89b3 : ¬ (t266 = t268) := by simpa using c89))
              clear c89
              obtain rfl := Option.some.inj H
              go_wp2_with (first | ((with_reducible refine gate_callee (f := 31) rfl ?_); refine goesL_ (some 183) rfl rfl Try.func31 (by kernel_rfl) rfl #[.slice A1 l1.length c1] rfl (by (try simp only [List.map_toArray, List.map_cons, List.map_nil]); first | done | rfl | (simp only [List.length_drop, List.length_take]; rfl)) ?_; (with_reducible refine (spec_DrawRollOn.calls _ _ l1 t262 t263 t264 _ ?side1 ?side2 A86.out).mono ?_); (case side1 => repeat (first | exact (Kd.C_below HR1.out HB.out) | (with_reducible refine Kd.C_alloc ?_ _) | (with_reducible refine Kd.C_drewN ?_ _) | (with_reducible refine Kd.C_drew ?_))); (case side2 => exact HC1.out); rintro e w91 ⟨rfl, hb⟩; refine ⟨_, rfl, ?_⟩; have n0_ := Aside0.mk (Kd.R_below (by (with_reducible repeat (first | apply Kd.R_alloc | apply Kd.R_drewN | apply Kd.R_drew)); exact HO_6.out) hb); have n1_ := Aside0.mk (Kd.R_below (by (with_reducible repeat (first | apply Kd.R_alloc | apply Kd.R_drewN | apply Kd.R_drew)); exact HO_10.out) hb); have n2_ := Aside0.mk (below_step (by repeat (first | (with_reducible first | exact HB.out | apply below_alloc | apply pw_below_drewN | apply below_drew1) | exact HB.out)) hb); clear HO_6; clear HO_10; clear HB; have HO_6 := n0_; have HO_10 := n1_; have HB := n2_; clear n0_ n1_ n2_; (try clear hb); (try clear hb2); (try clear hk); (try clear hi)) | ((with_reducible refine gate_callee (f := 18) rfl ?_); refine goesL_ (some 191) rfl rfl Try.func18 (by kernel_rfl) rfl #[.int .i64 t262, .int .u8 t263, .int .u8 t264] rfl (by (try simp only [List.map_toArray, List.map_cons, List.map_nil]); first | done | rfl | (simp only [List.length_drop, List.length_take]; rfl)) ?_; (with_reducible refine (impl_RollOn.calls t262 t263 t264 t265 t266 _ A87.out).mono ?_); rintro e w' ⟨rfl, ⟨nd, rfl⟩⟩; refine ⟨_, rfl, ?_⟩) | ((with_reducible refine gate_callee (f := 32) rfl ?_); refine goesL_ (some 198) rfl rfl Try.func32 (by kernel_rfl) rfl #[.int .i64 t262, .int .u8 t263, .int .u8 t264] rfl (by (try simp only [List.map_toArray, List.map_cons, List.map_nil]); first | done | rfl | (simp only [List.length_drop, List.length_take]; rfl)) ?_; (with_reducible refine (spec_RollOn.calls t262 t263 t264 t267 t268 _ A88.out).mono ?_); rintro e w' ⟨rfl, ⟨nd, rfl⟩⟩; refine ⟨_, rfl, ?_⟩))
              go_ret
              exact ⟨by first | rfl | (simp [errW_none, errW_some] <;> rfl) | (simp [*, errW_none, errW_some] <;> rfl) | (simp [Go.Proofs.Ytdlaegianaofjaa.E.isEmpty_bne]; done) | (rw [Go.Proofs.Ytdlaegianaofjaa.E.bne_empty]), by repeat (first | (with_reducible first | exact HB.out | apply below_alloc | apply pw_below_drewN | apply below_drew1) | exact HB.out)⟩

/-- THE ONE PURE STATEMENT of laws_FnCuts: yours. -/
def laws_FnCuts.Pure : Prop := ∀ (l0 : List Int) (l1 : List Int), l0.length ≤ maxLen → l0.length * 1 ≤ 140737488351232 → (∀ x ∈ l0, (Lit.int .u8 x).wf = true) → l1.length ≤ maxLen → l1.length * 1 ≤ 140737488351232 → (∀ x ∈ l1, (Lit.int .u8 x).wf = true) → ∃ k, laws_FnCuts.f k l0 l1 = some true
theorem laws_FnCuts.walk (P : laws_FnCuts.Pure) (a0 : Option Addr) (len0 cap0 : Nat) (z0 : List Int) (a1 : Option Addr) (len1 cap1 : Nat) (z1 : List Int) (w : World) (w0 : (a0 = none ∧ len0 = 0 ∧ cap0 = 0 ∧ z0 = []) ∨ ∃ x, a0 = some x ∧ len0 ≤ cap0 ∧ cap0 ≤ maxLen ∧ z0.length = cap0 ∧ (∀ i, i < z0.length → w.cell? (x.add i) = some (.int .u8 (z0.getD i 0))) ∧ ∀ n ∈ z0, (Lit.int .u8 n).wf = true) (y0 : len0 * 1 ≤ 140737488351232) (w1 : (a1 = none ∧ len1 = 0 ∧ cap1 = 0 ∧ z1 = []) ∨ ∃ x, a1 = some x ∧ len1 ≤ cap1 ∧ cap1 ≤ maxLen ∧ z1.length = cap1 ∧ (∀ i, i < z1.length → w.cell? (x.add i) = some (.int .u8 (z1.getD i 0))) ∧ ∀ n ∈ z1, (Lit.int .u8 n).wf = true) (y1 : len1 * 1 ≤ 140737488351232) :
    Calls Try.prog 6 #[.slice a0 len0 cap0, .slice a1 len1 cap1] w fun e w' => e = .returned (.bool true) ∧ Below w.heap.size w w' := by
  obtain ⟨l0, rfl, hr0, hm0, hw0, hc0⟩ := ReadsInt.ofRowC w0
  obtain ⟨l1, rfl, hr1, hm1, hw1, hc1⟩ := ReadsInt.ofRowC w1
  obtain ⟨k, h⟩ := P l0 l1 hm0 y0 hw0 hm1 y1 hw1
  refine (laws_FnCuts.calls k _ _ l0 _ _ l1 true w (Kd.C_of_reads (d := (0 : Int)) (h1 := fun _ => rfl) hr0) hc0 (Kd.C_of_reads (d := (0 : Int)) (h1 := fun _ => rfl) hr1) hc1 h).mono ?_
  rintro e w' ⟨rfl, hd⟩
  exact ⟨rfl, hd⟩

end Go.Proofs.Ytdlaegianaofjaa.PFnCuts
