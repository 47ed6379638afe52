-- of this session: its walks are told by a program (wip/ext.py) out of the translation
import Derived.Test.YtgglcpcfmhpcmaaYFnLongestx0
import Derived.Test.YtgglcpcfmhpcmaaXFnLongestDraw
import Derived.Test.YtgglcpcfmhpcmaaYFnLongestx1
namespace Go.Proofs.Ytgglcpcfmhpcmaa.PFnLongest
open Go.RowKit Go.Proofs.YtgglcpcfmhpcmaaW.PrintWords Go.Proofs.YtgglcpcfmhpcmaaW.PrintLast Go.Proofs.YtgglcpcfmhpcmaaW.PrintMore
attribute [local go_sem] max2_int min2_int max_two min_two max_three min_three max_four min_four   -- for this text's walks alone
set_option linter.unusedVariables false
set_option linter.unusedSimpArgs false

/-! ### laws_FnLongest: function 7 -/
mutual
def laws_FnLongest.j0 : Nat → ByteArray → Int → Int → Int → Bool → Bool → Option (Bool)
  | 0, _, _, _, _, _, _ => none
  | k + 1, x3, x4, x5, x6, x7, x48 => if x48 = true then (some false) else (if x7 = true then (laws_FnLongest.j1 k x3 x4 x5 x6 (decide ((x3.size : Int) > 300))) else (laws_FnLongest.j1 k x3 x4 x5 x6 true))
def laws_FnLongest.j1 : Nat → ByteArray → Int → Int → Int → Bool → Option (Bool)
  | 0, _, _, _, _, _ => none
  | k + 1, x3, x4, x5, x6, x55 => if x55 = true then (some true) else (if x5 > 0 then (if x5 > x4 then (laws_FnLongest.j2 k x3 x4 x5 x6 true) else (if x6 < 3 then (laws_FnLongest.j2 k x3 x4 x5 x6 true) else (if x6 > 66 then (laws_FnLongest.j2 k x3 x4 x5 x6 true) else (laws_FnLongest.j2 k x3 x4 x5 x6 (decide ((wrap64 (x4 + x6)) > (x3.size : Int))))))) else (laws_FnLongest.j2 k x3 x4 x5 x6 false))
def laws_FnLongest.j2 : Nat → ByteArray → Int → Int → Int → Bool → Option (Bool)
  | 0, _, _, _, _, _ => none
  | k + 1, x3, x4, x5, x6, x78 => if x78 = true then (some false) else (laws_FnLongest.l0 k x3 x4 x5 x6 0)
def laws_FnLongest.l0 : Nat → ByteArray → Int → Int → Int → Int → Option (Bool)
  | 0, _, _, _, _, _ => none
  | k + 1, x3, x4, x5, x6, x11 => if x11 < x6 then (if 0 ≤ (wrap64 (x4 + x11)) then (if (wrap64 (x4 + x11)) < (x3.size : Int) then (if 0 ≤ (wrap64 ((wrap64 (x4 + x11)) - x5)) then (if (wrap64 ((wrap64 (x4 + x11)) - x5)) < (x3.size : Int) then (if (bt x3 (wrap64 (x4 + x11))) = (bt x3 (wrap64 ((wrap64 (x4 + x11)) - x5))) then (laws_FnLongest.l0 k x3 x4 x5 x6 (wrap64 (x11 + 1))) else (some false)) else (none)) else (none)) else (none)) else (none)) else (laws_FnLongest.l1 k x3 x4 x5 x6 1)
def laws_FnLongest.l1 : Nat → ByteArray → Int → Int → Int → Int → Option (Bool)
  | 0, _, _, _, _, _ => none
  | k + 1, x3, x4, x5, x6, x12 => if x12 ≤ x4 then (laws_FnLongest.j5 k x3 x4 x5 x6 x12 (decide (x12 ≤ 255))) else (laws_FnLongest.j5 k x3 x4 x5 x6 x12 false)
def laws_FnLongest.j5 : Nat → ByteArray → Int → Int → Int → Int → Bool → Option (Bool)
  | 0, _, _, _, _, _, _ => none
  | k + 1, x3, x4, x5, x6, x12, x103 => if x103 = true then (laws_FnLongest.l2 k x3 x4 x5 x6 x12 0) else (some true)
def laws_FnLongest.l2 : Nat → ByteArray → Int → Int → Int → Int → Int → Option (Bool)
  | 0, _, _, _, _, _, _ => none
  | k + 1, x3, x4, x5, x6, x12, x13 => if x13 < 66 then (if (wrap64 (x4 + x13)) < (x3.size : Int) then (if 0 ≤ (wrap64 (x4 + x13)) then (if 0 ≤ (wrap64 ((wrap64 (x4 + x13)) - x12)) then (if (wrap64 ((wrap64 (x4 + x13)) - x12)) < (x3.size : Int) then (if (bt x3 (wrap64 (x4 + x13))) = (bt x3 (wrap64 ((wrap64 (x4 + x13)) - x12))) then (laws_FnLongest.l2 k x3 x4 x5 x6 x12 (wrap64 (x13 + 1))) else (if x13 > x6 then (if x13 ≥ 3 then (some false) else (if x13 = x6 then (if x6 > 0 then (if x12 < x5 then (some false) else (laws_FnLongest.l1 k x3 x4 x5 x6 (wrap64 (x12 + 1)))) else (laws_FnLongest.l1 k x3 x4 x5 x6 (wrap64 (x12 + 1)))) else (laws_FnLongest.l1 k x3 x4 x5 x6 (wrap64 (x12 + 1))))) else (if x13 = x6 then (if x6 > 0 then (if x12 < x5 then (some false) else (laws_FnLongest.l1 k x3 x4 x5 x6 (wrap64 (x12 + 1)))) else (laws_FnLongest.l1 k x3 x4 x5 x6 (wrap64 (x12 + 1)))) else (laws_FnLongest.l1 k x3 x4 x5 x6 (wrap64 (x12 + 1)))))) else (none)) else (none)) else (none)) else (if x13 > x6 then (if x13 ≥ 3 then (some false) else (if x13 = x6 then (if x6 > 0 then (if x12 < x5 then (some false) else (laws_FnLongest.l1 k x3 x4 x5 x6 (wrap64 (x12 + 1)))) else (laws_FnLongest.l1 k x3 x4 x5 x6 (wrap64 (x12 + 1)))) else (laws_FnLongest.l1 k x3 x4 x5 x6 (wrap64 (x12 + 1))))) else (if x13 = x6 then (if x6 > 0 then (if x12 < x5 then (some false) else (laws_FnLongest.l1 k x3 x4 x5 x6 (wrap64 (x12 + 1)))) else (laws_FnLongest.l1 k x3 x4 x5 x6 (wrap64 (x12 + 1)))) else (laws_FnLongest.l1 k x3 x4 x5 x6 (wrap64 (x12 + 1)))))) else (if x13 > x6 then (if x13 ≥ 3 then (some false) else (if x13 = x6 then (if x6 > 0 then (if x12 < x5 then (some false) else (laws_FnLongest.l1 k x3 x4 x5 x6 (wrap64 (x12 + 1)))) else (laws_FnLongest.l1 k x3 x4 x5 x6 (wrap64 (x12 + 1)))) else (laws_FnLongest.l1 k x3 x4 x5 x6 (wrap64 (x12 + 1))))) else (if x13 = x6 then (if x6 > 0 then (if x12 < x5 then (some false) else (laws_FnLongest.l1 k x3 x4 x5 x6 (wrap64 (x12 + 1)))) else (laws_FnLongest.l1 k x3 x4 x5 x6 (wrap64 (x12 + 1)))) else (laws_FnLongest.l1 k x3 x4 x5 x6 (wrap64 (x12 + 1)))))
end
def laws_FnLongest.f (k : Nat) (l0 : List Int) : Option (Bool) := if (l0.length : Int) > 1048576 then (some true) else ((spec_DrawLongestAt.f k l0).bind fun bt157 => ((impl_LongestAt.f k bt157.1 bt157.2).bind fun bt159 => ((spec_LongestAt.f k bt157.1 bt157.2).bind fun bt162 => (if (bt159.2.2 != bt162.2.2) = true then (laws_FnLongest.j0 k bt157.1 bt157.2 bt159.1 bt159.2.1 bt159.2.2 true) else (if bt159.1 = bt162.1 then (laws_FnLongest.j0 k bt157.1 bt157.2 bt159.1 bt159.2.1 bt159.2.2 (bt159.2.1 != bt162.2.1)) else (laws_FnLongest.j0 k bt157.1 bt157.2 bt159.1 bt159.2.1 bt159.2.2 true))))))
theorem laws_FnLongest.mono_l : ∀ k, (∀ y0 y1 y2 y3 y4 y5, LeO (laws_FnLongest.j0 k y0 y1 y2 y3 y4 y5) (laws_FnLongest.j0 (k + 1) y0 y1 y2 y3 y4 y5)) ∧ (∀ y0 y1 y2 y3 y4, LeO (laws_FnLongest.j1 k y0 y1 y2 y3 y4) (laws_FnLongest.j1 (k + 1) y0 y1 y2 y3 y4)) ∧ (∀ y0 y1 y2 y3 y4, LeO (laws_FnLongest.j2 k y0 y1 y2 y3 y4) (laws_FnLongest.j2 (k + 1) y0 y1 y2 y3 y4)) ∧ (∀ y0 y1 y2 y3 y4, LeO (laws_FnLongest.l0 k y0 y1 y2 y3 y4) (laws_FnLongest.l0 (k + 1) y0 y1 y2 y3 y4)) ∧ (∀ y0 y1 y2 y3 y4, LeO (laws_FnLongest.l1 k y0 y1 y2 y3 y4) (laws_FnLongest.l1 (k + 1) y0 y1 y2 y3 y4)) ∧ (∀ y0 y1 y2 y3 y4 y5, LeO (laws_FnLongest.j5 k y0 y1 y2 y3 y4 y5) (laws_FnLongest.j5 (k + 1) y0 y1 y2 y3 y4 y5)) ∧ (∀ y0 y1 y2 y3 y4 y5, LeO (laws_FnLongest.l2 k y0 y1 y2 y3 y4 y5) (laws_FnLongest.l2 (k + 1) y0 y1 y2 y3 y4 y5))
  | 0 => ⟨fun _ _ _ _ _ _ r h => by simp [laws_FnLongest.j0] at h, fun _ _ _ _ _ r h => by simp [laws_FnLongest.j1] at h, fun _ _ _ _ _ r h => by simp [laws_FnLongest.j2] at h, fun _ _ _ _ _ r h => by simp [laws_FnLongest.l0] at h, fun _ _ _ _ _ r h => by simp [laws_FnLongest.l1] at h, fun _ _ _ _ _ _ r h => by simp [laws_FnLongest.j5] at h, fun _ _ _ _ _ _ r h => by simp [laws_FnLongest.l2] at h⟩
  | k + 1 => by
    obtain ⟨ih0, ih1, ih2, ih3, ih4, ih5, ih6⟩ := laws_FnLongest.mono_l k
    refine ⟨?_, ?_, ?_, ?_, ?_, ?_, ?_⟩
    · intro y0 y1 y2 y3 y4 y5
      unfold laws_FnLongest.j0
      repeat' first
      | (with_reducible exact ih0 _ _ _ _ _ _)
      | (with_reducible exact ih1 _ _ _ _ _)
      | (with_reducible exact ih2 _ _ _ _ _)
      | (with_reducible exact ih3 _ _ _ _ _)
      | (with_reducible exact ih4 _ _ _ _ _)
      | (with_reducible exact ih5 _ _ _ _ _ _)
      | (with_reducible exact ih6 _ _ _ _ _ _)
      | (with_reducible exact impl_LongestAt.mono _ _ _)
      | (with_reducible exact spec_DrawLongestAt.mono _ _)
      | (with_reducible exact spec_LongestAt.mono _ _ _)
      | (with_reducible exact LeO.refl _)
      | (with_reducible exact LeO.none _)
      | (with_reducible refine LeO.ite ?_ ?_)
      | (with_reducible refine LeO.bind ?_ (fun _ => ?_))
      | exact ih0 _ _ _ _ _ _
      | exact ih1 _ _ _ _ _
      | exact ih2 _ _ _ _ _
      | exact ih3 _ _ _ _ _
      | exact ih4 _ _ _ _ _
      | exact ih5 _ _ _ _ _ _
      | exact ih6 _ _ _ _ _ _
      | exact impl_LongestAt.mono _ _ _
      | exact spec_DrawLongestAt.mono _ _
      | exact spec_LongestAt.mono _ _ _
      | exact LeO.none _
      | refine LeO.ite ?_ ?_
      | refine LeO.bind ?_ (fun _ => ?_)
    · intro y0 y1 y2 y3 y4
      unfold laws_FnLongest.j1
      repeat' first
      | (with_reducible exact ih0 _ _ _ _ _ _)
      | (with_reducible exact ih1 _ _ _ _ _)
      | (with_reducible exact ih2 _ _ _ _ _)
      | (with_reducible exact ih3 _ _ _ _ _)
      | (with_reducible exact ih4 _ _ _ _ _)
      | (with_reducible exact ih5 _ _ _ _ _ _)
      | (with_reducible exact ih6 _ _ _ _ _ _)
      | (with_reducible exact impl_LongestAt.mono _ _ _)
      | (with_reducible exact spec_DrawLongestAt.mono _ _)
      | (with_reducible exact spec_LongestAt.mono _ _ _)
      | (with_reducible exact LeO.refl _)
      | (with_reducible exact LeO.none _)
      | (with_reducible refine LeO.ite ?_ ?_)
      | (with_reducible refine LeO.bind ?_ (fun _ => ?_))
      | exact ih0 _ _ _ _ _ _
      | exact ih1 _ _ _ _ _
      | exact ih2 _ _ _ _ _
      | exact ih3 _ _ _ _ _
      | exact ih4 _ _ _ _ _
      | exact ih5 _ _ _ _ _ _
      | exact ih6 _ _ _ _ _ _
      | exact impl_LongestAt.mono _ _ _
      | exact spec_DrawLongestAt.mono _ _
      | exact spec_LongestAt.mono _ _ _
      | exact LeO.none _
      | refine LeO.ite ?_ ?_
      | refine LeO.bind ?_ (fun _ => ?_)
    · intro y0 y1 y2 y3 y4
      unfold laws_FnLongest.j2
      repeat' first
      | (with_reducible exact ih0 _ _ _ _ _ _)
      | (with_reducible exact ih1 _ _ _ _ _)
      | (with_reducible exact ih2 _ _ _ _ _)
      | (with_reducible exact ih3 _ _ _ _ _)
      | (with_reducible exact ih4 _ _ _ _ _)
      | (with_reducible exact ih5 _ _ _ _ _ _)
      | (with_reducible exact ih6 _ _ _ _ _ _)
      | (with_reducible exact impl_LongestAt.mono _ _ _)
      | (with_reducible exact spec_DrawLongestAt.mono _ _)
      | (with_reducible exact spec_LongestAt.mono _ _ _)
      | (with_reducible exact LeO.refl _)
      | (with_reducible exact LeO.none _)
      | (with_reducible refine LeO.ite ?_ ?_)
      | (with_reducible refine LeO.bind ?_ (fun _ => ?_))
      | exact ih0 _ _ _ _ _ _
      | exact ih1 _ _ _ _ _
      | exact ih2 _ _ _ _ _
      | exact ih3 _ _ _ _ _
      | exact ih4 _ _ _ _ _
      | exact ih5 _ _ _ _ _ _
      | exact ih6 _ _ _ _ _ _
      | exact impl_LongestAt.mono _ _ _
      | exact spec_DrawLongestAt.mono _ _
      | exact spec_LongestAt.mono _ _ _
      | exact LeO.none _
      | refine LeO.ite ?_ ?_
      | refine LeO.bind ?_ (fun _ => ?_)
    · intro y0 y1 y2 y3 y4
      unfold laws_FnLongest.l0
      repeat' first
      | (with_reducible exact ih0 _ _ _ _ _ _)
      | (with_reducible exact ih1 _ _ _ _ _)
      | (with_reducible exact ih2 _ _ _ _ _)
      | (with_reducible exact ih3 _ _ _ _ _)
      | (with_reducible exact ih4 _ _ _ _ _)
      | (with_reducible exact ih5 _ _ _ _ _ _)
      | (with_reducible exact ih6 _ _ _ _ _ _)
      | (with_reducible exact impl_LongestAt.mono _ _ _)
      | (with_reducible exact spec_DrawLongestAt.mono _ _)
      | (with_reducible exact spec_LongestAt.mono _ _ _)
      | (with_reducible exact LeO.refl _)
      | (with_reducible exact LeO.none _)
      | (with_reducible refine LeO.ite ?_ ?_)
      | (with_reducible refine LeO.bind ?_ (fun _ => ?_))
      | exact ih0 _ _ _ _ _ _
      | exact ih1 _ _ _ _ _
      | exact ih2 _ _ _ _ _
      | exact ih3 _ _ _ _ _
      | exact ih4 _ _ _ _ _
      | exact ih5 _ _ _ _ _ _
      | exact ih6 _ _ _ _ _ _
      | exact impl_LongestAt.mono _ _ _
      | exact spec_DrawLongestAt.mono _ _
      | exact spec_LongestAt.mono _ _ _
      | exact LeO.none _
      | refine LeO.ite ?_ ?_
      | refine LeO.bind ?_ (fun _ => ?_)
    · intro y0 y1 y2 y3 y4
      unfold laws_FnLongest.l1
      repeat' first
      | (with_reducible exact ih0 _ _ _ _ _ _)
      | (with_reducible exact ih1 _ _ _ _ _)
      | (with_reducible exact ih2 _ _ _ _ _)
      | (with_reducible exact ih3 _ _ _ _ _)
      | (with_reducible exact ih4 _ _ _ _ _)
      | (with_reducible exact ih5 _ _ _ _ _ _)
      | (with_reducible exact ih6 _ _ _ _ _ _)
      | (with_reducible exact impl_LongestAt.mono _ _ _)
      | (with_reducible exact spec_DrawLongestAt.mono _ _)
      | (with_reducible exact spec_LongestAt.mono _ _ _)
      | (with_reducible exact LeO.refl _)
      | (with_reducible exact LeO.none _)
      | (with_reducible refine LeO.ite ?_ ?_)
      | (with_reducible refine LeO.bind ?_ (fun _ => ?_))
      | exact ih0 _ _ _ _ _ _
      | exact ih1 _ _ _ _ _
      | exact ih2 _ _ _ _ _
      | exact ih3 _ _ _ _ _
      | exact ih4 _ _ _ _ _
      | exact ih5 _ _ _ _ _ _
      | exact ih6 _ _ _ _ _ _
      | exact impl_LongestAt.mono _ _ _
      | exact spec_DrawLongestAt.mono _ _
      | exact spec_LongestAt.mono _ _ _
      | exact LeO.none _
      | refine LeO.ite ?_ ?_
      | refine LeO.bind ?_ (fun _ => ?_)
    · intro y0 y1 y2 y3 y4 y5
      unfold laws_FnLongest.j5
      repeat' first
      | (with_reducible exact ih0 _ _ _ _ _ _)
      | (with_reducible exact ih1 _ _ _ _ _)
      | (with_reducible exact ih2 _ _ _ _ _)
      | (with_reducible exact ih3 _ _ _ _ _)
      | (with_reducible exact ih4 _ _ _ _ _)
      | (with_reducible exact ih5 _ _ _ _ _ _)
      | (with_reducible exact ih6 _ _ _ _ _ _)
      | (with_reducible exact impl_LongestAt.mono _ _ _)
      | (with_reducible exact spec_DrawLongestAt.mono _ _)
      | (with_reducible exact spec_LongestAt.mono _ _ _)
      | (with_reducible exact LeO.refl _)
      | (with_reducible exact LeO.none _)
      | (with_reducible refine LeO.ite ?_ ?_)
      | (with_reducible refine LeO.bind ?_ (fun _ => ?_))
      | exact ih0 _ _ _ _ _ _
      | exact ih1 _ _ _ _ _
      | exact ih2 _ _ _ _ _
      | exact ih3 _ _ _ _ _
      | exact ih4 _ _ _ _ _
      | exact ih5 _ _ _ _ _ _
      | exact ih6 _ _ _ _ _ _
      | exact impl_LongestAt.mono _ _ _
      | exact spec_DrawLongestAt.mono _ _
      | exact spec_LongestAt.mono _ _ _
      | exact LeO.none _
      | refine LeO.ite ?_ ?_
      | refine LeO.bind ?_ (fun _ => ?_)
    · intro y0 y1 y2 y3 y4 y5
      unfold laws_FnLongest.l2
      repeat' first
      | (with_reducible exact ih0 _ _ _ _ _ _)
      | (with_reducible exact ih1 _ _ _ _ _)
      | (with_reducible exact ih2 _ _ _ _ _)
      | (with_reducible exact ih3 _ _ _ _ _)
      | (with_reducible exact ih4 _ _ _ _ _)
      | (with_reducible exact ih5 _ _ _ _ _ _)
      | (with_reducible exact ih6 _ _ _ _ _ _)
      | (with_reducible exact impl_LongestAt.mono _ _ _)
      | (with_reducible exact spec_DrawLongestAt.mono _ _)
      | (with_reducible exact spec_LongestAt.mono _ _ _)
      | (with_reducible exact LeO.refl _)
      | (with_reducible exact LeO.none _)
      | (with_reducible refine LeO.ite ?_ ?_)
      | (with_reducible refine LeO.bind ?_ (fun _ => ?_))
      | exact ih0 _ _ _ _ _ _
      | exact ih1 _ _ _ _ _
      | exact ih2 _ _ _ _ _
      | exact ih3 _ _ _ _ _
      | exact ih4 _ _ _ _ _
      | exact ih5 _ _ _ _ _ _
      | exact ih6 _ _ _ _ _ _
      | exact impl_LongestAt.mono _ _ _
      | exact spec_DrawLongestAt.mono _ _
      | exact spec_LongestAt.mono _ _ _
      | exact LeO.none _
      | refine LeO.ite ?_ ?_
      | refine LeO.bind ?_ (fun _ => ?_)
theorem laws_FnLongest.mono : ∀ a0 k, LeO (laws_FnLongest.f k a0) (laws_FnLongest.f (k + 1) a0) := by
  intro a0 k
  obtain ⟨ih0, ih1, ih2, ih3, ih4, ih5, ih6⟩ := laws_FnLongest.mono_l k
  unfold laws_FnLongest.f
  repeat' first
      | (with_reducible exact ih0 _ _ _ _ _ _)
      | (with_reducible exact ih1 _ _ _ _ _)
      | (with_reducible exact ih2 _ _ _ _ _)
      | (with_reducible exact ih3 _ _ _ _ _)
      | (with_reducible exact ih4 _ _ _ _ _)
      | (with_reducible exact ih5 _ _ _ _ _ _)
      | (with_reducible exact ih6 _ _ _ _ _ _)
      | (with_reducible exact impl_LongestAt.mono _ _ _)
      | (with_reducible exact spec_DrawLongestAt.mono _ _)
      | (with_reducible exact spec_LongestAt.mono _ _ _)
      | (with_reducible exact LeO.refl _)
      | (with_reducible exact LeO.none _)
      | (with_reducible refine LeO.ite ?_ ?_)
      | (with_reducible refine LeO.bind ?_ (fun _ => ?_))
      | exact ih0 _ _ _ _ _ _
      | exact ih1 _ _ _ _ _
      | exact ih2 _ _ _ _ _
      | exact ih3 _ _ _ _ _
      | exact ih4 _ _ _ _ _
      | exact ih5 _ _ _ _ _ _
      | exact ih6 _ _ _ _ _ _
      | exact impl_LongestAt.mono _ _ _
      | exact spec_DrawLongestAt.mono _ _
      | exact spec_LongestAt.mono _ _ _
      | exact LeO.none _
      | refine LeO.ite ?_ ?_
      | refine LeO.bind ?_ (fun _ => ?_)
set_option maxHeartbeats 8000000 in
set_option maxRecDepth 100000 in
theorem laws_FnLongest.calls (k : Nat) (A0 : Option Addr) (c0 : Nat) (l0 : List Int) (r : Bool) (w : World) (hr0 : Kd.C (Kd.int .u8) w A0 l0.length l0) (hc0 : l0.length ≤ c0) (h : laws_FnLongest.f k l0 = some r) :
    Calls Try.prog 7 #[.slice A0 l0.length c0] w fun e w' => e = .returned (.bool r) ∧ Below w.heap.size w w' := by
  have HR0 := Aside0.mk hr0
  have HC0 := Aside0.mk hc0
  clear hr0 hc0
  have HB := Aside0.mk (Below.refl w.heap.size w)
  have H : (if (l0.length : Int) > 1048576 then (some true) else ((spec_DrawLongestAt.f k l0).bind fun bt157 => ((impl_LongestAt.f k bt157.1 bt157.2).bind fun bt159 => ((spec_LongestAt.f k bt157.1 bt157.2).bind fun bt162 => (if (bt159.2.2 != bt162.2.2) = true then (laws_FnLongest.j0 k bt157.1 bt157.2 bt159.1 bt159.2.1 bt159.2.2 true) else (if bt159.1 = bt162.1 then (laws_FnLongest.j0 k bt157.1 bt157.2 bt159.1 bt159.2.1 bt159.2.2 (bt159.2.1 != bt162.2.1)) else (laws_FnLongest.j0 k bt157.1 bt157.2 bt159.1 bt159.2.1 bt159.2.2 true))))))) = some r := h
  clear h
  by_cases c2 : (l0.length : Int) > 1048576
  · rw [if_pos c2] at H
    have c2b0 : decide (1048576 < (l0.length : Int)) = true := decide_eq_true c2
    have c2b1 : decide (1048576 < l0.length) = true := decide_eq_true (by omega)
    clear c2
    obtain rfl := Option.some.inj H
    go_enter Try.func7, Try.ntmps7
    go_wp2
    repeat (go_quiet (fail); try go_wp2)
    go_ret
    exact ⟨by first | rfl | (simp [errW_none, errW_some] <;> rfl) | (simp [*, errW_none, errW_some] <;> rfl) | (simp [Go.Proofs.Ytgglcpcfmhpcmaa.E.isEmpty_bne]; done) | (rw [Go.Proofs.Ytgglcpcfmhpcmaa.E.bne_empty]), by repeat (first | (with_reducible first | exact HB.out | apply below_alloc | apply pw_below_drewN | apply below_drew1) | exact HB.out)⟩
  · rw [if_neg c2] at H
    have c2b0 : decide (1048576 < (l0.length : Int)) = false := decide_eq_false c2
    have c2b1 : decide (1048576 < l0.length) = false := decide_eq_false (by omega)
    clear c2
    replace H := Option.bind_eq_some_iff.mp H
    obtain ⟨⟨t157, t158⟩, A30, H⟩ := H
    replace H : ((impl_LongestAt.f k t157 t158).bind fun bt159 => ((spec_LongestAt.f k t157 t158).bind fun bt162 => (if (bt159.2.2 != bt162.2.2) = true then (laws_FnLongest.j0 k t157 t158 bt159.1 bt159.2.1 bt159.2.2 true) else (if bt159.1 = bt162.1 then (laws_FnLongest.j0 k t157 t158 bt159.1 bt159.2.1 bt159.2.2 (bt159.2.1 != bt162.2.1)) else (laws_FnLongest.j0 k t157 t158 bt159.1 bt159.2.1 bt159.2.2 true))))) = some r := H
    have A3 := Aside0.mk A30
    clear A30
    replace H := Option.bind_eq_some_iff.mp H
    obtain ⟨⟨t159, t160, t161⟩, A40, H⟩ := H
    replace H : ((spec_LongestAt.f k t157 t158).bind fun bt162 => (if (t161 != bt162.2.2) = true then (laws_FnLongest.j0 k t157 t158 t159 t160 t161 true) else (if t159 = bt162.1 then (laws_FnLongest.j0 k t157 t158 t159 t160 t161 (t160 != bt162.2.1)) else (laws_FnLongest.j0 k t157 t158 t159 t160 t161 true)))) = some r := H
    have A4 := Aside0.mk A40
    clear A40
    replace H := Option.bind_eq_some_iff.mp H
    obtain ⟨⟨t162, t163, t164⟩, A50, H⟩ := H
    replace H : (if (t161 != t164) = true then (laws_FnLongest.j0 k t157 t158 t159 t160 t161 true) else (if t159 = t162 then (laws_FnLongest.j0 k t157 t158 t159 t160 t161 (t160 != t163)) else (laws_FnLongest.j0 k t157 t158 t159 t160 t161 true))) = some r := H
    have A5 := Aside0.mk A50
    clear A50
    have HC6 := Aside0.mk H
    clear H
    go_enter Try.func7, Try.ntmps7
    go_upto_region 6 with (first | (go_at_call 26; (with_reducible refine (spec_DrawLongestAt.calls k _ _ l0 t157 t158 _ ?side1 ?side2 A3.out).mono ?_); (case side1 => repeat (first | exact HR0.out | (with_reducible refine Kd.C_alloc ?_ _) | (with_reducible refine Kd.C_drewN ?_ _) | (with_reducible refine Kd.C_drew ?_))); (case side2 => exact HC0.out); rintro e w7 ⟨rfl, hb⟩; have n0_ := Aside0.mk (below_step (by repeat (first | (with_reducible first | exact HB.out | apply below_alloc | apply pw_below_drewN | apply below_drew1) | exact HB.out)) hb); clear HB; have HB := n0_; clear n0_; (try clear hb); (try clear hb2); (try clear hk); (try clear hi)) | (go_at_call 20; (with_reducible refine (impl_LongestAt.calls k t157 t158 t159 t160 t161 _ A4.out).mono ?_); rintro e w8 ⟨rfl, hb⟩; have n0_ := Aside0.mk (below_step (by repeat (first | (with_reducible first | exact HB.out | apply below_alloc | apply pw_below_drewN | apply below_drew1) | exact HB.out)) hb); clear HB; have HB := n0_; clear n0_; (try clear hb); (try clear hb2); (try clear hk); (try clear hi)) | (go_at_call 19; (with_reducible refine (spec_LongestAt.calls k t157 t158 t162 t163 t164 _ A5.out).mono ?_); rintro e w' ⟨rfl, ⟨nd, rfl⟩⟩; (try first | exact ⟨rfl, _, World.drewN_drewN _ _ _⟩ | exact ⟨rfl, _, Eq.trans (World.drewN_drewN _ _ _) (congrArg (World.drewN _) (Nat.add_assoc _ _ _))⟩)))
    repeat (go_quiet (first | (go_at_call 26; (with_reducible refine (spec_DrawLongestAt.calls k _ _ l0 t157 t158 _ ?side1 ?side2 A3.out).mono ?_); (case side1 => repeat (first | exact HR0.out | (with_reducible refine Kd.C_alloc ?_ _) | (with_reducible refine Kd.C_drewN ?_ _) | (with_reducible refine Kd.C_drew ?_))); (case side2 => exact HC0.out); rintro e w7 ⟨rfl, hb⟩; have n0_ := Aside0.mk (below_step (by repeat (first | (with_reducible first | exact HB.out | apply below_alloc | apply pw_below_drewN | apply below_drew1) | exact HB.out)) hb); clear HB; have HB := n0_; clear n0_; (try clear hb); (try clear hb2); (try clear hk); (try clear hi)) | (go_at_call 20; (with_reducible refine (impl_LongestAt.calls k t157 t158 t159 t160 t161 _ A4.out).mono ?_); rintro e w8 ⟨rfl, hb⟩; have n0_ := Aside0.mk (below_step (by repeat (first | (with_reducible first | exact HB.out | apply below_alloc | apply pw_below_drewN | apply below_drew1) | exact HB.out)) hb); clear HB; have HB := n0_; clear n0_; (try clear hb); (try clear hb2); (try clear hk); (try clear hi)) | (go_at_call 19; (with_reducible refine (spec_LongestAt.calls k t157 t158 t162 t163 t164 _ A5.out).mono ?_); rintro e w' ⟨rfl, ⟨nd, rfl⟩⟩; (try first | exact ⟨rfl, _, World.drewN_drewN _ _ _⟩ | exact ⟨rfl, _, Eq.trans (World.drewN_drewN _ _ _) (congrArg (World.drewN _) (Nat.add_assoc _ _ _))⟩))); go_upto_region 6 with (first | (go_at_call 26; (with_reducible refine (spec_DrawLongestAt.calls k _ _ l0 t157 t158 _ ?side1 ?side2 A3.out).mono ?_); (case side1 => repeat (first | exact HR0.out | (with_reducible refine Kd.C_alloc ?_ _) | (with_reducible refine Kd.C_drewN ?_ _) | (with_reducible refine Kd.C_drew ?_))); (case side2 => exact HC0.out); rintro e w7 ⟨rfl, hb⟩; have n0_ := Aside0.mk (below_step (by repeat (first | (with_reducible first | exact HB.out | apply below_alloc | apply pw_below_drewN | apply below_drew1) | exact HB.out)) hb); clear HB; have HB := n0_; clear n0_; (try clear hb); (try clear hb2); (try clear hk); (try clear hi)) | (go_at_call 20; (with_reducible refine (impl_LongestAt.calls k t157 t158 t159 t160 t161 _ A4.out).mono ?_); rintro e w8 ⟨rfl, hb⟩; have n0_ := Aside0.mk (below_step (by repeat (first | (with_reducible first | exact HB.out | apply below_alloc | apply pw_below_drewN | apply below_drew1) | exact HB.out)) hb); clear HB; have HB := n0_; clear n0_; (try clear hb); (try clear hb2); (try clear hk); (try clear hi)) | (go_at_call 19; (with_reducible refine (spec_LongestAt.calls k t157 t158 t162 t163 t164 _ A5.out).mono ?_); rintro e w' ⟨rfl, ⟨nd, rfl⟩⟩; (try first | exact ⟨rfl, _, World.drewN_drewN _ _ _⟩ | exact ⟨rfl, _, Eq.trans (World.drewN_drewN _ _ _) (congrArg (World.drewN _) (Nat.add_assoc _ _ _))⟩))))
    (try simp only [Act.put, List.setIfInBounds_toArray, List.set_cons_zero, List.set_cons_succ])
    go_cut [48] (fun v48 wc => ∃ (kq : Nat) (x48_5 : Bool), v48 = .bool x48_5 ∧ Aside0 (laws_FnLongest.j0 kq t157 t158 t159 t160 t161 x48_5 = some r) ∧ Aside0 (kq ≤ k) ∧ Aside0 (Below w.heap.size w wc))
    case first =>
      have H := HC6.out
      clear HC6
      by_cases c9 : (t161 != t164) = true
      · rw [if_pos c9] at H
        have c9b0 : (t161 != t164) = true := c9
        (try (have c9b1 : decide (t161 = t164) = false := by simpa using c9))
        (try (have c9b2 : (t161 == t164) = false := by simpa using c9))
        (try (have c9b3 : ¬ (t161 = t164) := by simpa using c9))
        clear c9
        (first | rw [c9b0] | (simp only [i64_w, i32_w]; rw [c9b0]) | skip)
        have H' := Aside0.mk H
        clear H
        go_wp2
        repeat (go_quiet (fail); try go_wp2)
        go_meet
        case rel => exact ⟨_, (true), (by first | rfl | (simp; done) | (simp [*]; done)), H', ⟨by first | omega | exact Nat.le_refl _⟩, ⟨by repeat (first | (with_reducible first | exact HB.out | apply below_alloc | apply pw_below_drewN | apply below_drew1) | exact HB.out)⟩⟩
      · rw [if_neg c9] at H
        have c9b0 : (t161 != t164) = false := by simpa using c9
        (try (have c9b1 : decide (t161 = t164) = true := by simpa using c9))
        (try (have c9b2 : (t161 == t164) = true := by simpa using c9))
        clear c9
        (first | rw [c9b0] | (simp only [i64_w, i32_w]; rw [c9b0]) | skip)
        by_cases c10 : t159 = t162
        · rw [if_pos c10] at H
          have c10b0 : (t159 == t162) = true := beq_iff_eq.mpr c10
          have c10b1 : (t159 != t162) = false := bne_eq_false_iff_eq.mpr c10
          clear c10
          have H' := Aside0.mk H
          clear H
          go_wp2
          repeat (go_quiet (fail); try go_wp2)
          go_meet
          case rel => exact ⟨_, ((t160 != t163)), (by first | rfl | (simp; done) | (simp [*]; done)), H', ⟨by first | omega | exact Nat.le_refl _⟩, ⟨by repeat (first | (with_reducible first | exact HB.out | apply below_alloc | apply pw_below_drewN | apply below_drew1) | exact HB.out)⟩⟩
        · rw [if_neg c10] at H
          have c10b0 : (t159 == t162) = false := beq_eq_false_iff_ne.mpr c10
          have c10b1 : (t159 != t162) = true := bne_iff_ne.mpr c10
          have H' := Aside0.mk H
          clear H
          go_wp2
          repeat (go_quiet (fail); try go_wp2)
          go_meet
          case rel => exact ⟨_, (true), (by first | rfl | (simp; done) | (simp [*]; done)), H', ⟨by first | omega | exact Nat.le_refl _⟩, ⟨by repeat (first | (with_reducible first | exact HB.out | apply below_alloc | apply pw_below_drewN | apply below_drew1) | exact HB.out)⟩⟩
    case rest =>
      clear HC6
      try clear c1
      try clear c2
      try clear c2b0
      try clear c2b1
      try clear p2
      try clear c7
      try clear c9
      try clear c9b0
      try clear c9b1
      try clear c9b2
      try clear c10
      try clear c10b0
      try clear c10b1
      obtain ⟨kq, x48_5, rfl, HA, HJ5, HB⟩ := hcut
      cases kq with
      | zero => exact absurd HA.out (by simp [laws_FnLongest.j0])
      | succ kj5 =>
        have H := HA.out
        clear HA
        simp only [laws_FnLongest.j0] at H
        by_cases c11 : x48_5 = true
        · subst c11
          have H1 : (some false) = some r := by rw [if_pos rfl] at H; exact H
          clear H
          have H := H1
          clear H1
          obtain rfl := Option.some.inj H
          go_wp2
          repeat (go_quiet (fail); try go_wp2)
          go_ret
          exact ⟨by first | rfl | (simp [errW_none, errW_some] <;> rfl) | (simp [*, errW_none, errW_some] <;> rfl) | (simp [Go.Proofs.Ytgglcpcfmhpcmaa.E.isEmpty_bne]; done) | (rw [Go.Proofs.Ytgglcpcfmhpcmaa.E.bne_empty]), by repeat (first | (with_reducible first | exact HB.out | apply below_alloc | apply pw_below_drewN | apply below_drew1) | exact HB.out)⟩
        · replace c11 := Bool.eq_false_iff.mpr c11
          subst c11
          have H1 : (if t161 = true then (laws_FnLongest.j1 kj5 t157 t158 t159 t160 (decide ((t157.size : Int) > 300))) else (laws_FnLongest.j1 kj5 t157 t158 t159 t160 true)) = some r := by rw [if_neg (show ¬ (false = true) by decide)] at H; exact H
          clear H
          have H := H1
          clear H1
          have HC12 := Aside0.mk H
          clear H
          go_upto_region 8 with (fail)
          repeat (go_quiet (fail); go_upto_region 8 with (fail))
          go_cut [55] (fun v55 wc => ∃ (kq : Nat) (x55_11 : Bool), v55 = .bool x55_11 ∧ Aside0 (laws_FnLongest.j1 kq t157 t158 t159 t160 x55_11 = some r) ∧ Aside0 (kq ≤ kj5) ∧ Aside0 (Below w.heap.size w wc))
          case first =>
            have H := HC12.out
            clear HC12
            by_cases c13 : t161 = true
            · subst c13
              have H1 : (laws_FnLongest.j1 kj5 t157 t158 t159 t160 (decide ((t157.size : Int) > 300))) = some r := by rw [if_pos rfl] at H; exact H
              clear H
              have H := H1
              clear H1
              have H' := Aside0.mk H
              clear H
              go_wp2
              repeat (go_quiet (fail); try go_wp2)
              go_meet
              case rel => exact ⟨_, (decide ((t157.size : Int) > 300)), (by first | rfl | (simp; done) | (simp [*]; done)), H', ⟨by have := HJ5.out; first | omega | exact Nat.le_refl _⟩, ⟨by repeat (first | (with_reducible first | exact HB.out | apply below_alloc | apply pw_below_drewN | apply below_drew1) | exact HB.out)⟩⟩
            · replace c13 := Bool.eq_false_iff.mpr c13
              subst c13
              have H1 : (laws_FnLongest.j1 kj5 t157 t158 t159 t160 true) = some r := by rw [if_neg (show ¬ (false = true) by decide)] at H; exact H
              clear H
              have H := H1
              clear H1
              have H' := Aside0.mk H
              clear H
              go_wp2
              repeat (go_quiet (fail); try go_wp2)
              go_meet
              case rel => exact ⟨_, (true), (by first | rfl | (simp; done) | (simp [*]; done)), H', ⟨by have := HJ5.out; first | omega | exact Nat.le_refl _⟩, ⟨by repeat (first | (with_reducible first | exact HB.out | apply below_alloc | apply pw_below_drewN | apply below_drew1) | exact HB.out)⟩⟩
          case rest =>
            clear HC12
            try clear c1
            try clear c2
            try clear c2b0
            try clear c2b1
            try clear p2
            try clear c7
            try clear c9
            try clear c9b0
            try clear c9b1
            try clear c9b2
            try clear c10
            try clear c10b0
            try clear c10b1
            try clear c11
            try clear c13
            try clear p2
            obtain ⟨kq, x55_11, rfl, HA, HJ11, HB⟩ := hcut
            cases kq with
            | zero => exact absurd HA.out (by simp [laws_FnLongest.j1])
            | succ kj11 =>
              have H := HA.out
              clear HA
              simp only [laws_FnLongest.j1] at H
              by_cases c14 : x55_11 = true
              · subst c14
                have H1 : (some true) = some r := by rw [if_pos rfl] at H; exact H
                clear H
                have H := H1
                clear H1
                obtain rfl := Option.some.inj H
                go_wp2
                repeat (go_quiet (fail); try go_wp2)
                go_ret
                exact ⟨by first | rfl | (simp [errW_none, errW_some] <;> rfl) | (simp [*, errW_none, errW_some] <;> rfl) | (simp [Go.Proofs.Ytgglcpcfmhpcmaa.E.isEmpty_bne]; done) | (rw [Go.Proofs.Ytgglcpcfmhpcmaa.E.bne_empty]), by repeat (first | (with_reducible first | exact HB.out | apply below_alloc | apply pw_below_drewN | apply below_drew1) | exact HB.out)⟩
              · replace c14 := Bool.eq_false_iff.mpr c14
                subst c14
                have H1 : (if t159 > 0 then (if t159 > t158 then (laws_FnLongest.j2 kj11 t157 t158 t159 t160 true) else (if t160 < 3 then (laws_FnLongest.j2 kj11 t157 t158 t159 t160 true) else (if t160 > 66 then (laws_FnLongest.j2 kj11 t157 t158 t159 t160 true) else (laws_FnLongest.j2 kj11 t157 t158 t159 t160 (decide ((wrap64 (t158 + t160)) > (t157.size : Int))))))) else (laws_FnLongest.j2 kj11 t157 t158 t159 t160 false)) = some r := by rw [if_neg (show ¬ (false = true) by decide)] at H; exact H
                clear H
                have H := H1
                clear H1
                have HC15 := Aside0.mk H
                clear H
                go_upto_region 10 with (fail)
                repeat (go_quiet (fail); go_upto_region 10 with (fail))
                go_cut [78] (fun v78 wc => ∃ (kq : Nat) (x78_14 : Bool), v78 = .bool x78_14 ∧ Aside0 (laws_FnLongest.j2 kq t157 t158 t159 t160 x78_14 = some r) ∧ Aside0 (kq ≤ kj11) ∧ Aside0 (Below w.heap.size w wc))
                case first =>
                  have H := HC15.out
                  clear HC15
                  by_cases c16 : t159 > 0
                  · rw [if_pos c16] at H
                    have c16b0 : decide (0 < t159) = true := decide_eq_true c16
                    clear c16
                    (first | rw [c16b0] | (simp only [i64_w, i32_w]; rw [c16b0]) | skip)
                    by_cases c17 : t159 > t158
                    · rw [if_pos c17] at H
                      have c17b0 : decide (t158 < t159) = true := decide_eq_true c17
                      clear c17
                      have H' := Aside0.mk H
                      clear H
                      go_wp2
                      repeat (go_quiet (fail); try go_wp2)
                      go_meet
                      case rel => exact ⟨_, (true), (by first | rfl | (simp; done) | (simp [*]; done)), H', ⟨by have := HJ5.out; have := HJ11.out; first | omega | exact Nat.le_refl _⟩, ⟨by repeat (first | (with_reducible first | exact HB.out | apply below_alloc | apply pw_below_drewN | apply below_drew1) | exact HB.out)⟩⟩
                    · rw [if_neg c17] at H
                      have c17b0 : decide (t158 < t159) = false := decide_eq_false c17
                      clear c17
                      by_cases c18 : t160 < 3
                      · rw [if_pos c18] at H
                        have c18b0 : decide (t160 < 3) = true := decide_eq_true c18
                        clear c18
                        have H' := Aside0.mk H
                        clear H
                        go_wp2
                        repeat (go_quiet (fail); try go_wp2)
                        go_meet
                        case rel => exact ⟨_, (true), (by first | rfl | (simp; done) | (simp [*]; done)), H', ⟨by have := HJ5.out; have := HJ11.out; first | omega | exact Nat.le_refl _⟩, ⟨by repeat (first | (with_reducible first | exact HB.out | apply below_alloc | apply pw_below_drewN | apply below_drew1) | exact HB.out)⟩⟩
                      · rw [if_neg c18] at H
                        have c18b0 : decide (t160 < 3) = false := decide_eq_false c18
                        clear c18
                        by_cases c19 : t160 > 66
                        · rw [if_pos c19] at H
                          have c19b0 : decide (66 < t160) = true := decide_eq_true c19
                          clear c19
                          have H' := Aside0.mk H
                          clear H
                          go_wp2
                          repeat (go_quiet (fail); try go_wp2)
                          go_meet
                          case rel => exact ⟨_, (true), (by first | rfl | (simp; done) | (simp [*]; done)), H', ⟨by have := HJ5.out; have := HJ11.out; first | omega | exact Nat.le_refl _⟩, ⟨by repeat (first | (with_reducible first | exact HB.out | apply below_alloc | apply pw_below_drewN | apply below_drew1) | exact HB.out)⟩⟩
                        · rw [if_neg c19] at H
                          have c19b0 : decide (66 < t160) = false := decide_eq_false c19
                          clear c19
                          have H' := Aside0.mk H
                          clear H
                          go_wp2
                          repeat (go_quiet (fail); try go_wp2)
                          go_meet
                          case rel => exact ⟨_, (decide ((wrap64 (t158 + t160)) > (t157.size : Int))), (by first | rfl | (simp; done) | (simp [*]; done)), H', ⟨by have := HJ5.out; have := HJ11.out; first | omega | exact Nat.le_refl _⟩, ⟨by repeat (first | (with_reducible first | exact HB.out | apply below_alloc | apply pw_below_drewN | apply below_drew1) | exact HB.out)⟩⟩
                  · rw [if_neg c16] at H
                    have c16b0 : decide (0 < t159) = false := decide_eq_false c16
                    clear c16
                    (first | rw [c16b0] | (simp only [i64_w, i32_w]; rw [c16b0]) | skip)
                    have H' := Aside0.mk H
                    clear H
                    go_wp2
                    repeat (go_quiet (fail); try go_wp2)
                    go_meet
                    case rel => exact ⟨_, (false), (by first | rfl | (simp; done) | (simp [*]; done)), H', ⟨by have := HJ5.out; have := HJ11.out; first | omega | exact Nat.le_refl _⟩, ⟨by repeat (first | (with_reducible first | exact HB.out | apply below_alloc | apply pw_below_drewN | apply below_drew1) | exact HB.out)⟩⟩
                case rest =>
                  clear HC15
                  try clear c1
                  try clear c2
                  try clear c2b0
                  try clear c2b1
                  try clear p2
                  try clear p6
                  try clear c7
                  try clear c9
                  try clear c9b0
                  try clear c9b1
                  try clear c9b2
                  try clear c10
                  try clear c10b0
                  try clear c10b1
                  try clear c11
                  try clear c13
                  try clear c14
                  try clear c16
                  try clear c16b0
                  try clear c17
                  try clear c17b0
                  try clear c18
                  try clear c18b0
                  try clear c19
                  try clear c19b0
                  try clear p2
                  obtain ⟨kq, x78_14, rfl, HA, HJ14, HB⟩ := hcut
                  cases kq with
                  | zero => exact absurd HA.out (by simp [laws_FnLongest.j2])
                  | succ kj14 =>
                    have H := HA.out
                    clear HA
                    simp only [laws_FnLongest.j2] at H
                    by_cases c20 : x78_14 = true
                    · subst c20
                      have H1 : (some false) = some r := by rw [if_pos rfl] at H; exact H
                      clear H
                      have H := H1
                      clear H1
                      obtain rfl := Option.some.inj H
                      go_wp2
                      repeat (go_quiet (fail); try go_wp2)
                      go_ret
                      exact ⟨by first | rfl | (simp [errW_none, errW_some] <;> rfl) | (simp [*, errW_none, errW_some] <;> rfl) | (simp [Go.Proofs.Ytgglcpcfmhpcmaa.E.isEmpty_bne]; done) | (rw [Go.Proofs.Ytgglcpcfmhpcmaa.E.bne_empty]), by repeat (first | (with_reducible first | exact HB.out | apply below_alloc | apply pw_below_drewN | apply below_drew1) | exact HB.out)⟩
                    · replace c20 := Bool.eq_false_iff.mpr c20
                      subst c20
                      have H1 : (laws_FnLongest.l0 kj14 t157 t158 t159 t160 0) = some r := by rw [if_neg (show ¬ (false = true) by decide)] at H; exact H
                      clear H
                      have H := H1
                      clear H1
                      have H' := Aside0.mk H
                      clear H
                      go_wp2
                      repeat (go_quiet (fail); try go_wp2)
                      go_loopg [11] kj14 (fun kq v11 w' => ∃ (x11_4 : Int), v11 = .int .i64 x11_4 ∧ Aside0 (laws_FnLongest.l0 kq t157 t158 t159 t160 x11_4 = some r) ∧ Aside0 (kq ≤ kj14) ∧ Aside0 (Below w.heap.size w w'))
                      case atStart => exact ⟨(0), (by first | rfl | (simp; done) | (simp [*]; done)), H', ⟨Nat.le_refl _⟩, ⟨by repeat (first | (with_reducible first | exact HB.out | apply below_alloc | apply pw_below_drewN | apply below_drew1) | exact HB.out)⟩⟩
                      case round =>
                        clear H'
                        try clear c1
                        try clear c2
                        try clear c2b0
                        try clear c2b1
                        try clear p2
                        try clear p6
                        try clear c7
                        try clear c9
                        try clear c9b0
                        try clear c9b1
                        try clear c9b2
                        try clear c10
                        try clear c10b0
                        try clear c10b1
                        try clear c11
                        try clear c13
                        try clear c14
                        try clear c16
                        try clear c16b0
                        try clear c17
                        try clear c17b0
                        try clear c18
                        try clear c18b0
                        try clear c19
                        try clear c19b0
                        try clear c20
                        try clear p2
                        try clear p6
                        obtain ⟨x11_4, rfl, HA, HK4, HB⟩ := hrel
                        cases gk with
                        | zero => exact absurd HA.out (by simp [laws_FnLongest.l0])
                        | succ k4 =>
                          have H := HA.out
                          clear HA
                          simp only [laws_FnLongest.l0] at H
                          by_cases c21 : x11_4 < t160
                          · rw [if_pos c21] at H
                            have c21b0 : decide (x11_4 < t160) = true := decide_eq_true c21
                            clear c21
                            obtain ⟨ji22, hji22⟩ : ∃ j_ : Int, (wrap64 (t158 + x11_4)) = j_ := ⟨_, rfl⟩
                            replace H : (if 0 ≤ (ji22) then (if (ji22) < (t157.size : Int) then (if 0 ≤ (wrap64 ((ji22) - t159)) then (if (wrap64 ((ji22) - t159)) < (t157.size : Int) then (if (bt t157 (ji22)) = (bt t157 (wrap64 ((ji22) - t159))) then (laws_FnLongest.l0 k4 t157 t158 t159 t160 (wrap64 (x11_4 + 1))) else (some false)) else (none)) else (none)) else (none)) else (none)) = some r := by first | (rw [hji22] at H; exact H) | (simp only [hji22] at H ⊢; exact H)
                            have hji22w : (IntKind.i64.wrap (t158 + x11_4)) = ji22 := (i64_w _).trans hji22
                            by_cases c23 : 0 ≤ (ji22)
                            · rw [if_pos c23] at H
                              have c23b0 : decide (0 ≤ (ji22)) = true := decide_eq_true c23
                              clear c23
                              by_cases c24 : (ji22) < (t157.size : Int)
                              · rw [if_pos c24] at H
                                have c24b0 : decide ((ji22) < (t157.size : Int)) = true := decide_eq_true c24
                                clear c24
                                obtain ⟨ji26, hji26⟩ : ∃ j_ : Int, (wrap64 ((ji22) - t159)) = j_ := ⟨_, rfl⟩
                                replace H : (if 0 ≤ (ji26) then (if (ji26) < (t157.size : Int) then (if (bt t157 (ji22)) = (bt t157 (ji26)) then (laws_FnLongest.l0 k4 t157 t158 t159 t160 (wrap64 (x11_4 + 1))) else (some false)) else (none)) else (none)) = some r := by first | (rw [hji26] at H; exact H) | (simp only [hji26] at H ⊢; exact H)
                                have hji26w : (IntKind.i64.wrap ((ji22) - t159)) = ji26 := (i64_w _).trans hji26
                                by_cases c27 : 0 ≤ (ji26)
                                · rw [if_pos c27] at H
                                  have c27b0 : decide (0 ≤ (ji26)) = true := decide_eq_true c27
                                  clear c27
                                  by_cases c28 : (ji26) < (t157.size : Int)
                                  · rw [if_pos c28] at H
                                    have c28b0 : decide ((ji26) < (t157.size : Int)) = true := decide_eq_true c28
                                    clear c28
                                    by_cases c30 : (bt t157 (ji22)) = (bt t157 (ji26))
                                    · rw [if_pos c30] at H
                                      have c30b0 : ((bt t157 (ji22)) == (bt t157 (ji26))) = true := beq_iff_eq.mpr c30
                                      have c30b1 : ((bt t157 (ji22)) != (bt t157 (ji26))) = false := bne_eq_false_iff_eq.mpr c30
                                      clear c30
                                      have H' := Aside0.mk H
                                      clear H
                                      have p25 : 0 ≤ ((ji22) : Int) := of_decide_eq_true (by first | (with_reducible assumption) | assumption)
                                      have q25 : (ji22) < (t157.size : Int) := of_decide_eq_true (by first | (with_reducible assumption) | assumption)
                                      have hx25 := bt_at t157 (ji22)
                                      replace p25 := eq_true p25
                                      replace q25 := eq_true q25
                                      have p29 : 0 ≤ ((ji26) : Int) := of_decide_eq_true (by first | (with_reducible assumption) | assumption)
                                      have q29 : (ji26) < (t157.size : Int) := of_decide_eq_true (by first | (with_reducible assumption) | assumption)
                                      have hx29 := bt_at t157 (ji26)
                                      replace p29 := eq_true p29
                                      replace q29 := eq_true q29
                                      go_wp2
                                      repeat (go_quiet (fail); try go_wp2)
                                      go_roundg k4
                                      case measure => have := HJ5.out; have := HJ11.out; have := HJ14.out; have := HK4.out; omega
                                      case rel => exact ⟨(wrap64 (x11_4 + 1)), (by first | rfl | (simp; done) | (simp [*]; done)), H', ⟨by have := HJ5.out; have := HJ11.out; have := HJ14.out; have := HK4.out; omega⟩, ⟨by repeat (first | (with_reducible first | exact HB.out | apply below_alloc | apply pw_below_drewN | apply below_drew1) | exact HB.out)⟩⟩
                                    · rw [if_neg c30] at H
                                      have c30b0 : ((bt t157 (ji22)) == (bt t157 (ji26))) = false := beq_eq_false_iff_ne.mpr c30
                                      have c30b1 : ((bt t157 (ji22)) != (bt t157 (ji26))) = true := bne_iff_ne.mpr c30
                                      obtain rfl := Option.some.inj H
                                      have p25 : 0 ≤ ((ji22) : Int) := of_decide_eq_true (by first | (with_reducible assumption) | assumption)
                                      have q25 : (ji22) < (t157.size : Int) := of_decide_eq_true (by first | (with_reducible assumption) | assumption)
                                      have hx25 := bt_at t157 (ji22)
                                      replace p25 := eq_true p25
                                      replace q25 := eq_true q25
                                      have p29 : 0 ≤ ((ji26) : Int) := of_decide_eq_true (by first | (with_reducible assumption) | assumption)
                                      have q29 : (ji26) < (t157.size : Int) := of_decide_eq_true (by first | (with_reducible assumption) | assumption)
                                      have hx29 := bt_at t157 (ji26)
                                      replace p29 := eq_true p29
                                      replace q29 := eq_true q29
                                      go_wp2
                                      repeat (go_quiet (fail); try go_wp2)
                                      go_ret
                                      exact ⟨by first | rfl | (simp [errW_none, errW_some] <;> rfl) | (simp only [← hji22, ← hji26]; first | rfl | (simp [errW_none, errW_some] <;> rfl)) | (simp [*, errW_none, errW_some] <;> rfl) | (simp [Go.Proofs.Ytgglcpcfmhpcmaa.E.isEmpty_bne]; done) | (rw [Go.Proofs.Ytgglcpcfmhpcmaa.E.bne_empty]), by repeat (first | (with_reducible first | exact HB.out | apply below_alloc | apply pw_below_drewN | apply below_drew1) | exact HB.out)⟩
                                  · rw [if_neg c28] at H
                                    exact absurd H (by simp)
                                · rw [if_neg c27] at H
                                  exact absurd H (by simp)
                              · rw [if_neg c24] at H
                                exact absurd H (by simp)
                            · rw [if_neg c23] at H
                              exact absurd H (by simp)
                          · rw [if_neg c21] at H
                            have c21b0 : decide (x11_4 < t160) = false := decide_eq_false c21
                            clear c21
                            have H' := Aside0.mk H
                            clear H
                            go_wp2
                            repeat (go_quiet (fail); try go_wp2)
                            go_loopg [12] k4 (fun kq v12 w' => ∃ (x12_5 : Int), v12 = .int .i64 x12_5 ∧ Aside0 (laws_FnLongest.l1 kq t157 t158 t159 t160 x12_5 = some r) ∧ Aside0 (kq ≤ k4) ∧ Aside0 (Below w.heap.size w w'))
                            case atStart => exact ⟨(1), (by first | rfl | (simp; done) | (simp [*]; done)), H', ⟨Nat.le_refl _⟩, ⟨by repeat (first | (with_reducible first | exact HB.out | apply below_alloc | apply pw_below_drewN | apply below_drew1) | exact HB.out)⟩⟩
                            case round =>
                              clear H'
                              try clear c1
                              try clear c2
                              try clear c2b0
                              try clear c2b1
                              try clear p2
                              try clear q2
                              try clear hx2
                              try clear c3
                              try clear p6
                              try clear c7
                              try clear c9
                              try clear c9b0
                              try clear c9b1
                              try clear c9b2
                              try clear c10
                              try clear c10b0
                              try clear c10b1
                              try clear c11
                              try clear c13
                              try clear c14
                              try clear c16
                              try clear c16b0
                              try clear c17
                              try clear c17b0
                              try clear c18
                              try clear c18b0
                              try clear c19
                              try clear c19b0
                              try clear c20
                              try clear c21
                              try clear c21b0
                              try clear c23
                              try clear c23b0
                              try clear c24
                              try clear c24b0
                              try clear p25
                              try clear q25
                              try clear hx25
                              try clear c27
                              try clear c27b0
                              try clear c28
                              try clear c28b0
                              try clear p29
                              try clear q29
                              try clear hx29
                              try clear c30
                              try clear c30b0
                              try clear c30b1
                              try clear p2
                              try clear p25
                              try clear p29
                              try clear p6
                              try clear q25
                              try clear q29
                              obtain ⟨x12_5, rfl, HA, HK5, HB⟩ := hrel
                              cases gk with
                              | zero => exact absurd HA.out (by simp [laws_FnLongest.l1])
                              | succ k5 =>
                                have H := HA.out
                                clear HA
                                simp only [laws_FnLongest.l1] at H
                                have HC31 := Aside0.mk H
                                clear H
                                go_upto_region 18 with (fail)
                                repeat (go_quiet (fail); go_upto_region 18 with (fail))
                                go_cut [103] (fun v103 wc => ∃ (kq : Nat) (x103_30 : Bool), v103 = .bool x103_30 ∧ Aside0 (laws_FnLongest.j5 kq t157 t158 t159 t160 x12_5 x103_30 = some r) ∧ Aside0 (kq ≤ k5) ∧ Aside0 (Below w.heap.size w wc))
                                case first =>
                                  have H := HC31.out
                                  clear HC31
                                  by_cases c32 : x12_5 ≤ t158
                                  · rw [if_pos c32] at H
                                    have c32b0 : decide (x12_5 ≤ t158) = true := decide_eq_true c32
                                    clear c32
                                    (first | rw [c32b0] | (simp only [i64_w, i32_w]; rw [c32b0]) | skip)
                                    have H' := Aside0.mk H
                                    clear H
                                    go_wp2
                                    repeat (go_quiet (fail); try go_wp2)
                                    go_meet
                                    case rel => exact ⟨_, (decide (x12_5 ≤ 255)), (by first | rfl | (simp; done) | (simp [*]; done)), H', ⟨by have := HJ5.out; have := HJ11.out; have := HJ14.out; have := HK4.out; have := HK5.out; first | omega | exact Nat.le_refl _⟩, ⟨by repeat (first | (with_reducible first | exact HB.out | apply below_alloc | apply pw_below_drewN | apply below_drew1) | exact HB.out)⟩⟩
                                  · rw [if_neg c32] at H
                                    have c32b0 : decide (x12_5 ≤ t158) = false := decide_eq_false c32
                                    clear c32
                                    (first | rw [c32b0] | (simp only [i64_w, i32_w]; rw [c32b0]) | skip)
                                    have H' := Aside0.mk H
                                    clear H
                                    go_wp2
                                    repeat (go_quiet (fail); try go_wp2)
                                    go_meet
                                    case rel => exact ⟨_, (false), (by first | rfl | (simp; done) | (simp [*]; done)), H', ⟨by have := HJ5.out; have := HJ11.out; have := HJ14.out; have := HK4.out; have := HK5.out; first | omega | exact Nat.le_refl _⟩, ⟨by repeat (first | (with_reducible first | exact HB.out | apply below_alloc | apply pw_below_drewN | apply below_drew1) | exact HB.out)⟩⟩
                                case rest =>
                                  clear HC31
                                  try clear c1
                                  try clear c2
                                  try clear c2b0
                                  try clear c2b1
                                  try clear p2
                                  try clear q2
                                  try clear hx2
                                  try clear c3
                                  try clear p6
                                  try clear c7
                                  try clear c9
                                  try clear c9b0
                                  try clear c9b1
                                  try clear c9b2
                                  try clear c10
                                  try clear c10b0
                                  try clear c10b1
                                  try clear c11
                                  try clear c13
                                  try clear c14
                                  try clear c16
                                  try clear c16b0
                                  try clear c17
                                  try clear c17b0
                                  try clear c18
                                  try clear c18b0
                                  try clear c19
                                  try clear c19b0
                                  try clear c20
                                  try clear c21
                                  try clear c21b0
                                  try clear c23
                                  try clear c23b0
                                  try clear c24
                                  try clear c24b0
                                  try clear p25
                                  try clear q25
                                  try clear hx25
                                  try clear c27
                                  try clear c27b0
                                  try clear c28
                                  try clear c28b0
                                  try clear p29
                                  try clear q29
                                  try clear hx29
                                  try clear c30
                                  try clear c30b0
                                  try clear c30b1
                                  try clear c32
                                  try clear c32b0
                                  try clear p2
                                  try clear p25
                                  try clear p29
                                  try clear p6
                                  try clear q2
                                  try clear q25
                                  try clear q29
                                  obtain ⟨kq, x103_30, rfl, HA, HJ30, HB⟩ := hcut
                                  cases kq with
                                  | zero => exact absurd HA.out (by simp [laws_FnLongest.j5])
                                  | succ kj30 =>
                                    have H := HA.out
                                    clear HA
                                    simp only [laws_FnLongest.j5] at H
                                    by_cases c33 : x103_30 = true
                                    · subst c33
                                      have H1 : (laws_FnLongest.l2 kj30 t157 t158 t159 t160 x12_5 0) = some r := by rw [if_pos rfl] at H; exact H
                                      clear H
                                      have H := H1
                                      clear H1
                                      have H' := Aside0.mk H
                                      clear H
                                      go_wp2
                                      repeat (go_quiet (fail); try go_wp2)
                                      go_loopg [13] kj30 (fun kq v13 w' => ∃ (x13_7 : Int), v13 = .int .i64 x13_7 ∧ Aside0 (laws_FnLongest.l2 kq t157 t158 t159 t160 x12_5 x13_7 = some r) ∧ Aside0 (kq ≤ kj30) ∧ Aside0 (Below w.heap.size w w'))
                                      case atStart => exact ⟨(0), (by first | rfl | (simp; done) | (simp [*]; done)), H', ⟨Nat.le_refl _⟩, ⟨by repeat (first | (with_reducible first | exact HB.out | apply below_alloc | apply pw_below_drewN | apply below_drew1) | exact HB.out)⟩⟩
                                      case round =>
                                        clear H'
                                        try clear c1
                                        try clear c2
                                        try clear c2b0
                                        try clear c2b1
                                        try clear p2
                                        try clear q2
                                        try clear hx2
                                        try clear c3
                                        try clear p6
                                        try clear c7
                                        try clear c9
                                        try clear c9b0
                                        try clear c9b1
                                        try clear c9b2
                                        try clear c10
                                        try clear c10b0
                                        try clear c10b1
                                        try clear c11
                                        try clear c13
                                        try clear c14
                                        try clear c16
                                        try clear c16b0
                                        try clear c17
                                        try clear c17b0
                                        try clear c18
                                        try clear c18b0
                                        try clear c19
                                        try clear c19b0
                                        try clear c20
                                        try clear c21
                                        try clear c21b0
                                        try clear c23
                                        try clear c23b0
                                        try clear c24
                                        try clear c24b0
                                        try clear p25
                                        try clear q25
                                        try clear hx25
                                        try clear c27
                                        try clear c27b0
                                        try clear c28
                                        try clear c28b0
                                        try clear p29
                                        try clear q29
                                        try clear hx29
                                        try clear c30
                                        try clear c30b0
                                        try clear c30b1
                                        try clear c32
                                        try clear c32b0
                                        try clear c33
                                        try clear p2
                                        try clear p25
                                        try clear p29
                                        try clear p6
                                        try clear q2
                                        try clear q25
                                        try clear q29
                                        obtain ⟨x13_7, rfl, HA, HK7, HB⟩ := hrel
                                        cases gk with
                                        | zero => exact absurd HA.out (by simp [laws_FnLongest.l2])
                                        | succ k7 =>
                                          have H := HA.out
                                          clear HA
                                          simp only [laws_FnLongest.l2] at H
                                          by_cases c34 : x13_7 < 66
                                          · rw [if_pos c34] at H
                                            have c34b0 : decide (x13_7 < 66) = true := decide_eq_true c34
                                            clear c34
                                            by_cases c35 : (wrap64 (t158 + x13_7)) < (t157.size : Int)
                                            · rw [if_pos c35] at H
                                              have c35b0 : decide ((wrap64 (t158 + x13_7)) < (t157.size : Int)) = true := decide_eq_true c35
                                              clear c35
                                              obtain ⟨ji36, hji36⟩ : ∃ j_ : Int, (wrap64 (t158 + x13_7)) = j_ := ⟨_, rfl⟩
                                              replace H : (if 0 ≤ (ji36) then (if 0 ≤ (wrap64 ((ji36) - x12_5)) then (if (wrap64 ((ji36) - x12_5)) < (t157.size : Int) then (if (bt t157 (ji36)) = (bt t157 (wrap64 ((ji36) - x12_5))) then (laws_FnLongest.l2 k7 t157 t158 t159 t160 x12_5 (wrap64 (x13_7 + 1))) else (if x13_7 > t160 then (if x13_7 ≥ 3 then (some false) else (if x13_7 = t160 then (if t160 > 0 then (if x12_5 < t159 then (some false) else (laws_FnLongest.l1 k7 t157 t158 t159 t160 (wrap64 (x12_5 + 1)))) else (laws_FnLongest.l1 k7 t157 t158 t159 t160 (wrap64 (x12_5 + 1)))) else (laws_FnLongest.l1 k7 t157 t158 t159 t160 (wrap64 (x12_5 + 1))))) else (if x13_7 = t160 then (if t160 > 0 then (if x12_5 < t159 then (some false) else (laws_FnLongest.l1 k7 t157 t158 t159 t160 (wrap64 (x12_5 + 1)))) else (laws_FnLongest.l1 k7 t157 t158 t159 t160 (wrap64 (x12_5 + 1)))) else (laws_FnLongest.l1 k7 t157 t158 t159 t160 (wrap64 (x12_5 + 1)))))) else (none)) else (none)) else (none)) = some r := by first | (rw [hji36] at H; exact H) | (simp only [hji36] at H ⊢; exact H)
                                              (try rw [hji36] at c35b0)
                                              have hji36w : (IntKind.i64.wrap (t158 + x13_7)) = ji36 := (i64_w _).trans hji36
                                              by_cases c37 : 0 ≤ (ji36)
                                              · rw [if_pos c37] at H
                                                have c37b0 : decide (0 ≤ (ji36)) = true := decide_eq_true c37
                                                clear c37
                                                obtain ⟨ji39, hji39⟩ : ∃ j_ : Int, (wrap64 ((ji36) - x12_5)) = j_ := ⟨_, rfl⟩
                                                replace H : (if 0 ≤ (ji39) then (if (ji39) < (t157.size : Int) then (if (bt t157 (ji36)) = (bt t157 (ji39)) then (laws_FnLongest.l2 k7 t157 t158 t159 t160 x12_5 (wrap64 (x13_7 + 1))) else (if x13_7 > t160 then (if x13_7 ≥ 3 then (some false) else (if x13_7 = t160 then (if t160 > 0 then (if x12_5 < t159 then (some false) else (laws_FnLongest.l1 k7 t157 t158 t159 t160 (wrap64 (x12_5 + 1)))) else (laws_FnLongest.l1 k7 t157 t158 t159 t160 (wrap64 (x12_5 + 1)))) else (laws_FnLongest.l1 k7 t157 t158 t159 t160 (wrap64 (x12_5 + 1))))) else (if x13_7 = t160 then (if t160 > 0 then (if x12_5 < t159 then (some false) else (laws_FnLongest.l1 k7 t157 t158 t159 t160 (wrap64 (x12_5 + 1)))) else (laws_FnLongest.l1 k7 t157 t158 t159 t160 (wrap64 (x12_5 + 1)))) else (laws_FnLongest.l1 k7 t157 t158 t159 t160 (wrap64 (x12_5 + 1)))))) else (none)) else (none)) = some r := by first | (rw [hji39] at H; exact H) | (simp only [hji39] at H ⊢; exact H)
                                                have hji39w : (IntKind.i64.wrap ((ji36) - x12_5)) = ji39 := (i64_w _).trans hji39
                                                by_cases c40 : 0 ≤ (ji39)
                                                · rw [if_pos c40] at H
                                                  have c40b0 : decide (0 ≤ (ji39)) = true := decide_eq_true c40
                                                  clear c40
                                                  by_cases c41 : (ji39) < (t157.size : Int)
                                                  · rw [if_pos c41] at H
                                                    have c41b0 : decide ((ji39) < (t157.size : Int)) = true := decide_eq_true c41
                                                    clear c41
                                                    by_cases c43 : (bt t157 (ji36)) = (bt t157 (ji39))
                                                    · rw [if_pos c43] at H
                                                      have c43b0 : ((bt t157 (ji36)) == (bt t157 (ji39))) = true := beq_iff_eq.mpr c43
                                                      have c43b1 : ((bt t157 (ji36)) != (bt t157 (ji39))) = false := bne_eq_false_iff_eq.mpr c43
                                                      clear c43
                                                      have H' := Aside0.mk H
                                                      clear H
                                                      have p38 : 0 ≤ ((ji36) : Int) := of_decide_eq_true (by first | (with_reducible assumption) | assumption)
                                                      have q38 : (ji36) < (t157.size : Int) := of_decide_eq_true (by first | (with_reducible assumption) | assumption)
                                                      have hx38 := bt_at t157 (ji36)
                                                      replace p38 := eq_true p38
                                                      replace q38 := eq_true q38
                                                      have p42 : 0 ≤ ((ji39) : Int) := of_decide_eq_true (by first | (with_reducible assumption) | assumption)
                                                      have q42 : (ji39) < (t157.size : Int) := of_decide_eq_true (by first | (with_reducible assumption) | assumption)
                                                      have hx42 := bt_at t157 (ji39)
                                                      replace p42 := eq_true p42
                                                      replace q42 := eq_true q42
                                                      go_wp2
                                                      repeat (go_quiet (fail); try go_wp2)
                                                      go_roundg k7
                                                      case measure => have := HJ5.out; have := HJ11.out; have := HJ14.out; have := HK4.out; have := HK5.out; have := HJ30.out; have := HK7.out; omega
                                                      case rel => exact ⟨(wrap64 (x13_7 + 1)), (by first | rfl | (simp; done) | (simp [*]; done)), H', ⟨by have := HJ5.out; have := HJ11.out; have := HJ14.out; have := HK4.out; have := HK5.out; have := HJ30.out; have := HK7.out; omega⟩, ⟨by repeat (first | (with_reducible first | exact HB.out | apply below_alloc | apply pw_below_drewN | apply below_drew1) | exact HB.out)⟩⟩
                                                    · rw [if_neg c43] at H
                                                      have c43b0 : ((bt t157 (ji36)) == (bt t157 (ji39))) = false := beq_eq_false_iff_ne.mpr c43
                                                      have c43b1 : ((bt t157 (ji36)) != (bt t157 (ji39))) = true := bne_iff_ne.mpr c43
                                                      by_cases c44 : x13_7 > t160
                                                      · rw [if_pos c44] at H
                                                        have c44b0 : decide (t160 < x13_7) = true := decide_eq_true c44
                                                        clear c44
                                                        by_cases c45 : x13_7 ≥ 3
                                                        · rw [if_pos c45] at H
                                                          have c45b0 : decide (3 ≤ x13_7) = true := decide_eq_true c45
                                                          clear c45
                                                          obtain rfl := Option.some.inj H
                                                          have p38 : 0 ≤ ((ji36) : Int) := of_decide_eq_true (by first | (with_reducible assumption) | assumption)
                                                          have q38 : (ji36) < (t157.size : Int) := of_decide_eq_true (by first | (with_reducible assumption) | assumption)
                                                          have hx38 := bt_at t157 (ji36)
                                                          replace p38 := eq_true p38
                                                          replace q38 := eq_true q38
                                                          have p42 : 0 ≤ ((ji39) : Int) := of_decide_eq_true (by first | (with_reducible assumption) | assumption)
                                                          have q42 : (ji39) < (t157.size : Int) := of_decide_eq_true (by first | (with_reducible assumption) | assumption)
                                                          have hx42 := bt_at t157 (ji39)
                                                          replace p42 := eq_true p42
                                                          replace q42 := eq_true q42
                                                          go_wp2
                                                          repeat (go_quiet (fail); try go_wp2)
                                                          go_ret
                                                          exact ⟨by first | rfl | (simp [errW_none, errW_some] <;> rfl) | (simp only [← hji36, ← hji39]; first | rfl | (simp [errW_none, errW_some] <;> rfl)) | (simp [*, errW_none, errW_some] <;> rfl) | (simp [Go.Proofs.Ytgglcpcfmhpcmaa.E.isEmpty_bne]; done) | (rw [Go.Proofs.Ytgglcpcfmhpcmaa.E.bne_empty]), by repeat (first | (with_reducible first | exact HB.out | apply below_alloc | apply pw_below_drewN | apply below_drew1) | exact HB.out)⟩
                                                        · rw [if_neg c45] at H
                                                          have c45b0 : decide (3 ≤ x13_7) = false := decide_eq_false c45
                                                          clear c45
                                                          by_cases c46 : x13_7 = t160
                                                          · rw [if_pos c46] at H
                                                            have c46b0 : (x13_7 == t160) = true := beq_iff_eq.mpr c46
                                                            have c46b1 : (x13_7 != t160) = false := bne_eq_false_iff_eq.mpr c46
                                                            clear c46
                                                            by_cases c47 : t160 > 0
                                                            · rw [if_pos c47] at H
                                                              have c47b0 : decide (0 < t160) = true := decide_eq_true c47
                                                              clear c47
                                                              by_cases c48 : x12_5 < t159
                                                              · rw [if_pos c48] at H
                                                                have c48b0 : decide (x12_5 < t159) = true := decide_eq_true c48
                                                                clear c48
                                                                obtain rfl := Option.some.inj H
                                                                have p38 : 0 ≤ ((ji36) : Int) := of_decide_eq_true (by first | (with_reducible assumption) | assumption)
                                                                have q38 : (ji36) < (t157.size : Int) := of_decide_eq_true (by first | (with_reducible assumption) | assumption)
                                                                have hx38 := bt_at t157 (ji36)
                                                                replace p38 := eq_true p38
                                                                replace q38 := eq_true q38
                                                                have p42 : 0 ≤ ((ji39) : Int) := of_decide_eq_true (by first | (with_reducible assumption) | assumption)
                                                                have q42 : (ji39) < (t157.size : Int) := of_decide_eq_true (by first | (with_reducible assumption) | assumption)
                                                                have hx42 := bt_at t157 (ji39)
                                                                replace p42 := eq_true p42
                                                                replace q42 := eq_true q42
                                                                go_wp2
                                                                repeat (go_quiet (fail); try go_wp2)
                                                                go_ret
                                                                exact ⟨by first | rfl | (simp [errW_none, errW_some] <;> rfl) | (simp only [← hji36, ← hji39]; first | rfl | (simp [errW_none, errW_some] <;> rfl)) | (simp [*, errW_none, errW_some] <;> rfl) | (simp [Go.Proofs.Ytgglcpcfmhpcmaa.E.isEmpty_bne]; done) | (rw [Go.Proofs.Ytgglcpcfmhpcmaa.E.bne_empty]), by repeat (first | (with_reducible first | exact HB.out | apply below_alloc | apply pw_below_drewN | apply below_drew1) | exact HB.out)⟩
                                                              · rw [if_neg c48] at H
                                                                have c48b0 : decide (x12_5 < t159) = false := decide_eq_false c48
                                                                clear c48
                                                                have H' := Aside0.mk H
                                                                clear H
                                                                have p38 : 0 ≤ ((ji36) : Int) := of_decide_eq_true (by first | (with_reducible assumption) | assumption)
                                                                have q38 : (ji36) < (t157.size : Int) := of_decide_eq_true (by first | (with_reducible assumption) | assumption)
                                                                have hx38 := bt_at t157 (ji36)
                                                                replace p38 := eq_true p38
                                                                replace q38 := eq_true q38
                                                                have p42 : 0 ≤ ((ji39) : Int) := of_decide_eq_true (by first | (with_reducible assumption) | assumption)
                                                                have q42 : (ji39) < (t157.size : Int) := of_decide_eq_true (by first | (with_reducible assumption) | assumption)
                                                                have hx42 := bt_at t157 (ji39)
                                                                replace p42 := eq_true p42
                                                                replace q42 := eq_true q42
                                                                go_wp2
                                                                repeat (go_quiet (fail); try go_wp2)
                                                                go_roundg k7
                                                                case measure => have := HJ5.out; have := HJ11.out; have := HJ14.out; have := HK4.out; have := HK5.out; have := HJ30.out; have := HK7.out; omega
                                                                case rel => exact ⟨(wrap64 (x12_5 + 1)), (by first | rfl | (simp; done) | (simp [*]; done)), H', ⟨by have := HJ5.out; have := HJ11.out; have := HJ14.out; have := HK4.out; have := HK5.out; have := HJ30.out; have := HK7.out; omega⟩, ⟨by repeat (first | (with_reducible first | exact HB.out | apply below_alloc | apply pw_below_drewN | apply below_drew1) | exact HB.out)⟩⟩
                                                            · rw [if_neg c47] at H
                                                              have c47b0 : decide (0 < t160) = false := decide_eq_false c47
                                                              clear c47
                                                              have H' := Aside0.mk H
                                                              clear H
                                                              have p38 : 0 ≤ ((ji36) : Int) := of_decide_eq_true (by first | (with_reducible assumption) | assumption)
                                                              have q38 : (ji36) < (t157.size : Int) := of_decide_eq_true (by first | (with_reducible assumption) | assumption)
                                                              have hx38 := bt_at t157 (ji36)
                                                              replace p38 := eq_true p38
                                                              replace q38 := eq_true q38
                                                              have p42 : 0 ≤ ((ji39) : Int) := of_decide_eq_true (by first | (with_reducible assumption) | assumption)
                                                              have q42 : (ji39) < (t157.size : Int) := of_decide_eq_true (by first | (with_reducible assumption) | assumption)
                                                              have hx42 := bt_at t157 (ji39)
                                                              replace p42 := eq_true p42
                                                              replace q42 := eq_true q42
                                                              go_wp2
                                                              repeat (go_quiet (fail); try go_wp2)
                                                              go_roundg k7
                                                              case measure => have := HJ5.out; have := HJ11.out; have := HJ14.out; have := HK4.out; have := HK5.out; have := HJ30.out; have := HK7.out; omega
                                                              case rel => exact ⟨(wrap64 (x12_5 + 1)), (by first | rfl | (simp; done) | (simp [*]; done)), H', ⟨by have := HJ5.out; have := HJ11.out; have := HJ14.out; have := HK4.out; have := HK5.out; have := HJ30.out; have := HK7.out; omega⟩, ⟨by repeat (first | (with_reducible first | exact HB.out | apply below_alloc | apply pw_below_drewN | apply below_drew1) | exact HB.out)⟩⟩
                                                          · rw [if_neg c46] at H
                                                            have c46b0 : (x13_7 == t160) = false := beq_eq_false_iff_ne.mpr c46
                                                            have c46b1 : (x13_7 != t160) = true := bne_iff_ne.mpr c46
                                                            have H' := Aside0.mk H
                                                            clear H
                                                            have p38 : 0 ≤ ((ji36) : Int) := of_decide_eq_true (by first | (with_reducible assumption) | assumption)
                                                            have q38 : (ji36) < (t157.size : Int) := of_decide_eq_true (by first | (with_reducible assumption) | assumption)
                                                            have hx38 := bt_at t157 (ji36)
                                                            replace p38 := eq_true p38
                                                            replace q38 := eq_true q38
                                                            have p42 : 0 ≤ ((ji39) : Int) := of_decide_eq_true (by first | (with_reducible assumption) | assumption)
                                                            have q42 : (ji39) < (t157.size : Int) := of_decide_eq_true (by first | (with_reducible assumption) | assumption)
                                                            have hx42 := bt_at t157 (ji39)
                                                            replace p42 := eq_true p42
                                                            replace q42 := eq_true q42
                                                            go_wp2
                                                            repeat (go_quiet (fail); try go_wp2)
                                                            go_roundg k7
                                                            case measure => have := HJ5.out; have := HJ11.out; have := HJ14.out; have := HK4.out; have := HK5.out; have := HJ30.out; have := HK7.out; omega
                                                            case rel => exact ⟨(wrap64 (x12_5 + 1)), (by first | rfl | (simp; done) | (simp [*]; done)), H', ⟨by have := HJ5.out; have := HJ11.out; have := HJ14.out; have := HK4.out; have := HK5.out; have := HJ30.out; have := HK7.out; omega⟩, ⟨by repeat (first | (with_reducible first | exact HB.out | apply below_alloc | apply pw_below_drewN | apply below_drew1) | exact HB.out)⟩⟩
                                                      · rw [if_neg c44] at H
                                                        have c44b0 : decide (t160 < x13_7) = false := decide_eq_false c44
                                                        clear c44
                                                        by_cases c49 : x13_7 = t160
                                                        · rw [if_pos c49] at H
                                                          have c49b0 : (x13_7 == t160) = true := beq_iff_eq.mpr c49
                                                          have c49b1 : (x13_7 != t160) = false := bne_eq_false_iff_eq.mpr c49
                                                          clear c49
                                                          by_cases c50 : t160 > 0
                                                          · rw [if_pos c50] at H
                                                            have c50b0 : decide (0 < t160) = true := decide_eq_true c50
                                                            clear c50
                                                            by_cases c51 : x12_5 < t159
                                                            · rw [if_pos c51] at H
                                                              have c51b0 : decide (x12_5 < t159) = true := decide_eq_true c51
                                                              clear c51
                                                              obtain rfl := Option.some.inj H
                                                              have p38 : 0 ≤ ((ji36) : Int) := of_decide_eq_true (by first | (with_reducible assumption) | assumption)
                                                              have q38 : (ji36) < (t157.size : Int) := of_decide_eq_true (by first | (with_reducible assumption) | assumption)
                                                              have hx38 := bt_at t157 (ji36)
                                                              replace p38 := eq_true p38
                                                              replace q38 := eq_true q38
                                                              have p42 : 0 ≤ ((ji39) : Int) := of_decide_eq_true (by first | (with_reducible assumption) | assumption)
                                                              have q42 : (ji39) < (t157.size : Int) := of_decide_eq_true (by first | (with_reducible assumption) | assumption)
                                                              have hx42 := bt_at t157 (ji39)
                                                              replace p42 := eq_true p42
                                                              replace q42 := eq_true q42
                                                              go_wp2
                                                              repeat (go_quiet (fail); try go_wp2)
                                                              go_ret
                                                              exact ⟨by first | rfl | (simp [errW_none, errW_some] <;> rfl) | (simp only [← hji36, ← hji39]; first | rfl | (simp [errW_none, errW_some] <;> rfl)) | (simp [*, errW_none, errW_some] <;> rfl) | (simp [Go.Proofs.Ytgglcpcfmhpcmaa.E.isEmpty_bne]; done) | (rw [Go.Proofs.Ytgglcpcfmhpcmaa.E.bne_empty]), by repeat (first | (with_reducible first | exact HB.out | apply below_alloc | apply pw_below_drewN | apply below_drew1) | exact HB.out)⟩
                                                            · rw [if_neg c51] at H
                                                              have c51b0 : decide (x12_5 < t159) = false := decide_eq_false c51
                                                              clear c51
                                                              have H' := Aside0.mk H
                                                              clear H
                                                              have p38 : 0 ≤ ((ji36) : Int) := of_decide_eq_true (by first | (with_reducible assumption) | assumption)
                                                              have q38 : (ji36) < (t157.size : Int) := of_decide_eq_true (by first | (with_reducible assumption) | assumption)
                                                              have hx38 := bt_at t157 (ji36)
                                                              replace p38 := eq_true p38
                                                              replace q38 := eq_true q38
                                                              have p42 : 0 ≤ ((ji39) : Int) := of_decide_eq_true (by first | (with_reducible assumption) | assumption)
                                                              have q42 : (ji39) < (t157.size : Int) := of_decide_eq_true (by first | (with_reducible assumption) | assumption)
                                                              have hx42 := bt_at t157 (ji39)
                                                              replace p42 := eq_true p42
                                                              replace q42 := eq_true q42
                                                              go_wp2
                                                              repeat (go_quiet (fail); try go_wp2)
                                                              go_roundg k7
                                                              case measure => have := HJ5.out; have := HJ11.out; have := HJ14.out; have := HK4.out; have := HK5.out; have := HJ30.out; have := HK7.out; omega
                                                              case rel => exact ⟨(wrap64 (x12_5 + 1)), (by first | rfl | (simp; done) | (simp [*]; done)), H', ⟨by have := HJ5.out; have := HJ11.out; have := HJ14.out; have := HK4.out; have := HK5.out; have := HJ30.out; have := HK7.out; omega⟩, ⟨by repeat (first | (with_reducible first | exact HB.out | apply below_alloc | apply pw_below_drewN | apply below_drew1) | exact HB.out)⟩⟩
                                                          · rw [if_neg c50] at H
                                                            have c50b0 : decide (0 < t160) = false := decide_eq_false c50
                                                            clear c50
                                                            have H' := Aside0.mk H
                                                            clear H
                                                            have p38 : 0 ≤ ((ji36) : Int) := of_decide_eq_true (by first | (with_reducible assumption) | assumption)
                                                            have q38 : (ji36) < (t157.size : Int) := of_decide_eq_true (by first | (with_reducible assumption) | assumption)
                                                            have hx38 := bt_at t157 (ji36)
                                                            replace p38 := eq_true p38
                                                            replace q38 := eq_true q38
                                                            have p42 : 0 ≤ ((ji39) : Int) := of_decide_eq_true (by first | (with_reducible assumption) | assumption)
                                                            have q42 : (ji39) < (t157.size : Int) := of_decide_eq_true (by first | (with_reducible assumption) | assumption)
                                                            have hx42 := bt_at t157 (ji39)
                                                            replace p42 := eq_true p42
                                                            replace q42 := eq_true q42
                                                            go_wp2
                                                            repeat (go_quiet (fail); try go_wp2)
                                                            go_roundg k7
                                                            case measure => have := HJ5.out; have := HJ11.out; have := HJ14.out; have := HK4.out; have := HK5.out; have := HJ30.out; have := HK7.out; omega
                                                            case rel => exact ⟨(wrap64 (x12_5 + 1)), (by first | rfl | (simp; done) | (simp [*]; done)), H', ⟨by have := HJ5.out; have := HJ11.out; have := HJ14.out; have := HK4.out; have := HK5.out; have := HJ30.out; have := HK7.out; omega⟩, ⟨by repeat (first | (with_reducible first | exact HB.out | apply below_alloc | apply pw_below_drewN | apply below_drew1) | exact HB.out)⟩⟩
                                                        · rw [if_neg c49] at H
                                                          have c49b0 : (x13_7 == t160) = false := beq_eq_false_iff_ne.mpr c49
                                                          have c49b1 : (x13_7 != t160) = true := bne_iff_ne.mpr c49
                                                          have H' := Aside0.mk H
                                                          clear H
                                                          have p38 : 0 ≤ ((ji36) : Int) := of_decide_eq_true (by first | (with_reducible assumption) | assumption)
                                                          have q38 : (ji36) < (t157.size : Int) := of_decide_eq_true (by first | (with_reducible assumption) | assumption)
                                                          have hx38 := bt_at t157 (ji36)
                                                          replace p38 := eq_true p38
                                                          replace q38 := eq_true q38
                                                          have p42 : 0 ≤ ((ji39) : Int) := of_decide_eq_true (by first | (with_reducible assumption) | assumption)
                                                          have q42 : (ji39) < (t157.size : Int) := of_decide_eq_true (by first | (with_reducible assumption) | assumption)
                                                          have hx42 := bt_at t157 (ji39)
                                                          replace p42 := eq_true p42
                                                          replace q42 := eq_true q42
                                                          go_wp2
                                                          repeat (go_quiet (fail); try go_wp2)
                                                          go_roundg k7
                                                          case measure => have := HJ5.out; have := HJ11.out; have := HJ14.out; have := HK4.out; have := HK5.out; have := HJ30.out; have := HK7.out; omega
                                                          case rel => exact ⟨(wrap64 (x12_5 + 1)), (by first | rfl | (simp; done) | (simp [*]; done)), H', ⟨by have := HJ5.out; have := HJ11.out; have := HJ14.out; have := HK4.out; have := HK5.out; have := HJ30.out; have := HK7.out; omega⟩, ⟨by repeat (first | (with_reducible first | exact HB.out | apply below_alloc | apply pw_below_drewN | apply below_drew1) | exact HB.out)⟩⟩
                                                  · rw [if_neg c41] at H
                                                    exact absurd H (by simp)
                                                · rw [if_neg c40] at H
                                                  exact absurd H (by simp)
                                              · rw [if_neg c37] at H
                                                exact absurd H (by simp)
                                            · rw [if_neg c35] at H
                                              have c35b0 : decide ((wrap64 (t158 + x13_7)) < (t157.size : Int)) = false := decide_eq_false c35
                                              clear c35
                                              by_cases c52 : x13_7 > t160
                                              · rw [if_pos c52] at H
                                                have c52b0 : decide (t160 < x13_7) = true := decide_eq_true c52
                                                clear c52
                                                by_cases c53 : x13_7 ≥ 3
                                                · rw [if_pos c53] at H
                                                  have c53b0 : decide (3 ≤ x13_7) = true := decide_eq_true c53
                                                  clear c53
                                                  obtain rfl := Option.some.inj H
                                                  go_wp2
                                                  repeat (go_quiet (fail); try go_wp2)
                                                  go_ret
                                                  exact ⟨by first | rfl | (simp [errW_none, errW_some] <;> rfl) | (simp [*, errW_none, errW_some] <;> rfl) | (simp [Go.Proofs.Ytgglcpcfmhpcmaa.E.isEmpty_bne]; done) | (rw [Go.Proofs.Ytgglcpcfmhpcmaa.E.bne_empty]), by repeat (first | (with_reducible first | exact HB.out | apply below_alloc | apply pw_below_drewN | apply below_drew1) | exact HB.out)⟩
                                                · rw [if_neg c53] at H
                                                  have c53b0 : decide (3 ≤ x13_7) = false := decide_eq_false c53
                                                  clear c53
                                                  by_cases c54 : x13_7 = t160
                                                  · rw [if_pos c54] at H
                                                    have c54b0 : (x13_7 == t160) = true := beq_iff_eq.mpr c54
                                                    have c54b1 : (x13_7 != t160) = false := bne_eq_false_iff_eq.mpr c54
                                                    clear c54
                                                    by_cases c55 : t160 > 0
                                                    · rw [if_pos c55] at H
                                                      have c55b0 : decide (0 < t160) = true := decide_eq_true c55
                                                      clear c55
                                                      by_cases c56 : x12_5 < t159
                                                      · rw [if_pos c56] at H
                                                        have c56b0 : decide (x12_5 < t159) = true := decide_eq_true c56
                                                        clear c56
                                                        obtain rfl := Option.some.inj H
                                                        go_wp2
                                                        repeat (go_quiet (fail); try go_wp2)
                                                        go_ret
                                                        exact ⟨by first | rfl | (simp [errW_none, errW_some] <;> rfl) | (simp [*, errW_none, errW_some] <;> rfl) | (simp [Go.Proofs.Ytgglcpcfmhpcmaa.E.isEmpty_bne]; done) | (rw [Go.Proofs.Ytgglcpcfmhpcmaa.E.bne_empty]), by repeat (first | (with_reducible first | exact HB.out | apply below_alloc | apply pw_below_drewN | apply below_drew1) | exact HB.out)⟩
                                                      · rw [if_neg c56] at H
                                                        have c56b0 : decide (x12_5 < t159) = false := decide_eq_false c56
                                                        clear c56
                                                        have H' := Aside0.mk H
                                                        clear H
                                                        go_wp2
                                                        repeat (go_quiet (fail); try go_wp2)
                                                        go_roundg k7
                                                        case measure => have := HJ5.out; have := HJ11.out; have := HJ14.out; have := HK4.out; have := HK5.out; have := HJ30.out; have := HK7.out; omega
                                                        case rel => exact ⟨(wrap64 (x12_5 + 1)), (by first | rfl | (simp; done) | (simp [*]; done)), H', ⟨by have := HJ5.out; have := HJ11.out; have := HJ14.out; have := HK4.out; have := HK5.out; have := HJ30.out; have := HK7.out; omega⟩, ⟨by repeat (first | (with_reducible first | exact HB.out | apply below_alloc | apply pw_below_drewN | apply below_drew1) | exact HB.out)⟩⟩
                                                    · rw [if_neg c55] at H
                                                      have c55b0 : decide (0 < t160) = false := decide_eq_false c55
                                                      clear c55
                                                      have H' := Aside0.mk H
                                                      clear H
                                                      go_wp2
                                                      repeat (go_quiet (fail); try go_wp2)
                                                      go_roundg k7
                                                      case measure => have := HJ5.out; have := HJ11.out; have := HJ14.out; have := HK4.out; have := HK5.out; have := HJ30.out; have := HK7.out; omega
                                                      case rel => exact ⟨(wrap64 (x12_5 + 1)), (by first | rfl | (simp; done) | (simp [*]; done)), H', ⟨by have := HJ5.out; have := HJ11.out; have := HJ14.out; have := HK4.out; have := HK5.out; have := HJ30.out; have := HK7.out; omega⟩, ⟨by repeat (first | (with_reducible first | exact HB.out | apply below_alloc | apply pw_below_drewN | apply below_drew1) | exact HB.out)⟩⟩
                                                  · rw [if_neg c54] at H
                                                    have c54b0 : (x13_7 == t160) = false := beq_eq_false_iff_ne.mpr c54
                                                    have c54b1 : (x13_7 != t160) = true := bne_iff_ne.mpr c54
                                                    have H' := Aside0.mk H
                                                    clear H
                                                    go_wp2
                                                    repeat (go_quiet (fail); try go_wp2)
                                                    go_roundg k7
                                                    case measure => have := HJ5.out; have := HJ11.out; have := HJ14.out; have := HK4.out; have := HK5.out; have := HJ30.out; have := HK7.out; omega
                                                    case rel => exact ⟨(wrap64 (x12_5 + 1)), (by first | rfl | (simp; done) | (simp [*]; done)), H', ⟨by have := HJ5.out; have := HJ11.out; have := HJ14.out; have := HK4.out; have := HK5.out; have := HJ30.out; have := HK7.out; omega⟩, ⟨by repeat (first | (with_reducible first | exact HB.out | apply below_alloc | apply pw_below_drewN | apply below_drew1) | exact HB.out)⟩⟩
                                              · rw [if_neg c52] at H
                                                have c52b0 : decide (t160 < x13_7) = false := decide_eq_false c52
                                                clear c52
                                                by_cases c57 : x13_7 = t160
                                                · rw [if_pos c57] at H
                                                  have c57b0 : (x13_7 == t160) = true := beq_iff_eq.mpr c57
                                                  have c57b1 : (x13_7 != t160) = false := bne_eq_false_iff_eq.mpr c57
                                                  clear c57
                                                  by_cases c58 : t160 > 0
                                                  · rw [if_pos c58] at H
                                                    have c58b0 : decide (0 < t160) = true := decide_eq_true c58
                                                    clear c58
                                                    by_cases c59 : x12_5 < t159
                                                    · rw [if_pos c59] at H
                                                      have c59b0 : decide (x12_5 < t159) = true := decide_eq_true c59
                                                      clear c59
                                                      obtain rfl := Option.some.inj H
                                                      go_wp2
                                                      repeat (go_quiet (fail); try go_wp2)
                                                      go_ret
                                                      exact ⟨by first | rfl | (simp [errW_none, errW_some] <;> rfl) | (simp [*, errW_none, errW_some] <;> rfl) | (simp [Go.Proofs.Ytgglcpcfmhpcmaa.E.isEmpty_bne]; done) | (rw [Go.Proofs.Ytgglcpcfmhpcmaa.E.bne_empty]), by repeat (first | (with_reducible first | exact HB.out | apply below_alloc | apply pw_below_drewN | apply below_drew1) | exact HB.out)⟩
                                                    · rw [if_neg c59] at H
                                                      have c59b0 : decide (x12_5 < t159) = false := decide_eq_false c59
                                                      clear c59
                                                      have H' := Aside0.mk H
                                                      clear H
                                                      go_wp2
                                                      repeat (go_quiet (fail); try go_wp2)
                                                      go_roundg k7
                                                      case measure => have := HJ5.out; have := HJ11.out; have := HJ14.out; have := HK4.out; have := HK5.out; have := HJ30.out; have := HK7.out; omega
                                                      case rel => exact ⟨(wrap64 (x12_5 + 1)), (by first | rfl | (simp; done) | (simp [*]; done)), H', ⟨by have := HJ5.out; have := HJ11.out; have := HJ14.out; have := HK4.out; have := HK5.out; have := HJ30.out; have := HK7.out; omega⟩, ⟨by repeat (first | (with_reducible first | exact HB.out | apply below_alloc | apply pw_below_drewN | apply below_drew1) | exact HB.out)⟩⟩
                                                  · rw [if_neg c58] at H
                                                    have c58b0 : decide (0 < t160) = false := decide_eq_false c58
                                                    clear c58
                                                    have H' := Aside0.mk H
                                                    clear H
                                                    go_wp2
                                                    repeat (go_quiet (fail); try go_wp2)
                                                    go_roundg k7
                                                    case measure => have := HJ5.out; have := HJ11.out; have := HJ14.out; have := HK4.out; have := HK5.out; have := HJ30.out; have := HK7.out; omega
                                                    case rel => exact ⟨(wrap64 (x12_5 + 1)), (by first | rfl | (simp; done) | (simp [*]; done)), H', ⟨by have := HJ5.out; have := HJ11.out; have := HJ14.out; have := HK4.out; have := HK5.out; have := HJ30.out; have := HK7.out; omega⟩, ⟨by repeat (first | (with_reducible first | exact HB.out | apply below_alloc | apply pw_below_drewN | apply below_drew1) | exact HB.out)⟩⟩
                                                · rw [if_neg c57] at H
                                                  have c57b0 : (x13_7 == t160) = false := beq_eq_false_iff_ne.mpr c57
                                                  have c57b1 : (x13_7 != t160) = true := bne_iff_ne.mpr c57
                                                  have H' := Aside0.mk H
                                                  clear H
                                                  go_wp2
                                                  repeat (go_quiet (fail); try go_wp2)
                                                  go_roundg k7
                                                  case measure => have := HJ5.out; have := HJ11.out; have := HJ14.out; have := HK4.out; have := HK5.out; have := HJ30.out; have := HK7.out; omega
                                                  case rel => exact ⟨(wrap64 (x12_5 + 1)), (by first | rfl | (simp; done) | (simp [*]; done)), H', ⟨by have := HJ5.out; have := HJ11.out; have := HJ14.out; have := HK4.out; have := HK5.out; have := HJ30.out; have := HK7.out; omega⟩, ⟨by repeat (first | (with_reducible first | exact HB.out | apply below_alloc | apply pw_below_drewN | apply below_drew1) | exact HB.out)⟩⟩
                                          · rw [if_neg c34] at H
                                            have c34b0 : decide (x13_7 < 66) = false := decide_eq_false c34
                                            clear c34
                                            by_cases c60 : x13_7 > t160
                                            · rw [if_pos c60] at H
                                              have c60b0 : decide (t160 < x13_7) = true := decide_eq_true c60
                                              clear c60
                                              by_cases c61 : x13_7 ≥ 3
                                              · rw [if_pos c61] at H
                                                have c61b0 : decide (3 ≤ x13_7) = true := decide_eq_true c61
                                                clear c61
                                                obtain rfl := Option.some.inj H
                                                go_wp2
                                                repeat (go_quiet (fail); try go_wp2)
                                                go_ret
                                                exact ⟨by first | rfl | (simp [errW_none, errW_some] <;> rfl) | (simp [*, errW_none, errW_some] <;> rfl) | (simp [Go.Proofs.Ytgglcpcfmhpcmaa.E.isEmpty_bne]; done) | (rw [Go.Proofs.Ytgglcpcfmhpcmaa.E.bne_empty]), by repeat (first | (with_reducible first | exact HB.out | apply below_alloc | apply pw_below_drewN | apply below_drew1) | exact HB.out)⟩
                                              · rw [if_neg c61] at H
                                                have c61b0 : decide (3 ≤ x13_7) = false := decide_eq_false c61
                                                clear c61
                                                by_cases c62 : x13_7 = t160
                                                · rw [if_pos c62] at H
                                                  have c62b0 : (x13_7 == t160) = true := beq_iff_eq.mpr c62
                                                  have c62b1 : (x13_7 != t160) = false := bne_eq_false_iff_eq.mpr c62
                                                  clear c62
                                                  by_cases c63 : t160 > 0
                                                  · rw [if_pos c63] at H
                                                    have c63b0 : decide (0 < t160) = true := decide_eq_true c63
                                                    clear c63
                                                    by_cases c64 : x12_5 < t159
                                                    · rw [if_pos c64] at H
                                                      have c64b0 : decide (x12_5 < t159) = true := decide_eq_true c64
                                                      clear c64
                                                      obtain rfl := Option.some.inj H
                                                      go_wp2
                                                      repeat (go_quiet (fail); try go_wp2)
                                                      go_ret
                                                      exact ⟨by first | rfl | (simp [errW_none, errW_some] <;> rfl) | (simp [*, errW_none, errW_some] <;> rfl) | (simp [Go.Proofs.Ytgglcpcfmhpcmaa.E.isEmpty_bne]; done) | (rw [Go.Proofs.Ytgglcpcfmhpcmaa.E.bne_empty]), by repeat (first | (with_reducible first | exact HB.out | apply below_alloc | apply pw_below_drewN | apply below_drew1) | exact HB.out)⟩
                                                    · rw [if_neg c64] at H
                                                      have c64b0 : decide (x12_5 < t159) = false := decide_eq_false c64
                                                      clear c64
                                                      have H' := Aside0.mk H
                                                      clear H
                                                      go_wp2
                                                      repeat (go_quiet (fail); try go_wp2)
                                                      go_roundg k7
                                                      case measure => have := HJ5.out; have := HJ11.out; have := HJ14.out; have := HK4.out; have := HK5.out; have := HJ30.out; have := HK7.out; omega
                                                      case rel => exact ⟨(wrap64 (x12_5 + 1)), (by first | rfl | (simp; done) | (simp [*]; done)), H', ⟨by have := HJ5.out; have := HJ11.out; have := HJ14.out; have := HK4.out; have := HK5.out; have := HJ30.out; have := HK7.out; omega⟩, ⟨by repeat (first | (with_reducible first | exact HB.out | apply below_alloc | apply pw_below_drewN | apply below_drew1) | exact HB.out)⟩⟩
                                                  · rw [if_neg c63] at H
                                                    have c63b0 : decide (0 < t160) = false := decide_eq_false c63
                                                    clear c63
                                                    have H' := Aside0.mk H
                                                    clear H
                                                    go_wp2
                                                    repeat (go_quiet (fail); try go_wp2)
                                                    go_roundg k7
                                                    case measure => have := HJ5.out; have := HJ11.out; have := HJ14.out; have := HK4.out; have := HK5.out; have := HJ30.out; have := HK7.out; omega
                                                    case rel => exact ⟨(wrap64 (x12_5 + 1)), (by first | rfl | (simp; done) | (simp [*]; done)), H', ⟨by have := HJ5.out; have := HJ11.out; have := HJ14.out; have := HK4.out; have := HK5.out; have := HJ30.out; have := HK7.out; omega⟩, ⟨by repeat (first | (with_reducible first | exact HB.out | apply below_alloc | apply pw_below_drewN | apply below_drew1) | exact HB.out)⟩⟩
                                                · rw [if_neg c62] at H
                                                  have c62b0 : (x13_7 == t160) = false := beq_eq_false_iff_ne.mpr c62
                                                  have c62b1 : (x13_7 != t160) = true := bne_iff_ne.mpr c62
                                                  have H' := Aside0.mk H
                                                  clear H
                                                  go_wp2
                                                  repeat (go_quiet (fail); try go_wp2)
                                                  go_roundg k7
                                                  case measure => have := HJ5.out; have := HJ11.out; have := HJ14.out; have := HK4.out; have := HK5.out; have := HJ30.out; have := HK7.out; omega
                                                  case rel => exact ⟨(wrap64 (x12_5 + 1)), (by first | rfl | (simp; done) | (simp [*]; done)), H', ⟨by have := HJ5.out; have := HJ11.out; have := HJ14.out; have := HK4.out; have := HK5.out; have := HJ30.out; have := HK7.out; omega⟩, ⟨by repeat (first | (with_reducible first | exact HB.out | apply below_alloc | apply pw_below_drewN | apply below_drew1) | exact HB.out)⟩⟩
                                            · rw [if_neg c60] at H
                                              have c60b0 : decide (t160 < x13_7) = false := decide_eq_false c60
                                              clear c60
                                              by_cases c65 : x13_7 = t160
                                              · rw [if_pos c65] at H
                                                have c65b0 : (x13_7 == t160) = true := beq_iff_eq.mpr c65
                                                have c65b1 : (x13_7 != t160) = false := bne_eq_false_iff_eq.mpr c65
                                                clear c65
                                                by_cases c66 : t160 > 0
                                                · rw [if_pos c66] at H
                                                  have c66b0 : decide (0 < t160) = true := decide_eq_true c66
                                                  clear c66
                                                  by_cases c67 : x12_5 < t159
                                                  · rw [if_pos c67] at H
                                                    have c67b0 : decide (x12_5 < t159) = true := decide_eq_true c67
                                                    clear c67
                                                    obtain rfl := Option.some.inj H
                                                    go_wp2
                                                    repeat (go_quiet (fail); try go_wp2)
                                                    go_ret
                                                    exact ⟨by first | rfl | (simp [errW_none, errW_some] <;> rfl) | (simp [*, errW_none, errW_some] <;> rfl) | (simp [Go.Proofs.Ytgglcpcfmhpcmaa.E.isEmpty_bne]; done) | (rw [Go.Proofs.Ytgglcpcfmhpcmaa.E.bne_empty]), by repeat (first | (with_reducible first | exact HB.out | apply below_alloc | apply pw_below_drewN | apply below_drew1) | exact HB.out)⟩
                                                  · rw [if_neg c67] at H
                                                    have c67b0 : decide (x12_5 < t159) = false := decide_eq_false c67
                                                    clear c67
                                                    have H' := Aside0.mk H
                                                    clear H
                                                    go_wp2
                                                    repeat (go_quiet (fail); try go_wp2)
                                                    go_roundg k7
                                                    case measure => have := HJ5.out; have := HJ11.out; have := HJ14.out; have := HK4.out; have := HK5.out; have := HJ30.out; have := HK7.out; omega
                                                    case rel => exact ⟨(wrap64 (x12_5 + 1)), (by first | rfl | (simp; done) | (simp [*]; done)), H', ⟨by have := HJ5.out; have := HJ11.out; have := HJ14.out; have := HK4.out; have := HK5.out; have := HJ30.out; have := HK7.out; omega⟩, ⟨by repeat (first | (with_reducible first | exact HB.out | apply below_alloc | apply pw_below_drewN | apply below_drew1) | exact HB.out)⟩⟩
                                                · rw [if_neg c66] at H
                                                  have c66b0 : decide (0 < t160) = false := decide_eq_false c66
                                                  clear c66
                                                  have H' := Aside0.mk H
                                                  clear H
                                                  go_wp2
                                                  repeat (go_quiet (fail); try go_wp2)
                                                  go_roundg k7
                                                  case measure => have := HJ5.out; have := HJ11.out; have := HJ14.out; have := HK4.out; have := HK5.out; have := HJ30.out; have := HK7.out; omega
                                                  case rel => exact ⟨(wrap64 (x12_5 + 1)), (by first | rfl | (simp; done) | (simp [*]; done)), H', ⟨by have := HJ5.out; have := HJ11.out; have := HJ14.out; have := HK4.out; have := HK5.out; have := HJ30.out; have := HK7.out; omega⟩, ⟨by repeat (first | (with_reducible first | exact HB.out | apply below_alloc | apply pw_below_drewN | apply below_drew1) | exact HB.out)⟩⟩
                                              · rw [if_neg c65] at H
                                                have c65b0 : (x13_7 == t160) = false := beq_eq_false_iff_ne.mpr c65
                                                have c65b1 : (x13_7 != t160) = true := bne_iff_ne.mpr c65
                                                have H' := Aside0.mk H
                                                clear H
                                                go_wp2
                                                repeat (go_quiet (fail); try go_wp2)
                                                go_roundg k7
                                                case measure => have := HJ5.out; have := HJ11.out; have := HJ14.out; have := HK4.out; have := HK5.out; have := HJ30.out; have := HK7.out; omega
                                                case rel => exact ⟨(wrap64 (x12_5 + 1)), (by first | rfl | (simp; done) | (simp [*]; done)), H', ⟨by have := HJ5.out; have := HJ11.out; have := HJ14.out; have := HK4.out; have := HK5.out; have := HJ30.out; have := HK7.out; omega⟩, ⟨by repeat (first | (with_reducible first | exact HB.out | apply below_alloc | apply pw_below_drewN | apply below_drew1) | exact HB.out)⟩⟩
                                    · replace c33 := Bool.eq_false_iff.mpr c33
                                      subst c33
                                      have H1 : (some true) = some r := by rw [if_neg (show ¬ (false = true) by decide)] at H; exact H
                                      clear H
                                      have H := H1
                                      clear H1
                                      obtain rfl := Option.some.inj H
                                      go_wp2
                                      repeat (go_quiet (fail); try go_wp2)
                                      go_ret
                                      exact ⟨by first | rfl | (simp [errW_none, errW_some] <;> rfl) | (simp [*, errW_none, errW_some] <;> rfl) | (simp [Go.Proofs.Ytgglcpcfmhpcmaa.E.isEmpty_bne]; done) | (rw [Go.Proofs.Ytgglcpcfmhpcmaa.E.bne_empty]), by repeat (first | (with_reducible first | exact HB.out | apply below_alloc | apply pw_below_drewN | apply below_drew1) | exact HB.out)⟩

/-- THE ONE PURE STATEMENT of laws_FnLongest: yours. -/
def laws_FnLongest.Pure : Prop := ∀ (l0 : List Int), l0.length ≤ maxLen → l0.length * 1 ≤ 140737488351232 → (∀ x ∈ l0, (Lit.int .u8 x).wf = true) → ∃ k, laws_FnLongest.f k l0 = some true
theorem laws_FnLongest.walk (P : laws_FnLongest.Pure) (a0 : Option Addr) (len0 cap0 : Nat) (z0 : List Int) (w : World) (w0 : (a0 = none ∧ len0 = 0 ∧ cap0 = 0 ∧ z0 = []) ∨ ∃ x, a0 = some x ∧ len0 ≤ cap0 ∧ cap0 ≤ maxLen ∧ z0.length = cap0 ∧ (∀ i, i < z0.length → w.cell? (x.add i) = some (.int .u8 (z0.getD i 0))) ∧ ∀ n ∈ z0, (Lit.int .u8 n).wf = true) (y0 : len0 * 1 ≤ 140737488351232) :
    Calls Try.prog 7 #[.slice a0 len0 cap0] w fun e w' => e = .returned (.bool true) ∧ Below w.heap.size w w' := by
  obtain ⟨l0, rfl, hr0, hm0, hw0, hc0⟩ := ReadsInt.ofRowC w0
  obtain ⟨k, h⟩ := P l0 hm0 y0 hw0
  refine (laws_FnLongest.calls k _ _ l0 true w (Kd.C_of_reads (d := (0 : Int)) (h1 := fun _ => rfl) hr0) hc0 h).mono ?_
  rintro e w' ⟨rfl, hd⟩
  exact ⟨rfl, hd⟩

end Go.Proofs.Ytgglcpcfmhpcmaa.PFnLongest
