import Derived.Test.YtacfalpgmibfnaaFPut1
import Derived.Test.YtacfalpgmibfnaaProg
import Derived.Below
import Derived.Deep.Draws
import Derived.Deep.AppendLies
import Derived.Maps.AppendAt
import Derived.OwnWalk
import Derived.Laws.BytesArg
import Derived.Laws.MakeOwn
import Derived.Laws.OwnMore
import Derived.Deep.OwnRows
import Derived.Tactics
import Derived.Lib.ConvBytes
import Derived.Laws.Slices
import Derived.WalkKit
import Derived.KernelRfl
import Derived.RowKit3
import Derived.Deep.LoopGhost
import Derived.Deep.QuietTactic
import Derived.BigQuiet
import Derived.WideLaws
import Derived.Deep.DeepCutAuto
import Derived.Deep.CutBlock
import Derived.Deep.RegionHeld3
import Derived.Laws.Rows
import Derived.Lib.AppendStr
import Derived.ArgAppend
import Derived.Laws.IdiomCopy
import Derived.OrdersHeld
import Derived.Laws.BitsLemmas
import Derived.RowKit
namespace Go.Proofs.Ytacfalpgmibfnaa.PCow
open Go.RowKit Go.Proofs.YtacfalpgmibfnaaW.PrintWords Go.Proofs.YtacfalpgmibfnaaW.PrintLast Go.Proofs.YtacfalpgmibfnaaW.PrintMore
attribute [local go_sem] max2_int min2_int max_two min_two max_three min_three max_four min_four
set_option linter.unusedVariables false
set_option linter.unusedSimpArgs false
def errW : Option Int → Value
 | none => .nilIface
 | some c => .iface 0 (.int .i64 c)
theorem errW_none : errW none = .nilIface := rfl
theorem errW_some (c : Int) : errW (some c) = .iface 0 (.int .i64 c) := rfl
theorem info3 : (Try.prog.info? 3).map (fun i => (i.zero, i.size, i.bytes)) = some (some (.int .i64 0), 1, 8) := by kernel_rfl
theorem info68 : (Try.prog.info? 68).map (fun i => (i.zero, i.size, i.bytes)) = some (some (.agg #[(.int .i64 0), (.string ⟨#[]⟩), (.slice none 0 0)]), 3, 48) := by kernel_rfl
structure S68 where
 f0 : Int
 f1 : ByteArray
 f2 : (List Int)
def z68 : S68 := ⟨(0 : Int), (⟨#[]⟩ : ByteArray), ([] : List Int)⟩
def k68 : Kd S68 := Kd.iso (Kd.pair (Kd.int .i64) (Kd.pair Kd.string (Kd.slice 3 (Kd.int .i64)))) (fun x : S68 => (x.f0, x.f1, x.f2))
theorem k68_heap : Kd.Heap k68 := Kd.heap_iso _ (Kd.heap_pair (Kd.heap_int .i64) (Kd.heap_pair Kd.heap_string (Kd.heap_slice 3 (Kd.heap_int .i64))))
theorem k68_open {w : World} {x : S68} {cs : List Value} (h : k68.K w x cs) : ∃ A2 c2, cs = [.int .i64 x.f0, .string x.f1, .slice A2 x.f2.length c2] ∧ x.f2.length ≤ c2 ∧ (Kd.int .i64).C w A2 x.f2.length x.f2 := by
 obtain ⟨_, _, rfl, rfl, ⟨_, _, rfl, rfl, ⟨A2, c2, rfl, l2, g2⟩⟩⟩ := h
 exact ⟨A2, c2, rfl, l2, g2⟩
theorem k68_openM {w : World} {base : Nat} {ok : Nat → Prop} {x : S68} {cs : List Value} (h : k68.M w base ok x cs) : ∃ v2, cs = [.int .i64 x.f0, .string x.f1, v2] ∧ (Kd.int .i64).R 3 w base ok v2 x.f2 := by
 obtain ⟨_, _, rfl, rfl, ⟨_, _, rfl, rfl, ⟨v2, rfl, g2⟩⟩⟩ := h
 exact ⟨v2, rfl, g2⟩
theorem k68_mkM (w : World) (base : Nat) (ok : Nat → Prop) (x : S68) {v2 : Value} (g2 : (Kd.int .i64).R 3 w base ok v2 x.f2) : k68.M w base ok x [.int .i64 x.f0, .string x.f1, v2] := ⟨[.int .i64 x.f0], [.string x.f1, v2], rfl, rfl, ⟨[.string x.f1], [v2], rfl, rfl, ⟨v2, rfl, g2⟩⟩⟩
def rd_T68 (xs : List S68) (i : Int) : S68 := xs.getD i.toNat z68
theorem at_T68 {w : World} {A : Option Addr} {n : Nat} {xs : List S68} (h : Kd.C k68 w A n xs) (i : Int) (h0 : 0 ≤ i) (h1 : i < n) : ∃ ad A2 c2, A = some ad ∧ w.cell? (ad.add (i.toNat * 3)) = some (.int .i64 (rd_T68 xs i).f0) ∧ w.cell? ⟨(ad.add (i.toNat * 3)).block, (ad.add (i.toNat * 3)).off + 1, none⟩ = some (.string (rd_T68 xs i).f1) ∧ w.cell? ⟨(ad.add (i.toNat * 3)).block, (ad.add (i.toNat * 3)).off + 2, none⟩ = some (.slice A2 (rd_T68 xs i).f2.length c2) ∧ (rd_T68 xs i).f2.length ≤ c2 ∧ (Kd.int .i64).C w A2 (rd_T68 xs i).f2.length (rd_T68 xs i).f2 := by
 obtain ⟨ad, c, e, _, hK, hc0⟩ := Kd.C_get h z68 i h0 h1
 have hc : ∀ j u, c[j]? = some u → w.cell? (ad.add (i.toNat * 3 + j)) = some u := hc0
 obtain ⟨A2, c2, rfl, l2, g2⟩ := k68_open hK
 exact ⟨ad, A2, c2, e, hc 0 _ rfl, by rw [← add_field _ _ 1 (by omega)]; exact hc 1 _ rfl, by rw [← add_field _ _ 2 (by omega)]; exact hc 2 _ rfl, l2, g2⟩
structure S99 where
 f0 : Int
 f1 : ByteArray
 f2 : (List Int)
def z99 : S99 := ⟨(0 : Int), (⟨#[]⟩ : ByteArray), ([] : List Int)⟩
def k99 : Kd S99 := Kd.iso (Kd.pair (Kd.int .i64) (Kd.pair Kd.string (Kd.slice 3 (Kd.int .i64)))) (fun x : S99 => (x.f0, x.f1, x.f2))
theorem k99_open {w : World} {x : S99} {cs : List Value} (h : k99.K w x cs) : ∃ A2 c2, cs = [.int .i64 x.f0, .string x.f1, .slice A2 x.f2.length c2] ∧ x.f2.length ≤ c2 ∧ (Kd.int .i64).C w A2 x.f2.length x.f2 := by
 obtain ⟨_, _, rfl, rfl, ⟨_, _, rfl, rfl, ⟨A2, c2, rfl, l2, g2⟩⟩⟩ := h
 exact ⟨A2, c2, rfl, l2, g2⟩
def rd_T99 (xs : List S99) (i : Int) : S99 := xs.getD i.toNat z99
theorem at_T99 {w : World} {A : Option Addr} {n : Nat} {xs : List S99} (h : Kd.C k99 w A n xs) (i : Int) (h0 : 0 ≤ i) (h1 : i < n) : ∃ ad A2 c2, A = some ad ∧ w.cell? (ad.add (i.toNat * 3)) = some (.int .i64 (rd_T99 xs i).f0) ∧ w.cell? ⟨(ad.add (i.toNat * 3)).block, (ad.add (i.toNat * 3)).off + 1, none⟩ = some (.string (rd_T99 xs i).f1) ∧ w.cell? ⟨(ad.add (i.toNat * 3)).block, (ad.add (i.toNat * 3)).off + 2, none⟩ = some (.slice A2 (rd_T99 xs i).f2.length c2) ∧ (rd_T99 xs i).f2.length ≤ c2 ∧ (Kd.int .i64).C w A2 (rd_T99 xs i).f2.length (rd_T99 xs i).f2 := by
 obtain ⟨ad, c, e, _, hK, hc0⟩ := Kd.C_get h z99 i h0 h1
 have hc : ∀ j u, c[j]? = some u → w.cell? (ad.add (i.toNat * 3 + j)) = some u := hc0
 obtain ⟨A2, c2, rfl, l2, g2⟩ := k99_open hK
 exact ⟨ad, A2, c2, e, hc 0 _ rfl, by rw [← add_field _ _ 1 (by omega)]; exact hc 1 _ rfl, by rw [← add_field _ _ 2 (by omega)]; exact hc 2 _ rfl, l2, g2⟩
structure S25 where
 f0 : (List S68)
 f1 : (List Int)
 f2 : Int
end Go.Proofs.Ytacfalpgmibfnaa.PCow
namespace Go.Proofs.Ytacfalpgmibfnaa.PCow
open Go.RowKit Go.Proofs.YtacfalpgmibfnaaW.PrintWords Go.Proofs.YtacfalpgmibfnaaW.PrintLast Go.Proofs.YtacfalpgmibfnaaW.PrintMore
attribute [local go_sem] max2_int min2_int max_two min_two max_three min_three max_four min_four
set_option linter.unusedVariables false
set_option linter.unusedSimpArgs false
def spec_l1In.f (a0 : Int) (a1 : Int) (a2 : Int) : Option (Bool) := if a0 ≥ a1 then (some (decide (a0 ≤ a2))) else (some false)
set_option maxHeartbeats 8000000 in
set_option maxRecDepth 100000 in
theorem spec_l1In.calls (a0 : Int) (a1 : Int) (a2 : Int) (r : Bool) (w : World) (h : spec_l1In.f a0 a1 a2 = some r) :
  Calls Try.prog 44 #[.int .i64 a0, .int .i64 a1, .int .i64 a2] w fun e w' => e = .returned (.bool r) ∧ Drawn0 w w' := by
 have H : (if a0 ≥ a1 then (some (decide (a0 ≤ a2))) else (some false)) = some r := h
 clear h
 by_cases c4 : a0 ≥ a1
 ·rw [if_pos c4] at H
  have c4b0 : decide (a1 ≤ a0) = true := decide_eq_true c4
  clear c4
  obtain rfl := Option.some.inj H
  go_enter Try.func44, Try.ntmps44
  go_wp2
  go_ret
  exact ⟨by first | rfl | (simp; done) | (simp [*]; done), by repeat (first | exact Drawn0.refl _ | apply Drawn0.step)⟩
 ·rw [if_neg c4] at H
  have c4b0 : decide (a1 ≤ a0) = false := decide_eq_false c4
  clear c4
  obtain rfl := Option.some.inj H
  go_enter Try.func44, Try.ntmps44
  go_wp2
  go_ret
  exact ⟨by first | rfl | (simp; done) | (simp [*]; done), by repeat (first | exact Drawn0.refl _ | apply Drawn0.step)⟩
def impl_within.f (a0 : Int) (a1 : Int) (a2 : Int) : Option (Bool) := if a0 ≥ a1 then (some (decide (a0 ≤ a2))) else (some false)
set_option maxHeartbeats 8000000 in
set_option maxRecDepth 100000 in
theorem impl_within.calls (a0 : Int) (a1 : Int) (a2 : Int) (r : Bool) (w : World) (h : impl_within.f a0 a1 a2 = some r) :
  Calls Try.prog 45 #[.int .i64 a0, .int .i64 a1, .int .i64 a2] w fun e w' => e = .returned (.bool r) ∧ Drawn0 w w' := by
 have H : (if a0 ≥ a1 then (some (decide (a0 ≤ a2))) else (some false)) = some r := h
 clear h
 by_cases c4 : a0 ≥ a1
 ·rw [if_pos c4] at H
  have c4b0 : decide (a1 ≤ a0) = true := decide_eq_true c4
  clear c4
  obtain rfl := Option.some.inj H
  go_enter Try.func45, Try.ntmps45
  go_wp2
  go_ret
  exact ⟨by first | rfl | (simp; done) | (simp [*]; done), by repeat (first | exact Drawn0.refl _ | apply Drawn0.step)⟩
 ·rw [if_neg c4] at H
  have c4b0 : decide (a1 ≤ a0) = false := decide_eq_false c4
  clear c4
  obtain rfl := Option.some.inj H
  go_enter Try.func45, Try.ntmps45
  go_wp2
  go_ret
  exact ⟨by first | rfl | (simp; done) | (simp [*]; done), by repeat (first | exact Drawn0.refl _ | apply Drawn0.step)⟩
end Go.Proofs.Ytacfalpgmibfnaa.PCow
namespace Go.Proofs.Ytacfalpgmibfnaa.PCow
open Go.RowKit Go.Proofs.YtacfalpgmibfnaaW.PrintWords Go.Proofs.YtacfalpgmibfnaaW.PrintLast Go.Proofs.YtacfalpgmibfnaaW.PrintMore Go.Proofs.Ytacfalpgmibfnaa.E
set_option linter.unusedSimpArgs false
set_option linter.unusedVariables false
theorem away {α : Type} {d : Kd α} {w : World} {P : Nat → Prop} {A : Option Addr} {n : Nat} {xs : List α} (hs : 0 < d.sz) (h : ∀ W_, Kept w W_ (fun k_ => P k_) → d.C W_ A n xs) (hn : 0 < n) {ad : Addr} (hA : A = some ad) : ¬ P ad.block ∧ ad.block < w.heap.size := by
 have key : ∀ W_, Kept w W_ (fun k_ => P k_) → ∃ u, W_.cell? (ad.add 0) = some u := by
  intro W hk
  obtain ⟨hl, _, hc⟩ := h W hk
  obtain ⟨ad', e, hc⟩ := hc hn
  rw [hA] at e
  cases e
  obtain ⟨x, hx⟩ : ∃ x, xs[0]? = some x := ⟨_, List.getElem?_eq_getElem (by omega)⟩
  obtain ⟨c, hc1, hc2, hc3⟩ := hc 0 x hx
  obtain ⟨u, hu⟩ : ∃ u, c[0]? = some u := ⟨_, List.getElem?_eq_getElem (by omega)⟩
  have := hc3 0 u hu
  exact ⟨u, by simpa using this⟩
 obtain ⟨u0, h0⟩ := key w (Kept.refl _ _)
 have hlt : ad.block < w.heap.size := by
  have := World.block_lt_of_cell? w _ h0
  rwa [add_block] at this
 refine ⟨fun hP => ?_, hlt⟩
 obtain ⟨u, hu⟩ := key { w with heap := w.heap.setIfInBounds ad.block (.map #[] 0) } ⟨by simp, fun i hi hn => by
  have hne : ad.block ≠ i := fun e => hn (e ▸ hP)
  simp [Array.getElem?_setIfInBounds, hne]⟩
 unfold World.cell? at hu
 rw [add_block] at hu
 simp [Array.getElem?_setIfInBounds, hlt] at hu
theorem cell_at {w : World} {P : Nat → Prop} {A : Option Addr} {xs : List S68} (h : ∀ W_, Kept w W_ (fun k_ => P k_) → Kd.C k68 W_ A xs.length xs) (i : Int) (h0 : 0 ≤ i) (h1 : i < xs.length) :
  ∃ ad A2 c2, A = some ad ∧ (rd_T68 xs i).f2.length ≤ c2 ∧ ∀ W_, Kept w W_ (fun k_ => P k_) → W_.cell? (ad.add (i.toNat * 3)) = some (.int .i64 (rd_T68 xs i).f0) ∧ W_.cell? ⟨(ad.add (i.toNat * 3)).block, (ad.add (i.toNat * 3)).off + 1, none⟩ = some (.string (rd_T68 xs i).f1) ∧ W_.cell? ⟨(ad.add (i.toNat * 3)).block, (ad.add (i.toNat * 3)).off + 2, none⟩ = some (.slice A2 (rd_T68 xs i).f2.length c2) ∧ (Kd.int .i64).C W_ A2 (rd_T68 xs i).f2.length (rd_T68 xs i).f2 := by
 obtain ⟨ad, A2, c2, e, a0, a1, a2, hl, _⟩ := at_T68 (h w (Kept.refl _ _)) i h0 (by omega)
 obtain ⟨hP, hlt⟩ := away (d := k68) (by decide) h (by omega) e
 refine ⟨ad, A2, c2, e, hl, fun W hk => ?_⟩
 obtain ⟨ad', A2', c2', e', b0, b1, b2, _, hC⟩ := at_T68 (h W hk) i h0 (by omega)
 rw [e] at e'
 cases e'
 have e2 := cell_kept a2 hk (show ¬ P (ad.add (i.toNat * 3)).block by rw [add_block]; exact hP)
 rw [b2] at e2
 injection e2 with e2
 injection e2 with e3 e4 e5
 subst e3
 subst e5
 exact ⟨b0, b1, b2, hC⟩
end Go.Proofs.Ytacfalpgmibfnaa.PCow
namespace Go.Proofs.Ytacfalpgmibfnaa.PCow
open Go.RowKit Go.Proofs.YtacfalpgmibfnaaW.PrintWords Go.Proofs.YtacfalpgmibfnaaW.PrintLast Go.Proofs.YtacfalpgmibfnaaW.PrintMore Go.Proofs.Ytacfalpgmibfnaa.E
set_option linter.unusedSimpArgs false
set_option linter.unusedVariables false
def loopK (F : Int → List Int → Option (Bool × List Int)) : List Int → List Int → Option (Bool × List Int)
 | [], s => some (true, s)
 | q :: r, s => (F q s).bind fun t => if t.1 = true then loopK F r t.2 else some (false, t.2)
def okLeaf (x : S68) : Bool := if x.f2.length = 0 then decide (1 ≤ (x.f1.size : Int) ∧ (x.f1.size : Int) ≤ 8) else false
def someKid (ks : List Int) : Bool := ks.any fun k => decide (k ≥ 0)
def okNode (x : S68) : Bool := if someKid x.f2 = true then (if (x.f2.length : Int) = 4 then decide (x.f1.size = 0) else false) else false
def deepM (C : List S68) : Nat → Int → List Int → Option (Bool × List Int)
 | 0, _, _ => none
 | lev + 1, k, seen =>
  if k = -1 then some (true, seen)
  else if 0 ≤ k ∧ k ≤ (C.length : Int) - 1 then
   if k < (seen.length : Int) then
    let s1 := seen.set k.toNat (wrap64 (rd seen k + 1))
    if wrap64 (rd seen k + 1) > 1 then some (true, s1)
    else if lev = 0 then some (okLeaf (rd_T68 C k), s1)
    else (loopK (deepM C lev) (rd_T68 C k).f2 s1).bind fun t => if t.1 = true then some (okNode (rd_T68 C k), t.2) else some (false, t.2)
   else none
  else some (false, seen)
theorem someKid_take (ks : List Int) (k : Nat) (h : k < ks.length) : someKid (ks.take (k + 1)) = (someKid (ks.take k) || decide (rd ks (k : Int) ≥ 0)) := by
 have er : rd ks (k : Int) = ks[k] := by
  unfold rd
  rw [List.getD_eq_getElem?_getD, Int.toNat_natCast, List.getElem?_eq_getElem h]
  rfl
 unfold someKid
 rw [List.take_succ_eq_append_getElem h, List.any_append, er]
 simp
set_option maxHeartbeats 2000000 in
set_option maxRecDepth 100000 in
theorem deep_calls (C : List S68) : ∀ (lev : Nat) (A0 : Option Addr) (c0 : Nat) (A1 : Option Addr) (c1 : Nat) (l1 : List Int) (a2 k : Int) (P : Nat → Prop) (u : Value) (seen : List Int) (r1 : Bool) (r2 : List Int) (w0 w : World) (hB : Below w0.heap.size w0 w)
  (hr0 : ∀ W_, Kept w W_ (fun k_ => P k_) → Kd.C k68 W_ A0 C.length C) (hc0 : C.length ≤ c0) (hu : (Kd.int .i64).R 3 w w0.heap.size (fun _ => True) u seen) (hP : ∀ k, u.ownBlock = some k → P k ∧ k < w.heap.size) (hlev : lev ≤ 3) (h : deepM C lev k seen = some (r1, r2)),
  Calls Try.prog 54 #[.agg #[.slice A0 C.length c0, .slice A1 l1.length c1, .int .i64 a2], .int .i64 k, .int .i64 lev, u] w fun e w' => e = .returned (.bool r1) ∧ (Kd.int .i64).R 3 w' w0.heap.size (fun _ => True) u r2 ∧ Below w0.heap.size w0 w' ∧ Kept w w' (fun k_ => P k_) := by
 intro lev
 induction lev with
 | zero => intro A0 c0 A1 c1 l1 a2 k P u seen r1 r2 w0 w hB hr0 hc0 hu hP hlev h; cases h
 | succ lev ih =>
  intro A0 c0 A1 c1 l1 a2 k P u seen r1 r2 w0 w hB hr0 hc0 hu hP hlev h
  have hu25 := Try.underlying25
  have hu68 := Try.underlying68
  have hn0 : C.length ≤ 9223372036854775807 := (hr0 w (Kept.refl _ _)).2.1
  have HR := Aside0.mk hr0
  have HU := Aside0.mk hu
  have HP := Aside0.mk hP
  have HB := Aside0.mk hB
  have HS := Aside0.mk hB.size
  have IH := Aside0.mk ih
  have HL := Aside0.mk hlev
  simp only [deepM] at h
  clear hr0 hu hP hB ih hlev
  by_cases hk1 : k = -1
  ·subst hk1
   rw [if_pos rfl] at h
   simp only [Option.some.injEq, Prod.mk.injEq] at h
   obtain ⟨rfl, rfl⟩ := h
   go_enter Try.func54, Try.ntmps54
   go_wp2
   go_ret
   exact ⟨rfl, Kd.R_alloc HU.out _, HB.out.alloc HS.out _, (Kept.refl _ _).alloc _⟩
  rw [if_neg hk1] at h
  have hk1' : (k == -1) = false := beq_eq_false_iff_ne.2 hk1
  clear hk1
  obtain ⟨W1, hW1⟩ : ∃ W, w.alloc (.cells #[.slice A0 C.length c0, .slice A1 l1.length c1, .int .i64 a2] 25) = W := ⟨_, rfl⟩
  have X1 := Aside0.mk (show W1.heap[w.heap.size]? = some (.cells #[.slice A0 C.length c0, .slice A1 l1.length c1, .int .i64 a2] 25 (0, 0)) by rw [← hW1]; exact heap_alloc_new w _)
  have B1 := Aside0.mk (show Below w0.heap.size w0 W1 by rw [← hW1]; exact HB.out.alloc HS.out _)
  have K1 := Aside0.mk (show Kept w W1 (fun k_ => P k_) by rw [← hW1]; exact (Kept.refl _ _).alloc _)
  have U1 := Aside0.mk (show (Kd.int .i64).R 3 W1 w0.heap.size (fun _ => True) u seen by rw [← hW1]; exact Kd.R_alloc HU.out _)
  by_cases hin : 0 ≤ k ∧ k ≤ (C.length : Int) - 1
  ·rw [if_pos hin] at h
   have hw := Aside0.mk (show spec_l1In.f k 0 ((C.length : Int) - 1) = some true by
    unfold spec_l1In.f
    rw [if_pos (by omega)]
    simp; omega)
   by_cases hks : k < (seen.length : Int)
   ·rw [if_pos hks] at h
    obtain ⟨g, cap, hv, hg1, hg2, cs, hgc⟩ := Kd.R_form U1.out (by omega)
    subst hv
    obtain ⟨ad, A2, c2, hA0, hlen, hcell⟩ := cell_at HR.out k hin.1 (by omega)
    subst hA0
    have hcell' := Aside0.mk hcell
    have hgP := HP.out g rfl
    obtain ⟨x, hx⟩ : ∃ x, rd_T68 C k = x := ⟨_, rfl⟩
    obtain ⟨v, hv⟩ : ∃ v, wrap64 (rd seen k + 1) = v := ⟨_, rfl⟩
    rw [hx] at hcell' hlen h
    rw [hv] at h
    have HV := Aside0.mk hv
    have hx2 : x.f2.length ≤ 9223372036854775807 := (hcell'.out w (Kept.refl _ _)).2.2.2.2.1
    have p1 : (0 ≤ k) = True := eq_true hin.1
    have p2 : (k < (C.length : Int)) = True := eq_true (by omega)
    have p3 : (k < (seen.length : Int)) = True := eq_true hks
    have S2 : ∀ nd, Aside0 (((W1.drewN nd).setCell ⟨g, k.toNat, none⟩ (.int .i64 v)).heap[w.heap.size]? = some (.cells #[.slice (some ad) C.length c0, .slice A1 l1.length c1, .int .i64 a2] 25 (0, 0)) ∧ Below w0.heap.size w0 ((W1.drewN nd).setCell ⟨g, k.toNat, none⟩ (.int .i64 v)) ∧ Kept w ((W1.drewN nd).setCell ⟨g, k.toNat, none⟩ (.int .i64 v)) (fun k_ => P k_) ∧ (Kd.int .i64).R 3 ((W1.drewN nd).setCell ⟨g, k.toNat, none⟩ (.int .i64 v)) w0.heap.size (fun _ => True) (.slice (some ⟨g, 0, none⟩) seen.length cap) (seen.set k.toNat v)) := fun nd =>
     ⟨blk_far (blk_drewN X1.out nd) (p := ⟨g, k.toNat, none⟩) (by show w.heap.size ≠ g; omega) _, below_set (pw_below_drewN B1.out nd) hg1, (K1.out.drewN nd).setCell (.inl hgP.1) _, Kd.R_putn (Kd.R_drewN U1.out nd) k _⟩
    have q1 : W1.cell? ⟨g, k.toNat, none⟩ = some (.int .i64 (rd seen k)) := (Kd.R_celln (d := (0 : Int)) U1.out k hin.1 hks).1
    have qf1 : W1.frozen? ⟨g, k.toNat, none⟩ = false := (Kd.R_celln (d := (0 : Int)) U1.out k hin.1 hks).2
    have e0 : W1.cell? ⟨w.heap.size, 0, none⟩ = some (.slice (some ad) C.length c0) := (blk_cell X1.out _).trans rfl
    have hcv : rd (seen.set k.toNat v) k = v := by
     unfold rd
     rw [List.getD_eq_getElem?_getD, List.getElem?_set_self (by omega)]
     rfl
    have T2 : ∀ nd, Aside0 (∃ w2, (W1.drewN nd).setCell ⟨g, k.toNat, none⟩ (.int .i64 v) = w2 ∧ w2.heap[w.heap.size]? = some (.cells #[.slice (some ad) C.length c0, .slice A1 l1.length c1, .int .i64 a2] 25 (0, 0)) ∧ Below w0.heap.size w0 w2 ∧ Kept w w2 (fun k_ => P k_) ∧ (Kd.int .i64).R 3 w2 w0.heap.size (fun _ => True) (.slice (some ⟨g, 0, none⟩) seen.length cap) (seen.set k.toNat v) ∧ w2.cell? ⟨g, k.toNat, none⟩ = some (.int .i64 v)) := fun nd => ⟨_, rfl, (S2 nd).out.1, (S2 nd).out.2.1, (S2 nd).out.2.2.1, (S2 nd).out.2.2.2, by
     have := (Kd.R_celln (d := (0 : Int)) (S2 nd).out.2.2.2 k hin.1 hks).1
     rw [show rdOf (0 : Int) (seen.set k.toNat v) k = v from hcv] at this
     exact this⟩
    clear S2 hcv
    clear hin hks hx
    go_enter Try.func54, Try.ntmps54
    go_wp2_with (go_at_call 44; refine (spec_l1In.calls k 0 ((C.length : Int) - 1) true _ hw.out).mono ?_)
    (first | rintro e w' rfl ⟨⟨nd, rfl⟩⟩ | rintro e w' ⟨rfl, ⟨⟨nd, rfl⟩⟩⟩)
    obtain ⟨w2, hw2, hX2, hB2, hK2, hU2, cv2⟩ := (T2 nd).out
    have X2 := Aside0.mk hX2
    have B2 := Aside0.mk hB2
    have K2 := Aside0.mk hK2
    have U2 := Aside0.mk hU2
    clear T2 hX2 hB2 hK2 hU2 X1 B1 K1 U1 HU HB
    by_cases hgt : v > 1
    ·rw [if_pos hgt] at h
     simp only [Option.some.injEq, Prod.mk.injEq] at h
     obtain ⟨rfl, rfl⟩ := h
     have hgt' : decide (1 < v) = true := decide_eq_true hgt
     clear hgt
     go_wp2
     go_ret
     exact ⟨rfl, U2.out, B2.out, K2.out⟩
    ·rw [if_neg hgt] at h
     have hgt' : decide (1 < v) = false := decide_eq_false hgt
     clear hgt
     have e0' : w2.cell? ⟨w.heap.size, 0, none⟩ = some (.slice (some ad) C.length c0) := (blk_cell X2.out _).trans rfl
     obtain ⟨hx0, hx1, hx2', hxC⟩ := hcell'.out w2 K2.out
     have HXC := Aside0.mk hxC
     clear hxC
     by_cases hl0 : lev = 0
     ·subst hl0
      rw [if_pos rfl] at h
      simp only [Option.some.injEq, Prod.mk.injEq] at h
      obtain ⟨h, rfl⟩ := h
      by_cases hk0 : x.f2.length = 0
      ·have hr1 := Aside0.mk (show spec_l1In.f (x.f1.size : Int) 1 8 = some r1 by
        rw [← h]
        unfold okLeaf spec_l1In.f
        rw [if_pos hk0]
        by_cases h1 : (x.f1.size : Int) ≥ 1
        ·rw [if_pos h1]; simp; omega
        ·rw [if_neg h1]; simp; omega)
       have hkz : ((x.f2.length : Int) == 0) = true := by simp [hk0]
       have hkz' : ((x.f2.length : Int) = 0) = True := eq_true (by omega)
       clear h hk0
       go_wp2_with (go_at_call 44; refine (spec_l1In.calls (x.f1.size : Int) 1 8 r1 _ hr1.out).mono ?_)
       (first | rintro e w' rfl ⟨⟨nd2, rfl⟩⟩ | rintro e w' ⟨rfl, ⟨⟨nd2, rfl⟩⟩⟩)
       go_wp2
       go_ret
       exact ⟨rfl, Kd.R_drewN (Kd.R_alloc U2.out _) nd2, pw_below_drewN (B2.out.alloc B2.out.size _) nd2, (K2.out.alloc _).drewN nd2⟩
      ·have hkz : ((x.f2.length : Int) == 0) = false := beq_eq_false_iff_ne.2 (by omega)
       have hkz' : ((x.f2.length : Int) = 0) = False := eq_false (by omega)
       obtain rfl : r1 = false := by rw [← h]; unfold okLeaf; rw [if_neg hk0]
       clear h hk0
       go_wp2
       go_ret
       exact ⟨rfl, Kd.R_alloc U2.out _, B2.out.alloc B2.out.size _, K2.out.alloc _⟩
     ·rw [if_neg hl0] at h
      have hl1 : ((lev : Int) + 1 == 1) = false := beq_eq_false_iff_ne.2 (by omega)
      have hl1' : ((lev : Int) + 1 = 1) = False := eq_false (by omega)
      have hl2 : ((lev : Int) = 0) = False := eq_false (by omega)
      have hgs := Aside0.mk (show g < w.heap.size from hgP.2)
      have hgp := Aside0.mk hgP.1
      obtain ⟨⟨b, s'⟩, hloop, hres⟩ := Option.bind_eq_some_iff.1 h
      have HLp := Aside0.mk hloop
      have HRs := Aside0.mk (show (if b = true then some (okNode x, s') else some (false, s')) = some (r1, r2) from hres)
      have hszw := Aside0.mk (show w.heap.size < w2.heap.size from blk_lt X2.out)
      clear h hloop hres hl0 hgP
      go_wp2
      obtain ⟨yb, hyb⟩ : ∃ yb, w2.heap.size = yb := ⟨_, rfl⟩
      have hyw := Aside0.mk (show w.heap.size < yb by rw [← hyb]; exact hszw.out)
      obtain ⟨w3, hw3⟩ : ∃ W, w2.alloc (.cells #[.int .i64 x.f0, .string x.f1, .slice A2 x.f2.length c2] 68) = W := ⟨_, rfl⟩
      have X3 := Aside0.mk (show w3.heap[w.heap.size]? = some (.cells #[.slice (some ad) C.length c0, .slice A1 l1.length c1, .int .i64 a2] 25 (0, 0)) by rw [← hw3]; exact blk_alloc X2.out _)
      have Y3 := Aside0.mk (show w3.heap[yb]? = some (.cells #[.int .i64 x.f0, .string x.f1, .slice A2 x.f2.length c2] 68 (0, 0)) by rw [← hw3, ← hyb]; exact heap_alloc_new w2 _)
      have B3 := Aside0.mk (show Below w0.heap.size w0 w3 by rw [← hw3]; exact B2.out.alloc B2.out.size _)
      have K3 := Aside0.mk (show Kept w w3 (fun k_ => P k_) by rw [← hw3]; exact K2.out.alloc _)
      have U3 := Aside0.mk (show (Kd.int .i64).R 3 w3 w0.heap.size (fun _ => True) (.slice (some ⟨g, 0, none⟩) seen.length cap) (seen.set k.toNat v) by rw [← hw3]; exact Kd.R_alloc U2.out _)
      rw [hw3, hyb]
      clear hv hw3 hyb hw2 hszw X2 B2 K2 U2 cv2 e0' e0 hx0 hx1 hx2' HXC q1 qf1
      go_loopw [10, 53] (fun vs vi wr => ∃ (q : Nat) (s : List Int), q ≤ x.f2.length ∧ vi = .int .i64 q ∧ vs = .bool (someKid (x.f2.take q)) ∧ Aside0 (loopK (deepM C lev) (x.f2.drop q) s = some (b, s')) ∧ Aside0 ((Kd.int .i64).R 3 wr w0.heap.size (fun _ => True) (.slice (some ⟨g, 0, none⟩) seen.length cap) s) ∧ Aside0 (wr.heap[w.heap.size]? = some (.cells #[.slice (some ad) C.length c0, .slice A1 l1.length c1, .int .i64 a2] 25 (0, 0))) ∧ Aside0 (wr.heap[yb]? = some (.cells #[.int .i64 x.f0, .string x.f1, .slice A2 x.f2.length c2] 68 (0, 0))) ∧ Aside0 (Below w0.heap.size w0 wr) ∧ Aside0 (Kept w wr (fun k_ => P k_))) (fun _ vi _ => x.f2.length - (intOf vi).toNat)
      case atStart => exact ⟨0, _, Nat.zero_le _, rfl, rfl, ⟨by rw [List.drop_zero]; exact HLp.out⟩, U3, X3, Y3, B3, K3⟩
      case round =>
       clear X3 Y3 B3 K3 U3 HLp
       obtain ⟨q, s, hq, rfl, rfl, HLq, U3, X3, Y3, B3, K3⟩ := hrel
       have e0 : wr.cell? ⟨w.heap.size, 0, none⟩ = some (.slice (some ad) C.length c0) := (blk_cell X3.out _).trans rfl
       have e1 : wr.cell? ⟨w.heap.size, 1, none⟩ = some (.slice A1 l1.length c1) := (blk_cell X3.out _).trans rfl
       have e2 : wr.cell? ⟨w.heap.size, 2, none⟩ = some (.int .i64 a2) := (blk_cell X3.out _).trans rfl
       have y1 : wr.cell? ⟨yb, 1, none⟩ = some (.string x.f1) := (blk_cell Y3.out _).trans rfl
       have y2 : wr.cell? ⟨yb, 2, none⟩ = some (.slice A2 x.f2.length c2) := (blk_cell Y3.out _).trans rfl
       by_cases hql : q < x.f2.length
       ·obtain ⟨ad2, e3, hy⟩ := Kd.at_int (hcell'.out wr K3.out).2.2.2 (q : Int) (by omega) (by omega)
        subst e3
        simp only [Int.toNat_natCast] at hy
        obtain ⟨z, hz⟩ : ∃ z, rd x.f2 (q : Int) = z := ⟨_, rfl⟩
        have hsk := someKid_take x.f2 q hql
        rw [hz] at hy hsk
        have hd : x.f2.drop q = z :: x.f2.drop (q + 1) := by
         rw [List.drop_eq_getElem_cons hql, ← hz]
         congr 1
         unfold rd
         rw [List.getD_eq_getElem?_getD, Int.toNat_natCast, List.getElem?_eq_getElem hql]
         rfl
        obtain ⟨⟨b1, s1⟩, h1, h2⟩ := Option.bind_eq_some_iff.1 (show (deepM C lev z s).bind (fun t => if t.1 = true then loopK (deepM C lev) (x.f2.drop (q + 1)) t.2 else some (false, t.2)) = some (b, s') by
         have := HLq.out
         rw [hd] at this
         exact this)
        have H1 := Aside0.mk h1
        have H2 := Aside0.mk (show (if b1 = true then loopK (deepM C lev) (x.f2.drop (q + 1)) s1 else some (false, s1)) = some (b, s') from h2)
        have hqq : ((q : Int) < (x.f2.length : Int)) = True := eq_true (by omega)
        have hwl : wrap64 (lev : Int) = (lev : Int) := w64 (by have := HL.out; omega) (by have := HL.out; omega)
        have hcall := Aside0.mk (IH.out (some ad) c0 A1 c1 l1 a2 z (fun k_ => P k_ ∧ k_ < w.heap.size) _ s b1 s1 w0 wr B3.out (fun W hk => HR.out W (K3.out.then_ hk (fun _ h3 => .inl h3.1))) hc0 U3.out (fun j hj => by
         have : g = j := by simpa [Value.ownBlock] using hj
         subst this
         exact ⟨⟨hgp.out, hgs.out⟩, by have := K3.out.1; have := hgs.out; omega⟩) (by have := HL.out; omega) h1)
        clear h1 h2 hd hz HLq
        rcases (show (someKid (x.f2.take q) = true ∧ someKid (x.f2.take (q + 1)) = true) ∨ (someKid (x.f2.take q) = false ∧ decide (0 ≤ z) = true ∧ someKid (x.f2.take (q + 1)) = true) ∨ (someKid (x.f2.take q) = false ∧ decide (0 ≤ z) = false ∧ someKid (x.f2.take (q + 1)) = false) by
         cases hb1 : someKid (x.f2.take q) with
         | true => exact .inl ⟨rfl, by rw [hsk, hb1]; rfl⟩
         | false =>
          by_cases hz0 : 0 ≤ z
          ·exact .inr (.inl ⟨rfl, decide_eq_true hz0, by rw [hsk, hb1]; simp; omega⟩)
          ·exact .inr (.inr ⟨rfl, decide_eq_false hz0, by rw [hsk, hb1]; simp; omega⟩)) with ⟨hb, hb'⟩ | ⟨hb, hz0, hb'⟩ | ⟨hb, hz0, hb'⟩
        all_goals
         have HBB := Aside0.mk hb'
         clear hb' hsk
         go_wp2_with (go_at_call 54; (with_reducible refine hcall.out.mono ?_))
         (first | rintro e w4 rfl hU4 hB4 hK4 | rintro e w4 ⟨rfl, hU4, hB4, hK4⟩)
         have X4 := Aside0.mk (blk_kept X3.out hK4 (fun h3 => by have := h3.2; omega))
         have Y4 := Aside0.mk (blk_kept Y3.out hK4 (fun h3 => by have := h3.2; have := hyw.out; omega))
         have K4 := Aside0.mk (K3.out.then_ hK4 (fun _ h3 => .inl h3.1))
         have U4 := Aside0.mk hU4
         have B4 := Aside0.mk hB4
         clear hU4 hB4 hK4 e0 e1 e2 y1 y2 hcall
         cases b1 with
         | true =>
          have H3 := Aside0.mk (show loopK (deepM C lev) (x.f2.drop (q + 1)) s1 = some (b, s') from H2.out)
          go_wp2
          go_roundw
          case rel => exact ⟨q + 1, s1, hql, by go_num, by rw [HBB.out], H3, U4, X4, Y4, B4, K4⟩
          case measure => simp [intOf]; omega
         | false =>
          have H3 : some (false, s1) = some (b, s') := H2.out
          simp only [Option.some.injEq, Prod.mk.injEq] at H3
          obtain ⟨rfl, rfl⟩ := H3
          have H4 : some (false, s1) = some (r1, r2) := HRs.out
          simp only [Option.some.injEq, Prod.mk.injEq] at H4
          obtain ⟨rfl, rfl⟩ := H4
          clear HRs H1 H2 HBB
          go_wp2
          go_ret
          exact ⟨rfl, U4.out, B4.out, K4.out⟩
       ·have hqq : ((q : Int) < (x.f2.length : Int)) = False := eq_false (by omega)
        have h3 := HLq.out
        rw [List.drop_of_length_le (by omega)] at h3
        simp only [loopK, Option.some.injEq, Prod.mk.injEq] at h3
        obtain ⟨rfl, rfl⟩ := h3
        have h4 : some (okNode x, s) = some (r1, r2) := HRs.out
        simp only [Option.some.injEq, Prod.mk.injEq] at h4
        obtain ⟨h4, rfl⟩ := h4
        have hsk : someKid (x.f2.take q) = someKid x.f2 := by rw [List.take_of_length_le (by omega)]
        rw [hsk]
        unfold okNode at h4
        clear hql hq HLq HRs hsk
        cases hb : someKid x.f2 with
        | false =>
         rw [hb, if_neg (by simp)] at h4
         subst h4
         go_wp2
         go_ret
         exact ⟨rfl, U3.out, B3.out, K3.out⟩
        | true =>
         rw [hb, if_pos rfl] at h4
         by_cases h5 : (x.f2.length : Int) = 4
         ·rw [if_pos h5] at h4
          have h5' : ((x.f2.length : Int) == 4) = true := by simpa using h5
          have h5'' : ((x.f2.length : Int) = 4) = True := eq_true h5
          clear h5
          by_cases h6 : x.f1.size = 0
          ·have h7 : (x.f1.toList = []) = True := eq_true (ba_nil.2 h6)
           have h8 : x.f1.toList.isEmpty = true := by rw [ba_nil.2 h6]; rfl
           obtain rfl : r1 = true := by rw [← h4]; simpa using h6
           clear h6 h4
           go_wp2
           go_ret
           exact ⟨rfl, U3.out, B3.out, K3.out⟩
          ·have h7 : (x.f1.toList = []) = False := eq_false (fun h9 => h6 (ba_nil.1 h9))
           have h8 : x.f1.toList.isEmpty = false := by
            cases h9 : x.f1.toList with
            | nil => exact absurd (ba_nil.1 h9) h6
            | cons a b => rfl
           obtain rfl : r1 = false := by rw [← h4]; simpa using h6
           clear h6 h4
           go_wp2
           go_ret
           exact ⟨rfl, U3.out, B3.out, K3.out⟩
         ·rw [if_neg h5] at h4
          have h5' : ((x.f2.length : Int) == 4) = false := beq_eq_false_iff_ne.2 h5
          have h5'' : ((x.f2.length : Int) = 4) = False := eq_false h5
          subst h4
          clear h5
          go_wp2
          go_ret
          exact ⟨rfl, U3.out, B3.out, K3.out⟩
   ·exact absurd (show none = some (r1, r2) by rw [if_neg hks] at h; exact h) (by simp)
  ·rw [if_neg hin] at h
   simp only [Option.some.injEq, Prod.mk.injEq] at h
   obtain ⟨rfl, rfl⟩ := h
   have hw := Aside0.mk (show spec_l1In.f k 0 ((C.length : Int) - 1) = some false by
    unfold spec_l1In.f
    split
    ·simp; omega
    ·rfl)
   have e0 : W1.cell? ⟨w.heap.size, 0, none⟩ = some (.slice A0 C.length c0) := (blk_cell X1.out _).trans rfl
   clear hin
   go_enter Try.func54, Try.ntmps54
   go_wp2_with (go_at_call 44; refine (spec_l1In.calls k 0 ((C.length : Int) - 1) false _ hw.out).mono ?_)
   (first | rintro e w' rfl ⟨⟨nd, rfl⟩⟩ | rintro e w' ⟨rfl, ⟨⟨nd, rfl⟩⟩⟩)
   go_wp2
   go_ret
   exact ⟨rfl, Kd.R_drewN U1.out nd, pw_below_drewN B1.out nd, K1.out.drewN nd⟩
end Go.Proofs.Ytacfalpgmibfnaa.PCow
namespace Go.Proofs.Ytacfalpgmibfnaa.PCow
open Go.RowKit Go.Proofs.YtacfalpgmibfnaaW.PrintWords Go.Proofs.YtacfalpgmibfnaaW.PrintLast Go.Proofs.YtacfalpgmibfnaaW.PrintMore Go.Proofs.Ytacfalpgmibfnaa.E
set_option linter.unusedSimpArgs false
set_option linter.unusedVariables false
def levM (C : List S68) : Nat → Int → List Int → Option (Bool × List Int)
 | 0, k, at_ => if k = -1 then some (true, at_) else if 0 ≤ k ∧ k < (at_.length : Int) then (if rd at_ k = 0 then some (true, at_) else some (false, at_)) else none
 | lev + 1, k, at_ => if k = -1 then some (true, at_) else if 0 ≤ k ∧ k < (at_.length : Int) then (if rd at_ k = 0 then (if k < (C.length : Int) then loopK (levM C lev) (rd_T68 C k).f2 (at_.set k.toNat ((lev : Int) + 1)) else none) else if rd at_ k = (lev : Int) + 1 then some (true, at_) else some (false, at_)) else none
set_option maxHeartbeats 2000000 in
set_option maxRecDepth 100000 in
theorem lev_calls (C : List S68) : ∀ (lev : Nat) (A0 : Option Addr) (c0 : Nat) (A1 : Option Addr) (c1 : Nat) (l1 : List Int) (a2 k : Int) (P : Nat → Prop) (u : Value) (seen : List Int) (r1 : Bool) (r2 : List Int) (w0 w : World) (hB : Below w0.heap.size w0 w)
  (hr0 : ∀ W_, Kept w W_ (fun k_ => P k_) → Kd.C k68 W_ A0 C.length C) (hc0 : C.length ≤ c0) (hu : (Kd.int .i64).R 3 w w0.heap.size (fun _ => True) u seen) (hP : ∀ k, u.ownBlock = some k → P k ∧ k < w.heap.size) (hlev : lev ≤ 3) (h : levM C lev k seen = some (r1, r2)),
  Calls Try.prog 55 #[.agg #[.slice A0 C.length c0, .slice A1 l1.length c1, .int .i64 a2], .int .i64 k, .int .i64 lev, u] w fun e w' => e = .returned (.bool r1) ∧ (Kd.int .i64).R 3 w' w0.heap.size (fun _ => True) u r2 ∧ Below w0.heap.size w0 w' ∧ Kept w w' (fun k_ => P k_) := by
 intro lev
 induction lev with
 | zero =>
  intro A0 c0 A1 c1 l1 a2 k P u seen r1 r2 w0 w hB hr0 hc0 hu hP hlev h
  have hu25 := Try.underlying25
  have HU := Aside0.mk hu
  have HB := Aside0.mk hB
  simp only [levM] at h
  clear hr0 hu hP hB
  by_cases hk1 : k = -1
  ·subst hk1
   rw [if_pos rfl] at h
   simp only [Option.some.injEq, Prod.mk.injEq] at h
   obtain ⟨rfl, rfl⟩ := h
   go_enter Try.func55, Try.ntmps55
   go_wp2
   go_ret
   exact ⟨rfl, Kd.R_alloc HU.out _, HB.out.alloc HB.out.size _, (Kept.refl _ _).alloc _⟩
  rw [if_neg hk1] at h
  have hk1' : (k == -1) = false := beq_eq_false_iff_ne.2 hk1
  clear hk1
  by_cases hin : 0 ≤ k ∧ k < (seen.length : Int)
  ·rw [if_pos hin] at h
   obtain ⟨g, cap, hv, hg1, hg2, cs, hgc⟩ := Kd.R_form HU.out (by omega)
   subst hv
   have q1 : w.cell? ⟨g, k.toNat, none⟩ = some (.int .i64 (rd seen k)) := (Kd.R_celln (d := (0 : Int)) HU.out k hin.1 hin.2).1
   have p1 : (0 ≤ k) = True := eq_true hin.1
   have p3 : (k < (seen.length : Int)) = True := eq_true hin.2
   have HG := Aside0.mk (show g < w.heap.size from hg2)
   clear hg2 hin hgc
   have q2 : (w.alloc (.cells #[.slice A0 C.length c0, .slice A1 l1.length c1, .int .i64 a2] 25)).cell? ⟨g, k.toNat, none⟩ = some (.int .i64 (rd seen k)) := pw_cell_below (below_alloc (Below.refl _ _) _) q1
   by_cases hz : rd seen k = 0
   ·rw [if_pos hz] at h
    simp only [Option.some.injEq, Prod.mk.injEq] at h
    obtain ⟨rfl, rfl⟩ := h
    rw [hz] at q1 q2
    clear hz
    go_enter Try.func55, Try.ntmps55
    go_wp2
    go_ret
    exact ⟨rfl, Kd.R_alloc HU.out _, HB.out.alloc HB.out.size _, (Kept.refl _ _).alloc _⟩
   ·rw [if_neg hz] at h
    simp only [Option.some.injEq, Prod.mk.injEq] at h
    obtain ⟨rfl, rfl⟩ := h
    have hz1 : (rd seen k == 0) = false := beq_eq_false_iff_ne.2 hz
    have hz2 : (rd seen k != 0) = true := bne_iff_ne.2 hz
    have hz3 : (rd seen k = 0) = False := eq_false hz
    clear hz
    go_enter Try.func55, Try.ntmps55
    go_wp2
    go_ret
    exact ⟨rfl, Kd.R_alloc HU.out _, HB.out.alloc HB.out.size _, (Kept.refl _ _).alloc _⟩
  ·rw [if_neg hin] at h
   cases h
 | succ lev ih =>
  intro A0 c0 A1 c1 l1 a2 k P u seen r1 r2 w0 w hB hr0 hc0 hu hP hlev h
  have hu25 := Try.underlying25
  have hu68 := Try.underlying68
  have hn0 : C.length ≤ 9223372036854775807 := (hr0 w (Kept.refl _ _)).2.1
  have HR := Aside0.mk hr0
  have HU := Aside0.mk hu
  have HP := Aside0.mk hP
  have HB := Aside0.mk hB
  have HS := Aside0.mk hB.size
  have IH := Aside0.mk ih
  have HL := Aside0.mk hlev
  simp only [levM] at h
  clear hr0 hu hP hB ih hlev
  by_cases hk1 : k = -1
  ·subst hk1
   rw [if_pos rfl] at h
   simp only [Option.some.injEq, Prod.mk.injEq] at h
   obtain ⟨rfl, rfl⟩ := h
   go_enter Try.func55, Try.ntmps55
   go_wp2
   go_ret
   exact ⟨rfl, Kd.R_alloc HU.out _, HB.out.alloc HS.out _, (Kept.refl _ _).alloc _⟩
  rw [if_neg hk1] at h
  have hk1' : (k == -1) = false := beq_eq_false_iff_ne.2 hk1
  clear hk1
  by_cases hin : 0 ≤ k ∧ k < (seen.length : Int)
  ·rw [if_pos hin] at h
   obtain ⟨W1, hW1⟩ : ∃ W, w.alloc (.cells #[.slice A0 C.length c0, .slice A1 l1.length c1, .int .i64 a2] 25) = W := ⟨_, rfl⟩
   have X1 := Aside0.mk (show W1.heap[w.heap.size]? = some (.cells #[.slice A0 C.length c0, .slice A1 l1.length c1, .int .i64 a2] 25 (0, 0)) by rw [← hW1]; exact heap_alloc_new w _)
   have B1 := Aside0.mk (show Below w0.heap.size w0 W1 by rw [← hW1]; exact HB.out.alloc HS.out _)
   have K1 := Aside0.mk (show Kept w W1 (fun k_ => P k_) by rw [← hW1]; exact (Kept.refl _ _).alloc _)
   have U1 := Aside0.mk (show (Kd.int .i64).R 3 W1 w0.heap.size (fun _ => True) u seen by rw [← hW1]; exact Kd.R_alloc HU.out _)
   obtain ⟨g, cap, hv, hg1, hg2, cs, hgc⟩ := Kd.R_form U1.out (by omega)
   subst hv
   have hgP := HP.out g rfl
   have p1 : (0 ≤ k) = True := eq_true hin.1
   have p3 : (k < (seen.length : Int)) = True := eq_true hin.2
   have q1 : W1.cell? ⟨g, k.toNat, none⟩ = some (.int .i64 (rd seen k)) := (Kd.R_celln (d := (0 : Int)) U1.out k hin.1 hin.2).1
   have qf1 : W1.frozen? ⟨g, k.toNat, none⟩ = false := (Kd.R_celln (d := (0 : Int)) U1.out k hin.1 hin.2).2
   by_cases hz : rd seen k = 0
   ·rw [if_pos hz] at h
    by_cases hC : k < (C.length : Int)
    ·rw [if_pos hC] at h
     obtain ⟨ad, A2, c2, hA0, hlen, hcell⟩ := cell_at HR.out k hin.1 hC
     subst hA0
     have hcell' := Aside0.mk hcell
     clear hcell
     obtain ⟨x, hx⟩ : ∃ x, rd_T68 C k = x := ⟨_, rfl⟩
     rw [hx] at hcell' hlen h
     have hx2 : x.f2.length ≤ 9223372036854775807 := (hcell'.out w (Kept.refl _ _)).2.2.2.2.1
     have p2 : (k < (C.length : Int)) = True := eq_true hC
     have hl2 : ((0 : Int) = (lev : Int) + 1) = False := eq_false (by omega)
     have hl3 : ((0 : Int) == (lev : Int) + 1) = false := beq_eq_false_iff_ne.2 (by omega)
     have hgs := Aside0.mk (show g < w.heap.size from hgP.2)
     have hgp := Aside0.mk hgP.1
     obtain ⟨w2, hw2, hX2, hB2, hK2, hU2⟩ : ∃ w2, W1.setCell ⟨g, k.toNat, none⟩ (.int .i64 ((lev : Int) + 1)) = w2 ∧ w2.heap[w.heap.size]? = some (.cells #[.slice (some ad) C.length c0, .slice A1 l1.length c1, .int .i64 a2] 25 (0, 0)) ∧ Below w0.heap.size w0 w2 ∧ Kept w w2 (fun k_ => P k_) ∧ (Kd.int .i64).R 3 w2 w0.heap.size (fun _ => True) (.slice (some ⟨g, 0, none⟩) seen.length cap) (seen.set k.toNat ((lev : Int) + 1)) :=
      ⟨_, rfl, blk_far X1.out (p := ⟨g, k.toNat, none⟩) (by show w.heap.size ≠ g; omega) _, below_set B1.out hg1, K1.out.setCell (.inl hgP.1) _, Kd.R_putn U1.out k _⟩
     have X2 := Aside0.mk hX2
     have B2 := Aside0.mk hB2
     have K2 := Aside0.mk hK2
     have U2 := Aside0.mk hU2
     have HLp := Aside0.mk h
     rw [hz] at q1
     have e0' : w2.cell? ⟨w.heap.size, 0, none⟩ = some (.slice (some ad) C.length c0) := (blk_cell X2.out _).trans rfl
     obtain ⟨hx0, hx1, hx2', _⟩ := hcell'.out w2 K2.out
     clear hz hC hin hx hX2 hB2 hK2 hU2 h hgP X1 B1 K1 U1 HU HB
     go_enter Try.func55, Try.ntmps55
     go_wp2
     clear hW1 hw2 e0' hx0 hx1 hx2' q1 qf1
     go_loopw [43] (fun vi wr => ∃ (q : Nat) (s : List Int), q ≤ x.f2.length ∧ vi = .int .i64 q ∧ Aside0 (loopK (levM C lev) (x.f2.drop q) s = some (r1, r2)) ∧ Aside0 ((Kd.int .i64).R 3 wr w0.heap.size (fun _ => True) (.slice (some ⟨g, 0, none⟩) seen.length cap) s) ∧ Aside0 (wr.heap[w.heap.size]? = some (.cells #[.slice (some ad) C.length c0, .slice A1 l1.length c1, .int .i64 a2] 25 (0, 0))) ∧ Aside0 (Below w0.heap.size w0 wr) ∧ Aside0 (Kept w wr (fun k_ => P k_))) (fun vi _ => x.f2.length - (intOf vi).toNat)
     case atStart => exact ⟨0, _, Nat.zero_le _, rfl, ⟨by rw [List.drop_zero]; exact HLp.out⟩, U2, X2, B2, K2⟩
     case round =>
      clear X2 B2 K2 U2 HLp
      obtain ⟨q, s, hq, rfl, HLq, U3, X3, B3, K3⟩ := hrel
      have e0 : wr.cell? ⟨w.heap.size, 0, none⟩ = some (.slice (some ad) C.length c0) := (blk_cell X3.out _).trans rfl
      have e1 : wr.cell? ⟨w.heap.size, 1, none⟩ = some (.slice A1 l1.length c1) := (blk_cell X3.out _).trans rfl
      have e2 : wr.cell? ⟨w.heap.size, 2, none⟩ = some (.int .i64 a2) := (blk_cell X3.out _).trans rfl
      by_cases hql : q < x.f2.length
      ·obtain ⟨ad2, e3, hy⟩ := Kd.at_int (hcell'.out wr K3.out).2.2.2 (q : Int) (by omega) (by omega)
       subst e3
       simp only [Int.toNat_natCast] at hy
       obtain ⟨z, hz⟩ : ∃ z, rd x.f2 (q : Int) = z := ⟨_, rfl⟩
       rw [hz] at hy
       have hd : x.f2.drop q = z :: x.f2.drop (q + 1) := by
        rw [List.drop_eq_getElem_cons hql, ← hz]
        congr 1
        unfold rd
        rw [List.getD_eq_getElem?_getD, Int.toNat_natCast, List.getElem?_eq_getElem hql]
        rfl
       obtain ⟨⟨b1, s1⟩, h1, h2⟩ := Option.bind_eq_some_iff.1 (show (levM C lev z s).bind (fun t => if t.1 = true then loopK (levM C lev) (x.f2.drop (q + 1)) t.2 else some (false, t.2)) = some (r1, r2) by
        have := HLq.out
        rw [hd] at this
        exact this)
       have H2 := Aside0.mk (show (if b1 = true then loopK (levM C lev) (x.f2.drop (q + 1)) s1 else some (false, s1)) = some (r1, r2) from h2)
       have hqq : ((q : Int) < (x.f2.length : Int)) = True := eq_true (by omega)
       have hwl : wrap64 (lev : Int) = (lev : Int) := w64 (by have := HL.out; omega) (by have := HL.out; omega)
       have hcall := Aside0.mk (IH.out (some ad) c0 A1 c1 l1 a2 z (fun k_ => P k_ ∧ k_ < w.heap.size) _ s b1 s1 w0 wr B3.out (fun W hk => HR.out W (K3.out.then_ hk (fun _ h3 => .inl h3.1))) hc0 U3.out (fun j hj => by
        have : g = j := by simpa [Value.ownBlock] using hj
        subst this
        exact ⟨⟨hgp.out, hgs.out⟩, by have := K3.out.1; have := hgs.out; omega⟩) (by have := HL.out; omega) h1)
       clear h1 h2 hd hz HLq
       go_wp2_with (go_at_call 55; (with_reducible refine hcall.out.mono ?_))
       (first | rintro e w4 rfl hU4 hB4 hK4 | rintro e w4 ⟨rfl, hU4, hB4, hK4⟩)
       have X4 := Aside0.mk (blk_kept X3.out hK4 (fun h3 => by have := h3.2; omega))
       have K4 := Aside0.mk (K3.out.then_ hK4 (fun _ h3 => .inl h3.1))
       have U4 := Aside0.mk hU4
       have B4 := Aside0.mk hB4
       clear hU4 hB4 hK4 e0 e1 e2 hcall
       cases b1 with
       | true =>
        have H3 := Aside0.mk (show loopK (levM C lev) (x.f2.drop (q + 1)) s1 = some (r1, r2) from H2.out)
        go_wp2
        go_roundw
        case rel => exact ⟨q + 1, s1, hql, by go_num, H3, U4, X4, B4, K4⟩
        case measure => simp [intOf]; omega
       | false =>
        have H3 : some (false, s1) = some (r1, r2) := H2.out
        simp only [Option.some.injEq, Prod.mk.injEq] at H3
        obtain ⟨rfl, rfl⟩ := H3
        clear H2
        go_wp2
        go_ret
        exact ⟨rfl, U4.out, B4.out, K4.out⟩
      ·have hqq : ((q : Int) < (x.f2.length : Int)) = False := eq_false (by omega)
       have h3 := HLq.out
       rw [List.drop_of_length_le (by omega)] at h3
       simp only [loopK, Option.some.injEq, Prod.mk.injEq] at h3
       obtain ⟨rfl, rfl⟩ := h3
       clear hql hq HLq
       go_wp2
       go_ret
       exact ⟨rfl, U3.out, B3.out, K3.out⟩
    ·rw [if_neg hC] at h
     cases h
   ·rw [if_neg hz] at h
    have hz1 : (rd seen k == 0) = false := beq_eq_false_iff_ne.2 hz
    have hz2 : (rd seen k != 0) = true := bne_iff_ne.2 hz
    have hz3 : (rd seen k = 0) = False := eq_false hz
    by_cases he : rd seen k = (lev : Int) + 1
    ·rw [if_pos he] at h
     simp only [Option.some.injEq, Prod.mk.injEq] at h
     obtain ⟨rfl, rfl⟩ := h
     rw [he] at q1
     have hl2 : ((lev : Int) + 1 = 0) = False := eq_false (by omega)
     have hl3 : ((lev : Int) + 1 == 0) = false := beq_eq_false_iff_ne.2 (by omega)
     have hl4 : ((lev : Int) + 1 != 0) = true := bne_iff_ne.2 (by omega)
     clear hz he hin hz1 hz2 hz3
     go_enter Try.func55, Try.ntmps55
     go_wp2
     go_ret
     exact ⟨rfl, U1.out, B1.out, K1.out⟩
    ·rw [if_neg he] at h
     simp only [Option.some.injEq, Prod.mk.injEq] at h
     obtain ⟨rfl, rfl⟩ := h
     have he1 : (rd seen k == (lev : Int) + 1) = false := beq_eq_false_iff_ne.2 he
     have he2 : (rd seen k != (lev : Int) + 1) = true := bne_iff_ne.2 he
     have he3 : (rd seen k = (lev : Int) + 1) = False := eq_false he
     clear hz he hin
     go_enter Try.func55, Try.ntmps55
     go_wp2
     go_ret
     exact ⟨rfl, U1.out, B1.out, K1.out⟩
  ·rw [if_neg hin] at h
   cases h
theorem row_ok {e base : Nat} {w : World} {v : Value} {xs : List Int} {ok : Nat → Prop} (h : (Kd.int .i64).R e w base (fun _ => True) v xs) (hok : ∀ k, v.ownBlock = some k → ok k) : (Kd.int .i64).R e w base ok v xs := Kd.R_of_own (Kd.own_of_R h) hok
def spec_l14Deep.f (l0_0 : List S68) (l0_1 : List Int) (a0_2 : Int) (a1 : Int) (a2 : Int) (l3 : List Int) : Option (Bool × List Int) := if 0 ≤ a2 ∧ a2 ≤ 3 then deepM l0_0 a2.toNat a1 l3 else none
theorem spec_l14Deep.calls (A0_0 : Option Addr) (c0_0 : Nat) (l0_0 : List (S68)) (A0_1 : Option Addr) (c0_1 : Nat) (l0_1 : List Int) (a0_2 : Int) (a1 : Int) (a2 : Int) (P3_ : Nat → Prop) (u9000_ : Value) (l3 : List Int) (r1 : Bool) (r2 : List Int) (w0 w : World) (hB : Below w0.heap.size w0 w) (hr0_0 : ∀ W_, Kept w W_ (fun k_ => P3_ k_) → Kd.C k68 W_ A0_0 l0_0.length l0_0) (hc0_0 : l0_0.length ≤ c0_0) (hr0_1 : ∀ W_, Kept w W_ (fun k_ => P3_ k_) → Kd.C (Kd.int .i64) W_ A0_1 l0_1.length l0_1) (hc0_1 : l0_1.length ≤ c0_1) (ho3 : Kd.R (Kd.int .i64) 3 w w0.heap.size P3_ u9000_ l3) (h : spec_l14Deep.f l0_0 l0_1 a0_2 a1 a2 l3 = some (r1, r2)) :
  Calls Try.prog 54 #[.agg #[.slice A0_0 l0_0.length c0_0, .slice A0_1 l0_1.length c0_1, .int .i64 a0_2], .int .i64 a1, .int .i64 a2, u9000_] w fun e w' => e = .returned (.bool r1) ∧ Kd.R (Kd.int .i64) 3 w' w0.heap.size (fun k_ => (P3_ k_ ∨ w.heap.size ≤ k_)) u9000_ r2 ∧ Below w0.heap.size w0 w' ∧ Kept w w' (fun k_ => P3_ k_) := by
 unfold spec_l14Deep.f at h
 split at h
 ·rename_i hl
  have e : a2 = ((a2.toNat : Nat) : Int) := by omega
  have h1 := deep_calls l0_0 a2.toNat A0_0 c0_0 A0_1 c0_1 l0_1 a0_2 a1 P3_ u9000_ l3 r1 r2 w0 w hB hr0_0 hc0_0 (Kd.R_mono ho3 (fun _ _ => trivial)) (fun k hk => ⟨ho3.1 k hk, Kd.R_lt ho3 k hk⟩) (by omega) h
  rw [← e] at h1
  exact h1.mono fun e w' ⟨he, hR, hB', hK⟩ => ⟨he, row_ok hR (fun k hk => .inl (ho3.1 k hk)), hB', hK⟩
 ·cases h
def spec_l14Levels.f (l0_0 : List S68) (l0_1 : List Int) (a0_2 : Int) (a1 : Int) (a2 : Int) (l3 : List Int) : Option (Bool × List Int) := if 0 ≤ a2 ∧ a2 ≤ 3 then levM l0_0 a2.toNat a1 l3 else none
theorem spec_l14Levels.calls (A0_0 : Option Addr) (c0_0 : Nat) (l0_0 : List (S68)) (A0_1 : Option Addr) (c0_1 : Nat) (l0_1 : List Int) (a0_2 : Int) (a1 : Int) (a2 : Int) (P3_ : Nat → Prop) (u9000_ : Value) (l3 : List Int) (r1 : Bool) (r2 : List Int) (w0 w : World) (hB : Below w0.heap.size w0 w) (hr0_0 : ∀ W_, Kept w W_ (fun k_ => P3_ k_) → Kd.C k68 W_ A0_0 l0_0.length l0_0) (hc0_0 : l0_0.length ≤ c0_0) (hr0_1 : ∀ W_, Kept w W_ (fun k_ => P3_ k_) → Kd.C (Kd.int .i64) W_ A0_1 l0_1.length l0_1) (hc0_1 : l0_1.length ≤ c0_1) (ho3 : Kd.R (Kd.int .i64) 3 w w0.heap.size P3_ u9000_ l3) (h : spec_l14Levels.f l0_0 l0_1 a0_2 a1 a2 l3 = some (r1, r2)) :
  Calls Try.prog 55 #[.agg #[.slice A0_0 l0_0.length c0_0, .slice A0_1 l0_1.length c0_1, .int .i64 a0_2], .int .i64 a1, .int .i64 a2, u9000_] w fun e w' => e = .returned (.bool r1) ∧ Kd.R (Kd.int .i64) 3 w' w0.heap.size (fun k_ => (P3_ k_ ∨ w.heap.size ≤ k_)) u9000_ r2 ∧ Below w0.heap.size w0 w' ∧ Kept w w' (fun k_ => P3_ k_) := by
 unfold spec_l14Levels.f at h
 split at h
 ·rename_i hl
  have e : a2 = ((a2.toNat : Nat) : Int) := by omega
  have h1 := lev_calls l0_0 a2.toNat A0_0 c0_0 A0_1 c0_1 l0_1 a0_2 a1 P3_ u9000_ l3 r1 r2 w0 w hB hr0_0 hc0_0 (Kd.R_mono ho3 (fun _ _ => trivial)) (fun k hk => ⟨ho3.1 k hk, Kd.R_lt ho3 k hk⟩) (by omega) h
  rw [← e] at h1
  exact h1.mono fun e w' ⟨he, hR, hB', hK⟩ => ⟨he, row_ok hR (fun k hk => .inl (ho3.1 k hk)), hB', hK⟩
 ·cases h
end Go.Proofs.Ytacfalpgmibfnaa.PCow
namespace Go.Proofs.Ytacfalpgmibfnaa.PCow
open Go.RowKit Go.Proofs.YtacfalpgmibfnaaW.PrintWords Go.Proofs.YtacfalpgmibfnaaW.PrintLast Go.Proofs.YtacfalpgmibfnaaW.PrintMore Go.Proofs.Ytacfalpgmibfnaa.E
set_option linter.unusedSimpArgs false
set_option linter.unusedVariables false
abbrev CL := S68
abbrev CS (w : World) (base : Nat) (ok : Nat → Prop) (v : Value) (xs : List CL) : Prop := Kd.S k68 68 w base ok v xs
abbrev IR (w : World) (base : Nat) (ok : Nat → Prop) (v : Value) (xs : List Int) : Prop := (Kd.int .i64).R 3 w base ok v xs
theorem cl_M {w : World} {base : Nat} {ok : Nat → Prop} {x : CL} {cs : List Value} : k68.M w base ok x cs ↔ ∃ v, cs = [.int .i64 x.f0, .string x.f1, v] ∧ IR w base ok v x.f2 := by
 constructor
 ·rintro ⟨c0, c1, rfl, h0, c2, c3, rfl, h1, v, rfl, hR⟩
  have e0 : c0 = [.int .i64 x.f0] := h0
  have e1 : c2 = [.string x.f1] := h1
  subst e0 e1
  exact ⟨v, rfl, hR⟩
 ·rintro ⟨v, rfl, hR⟩
  exact ⟨[.int .i64 x.f0], [.string x.f1, v], rfl, rfl, [.string x.f1], [v], rfl, rfl, v, rfl, hR⟩
theorem rd_cl (xs : List CL) (i : Int) : rd_T68 xs i = xs.getD i.toNat z68 := rfl
theorem rd_cl_set {xs : List CL} {q : Nat} (h : q < xs.length) (x : CL) : rd_T68 (xs.set q x) (q : Int) = x := by
 rw [rd_cl, Int.toNat_natCast, List.getD_eq_getElem?_getD, List.getElem?_set_self h]
 rfl
theorem cs_elem {W : World} {base g n cap : Nat} {ok : Nat → Prop} {xs : List CL} (h : CS W base ok (.slice (some ⟨g, 0, none⟩) n cap) xs) (i : Int) (h0 : 0 ≤ i) (h1 : i < n) :
  ∃ (oki : Nat → Prop) (v : Value), W.cell? ⟨g, i.toNat * 3, none⟩ = some (.int .i64 (rd_T68 xs i).f0) ∧ W.cell? ⟨g, i.toNat * 3 + 1, none⟩ = some (.string (rd_T68 xs i).f1) ∧ W.cell? ⟨g, i.toNat * 3 + 2, none⟩ = some v ∧
   (∀ j, W.frozen? ⟨g, i.toNat * 3 + j, none⟩ = false) ∧ (∀ k, oki k → ok k ∧ k ≠ g) ∧ IR W base oki v (rd_T68 xs i).f2 ∧ Kd.H k68 68 W base ok (.slice (some ⟨g, 0, none⟩) n cap) xs i oki [.int .i64 (rd_T68 xs i).f0, .string (rd_T68 xs i).f1, v] := by
 obtain ⟨oki, c, hcl, hM, hcc, hfr, hoki, hH⟩ := Kd.S_elem h z68 i h0 h1
 rw [← rd_cl] at hM
 obtain ⟨v, rfl, hR⟩ := cl_M.1 hM
 exact ⟨oki, v, hcc 0 _ rfl, hcc 1 _ rfl, hcc 2 _ rfl, hfr, hoki, hR, hH⟩
theorem cs_len {W : World} {base : Nat} {ok : Nat → Prop} {A : Option Addr} {n cap : Nat} {xs : List CL} (h : CS W base ok (.slice A n cap) xs) : n = xs.length := (Kd.S_reads' h).1
theorem cs_put {W : World} {base g n cap : Nat} {ok oki okp : Nat → Prop} {xs : List CL} {i : Int} {c : List Value} (hH : Kd.H k68 68 W base ok (.slice (some ⟨g, 0, none⟩) n cap) xs i oki c) (h0 : 0 ≤ i) (h1 : i < n) (j : Nat) (hj : j < 3) (u : Value) (x' : CL)
  (hM : k68.M W base okp x' (c.take j ++ [u] ++ c.drop (j + 1))) (hok : ∀ k, okp k → oki k) :
  CS (W.setCell ⟨g, i.toNat * 3 + j, none⟩ u) base ok (.slice (some ⟨g, 0, none⟩) n cap) (xs.set i.toNat x') := by
 have := (Kd.S_seg (d := k68) (okg := fun _ => False) (seg := [u]) (j := j) (Kd.H_mono hH (fun k hk => ⟨hk, id⟩)) h0 h1 (by show j + 1 ≤ 3; omega) hM (fun k hk => .inl (hok k hk)) (fun _ hk => hk.elim)).1
 exact this
theorem cs_put0 {W : World} {base g n cap : Nat} {ok : Nat → Prop} {xs : List CL} (h : CS W base ok (.slice (some ⟨g, 0, none⟩) n cap) xs) (i : Int) (h0 : 0 ≤ i) (h1 : i < n) (x : Int) :
  CS (W.setCell ⟨g, i.toNat * 3, none⟩ (.int .i64 x)) base ok (.slice (some ⟨g, 0, none⟩) n cap) (xs.set i.toNat ⟨x, (rd_T68 xs i).f1, (rd_T68 xs i).f2⟩) := by
 obtain ⟨oki, v, _, _, _, _, _, hR, hH⟩ := cs_elem h i h0 h1
 exact cs_put hH h0 h1 0 (by omega) _ _ (cl_M.2 ⟨v, rfl, hR⟩) (fun _ hk => hk)
theorem cs_put1 {W : World} {base g n cap : Nat} {ok : Nat → Prop} {xs : List CL} (h : CS W base ok (.slice (some ⟨g, 0, none⟩) n cap) xs) (i : Int) (h0 : 0 ≤ i) (h1 : i < n) (x : ByteArray) :
  CS (W.setCell ⟨g, i.toNat * 3 + 1, none⟩ (.string x)) base ok (.slice (some ⟨g, 0, none⟩) n cap) (xs.set i.toNat ⟨(rd_T68 xs i).f0, x, (rd_T68 xs i).f2⟩) := by
 obtain ⟨oki, v, _, _, _, _, _, hR, hH⟩ := cs_elem h i h0 h1
 exact cs_put hH h0 h1 1 (by omega) _ _ (cl_M.2 ⟨v, rfl, hR⟩) (fun _ hk => hk)
theorem cs_inner {W : World} {base g n cap : Nat} {ok : Nat → Prop} {xs : List CL} (h : CS W base ok (.slice (some ⟨g, 0, none⟩) n cap) xs) (i : Int) (h0 : 0 ≤ i) (h1 : i < n) :
  ∃ v, W.cell? ⟨g, i.toNat * 3 + 2, none⟩ = some v ∧ IR W base (fun k => some k = v.ownBlock) v (rd_T68 xs i).f2 ∧ (∀ k, v.ownBlock = some k → ok k ∧ k ≠ g) ∧
   ∀ w1 r2, Kept W w1 (fun k => some k = v.ownBlock) → IR w1 base (fun _ => True) v r2 → CS w1 base ok (.slice (some ⟨g, 0, none⟩) n cap) (xs.set i.toNat ⟨(rd_T68 xs i).f0, (rd_T68 xs i).f1, r2⟩) := by
 obtain ⟨oki, v, _, _, hv, _, hoki, hR, hH⟩ := cs_elem h i h0 h1
 have hin : ∀ k, v.ownBlock = some k → oki k := fun k hk => hR.1 k hk
 refine ⟨v, hv, Kd.R_of_own (Kd.own_of_R hR) (fun k hk => hk.symm), fun k hk => hoki k (hin k hk), fun w1 r2 hk hR2 => ?_⟩
 refine Kd.H_back (Kd.H_kept hH hk (fun k _ hn hs => hn (hin k hs.symm))) (okp := oki) (cl_M.2 ⟨v, rfl, Kd.R_of_own (Kd.own_of_R hR2) hin⟩) (fun _ hk => hk)
theorem cs_all {W : World} {base g n cap : Nat} {ok okg : Nat → Prop} {xs : List CL} (h : CS W base (fun k => ok k ∧ ¬ okg k) (.slice (some ⟨g, 0, none⟩) n cap) xs) (i : Int) (h0 : 0 ≤ i) (h1 : i < n) (x : CL) (v : Value) (hv : IR W base okg v x.f2) (hg : ∀ k, okg k → ok k ∧ k ≠ g) :
  CS (((W.setCell ⟨g, i.toNat * 3, none⟩ (.int .i64 x.f0)).setCell ⟨g, i.toNat * 3 + 1, none⟩ (.string x.f1)).setCell ⟨g, i.toNat * 3 + 2, none⟩ v) base ok (.slice (some ⟨g, 0, none⟩) n cap) (xs.set i.toNat x) := by
 obtain ⟨oki, u, _, _, _, _, _, _, hH⟩ := cs_elem h i h0 h1
 have := (Kd.S_seg (d := k68) (okg := okg) (seg := [.int .i64 x.f0, .string x.f1, v]) (j := 0) hH h0 h1 (by show 0 + 3 ≤ 3; omega) (cl_M.2 ⟨v, rfl, hv⟩) (fun k hk => .inr hk) hg).1
 exact this
theorem cs_zero {W : World} {base g n cap : Nat} {ok : Nat → Prop} {xs : List CL} (h : CS W base ok (.slice (some ⟨g, 0, none⟩) n cap) xs) (i : Int) (h0 : 0 ≤ i) (h1 : i < n) :
  CS (((W.setCell ⟨g, i.toNat * 3, none⟩ (.int .i64 0)).setCell ⟨g, i.toNat * 3 + 1, none⟩ (.string ⟨#[]⟩)).setCell ⟨g, i.toNat * 3 + 2, none⟩ (.slice none 0 0)) base ok (.slice (some ⟨g, 0, none⟩) n cap) (xs.set i.toNat z68) :=
 cs_all (okg := fun _ => False) (Kd.S_mono h (fun _ hk => ⟨hk, id⟩)) i h0 h1 z68 (.slice none 0 0) (Kd.R_nil _ _ _ _ _) (fun _ hk => hk.elim)
end Go.Proofs.Ytacfalpgmibfnaa.PCow
namespace Go.Proofs.Ytacfalpgmibfnaa.PCow
open Go.RowKit Go.Proofs.YtacfalpgmibfnaaW.PrintWords Go.Proofs.YtacfalpgmibfnaaW.PrintLast Go.Proofs.YtacfalpgmibfnaaW.PrintMore
attribute [local go_sem] max2_int min2_int max_two min_two max_three min_three max_four min_four
set_option linter.unusedVariables false
set_option linter.unusedSimpArgs false
def laws_markIntS.l0 : Nat → List Int → Int → Int → Option (Int × List Int)
 | 0, _, _, _ => none
 | k + 1, x0, x1, x5 => if x5 < (x0.length : Int) then (if 0 ≤ x5 then (laws_markIntS.l0 k (x0.set (x5 : Int).toNat x1) (wrap64 (x1 + 1)) (wrap64 (x5 + 1))) else (none)) else (some (x1, x0))
def laws_markIntS.f (k : Nat) (l0 : List Int) (a1 : Int) : Option (Int × List Int) := laws_markIntS.l0 k l0 a1 0
set_option maxHeartbeats 8000000 in
set_option maxRecDepth 100000 in
theorem laws_markIntS.calls (k : Nat) (P0_ : Nat → Prop) (u9000_ : Value) (l0 : List Int) (a1 : Int) (r1 : Int) (r2 : List Int) (w0 w : World) (hB : Below w0.heap.size w0 w) (ho0 : Kd.R (Kd.int .i64) 3 w w0.heap.size P0_ u9000_ l0) (h : laws_markIntS.f k l0 a1 = some (r1, r2)) :
  Calls Try.prog 49 #[u9000_, .int .i64 a1] w fun e w' => e = .returned (.int .i64 r1) ∧ Kd.R (Kd.int .i64) 3 w' w0.heap.size (fun k_ => (P0_ k_ ∨ w.heap.size ≤ k_)) u9000_ r2 ∧ Below w0.heap.size w0 w' ∧ Kept w w' (fun k_ => P0_ k_) := by
 have HO0 := Aside0.mk (show Kd.R (Kd.int .i64) 3 w w0.heap.size (fun k_ => (P0_ k_ ∨ w.heap.size ≤ k_)) u9000_ l0 from Kd.R_mono ho0 (fun k_ hk => (.inl hk)))
 have HK := Aside0.mk (Kept.refl w (fun k_ => P0_ k_))
 have HW0 := Aside0.mk hB.size
 have HB := Aside0.mk hB
 clear hB
 have H : (laws_markIntS.l0 k l0 a1 0) = some (r1, r2) := h
 clear h
 have H' := Aside0.mk H
 clear H
 go_enter Try.func49, Try.ntmps49
 go_wp2
 go_loopg [1, 5] k (fun kq v1 v5 w' => ∃ (x0_1 : List Int) (x1_1 : Int) (x5_1 : Int), v1 = .int .i64 x1_1 ∧ v5 = .int .i64 x5_1 ∧ Aside0 (laws_markIntS.l0 kq x0_1 x1_1 x5_1 = some (r1, r2)) ∧ Aside0 (kq ≤ k) ∧ Aside0 (Kd.R (Kd.int .i64) 3 w' w0.heap.size (fun k_ => (P0_ k_ ∨ w.heap.size ≤ k_)) u9000_ x0_1) ∧ Aside0 (Kept w w' (fun k_ => P0_ k_)) ∧ Aside0 (Below w0.heap.size w0 w'))
 case atStart => exact ⟨(l0), (a1), (0), (by first | rfl | (simp; done) | (simp [*]; done)), (by first | rfl | (simp; done) | (simp [*]; done)), H', ⟨Nat.le_refl _⟩, ⟨by (with_reducible repeat (first | apply Kd.R_alloc | apply Kd.R_drewN | apply Kd.R_drew)); exact HO0.out⟩, ⟨by with_reducible repeat (first | exact HK.out | apply Kept.alloc | apply Kept.drewN | apply Kept.drew)⟩, ⟨by with_reducible repeat (first | exact HB.out | apply below_alloc | apply pw_below_drewN | apply below_drew1)⟩⟩
 case round =>
  clear H'
  try clear p2
  obtain ⟨x0_1, x1_1, x5_1, rfl, rfl, HA, HK1, HO_0, HK, HB⟩ := hrel
  cases gk with
  | zero => exact absurd HA.out (by simp [laws_markIntS.l0])
  | succ k1 =>
   have H := HA.out
   clear HA
   simp only [laws_markIntS.l0] at H
   by_cases c3 : x5_1 < (x0_1.length : Int)
   ·rw [if_pos c3] at H
    have c3b0 : decide (x5_1 < (x0_1.length : Int)) = true := decide_eq_true c3
    clear c3
    by_cases c4 : 0 ≤ x5_1
    ·rw [if_pos c4] at H
     have c4b0 : decide (0 ≤ x5_1) = true := decide_eq_true c4
     clear c4
     obtain ⟨y325, hy325⟩ : ∃ y_ : List Int, y_ = (x0_1.set (x5_1 : Int).toNat x1_1) := ⟨_, rfl⟩
     replace H : (laws_markIntS.l0 k1 y325 (wrap64 (x1_1 + 1)) (wrap64 (x5_1 + 1))) = some (r1, r2) := by first | (rw [hy325]; with_reducible exact H) | (have H2_ := (Option.bind_some _ _).symm.trans H; rw [hy325]; with_reducible exact H2_) | (have H2_ := (Option.bind_some _ _).symm.trans H; with_reducible exact H2_) | with_reducible exact H | (rw [hy325]; exact H) | exact H
     have Ny325 := Aside0.mk hy325
     clear hy325
     have H' := Aside0.mk H
     clear H
     obtain ⟨Ao6, co6, eo6⟩ := Kd.R_slice HO_0.out
     subst eo6
     have p5 : 0 ≤ (x5_1 : Int) := of_decide_eq_true (by assumption)
     have q5 : (x5_1 : Int) < ((x0_1.length : Int) : Int) := of_decide_eq_true (by assumption)
     obtain ⟨go5, co5, eo5, gb5, gl5, cl5, HG5⟩ := Kd.R_form HO_0.out (by omega)
     (first | cases eo5 | (injection eo5 with ea_ en_ ec_; (first | subst ea_ | (injection ea_ with ea_; subst ea_)); subst ec_; clear en_))
     have GB5 := Aside0.mk gb5
     have GG5 := Aside0.mk HG5
     clear gb5 gl5 HG5
     have HMgo5 := Aside0.mk (show (P0_ go5 ∨ w.heap.size ≤ go5) from (HO_0.out.1 _ rfl))
     obtain ⟨hx5_0, hf5_0⟩ := Kd.R_celln 0 HO_0.out (x5_1 : Int) p5 q5
     replace p5 := eq_true p5
     replace q5 := eq_true q5
     have HP7 := Kd.R_putg HO_0.out (x5_1 : Int) x1_1
     go_wp2_with (first | ((with_reducible refine gate_store (t := 3) (p := 15) rfl ?_); refine store_event (t := 3) (p := 15) (v := ?vo_w8) (w1 := (wr.setCell ⟨go5, (x5_1 : Int).toNat, none⟩ (.int .i64 x1_1))) ?hg ?ho ?hn ?hr ?_; (case ho => rfl); (case hg => rfl); (case hn => rfl); (case hr => first | (go_simp; done) | (go_simp; rfl)); intro w8 hw; have hg : wr.grownBy w8 (some go5) := (by rw [hw]; exact HP7.2); have hp_ : Kd.R (Kd.int .i64) 3 w8 w0.heap.size (fun k_ => (P0_ k_ ∨ w.heap.size ≤ k_)) (.slice (some ⟨go5, 0, none⟩) x0_1.length co6) y325 := (by rw [hw, Ny325.out]; exact HP7.1); clear HP7; replace HB := Aside0.mk ((by rw [hw]; exact below_set (HB.out) GB5.out : Below w0.heap.size w0 w8)); replace HK := Aside0.mk (Kept.of_grown (S := (fun k_ => P0_ k_)) hg (by with_reducible repeat (first | exact HK.out | apply Kept.alloc | apply Kept.drewN | apply Kept.drew)) (fun k_ e_ => (HO_0.out.1 k_ e_))); replace HO_0 := Aside0.mk (hp_); clear hg hw hp_))
     go_roundg k1
     case measure => have := HK1.out; omega
     case rel => exact ⟨(y325), (wrap64 (x1_1 + 1)), (wrap64 (x5_1 + 1)), (by first | rfl | (simp; done) | (simp [*]; done)), (by first | rfl | (simp; done) | (simp [*]; done)), H', ⟨by have := HK1.out; omega⟩, ⟨by (with_reducible repeat (first | apply Kd.R_alloc | apply Kd.R_drewN | apply Kd.R_drew)); exact HO_0.out⟩, ⟨by with_reducible repeat (first | exact HK.out | apply Kept.alloc | apply Kept.drewN | apply Kept.drew)⟩, ⟨by with_reducible repeat (first | exact HB.out | apply below_alloc | apply pw_below_drewN | apply below_drew1)⟩⟩
    ·rw [if_neg c4] at H
     exact absurd H (by simp)
   ·rw [if_neg c3] at H
    have c3b0 : decide (x5_1 < (x0_1.length : Int)) = false := decide_eq_false c3
    clear c3
    simp only [Option.some.injEq, Prod.mk.injEq] at H
    obtain ⟨rfl, rfl⟩ := H
    obtain ⟨Ao9, co9, eo9⟩ := Kd.R_slice HO_0.out
    subst eo9
    go_wp2
    go_ret
    exact ⟨by first | rfl | (simp [errW_none, errW_some] <;> rfl) | (simp [*, errW_none, errW_some] <;> rfl) | (simp [E.isEmpty_bne]; done) | (rw [E.bne_empty]), by (with_reducible repeat (first | apply Kd.R_alloc | apply Kd.R_drewN | apply Kd.R_drew)); exact HO_0.out, by with_reducible repeat (first | exact HB.out | apply below_alloc | apply pw_below_drewN | apply below_drew1), by with_reducible repeat (first | exact HK.out | apply Kept.alloc | apply Kept.drewN | apply Kept.drew)⟩
def laws_markText.l0 : Nat → Int → ByteArray → Option (ByteArray)
 | 0, _, _ => none
 | k + 1, x0, x3 => if x0 > 0 then ((some (([(wrap64 (48 + (Int.tmod x0 10))) % 256] : List Int) : List Int)).bind fun y326 => (if (strOfNums y326).size + x3.size ≤ 9223372036854775807 then (laws_markText.l0 k (wrap64 (Int.tdiv x0 10)) ((strOfNums y326) ++ x3)) else (none))) else (if 1 + x3.size ≤ 9223372036854775807 then (some ((⟨#[109]⟩ : ByteArray) ++ x3)) else (none))
def laws_markText.f (k : Nat) (a0 : Int) : Option (ByteArray) := if a0 ≤ 0 then (some (⟨#[109, 48]⟩ : ByteArray)) else (laws_markText.l0 k a0 (⟨#[]⟩ : ByteArray))
set_option maxHeartbeats 8000000 in
set_option maxRecDepth 100000 in
theorem laws_markText.calls (k : Nat) (a0 : Int) (r : ByteArray) (w : World) (h : laws_markText.f k a0 = some r) :
  Calls Try.prog 68 #[.int .i64 a0] w fun e w' => e = .returned (.string r) ∧ Below w.heap.size w w' := by
 have HB := Aside0.mk (Below.refl w.heap.size w)
 have H : (if a0 ≤ 0 then (some (⟨#[109, 48]⟩ : ByteArray)) else (laws_markText.l0 k a0 (⟨#[]⟩ : ByteArray))) = some r := h
 clear h
 by_cases c2 : a0 ≤ 0
 ·rw [if_pos c2] at H
  have c2b0 : decide (a0 ≤ 0) = true := decide_eq_true c2
  clear c2
  obtain rfl := Option.some.inj H
  go_enter Try.func68, Try.ntmps68
  go_wp2
  go_ret
  exact ⟨by first | rfl | (simp [errW_none, errW_some] <;> rfl) | (simp [*, errW_none, errW_some] <;> rfl) | (simp [E.isEmpty_bne]; done) | (rw [E.bne_empty]), by with_reducible repeat (first | exact HB.out | apply below_alloc | apply pw_below_drewN | apply below_drew1)⟩
 ·rw [if_neg c2] at H
  have c2b0 : decide (a0 ≤ 0) = false := decide_eq_false c2
  clear c2
  have H' := Aside0.mk H
  clear H
  go_enter Try.func68, Try.ntmps68
  go_wp2
  go_loopg [0, 3] k (fun kq v0 v3 w' => ∃ (x0_1 : Int) (x3_1 : ByteArray), v0 = .int .i64 x0_1 ∧ v3 = .string x3_1 ∧ Aside0 (laws_markText.l0 kq x0_1 x3_1 = some r) ∧ Aside0 (kq ≤ k) ∧ Aside0 (Below w.heap.size w w'))
  case atStart => exact ⟨(a0), ((⟨#[]⟩ : ByteArray)), (by first | rfl | (simp; done) | (simp [*]; done)), (by first | rfl | (simp; done) | (simp [*]; done)), H', ⟨Nat.le_refl _⟩, ⟨by with_reducible repeat (first | exact HB.out | apply below_alloc | apply pw_below_drewN | apply below_drew1)⟩⟩
  case round =>
   clear H'
   try clear c2
   try clear c2b0
   try clear p2
   obtain ⟨x0_1, x3_1, rfl, rfl, HA, HK1, HB⟩ := hrel
   cases gk with
   | zero => exact absurd HA.out (by simp [laws_markText.l0])
   | succ k1 =>
    have H := HA.out
    clear HA
    simp only [laws_markText.l0] at H
    by_cases c3 : x0_1 > 0
    ·rw [if_pos c3] at H
     have c3b0 : decide (0 < x0_1) = true := decide_eq_true c3
     clear c3
     obtain ⟨y326, hy326⟩ : ∃ y_ : List Int, y_ = (([(wrap64 (48 + (Int.tmod x0_1 10))) % 256] : List Int)) := ⟨_, rfl⟩
     replace H : (if (strOfNums y326).size + x3_1.size ≤ 9223372036854775807 then (laws_markText.l0 k1 (wrap64 (Int.tdiv x0_1 10)) ((strOfNums y326) ++ x3_1)) else (none)) = some r := by first | (rw [hy326]; with_reducible exact H) | (have H2_ := (Option.bind_some _ _).symm.trans H; rw [hy326]; with_reducible exact H2_) | (have H2_ := (Option.bind_some _ _).symm.trans H; with_reducible exact H2_) | with_reducible exact H | (rw [hy326]; exact H) | exact H
     have Ny326 := Aside0.mk hy326
     clear hy326
     by_cases c4 : (strOfNums y326).size + x3_1.size ≤ 9223372036854775807
     ·rw [if_pos c4] at H
      have c4b0 := eq_true c4
      have c4b1 : decide ((strOfNums y326).size + x3_1.size ≤ 9223372036854775807) = true := decide_eq_true c4
      try have c4b2 : (9223372036854775807 < (strOfNums y326).size + x3_1.size) = False := eq_false (Nat.not_lt.2 c4)
      have H' := Aside0.mk H
      clear H
      go_wp2_with (first | ((with_reducible refine gate_dst (N := 12) rfl ?_); refine Kd.R_lit (Kd.int .u8) _ 5 ?hg (N := 12) ?hd (xs := ([(wrap64 (48 + (Int.tmod x0_1 10))) % 256] : List Int)) (inner := [.int .u8 ((wrap64 (48 + (Int.tmod x0_1 10))) % 256)]) (ok := fun _ => True) (okp := fun _ => True) ?hr ?hp (fun _ hk => hk) trivial (Below.refl _ _) (Nat.le_refl _) (by simp) ?_; (case hd => rfl); (case hg => rfl); (case hr => first | (go_simp; done) | (go_simp; rfl)); (case hp => exact (Reps.one (show Kd.M (Kd.int .u8) _ _ _ ((wrap64 (48 + (Int.tmod x0_1 10))) % 256) [.int .u8 ((wrap64 (48 + (Int.tmod x0_1 10))) % 256)] from rfl) (Reps.none _ _))); intro v327 w5 ho6 hb hg_ hnew_; clear hg_ hnew_; (first | rw [← Ny326.out] at ho6 | (simp only [Int.reduceToNat] at ho6; rw [← Ny326.out] at ho6)); have HO328 := Aside0.mk (Kd.R_lower ho6 (below_size (by with_reducible repeat (first | exact HB.out | apply below_alloc | apply pw_below_drewN | apply below_drew1)))); replace HB := Aside0.mk (below_step (by with_reducible repeat (first | exact HB.out | apply below_alloc | apply pw_below_drewN | apply below_drew1)) hb); clear hb ho6; have hcv7 := own_string (P := Try.prog) Try.underlying53 Try.underlying5 Try.underlying9 (Kd.own_of_R HO328.out)))
      go_roundg k1
      case measure => have := HK1.out; omega
      case rel => exact ⟨(wrap64 (Int.tdiv x0_1 10)), ((strOfNums y326) ++ x3_1), (by first | rfl | (simp; done) | (simp [*]; done)), (by first | rfl | (simp; done) | (simp [*]; done)), H', ⟨by have := HK1.out; omega⟩, ⟨by with_reducible repeat (first | exact HB.out | apply below_alloc | apply pw_below_drewN | apply below_drew1)⟩⟩
     ·rw [if_neg c4] at H
      exact absurd H (by simp)
    ·rw [if_neg c3] at H
     have c3b0 : decide (0 < x0_1) = false := decide_eq_false c3
     clear c3
     by_cases c8 : 1 + x3_1.size ≤ 9223372036854775807
     ·rw [if_pos c8] at H
      have c8b0 := eq_true c8
      have c8b1 : decide (1 + x3_1.size ≤ 9223372036854775807) = true := decide_eq_true c8
      try have c8b2 : (9223372036854775807 < 1 + x3_1.size) = False := eq_false (Nat.not_lt.2 c8)
      obtain rfl := Option.some.inj H
      go_wp2
      go_ret
      exact ⟨by first | rfl | (simp [errW_none, errW_some] <;> rfl) | (simp [*, errW_none, errW_some] <;> rfl) | (simp [E.isEmpty_bne]; done) | (rw [E.bne_empty]), by with_reducible repeat (first | exact HB.out | apply below_alloc | apply pw_below_drewN | apply below_drew1)⟩
     ·rw [if_neg c8] at H
      exact absurd H (by simp)
end Go.Proofs.Ytacfalpgmibfnaa.PCow
namespace Go.Proofs.Ytacfalpgmibfnaa.PCow
open Go.RowKit Go.Proofs.YtacfalpgmibfnaaW.PrintWords Go.Proofs.YtacfalpgmibfnaaW.PrintLast Go.Proofs.YtacfalpgmibfnaaW.PrintMore Go.Proofs.Ytacfalpgmibfnaa.E
set_option linter.unusedSimpArgs false
set_option linter.unusedVariables false
def markCM (f : Nat) (n : Nat) : Nat → Int → Int → List CL → Option (Int × List CL)
 | 0, i, k, xs => if i < (n : Int) then none else some (k, xs)
 | m + 1, i, k, xs => if i < (n : Int) then ((laws_markText.f f (wrap64 (k + 1))).bind fun t => (laws_markIntS.f f (rd_T68 xs i).f2 (wrap64 (wrap64 (k + 1) + 1))).bind fun p => markCM f n m (i + 1) p.1 (xs.set i.toNat ⟨k, t, p.2⟩)) else some (k, xs)
def laws_markCellS.f (f : Nat) (xs : List CL) (k : Int) : Option (Int × List CL) := markCM f xs.length xs.length 0 k xs
set_option maxHeartbeats 4000000 in
set_option maxRecDepth 100000 in
theorem laws_markCellS.calls (f : Nat) (P0_ : Nat → Prop) (u : Value) (l0 : List CL) (a1 : Int) (r1 : Int) (r2 : List CL) (w0 w : World) (hB : Below w0.heap.size w0 w) (ho0 : CS w w0.heap.size P0_ u l0) (h : laws_markCellS.f f l0 a1 = some (r1, r2)) :
  Calls Try.prog 48 #[u, .int .i64 a1] w fun e w' => e = .returned (.int .i64 r1) ∧ CS w' w0.heap.size P0_ u r2 ∧ Below w0.heap.size w0 w' ∧ Kept w w' (fun k_ => P0_ k_) := by
 have hu68 := Try.underlying68
 have hu22 := Try.underlying22
 obtain ⟨A, c, rfl⟩ := Kd.S_slice ho0
 have hl := (Kd.S_reads' ho0).2.2.2.1
 have HO := Aside0.mk ho0
 have HB := Aside0.mk hB
 have HF := Aside0.mk h
 clear ho0 hB h
 go_enter Try.func48, Try.ntmps48
 go_wp2
 go_loopw [5, 1] (fun vi vk wr => ∃ (q : Nat) (k : Int) (xs : List CL), q ≤ l0.length ∧ vi = .int .i64 q ∧ vk = .int .i64 k ∧ xs.length = l0.length ∧ Aside0 (markCM f l0.length (l0.length - q) q k xs = some (r1, r2)) ∧ Aside0 (CS wr w0.heap.size P0_ (.slice A l0.length c) xs) ∧ Aside0 (Below w0.heap.size w0 wr) ∧ Aside0 (Kept w wr (fun k_ => P0_ k_))) (fun vi _ _ => l0.length - (intOf vi).toNat)
 case atStart => exact ⟨0, a1, l0, Nat.zero_le _, rfl, rfl, rfl, ⟨by rw [Nat.sub_zero]; exact HF.out⟩, HO, HB, ⟨Kept.refl _ _⟩⟩
 case round =>
  clear HF HO HB
  obtain ⟨q, k, xs, hq, rfl, rfl, hxl, HF, HO, HB, HK⟩ := hrel
  by_cases hql : q < l0.length
  ·have hqq : ((q : Int) < (l0.length : Int)) = True := eq_true (by omega)
   have h := HF.out
   rw [show l0.length - q = (l0.length - q - 1) + 1 by omega, markCM, if_pos (by omega)] at h
   obtain ⟨t, ht, h2⟩ := Option.bind_eq_some_iff.1 h
   obtain ⟨⟨k1, x2⟩, hm, h3⟩ := Option.bind_eq_some_iff.1 h2
   have HF2 := Aside0.mk h3
   have HT := Aside0.mk ht
   have HM := Aside0.mk hm
   obtain ⟨g, cap, hv, hg1, hg2, cs, hgc⟩ := Kd.S_form HO.out (by omega)
   injection hv with hA hn_ hc
   subst hA hc
   clear hn_
   obtain ⟨oki, v, c0, c1, c2, hfr, hoki, hR, hH⟩ := cs_elem HO.out (q : Int) (by omega) (by omega)
   clear HF h h2 h3 ht hm hgc
   have HG := Aside0.mk (show P0_ g from HO.out |> fun h => (Kd.S_R h).1 g rfl)
   have HG1 := Aside0.mk hg1
   clear hg1 hR hH
   simp only [Int.toNat_natCast] at c0 c1 c2 hfr
   have f0 : wr.frozen? ⟨g, q * 3, none⟩ = false := hfr 0
   have f1 := hfr 1
   have HX := Aside0.mk hxl
   have HQ := Aside0.mk hql
   clear hfr hoki hxl hq hql
   go_wp2_with (go_at_call 68; (with_reducible refine (laws_markText.calls f (wrap64 (k + 1)) t _ HT.out).mono ?_))
   (first | rintro e w1 rfl hb1 | rintro e w1 ⟨rfl, hb1⟩)
   have hb2 : Below (wr.setCell ⟨g, q * 3, none⟩ (.int .i64 k)).heap.size (wr.setCell ⟨g, q * 3, none⟩ (.int .i64 k)) w1 := by
    have : (wr.setCell ⟨g, q * 3, none⟩ (.int .i64 k)).heap.size = wr.heap.size := by simp [World.setCell]
    rw [this]
    exact hb1
   have hxl := HX.out
   have hql := HQ.out
   have O1 := Kd.S_below (cs_put0 HO.out (q : Int) (by omega) (by omega) k) (by simp only [Int.toNat_natCast]; exact hb2)
   have B1 : Below w0.heap.size w0 w1 := below_then (below_set HB.out HG1.out) (Nat.le_trans HB.out.size (by simp [World.setCell])) hb2
   have K1 : Kept w w1 (fun k_ => P0_ k_) := (HK.out.setCell (p := ⟨g, q * 3, none⟩) (.inl HG.out) _).below hb2
   simp only [Int.toNat_natCast] at O1
   obtain ⟨w2, hw2, O2, B2, K2⟩ : ∃ w2, w1.setCell ⟨g, q * 3 + 1, none⟩ (.string t) = w2 ∧ CS w2 w0.heap.size P0_ (.slice (some ⟨g, 0, none⟩) l0.length c) (xs.set q ⟨k, t, (rd_T68 xs (q : Int)).f2⟩) ∧ Below w0.heap.size w0 w2 ∧ Kept w w2 (fun k_ => P0_ k_) := by
    refine ⟨_, rfl, ?_, below_set B1 HG1.out, K1.setCell (p := ⟨g, q * 3 + 1, none⟩) (.inl HG.out) _⟩
    have := cs_put1 O1 (q : Int) (by omega) (by omega) t
    simp only [Int.toNat_natCast] at this
    rw [rd_cl_set (by omega), List.set_set] at this
    exact this
   obtain ⟨oki, v0, _, d1, _, hfr, _, _, _⟩ := cs_elem O1 (q : Int) (by omega) (by omega)
   have g1 := hfr 1
   simp only [Int.toNat_natCast] at d1 g1
   obtain ⟨v, hv, hR, hP, hback⟩ := cs_inner O2 (q : Int) (by omega) (by omega)
   rw [rd_cl_set (by omega)] at hR hback
   simp only [Int.toNat_natCast] at hv hback
   obtain ⟨A2, cc, rfl⟩ := Kd.R_slice hR
   have HR2 := Aside0.mk hR
   have HP2 := Aside0.mk hP
   have HK2 := Aside0.mk K2
   have HB2 := Aside0.mk B2
   have HBK := Aside0.mk hback
   clear O1 B1 K1 O2 B2 K2 hR hP hback hfr hb1 hb2 hxl hql HO HB HK HT c0 c1 c2 f0 f1
   go_wp2_with (go_at_call 49; (with_reducible refine (laws_markIntS.calls f (fun k_ => some k_ = (Value.slice A2 (rd_T68 xs (q : Int)).f2.length cc).ownBlock) _ _ _ k1 x2 w0 w2 HB2.out HR2.out HM.out).mono ?_))
   (first | rintro e w3 rfl hR3 hB3 hK3 | rintro e w3 ⟨rfl, hR3, hB3, hK3⟩)
   have O3 := Aside0.mk (HBK.out w3 x2 hK3 (Kd.R_mono hR3 (fun _ _ => trivial)))
   have B3 := Aside0.mk hB3
   have K3 := Aside0.mk (HK2.out.then_ hK3 (fun k_ hk_ => .inl (HP2.out k_ hk_.symm).1))
   clear hR3 hB3 hK3 hw2 hv d1 g1 HR2 HP2 HK2 HB2 HBK
   have hql := HQ.out
   go_wp2
   go_roundw
   case rel => exact ⟨q + 1, k1, _, by omega, by go_num, rfl, (List.length_set ..).trans HX.out, ⟨by
    have h := HF2.out
    rw [show l0.length - q - 1 = l0.length - (q + 1) by omega] at h
    simp only [Int.toNat_natCast] at h
    exact h⟩, ⟨by have h := O3.out; rw [List.set_set] at h; exact h⟩, B3, K3⟩
   case measure => simp [intOf]; omega
  ·have hqq : ((q : Int) < (l0.length : Int)) = False := eq_false (by omega)
   have h := HF.out
   rw [show l0.length - q = 0 by omega, markCM, if_neg (by omega)] at h
   simp only [Option.some.injEq, Prod.mk.injEq] at h
   obtain ⟨rfl, rfl⟩ := h
   clear hq hql hxl
   go_wp2
   go_ret
   exact ⟨rfl, HO.out, HB.out, HK.out⟩
end Go.Proofs.Ytacfalpgmibfnaa.PCow
namespace Go.Proofs.Ytacfalpgmibfnaa.PCow
open Go.RowKit Go.Proofs.YtacfalpgmibfnaaW.PrintWords Go.Proofs.YtacfalpgmibfnaaW.PrintLast Go.Proofs.YtacfalpgmibfnaaW.PrintMore Go.Proofs.Ytacfalpgmibfnaa.E
set_option linter.unusedSimpArgs false
set_option linter.unusedVariables false
def laws_markCow.f (f : Nat) (xs : List CL) (ys : List Int) (k : Int) : Option (Int × List CL × List Int) := (laws_markCellS.f f xs k).bind fun p => (laws_markIntS.f f ys p.1).bind fun q => some (q.1, p.2, q.2)
set_option maxHeartbeats 4000000 in
set_option maxRecDepth 100000 in
theorem laws_markCow.calls (f : Nat) (P0_ P1_ : Nat → Prop) (u v : Value) (L : Int) (l0 : List CL) (l1 : List Int) (a1 : Int) (r1 : Int) (r2 : List CL) (r3 : List Int) (w0 w : World) (hB : Below w0.heap.size w0 w) (ho0 : CS w w0.heap.size P0_ u l0) (ho1 : IR w w0.heap.size P1_ v l1) (hap : ∀ k, P0_ k → ¬ P1_ k) (h : laws_markCow.f f l0 l1 a1 = some (r1, r2, r3)) :
  Calls Try.prog 17 #[.agg #[u, v, .int .i64 L], .int .i64 a1] w fun e w' => e = .returned (.int .i64 r1) ∧ CS w' w0.heap.size P0_ u r2 ∧ IR w' w0.heap.size P1_ v r3 ∧ Below w0.heap.size w0 w' ∧ Kept w w' (fun k_ => P0_ k_ ∨ P1_ k_) := by
 have hu25 := Try.underlying25
 unfold laws_markCow.f at h
 obtain ⟨⟨k1, x2⟩, h1, h2⟩ := Option.bind_eq_some_iff.1 h
 obtain ⟨⟨k2, y2⟩, h3, h4⟩ := Option.bind_eq_some_iff.1 h2
 simp only [Option.some.injEq, Prod.mk.injEq] at h4
 obtain ⟨rfl, rfl, rfl⟩ := h4
 obtain ⟨A0, c0, rfl⟩ := Kd.S_slice ho0
 obtain ⟨A1, c1, rfl⟩ := Kd.R_slice ho1
 obtain ⟨W1, hW1⟩ : ∃ W, w.alloc (.cells #[.slice A0 l0.length c0, .slice A1 l1.length c1, .int .i64 L] 25) = W := ⟨_, rfl⟩
 have X1 := Aside0.mk (show W1.heap[w.heap.size]? = some (.cells #[.slice A0 l0.length c0, .slice A1 l1.length c1, .int .i64 L] 25 (0, 0)) by rw [← hW1]; exact heap_alloc_new w _)
 have B1 := Aside0.mk (show Below w0.heap.size w0 W1 by rw [← hW1]; exact hB.alloc hB.size _)
 have K1 := Aside0.mk (show Kept w W1 (fun k_ => P0_ k_ ∨ P1_ k_) by rw [← hW1]; exact (Kept.refl _ _).alloc _)
 have lt0 : ∀ k, (Value.slice A0 l0.length c0).ownBlock = some k → k < w.heap.size := Kd.S_lt ho0
 have O1 := Aside0.mk (show CS W1 w0.heap.size (fun k => P0_ k ∧ k < w.heap.size) (.slice A0 l0.length c0) l0 by rw [← hW1]; exact Kd.S_alloc (Kd.S_mono (Kd.S_bound ho0) (fun k hk => ⟨hk.1, hk.2.2.1⟩)) _)
 have I1 := Aside0.mk (show IR W1 w0.heap.size (fun k => P1_ k ∧ k < w.heap.size) (.slice A1 l1.length c1) l1 by rw [← hW1]; exact Kd.R_alloc (Kd.R_mono (Kd.R_bound ho1) (fun k hk => ⟨hk.1, hk.2.2.1⟩)) _)
 have HA := Aside0.mk hap
 have H1 := Aside0.mk h1
 have H3 := Aside0.mk h3
 have e0 : W1.cell? ⟨w.heap.size, 0, none⟩ = some (.slice A0 l0.length c0) := (blk_cell X1.out _).trans rfl
 clear hB ho0 ho1 hap h h1 h2 h3 lt0
 go_enter Try.func17, Try.ntmps17
 go_wp2_with (go_at_call 48; (with_reducible refine (laws_markCellS.calls f (fun k => P0_ k ∧ k < w.heap.size) _ _ _ k1 x2 w0 W1 B1.out O1.out H1.out).mono ?_))
 (first | rintro e w2 rfl hO2 hB2 hK2 | rintro e w2 ⟨rfl, hO2, hB2, hK2⟩)
 have X2 := Aside0.mk (blk_kept X1.out hK2 (fun h => by have := h.2; omega))
 have B2 := Aside0.mk hB2
 have K2 := Aside0.mk (K1.out.then_ hK2 (fun k hk => .inl (.inl hk.1)))
 have O2 := Aside0.mk hO2
 have I2 := Aside0.mk (Kd.R_kept I1.out hK2 (fun k hk hk2 => HA.out k hk2.1 hk.1))
 clear hB2 hK2 hO2 e0 hW1
 have e1 : w2.cell? ⟨w.heap.size, 1, none⟩ = some (.slice A1 l1.length c1) := (blk_cell X2.out _).trans rfl
 go_wp2_with (go_at_call 49; (with_reducible refine (laws_markIntS.calls f (fun k => P1_ k ∧ k < w.heap.size) _ _ _ k2 y2 w0 w2 B2.out I2.out H3.out).mono ?_))
 (first | rintro e w3 rfl hI3 hB3 hK3 | rintro e w3 ⟨rfl, hI3, hB3, hK3⟩)
 have I3 := Aside0.mk (Kd.R_of_own (Kd.own_of_R hI3) (fun k hk => (I2.out.1 k hk).1) : IR w3 w0.heap.size P1_ (.slice A1 l1.length c1) y2)
 have B3 := Aside0.mk hB3
 have K3 := Aside0.mk (K2.out.then_ hK3 (fun k hk => .inl (.inr hk.1)))
 have O3 := Aside0.mk (Kd.S_mono (Kd.S_kept O2.out hK3 (fun k hk hk3 => HA.out k hk.1 hk3.1)) (fun k hk => hk.1))
 clear hI3 hB3 hK3 e1
 go_wp2
 go_ret
 exact ⟨rfl, O3.out, I3.out, B3.out, K3.out⟩
end Go.Proofs.Ytacfalpgmibfnaa.PCow
namespace Go.Proofs.Ytacfalpgmibfnaa.PCow
open Go.RowKit Go.Proofs.YtacfalpgmibfnaaW.PrintWords Go.Proofs.YtacfalpgmibfnaaW.PrintLast Go.Proofs.YtacfalpgmibfnaaW.PrintMore Go.Proofs.Ytacfalpgmibfnaa.E
set_option linter.unusedSimpArgs false
set_option linter.unusedVariables false
theorem R_iv {α : Type} {d : Kd α} {e : Nat} {w w' : World} {ok : Nat → Prop} {v : Value} {r : List α} (h : d.R e w' w.heap.size ok v r) : d.R e w' w.heap.size (fun k => w.heap.size ≤ k ∧ k < w'.heap.size) v r := Kd.R_mono (Kd.R_bound h) (fun k hk => ⟨hk.2.1, hk.2.2.1⟩)
theorem S_iv {α : Type} {d : Kd α} {e : Nat} {w w' : World} {ok : Nat → Prop} {v : Value} {r : List α} (h : Kd.S d e w' w.heap.size ok v r) : Kd.S d e w' w.heap.size (fun k => ok k ∧ w.heap.size ≤ k ∧ k < w'.heap.size) v r := Kd.S_mono (Kd.S_bound h) (fun k hk => ⟨hk.1, hk.2.1, hk.2.2.1⟩)
end Go.Proofs.Ytacfalpgmibfnaa.PCow
namespace Go.Proofs.Ytacfalpgmibfnaa.PCow
open Go.RowKit Go.Proofs.YtacfalpgmibfnaaW.PrintWords Go.Proofs.YtacfalpgmibfnaaW.PrintLast Go.Proofs.YtacfalpgmibfnaaW.PrintMore
attribute [local go_sem] max2_int min2_int max_two min_two max_three min_three max_four min_four
set_option linter.unusedVariables false
set_option linter.unusedSimpArgs false
def laws_heldIntS.l0 : Nat → List Int → Int → Int → Option (Int)
 | 0, _, _, _ => none
 | k + 1, x0, x1, x5 => if x5 < (x0.length : Int) then (if 0 ≤ x5 then (if (rd x0 x5) = x1 then (laws_heldIntS.l0 k x0 (wrap64 (x1 + 1)) (wrap64 (x5 + 1))) else (some (-1))) else (none)) else (some x1)
def laws_heldIntS.f (k : Nat) (l0 : List Int) (a1 : Int) : Option (Int) := laws_heldIntS.l0 k l0 a1 0
set_option maxHeartbeats 8000000 in
set_option maxRecDepth 100000 in
theorem laws_heldIntS.calls (k : Nat) (A0 : Option Addr) (c0 : Nat) (l0 : List Int) (a1 : Int) (r : Int) (w : World) (hr0 : Kd.C (Kd.int .i64) w A0 l0.length l0) (hc0 : l0.length ≤ c0) (h : laws_heldIntS.f k l0 a1 = some r) :
  Calls Try.prog 51 #[.slice A0 l0.length c0, .int .i64 a1] w fun e w' => e = .returned (.int .i64 r) ∧ Drawn0 w w' := by
 have HR0 := Aside0.mk hr0
 have HC0 := Aside0.mk hc0
 clear hr0 hc0
 have H : (laws_heldIntS.l0 k l0 a1 0) = some r := h
 clear h
 have H' := Aside0.mk H
 clear H
 go_enter Try.func51, Try.ntmps51
 go_wp2
 go_loopg [1, 5] k (fun kq v1 v5 w' => ∃ (x1_1 : Int) (x5_1 : Int), v1 = .int .i64 x1_1 ∧ v5 = .int .i64 x5_1 ∧ Aside0 (laws_heldIntS.l0 kq l0 x1_1 x5_1 = some r) ∧ Aside0 (kq ≤ k) ∧ Drawn0 w w')
 case atStart => exact ⟨(a1), (0), (by first | rfl | (simp; done) | (simp [*]; done)), (by first | rfl | (simp; done) | (simp [*]; done)), H', ⟨Nat.le_refl _⟩, by repeat (first | exact Drawn0.refl _ | apply Drawn0.step)⟩
 case round =>
  clear H'
  try clear p2
  obtain ⟨x1_1, x5_1, rfl, rfl, HA, HK1, ⟨m1, rfl⟩⟩ := hrel
  cases gk with
  | zero => exact absurd HA.out (by simp [laws_heldIntS.l0])
  | succ k1 =>
   have H := HA.out
   clear HA
   simp only [laws_heldIntS.l0] at H
   by_cases c3 : x5_1 < (l0.length : Int)
   ·rw [if_pos c3] at H
    have c3b0 : decide (x5_1 < (l0.length : Int)) = true := decide_eq_true c3
    clear c3
    by_cases c4 : 0 ≤ x5_1
    ·rw [if_pos c4] at H
     have c4b0 : decide (0 ≤ x5_1) = true := decide_eq_true c4
     clear c4
     by_cases c5 : (rd l0 x5_1) = x1_1
     ·rw [if_pos c5] at H
      have c5b0 : ((rd l0 x5_1) == x1_1) = true := beq_iff_eq.mpr c5
      have c5b1 : ((rd l0 x5_1) != x1_1) = false := bne_eq_false_iff_eq.mpr c5
      clear c5
      have H' := Aside0.mk H
      clear H
      have p389 : 0 ≤ (x5_1 : Int) := of_decide_eq_true (by assumption)
      have q389 : x5_1 < (l0.length : Int) := of_decide_eq_true (by assumption)
      obtain ⟨ad389, e389, hx389_0⟩ := Kd.at_int HR0.out x5_1 p389 q389
      cases e389
      replace p389 := eq_true p389
      replace q389 := eq_true q389
      go_wp2
      go_roundg k1
      case measure => have := HK1.out; omega
      case rel => exact ⟨(wrap64 (x1_1 + 1)), (wrap64 (x5_1 + 1)), (by first | rfl | (simp; done) | (simp [*]; done)), (by first | rfl | (simp; done) | (simp [*]; done)), H', ⟨by have := HK1.out; omega⟩, by repeat (first | exact Drawn0.refl _ | apply Drawn0.step)⟩
     ·rw [if_neg c5] at H
      have c5b0 : ((rd l0 x5_1) == x1_1) = false := beq_eq_false_iff_ne.mpr c5
      have c5b1 : ((rd l0 x5_1) != x1_1) = true := bne_iff_ne.mpr c5
      obtain rfl := Option.some.inj H
      have p389 : 0 ≤ (x5_1 : Int) := of_decide_eq_true (by assumption)
      have q389 : x5_1 < (l0.length : Int) := of_decide_eq_true (by assumption)
      obtain ⟨ad389, e389, hx389_0⟩ := Kd.at_int HR0.out x5_1 p389 q389
      cases e389
      replace p389 := eq_true p389
      replace q389 := eq_true q389
      go_wp2
      go_ret
      exact ⟨by first | rfl | (simp; done) | (simp [*]; done), by repeat (first | exact Drawn0.refl _ | apply Drawn0.step)⟩
    ·rw [if_neg c4] at H
     exact absurd H (by simp)
   ·rw [if_neg c3] at H
    have c3b0 : decide (x5_1 < (l0.length : Int)) = false := decide_eq_false c3
    clear c3
    obtain rfl := Option.some.inj H
    go_wp2
    go_ret
    exact ⟨by first | rfl | (simp; done) | (simp [*]; done), by repeat (first | exact Drawn0.refl _ | apply Drawn0.step)⟩
def laws_heldCellS.l0 : Nat → List (S68) → Int → Int → Option (Int)
 | 0, _, _, _ => none
 | k + 1, x0, x1, x5 => if x5 < (x0.length : Int) then (if 0 ≤ x5 then (if ((rd_T68 x0 x5).f0) = x1 then ((laws_markText.f k (wrap64 (x1 + 1))).bind fun t392 => (if ((rd_T68 x0 x5).f1).toList = t392.toList then ((laws_heldIntS.f k ((rd_T68 x0 x5).f2) (wrap64 ((wrap64 (x1 + 1)) + 1))).bind fun t394 => (if t394 < 0 then (some (-1)) else (laws_heldCellS.l0 k x0 t394 (wrap64 (x5 + 1))))) else (some (-1)))) else (some (-1))) else (none)) else (some x1)
def laws_heldCellS.f (k : Nat) (l0 : List (S68)) (a1 : Int) : Option (Int) := laws_heldCellS.l0 k l0 a1 0
def laws_heldCellS.T7 : Bool × List (List Nat × List Nat) := (true, [([], []), ([], []), ([0, 1], [0, 1]), ([2], [2]), ([3], [3]), ([], []), ([5], [5]), ([4, 6], [4, 6])])
def laws_heldCellS.B7 : List Nat := [0, 0, 3, 7, 15, 0, 32, 127]
theorem laws_heldCellS.tab7 : rtab .any (opsOf Try.f50 7) = laws_heldCellS.T7 := by kernel_rfl
theorem laws_heldCellS.bits7 : waitsOk laws_heldCellS.T7.2 laws_heldCellS.B7 = true := by kernel_rfl
set_option maxHeartbeats 8000000 in
set_option maxRecDepth 100000 in
theorem laws_heldCellS.calls (k : Nat) (A0 : Option Addr) (c0 : Nat) (l0 : List (S68)) (a1 : Int) (r : Int) (w : World) (hr0 : Kd.C k68 w A0 l0.length l0) (hc0 : l0.length ≤ c0) (h : laws_heldCellS.f k l0 a1 = some r) :
  Calls Try.prog 50 #[.slice A0 l0.length c0, .int .i64 a1] w fun e w' => e = .returned (.int .i64 r) ∧ Below w.heap.size w w' := by
 have HR0 := Aside0.mk hr0
 have HC0 := Aside0.mk hc0
 clear hr0 hc0
 have HB := Aside0.mk (Below.refl w.heap.size w)
 have H : (laws_heldCellS.l0 k l0 a1 0) = some r := h
 clear h
 have H' := Aside0.mk H
 clear H
 go_enter Try.func50, Try.ntmps50
 go_wp2
 go_loopg [1, 5] k (fun kq v1 v5 w' => ∃ (x1_1 : Int) (x5_1 : Int), v1 = .int .i64 x1_1 ∧ v5 = .int .i64 x5_1 ∧ Aside0 (laws_heldCellS.l0 kq l0 x1_1 x5_1 = some r) ∧ Aside0 (kq ≤ k) ∧ Aside0 (Below w.heap.size w w'))
 case atStart => exact ⟨(a1), (0), (by first | rfl | (simp; done) | (simp [*]; done)), (by first | rfl | (simp; done) | (simp [*]; done)), H', ⟨Nat.le_refl _⟩, ⟨by with_reducible repeat (first | exact HB.out | apply below_alloc | apply pw_below_drewN | apply below_drew1)⟩⟩
 case round =>
  clear H'
  try clear p2
  obtain ⟨x1_1, x5_1, rfl, rfl, HA, HK1, HB⟩ := hrel
  cases gk with
  | zero => exact absurd HA.out (by simp [laws_heldCellS.l0])
  | succ k1 =>
   have H := HA.out
   clear HA
   simp only [laws_heldCellS.l0] at H
   by_cases c3 : x5_1 < (l0.length : Int)
   ·rw [if_pos c3] at H
    have c3b0 : decide (x5_1 < (l0.length : Int)) = true := decide_eq_true c3
    clear c3
    by_cases c4 : 0 ≤ x5_1
    ·rw [if_pos c4] at H
     have c4b0 : decide (0 ≤ x5_1) = true := decide_eq_true c4
     clear c4
     by_cases c5 : ((rd_T68 l0 x5_1).f0) = x1_1
     ·rw [if_pos c5] at H
      have c5b0 : (((rd_T68 l0 x5_1).f0) == x1_1) = true := beq_iff_eq.mpr c5
      have c5b1 : (((rd_T68 l0 x5_1).f0) != x1_1) = false := bne_eq_false_iff_eq.mpr c5
      clear c5
      replace H := Option.bind_eq_some_iff.mp H
      obtain ⟨t392, A60, H⟩ := H
      replace H : (if ((rd_T68 l0 x5_1).f1).toList = t392.toList then ((laws_heldIntS.f k1 ((rd_T68 l0 x5_1).f2) (wrap64 ((wrap64 (x1_1 + 1)) + 1))).bind fun t394 => (if t394 < 0 then (some (-1)) else (laws_heldCellS.l0 k1 l0 t394 (wrap64 (x5_1 + 1))))) else (some (-1))) = some r := H
      have A6 := Aside0.mk A60
      clear A60
      by_cases c7 : ((rd_T68 l0 x5_1).f1).toList = t392.toList
      ·rw [if_pos c7] at H
       have c7b0 : (((rd_T68 l0 x5_1).f1).toList == t392.toList) = true := beq_iff_eq.mpr c7
       have c7b1 : (((rd_T68 l0 x5_1).f1).toList != t392.toList) = false := bne_eq_false_iff_eq.mpr c7
       clear c7
       replace H := Option.bind_eq_some_iff.mp H
       obtain ⟨t394, A80, H⟩ := H
       replace H : (if t394 < 0 then (some (-1)) else (laws_heldCellS.l0 k1 l0 t394 (wrap64 (x5_1 + 1)))) = some r := H
       have A8 := Aside0.mk A80
       clear A80
       by_cases c9 : t394 < 0
       ·rw [if_pos c9] at H
        have c9b0 : decide (t394 < 0) = true := decide_eq_true c9
        clear c9
        obtain rfl := Option.some.inj H
        have p390 : 0 ≤ (x5_1 : Int) := of_decide_eq_true (by assumption)
        have q390 : x5_1 < (l0.length : Int) := of_decide_eq_true (by assumption)
        obtain ⟨ad390, A390_2, c390_2, e390, hx390_0, hx390_1, hx390_2, hl390_2, hi390_2⟩ := at_T68 HR0.out x5_1 p390 q390
        cases e390
        replace hx390_0 := (HB.out.cell (World.block_lt_of_cell? w _ hx390_0)).trans hx390_0
        replace hx390_1 := (HB.out.cell (World.block_lt_of_cell? w _ hx390_1)).trans hx390_1
        replace hx390_2 := (HB.out.cell (World.block_lt_of_cell? w _ hx390_2)).trans hx390_2
        have HR390_2 := Aside0.mk hi390_2
        have HC390_2 := Aside0.mk hl390_2
        clear hi390_2 hl390_2
        replace p390 := eq_true p390
        replace q390 := eq_true q390
        try go_wp2
        have n0_ := Aside0.mk (below_drew1 HB.out)
        clear HB
        have HB := n0_
        clear n0_
        have p391 : 0 ≤ (x5_1 : Int) := of_decide_eq_true (by assumption)
        have q391 : x5_1 < (l0.length : Int) := of_decide_eq_true (by assumption)
        obtain ⟨ad391, A391_2, c391_2, e391, hx391_0, hx391_1, hx391_2, hl391_2, hi391_2⟩ := at_T68 HR0.out x5_1 p391 q391
        have hw391_2 := hx391_2
        have hw391_1 := hx391_1
        have hw391_0 := hx391_0
        obtain rfl : ad390 = ad391 := (by injection e391)
        replace hx391_0 := (HB.out.cell (World.block_lt_of_cell? w _ hx391_0)).trans hx391_0
        replace hx391_1 := (HB.out.cell (World.block_lt_of_cell? w _ hx391_1)).trans hx391_1
        replace hx391_2 := (HB.out.cell (World.block_lt_of_cell? w _ hx391_2)).trans hx391_2
        have HR391_2 := Aside0.mk hi391_2
        have HC391_2 := Aside0.mk hl391_2
        clear hi391_2 hl391_2
        replace p391 := eq_true p391
        replace q391 := eq_true q391
        refine start_ (n := 8) (S := fun w' => w'.cell? (ad390.add ((x5_1).toNat * 3)) = some (.int .i64 ((rd_T68 l0 x5_1).f0)) ∧ w'.cell? ⟨(ad390.add ((x5_1).toNat * 3)).block, (ad390.add ((x5_1).toNat * 3)).off + 1, none⟩ = some (.string ((rd_T68 l0 x5_1).f1)) ∧ w'.cell? ⟨(ad390.add ((x5_1).toNat * 3)).block, (ad390.add ((x5_1).toNat * 3)).off + 2, none⟩ = some (.slice A391_2 ((rd_T68 l0 x5_1).f2).length c391_2)) (ds := []) #[false, false, false, false, false, false, false, false] (by kernel_rfl) rfl rfl ⟨((HB.out.cell (World.block_lt_of_cell? w _ hw391_0)).trans hw391_0), ((HB.out.cell (World.block_lt_of_cell? w _ hw391_1)).trans hw391_1), ((HB.out.cell (World.block_lt_of_cell? w _ hw391_2)).trans hw391_2)⟩ (fun hHeld => ?_); refine with_tabW laws_heldCellS.tab7 laws_heldCellS.bits7 (fun HT_ HW_ => ?_)
        generalize wr.drew = w10 at HB HR391_2 hx391_0 hx391_1 hx391_2 hHeld ⊢
        refine pure_ (i := 0) (N := some 21) (v := ?_) (a' := ?_) #[true, false, false, false, false, false, false, false] rfl rfl (any_of HT_.out (by kernel_rfl)) (fun _ _ _ h => h) (Or.inl ⟨by rfl, ?_⟩) ?_ ?_
        rotate_left
        ·intro w'
         go_simp
         with_reducible rfl
        rotate_left
        ·simp only [Act.put, List.setIfInBounds_toArray, List.set_cons_zero, List.set_cons_succ, i64_w, i32_w]
         rfl
        refine pure_ (i := 1) (N := some 22) (v := ?_) (a' := ?_) #[true, true, false, false, false, false, false, false] rfl rfl (any_of HT_.out (by kernel_rfl)) (fun _ _ _ h => h) (Or.inl ⟨by rfl, ?_⟩) ?_ ?_
        rotate_left
        ·intro w'
         go_simp
         with_reducible rfl
        rotate_left
        ·simp only [Act.put, List.setIfInBounds_toArray, List.set_cons_zero, List.set_cons_succ, i64_w, i32_w]
         rfl
        refine pure_ (i := 2) (N := some 23) (v := ?_) (a' := ?_) #[true, true, true, false, false, false, false, false] rfl rfl (any_of HT_.out (by kernel_rfl)) (fun _ _ _ h => h) (Or.inl ⟨by rfl, ?_⟩) ?_ ?_
        rotate_left
        ·intro w'
         go_simp
         with_reducible rfl
        rotate_left
        ·simp only [Act.put, List.setIfInBounds_toArray, List.set_cons_zero, List.set_cons_succ, i64_w, i32_w]
         rfl
        refine pure_ (i := 3) (N := some 24) (v := ?_) (a' := ?_) #[true, true, true, true, false, false, false, false] rfl rfl (any_of HT_.out (by kernel_rfl)) (fun _ _ _ h => h) (Or.inl ⟨by rfl, ?_⟩) ?_ ?_
        rotate_left
        ·intro w'
         go_simp
         with_reducible rfl
        rotate_left
        ·simp only [Act.put, List.setIfInBounds_toArray, List.set_cons_zero, List.set_cons_succ, i64_w, i32_w]
         rfl
        refine pure_ (i := 5) (N := some 26) (v := ?_) (a' := ?_) #[true, true, true, true, false, true, false, false] rfl rfl (any_of HT_.out (by kernel_rfl)) (fun _ _ _ h => h) (Or.inl ⟨by rfl, ?_⟩) ?_ ?_
        rotate_left
        ·intro w'
         go_simp
         with_reducible rfl
        rotate_left
        ·simp only [Act.put, List.setIfInBounds_toArray, List.set_cons_zero, List.set_cons_succ, i64_w, i32_w]
         rfl
        refine take_ (i := 4) (N := some 25) (v := ?_) (a' := ?_) #[true, true, true, true, true, true, false, false] rfl rfl (take_ofW HT_.out HW_.out (by kernel_rfl)) (fun _ _ _ h => h) (Or.inl ⟨by rfl, ?_⟩) hHeld ?_ ?_
        rotate_left
        ·rintro w' ⟨s0, s1, s2⟩
         go_simp
         with_reducible rfl
        rotate_left
        ·simp only [Act.put, List.setIfInBounds_toArray, List.set_cons_zero, List.set_cons_succ, i64_w, i32_w]
         rfl
        refine one_ (i := 6) (N := some 27) #[true, true, true, true, true, true, true, false] rfl rfl (one_of HT_.out (by kernel_rfl)) (by decide) (fun K hK => ?_)
        refine goes_ Try.func68 (by kernel_rfl) rfl #[.int .i64 (wrap64 (x1_1 + 1))] (by rfl) rfl rfl (by (try simp only [List.map_toArray, List.map_cons, List.map_nil]); first | done | rfl | (simp only [List.length_drop, List.length_take]; rfl)) ?_
        with_reducible refine (laws_markText.calls k1 (wrap64 (x1_1 + 1)) t392 _ A6.out).mono ?_
        rintro e w11 ⟨rfl, hb⟩
        refine ⟨_, rfl, ?_⟩
        have n0_ := Aside0.mk (below_step (by with_reducible repeat (first | exact HB.out | apply below_alloc | apply pw_below_drewN | apply below_drew1)) hb)
        clear HB
        have HB := n0_
        clear n0_
        (try clear hb)
        (try clear hb2)
        (try clear hk)
        (try clear hi)
        refine hK.out _ _ ⟨((HB.out.cell (World.block_lt_of_cell? w _ hw391_0)).trans hw391_0), ((HB.out.cell (World.block_lt_of_cell? w _ hw391_1)).trans hw391_1), ((HB.out.cell (World.block_lt_of_cell? w _ hw391_2)).trans hw391_2)⟩ (fun hHeld => ?_)
        clear hK K
        refine norm_ (a' := ?_) ?_ ?_
        rotate_left
        ·show Act.put _ (some 27) _ = _
         simp only [Act.put, List.setIfInBounds_toArray, List.set_cons_zero, List.set_cons_succ, i64_w, i32_w]
         rfl
        refine pure_ (i := 7) (N := some 28) (v := ?_) (a' := ?_) #[true, true, true, true, true, true, true, true] rfl rfl (any_of HT_.out (by kernel_rfl)) (fun _ _ _ h => h) (Or.inl ⟨by rfl, ?_⟩) ?_ ?_
        rotate_left
        ·intro w'
         go_simp
         with_reducible rfl
        rotate_left
        ·simp only [Act.put, List.setIfInBounds_toArray, List.set_cons_zero, List.set_cons_succ, i64_w, i32_w]
         rfl
        refine done_ (done_of HT_.out (by kernel_rfl)) ?_
        have p393 : 0 ≤ (x5_1 : Int) := of_decide_eq_true (by assumption)
        have q393 : x5_1 < (l0.length : Int) := of_decide_eq_true (by assumption)
        obtain ⟨ad393, A393_2, c393_2, e393, hx393_0, hx393_1, hx393_2, hl393_2, hi393_2⟩ := at_T68 HR0.out x5_1 p393 q393
        obtain rfl : ad390 = ad393 := (by injection e393)
        try obtain ⟨rfl, rfl⟩ : A393_2 = A391_2 ∧ c393_2 = c391_2 := by have h_ := hx393_2.symm.trans hw391_2; simpa using h_
        replace hx393_0 := (HB.out.cell (World.block_lt_of_cell? w _ hx393_0)).trans hx393_0
        replace hx393_1 := (HB.out.cell (World.block_lt_of_cell? w _ hx393_1)).trans hx393_1
        replace hx393_2 := (HB.out.cell (World.block_lt_of_cell? w _ hx393_2)).trans hx393_2
        have HR393_2 := Aside0.mk hi393_2
        have HC393_2 := Aside0.mk hl393_2
        clear hi393_2 hl393_2
        replace p393 := eq_true p393
        replace q393 := eq_true q393
        try go_wp2_with (first | ((with_reducible refine gate_callee (f := 51) rfl ?_); refine goesL_ (some 37) rfl rfl Try.func51 (by kernel_rfl) rfl #[.slice A393_2 ((rd_T68 l0 x5_1).f2).length c393_2, .int .i64 (wrap64 ((wrap64 (x1_1 + 1)) + 1))] rfl (by (try simp only [List.map_toArray, List.map_cons, List.map_nil]); first | done | rfl | (simp only [List.length_drop, List.length_take]; rfl)) ?_; (with_reducible refine (laws_heldIntS.calls k1 _ _ ((rd_T68 l0 x5_1).f2) (wrap64 ((wrap64 (x1_1 + 1)) + 1)) t394 _ ?side1 ?side2 A8.out).mono ?_); (case side1 => repeat (first | exact (Kd.C_below HR393_2.out HB.out) | (with_reducible refine Kd.C_alloc ?_ _) | (with_reducible refine Kd.C_drewN ?_ _) | (with_reducible refine Kd.C_drew ?_))); (case side2 => exact HC393_2.out); rintro e w' ⟨rfl, ⟨nd, rfl⟩⟩; refine ⟨_, rfl, ?_⟩))
        go_ret
        exact ⟨by first | rfl | (simp [errW_none, errW_some] <;> rfl) | (simp [*, errW_none, errW_some] <;> rfl) | (simp [E.isEmpty_bne]; done) | (rw [E.bne_empty]), by with_reducible repeat (first | exact HB.out | apply below_alloc | apply pw_below_drewN | apply below_drew1)⟩
       ·rw [if_neg c9] at H
        have c9b0 : decide (t394 < 0) = false := decide_eq_false c9
        clear c9
        have H' := Aside0.mk H
        clear H
        have p390 : 0 ≤ (x5_1 : Int) := of_decide_eq_true (by assumption)
        have q390 : x5_1 < (l0.length : Int) := of_decide_eq_true (by assumption)
        obtain ⟨ad390, A390_2, c390_2, e390, hx390_0, hx390_1, hx390_2, hl390_2, hi390_2⟩ := at_T68 HR0.out x5_1 p390 q390
        cases e390
        replace hx390_0 := (HB.out.cell (World.block_lt_of_cell? w _ hx390_0)).trans hx390_0
        replace hx390_1 := (HB.out.cell (World.block_lt_of_cell? w _ hx390_1)).trans hx390_1
        replace hx390_2 := (HB.out.cell (World.block_lt_of_cell? w _ hx390_2)).trans hx390_2
        have HR390_2 := Aside0.mk hi390_2
        have HC390_2 := Aside0.mk hl390_2
        clear hi390_2 hl390_2
        replace p390 := eq_true p390
        replace q390 := eq_true q390
        try go_wp2
        have n0_ := Aside0.mk (below_drew1 HB.out)
        clear HB
        have HB := n0_
        clear n0_
        have p391 : 0 ≤ (x5_1 : Int) := of_decide_eq_true (by assumption)
        have q391 : x5_1 < (l0.length : Int) := of_decide_eq_true (by assumption)
        obtain ⟨ad391, A391_2, c391_2, e391, hx391_0, hx391_1, hx391_2, hl391_2, hi391_2⟩ := at_T68 HR0.out x5_1 p391 q391
        have hw391_2 := hx391_2
        have hw391_1 := hx391_1
        have hw391_0 := hx391_0
        obtain rfl : ad390 = ad391 := (by injection e391)
        replace hx391_0 := (HB.out.cell (World.block_lt_of_cell? w _ hx391_0)).trans hx391_0
        replace hx391_1 := (HB.out.cell (World.block_lt_of_cell? w _ hx391_1)).trans hx391_1
        replace hx391_2 := (HB.out.cell (World.block_lt_of_cell? w _ hx391_2)).trans hx391_2
        have HR391_2 := Aside0.mk hi391_2
        have HC391_2 := Aside0.mk hl391_2
        clear hi391_2 hl391_2
        replace p391 := eq_true p391
        replace q391 := eq_true q391
        refine start_ (n := 8) (S := fun w' => w'.cell? (ad390.add ((x5_1).toNat * 3)) = some (.int .i64 ((rd_T68 l0 x5_1).f0)) ∧ w'.cell? ⟨(ad390.add ((x5_1).toNat * 3)).block, (ad390.add ((x5_1).toNat * 3)).off + 1, none⟩ = some (.string ((rd_T68 l0 x5_1).f1)) ∧ w'.cell? ⟨(ad390.add ((x5_1).toNat * 3)).block, (ad390.add ((x5_1).toNat * 3)).off + 2, none⟩ = some (.slice A391_2 ((rd_T68 l0 x5_1).f2).length c391_2)) (ds := []) #[false, false, false, false, false, false, false, false] (by kernel_rfl) rfl rfl ⟨((HB.out.cell (World.block_lt_of_cell? w _ hw391_0)).trans hw391_0), ((HB.out.cell (World.block_lt_of_cell? w _ hw391_1)).trans hw391_1), ((HB.out.cell (World.block_lt_of_cell? w _ hw391_2)).trans hw391_2)⟩ (fun hHeld => ?_); refine with_tabW laws_heldCellS.tab7 laws_heldCellS.bits7 (fun HT_ HW_ => ?_)
        generalize wr.drew = w12 at HB HR391_2 hx391_0 hx391_1 hx391_2 hHeld ⊢
        refine pure_ (i := 0) (N := some 21) (v := ?_) (a' := ?_) #[true, false, false, false, false, false, false, false] rfl rfl (any_of HT_.out (by kernel_rfl)) (fun _ _ _ h => h) (Or.inl ⟨by rfl, ?_⟩) ?_ ?_
        rotate_left
        ·intro w'
         go_simp
         with_reducible rfl
        rotate_left
        ·simp only [Act.put, List.setIfInBounds_toArray, List.set_cons_zero, List.set_cons_succ, i64_w, i32_w]
         rfl
        refine pure_ (i := 1) (N := some 22) (v := ?_) (a' := ?_) #[true, true, false, false, false, false, false, false] rfl rfl (any_of HT_.out (by kernel_rfl)) (fun _ _ _ h => h) (Or.inl ⟨by rfl, ?_⟩) ?_ ?_
        rotate_left
        ·intro w'
         go_simp
         with_reducible rfl
        rotate_left
        ·simp only [Act.put, List.setIfInBounds_toArray, List.set_cons_zero, List.set_cons_succ, i64_w, i32_w]
         rfl
        refine pure_ (i := 2) (N := some 23) (v := ?_) (a' := ?_) #[true, true, true, false, false, false, false, false] rfl rfl (any_of HT_.out (by kernel_rfl)) (fun _ _ _ h => h) (Or.inl ⟨by rfl, ?_⟩) ?_ ?_
        rotate_left
        ·intro w'
         go_simp
         with_reducible rfl
        rotate_left
        ·simp only [Act.put, List.setIfInBounds_toArray, List.set_cons_zero, List.set_cons_succ, i64_w, i32_w]
         rfl
        refine pure_ (i := 3) (N := some 24) (v := ?_) (a' := ?_) #[true, true, true, true, false, false, false, false] rfl rfl (any_of HT_.out (by kernel_rfl)) (fun _ _ _ h => h) (Or.inl ⟨by rfl, ?_⟩) ?_ ?_
        rotate_left
        ·intro w'
         go_simp
         with_reducible rfl
        rotate_left
        ·simp only [Act.put, List.setIfInBounds_toArray, List.set_cons_zero, List.set_cons_succ, i64_w, i32_w]
         rfl
        refine pure_ (i := 5) (N := some 26) (v := ?_) (a' := ?_) #[true, true, true, true, false, true, false, false] rfl rfl (any_of HT_.out (by kernel_rfl)) (fun _ _ _ h => h) (Or.inl ⟨by rfl, ?_⟩) ?_ ?_
        rotate_left
        ·intro w'
         go_simp
         with_reducible rfl
        rotate_left
        ·simp only [Act.put, List.setIfInBounds_toArray, List.set_cons_zero, List.set_cons_succ, i64_w, i32_w]
         rfl
        refine take_ (i := 4) (N := some 25) (v := ?_) (a' := ?_) #[true, true, true, true, true, true, false, false] rfl rfl (take_ofW HT_.out HW_.out (by kernel_rfl)) (fun _ _ _ h => h) (Or.inl ⟨by rfl, ?_⟩) hHeld ?_ ?_
        rotate_left
        ·rintro w' ⟨s0, s1, s2⟩
         go_simp
         with_reducible rfl
        rotate_left
        ·simp only [Act.put, List.setIfInBounds_toArray, List.set_cons_zero, List.set_cons_succ, i64_w, i32_w]
         rfl
        refine one_ (i := 6) (N := some 27) #[true, true, true, true, true, true, true, false] rfl rfl (one_of HT_.out (by kernel_rfl)) (by decide) (fun K hK => ?_)
        refine goes_ Try.func68 (by kernel_rfl) rfl #[.int .i64 (wrap64 (x1_1 + 1))] (by rfl) rfl rfl (by (try simp only [List.map_toArray, List.map_cons, List.map_nil]); first | done | rfl | (simp only [List.length_drop, List.length_take]; rfl)) ?_
        with_reducible refine (laws_markText.calls k1 (wrap64 (x1_1 + 1)) t392 _ A6.out).mono ?_
        rintro e w13 ⟨rfl, hb⟩
        refine ⟨_, rfl, ?_⟩
        have n0_ := Aside0.mk (below_step (by with_reducible repeat (first | exact HB.out | apply below_alloc | apply pw_below_drewN | apply below_drew1)) hb)
        clear HB
        have HB := n0_
        clear n0_
        (try clear hb)
        (try clear hb2)
        (try clear hk)
        (try clear hi)
        refine hK.out _ _ ⟨((HB.out.cell (World.block_lt_of_cell? w _ hw391_0)).trans hw391_0), ((HB.out.cell (World.block_lt_of_cell? w _ hw391_1)).trans hw391_1), ((HB.out.cell (World.block_lt_of_cell? w _ hw391_2)).trans hw391_2)⟩ (fun hHeld => ?_)
        clear hK K
        refine norm_ (a' := ?_) ?_ ?_
        rotate_left
        ·show Act.put _ (some 27) _ = _
         simp only [Act.put, List.setIfInBounds_toArray, List.set_cons_zero, List.set_cons_succ, i64_w, i32_w]
         rfl
        refine pure_ (i := 7) (N := some 28) (v := ?_) (a' := ?_) #[true, true, true, true, true, true, true, true] rfl rfl (any_of HT_.out (by kernel_rfl)) (fun _ _ _ h => h) (Or.inl ⟨by rfl, ?_⟩) ?_ ?_
        rotate_left
        ·intro w'
         go_simp
         with_reducible rfl
        rotate_left
        ·simp only [Act.put, List.setIfInBounds_toArray, List.set_cons_zero, List.set_cons_succ, i64_w, i32_w]
         rfl
        refine done_ (done_of HT_.out (by kernel_rfl)) ?_
        have p393 : 0 ≤ (x5_1 : Int) := of_decide_eq_true (by assumption)
        have q393 : x5_1 < (l0.length : Int) := of_decide_eq_true (by assumption)
        obtain ⟨ad393, A393_2, c393_2, e393, hx393_0, hx393_1, hx393_2, hl393_2, hi393_2⟩ := at_T68 HR0.out x5_1 p393 q393
        obtain rfl : ad390 = ad393 := (by injection e393)
        try obtain ⟨rfl, rfl⟩ : A393_2 = A391_2 ∧ c393_2 = c391_2 := by have h_ := hx393_2.symm.trans hw391_2; simpa using h_
        replace hx393_0 := (HB.out.cell (World.block_lt_of_cell? w _ hx393_0)).trans hx393_0
        replace hx393_1 := (HB.out.cell (World.block_lt_of_cell? w _ hx393_1)).trans hx393_1
        replace hx393_2 := (HB.out.cell (World.block_lt_of_cell? w _ hx393_2)).trans hx393_2
        have HR393_2 := Aside0.mk hi393_2
        have HC393_2 := Aside0.mk hl393_2
        clear hi393_2 hl393_2
        replace p393 := eq_true p393
        replace q393 := eq_true q393
        try go_wp2_with (first | ((with_reducible refine gate_callee (f := 51) rfl ?_); refine goesL_ (some 37) rfl rfl Try.func51 (by kernel_rfl) rfl #[.slice A393_2 ((rd_T68 l0 x5_1).f2).length c393_2, .int .i64 (wrap64 ((wrap64 (x1_1 + 1)) + 1))] rfl (by (try simp only [List.map_toArray, List.map_cons, List.map_nil]); first | done | rfl | (simp only [List.length_drop, List.length_take]; rfl)) ?_; (with_reducible refine (laws_heldIntS.calls k1 _ _ ((rd_T68 l0 x5_1).f2) (wrap64 ((wrap64 (x1_1 + 1)) + 1)) t394 _ ?side1 ?side2 A8.out).mono ?_); (case side1 => repeat (first | exact (Kd.C_below HR393_2.out HB.out) | (with_reducible refine Kd.C_alloc ?_ _) | (with_reducible refine Kd.C_drewN ?_ _) | (with_reducible refine Kd.C_drew ?_))); (case side2 => exact HC393_2.out); rintro e w' ⟨rfl, ⟨nd, rfl⟩⟩; refine ⟨_, rfl, ?_⟩))
        go_roundg k1
        case measure => have := HK1.out; omega
        case rel => exact ⟨(t394), (wrap64 (x5_1 + 1)), (by first | rfl | (simp; done) | (simp [*]; done)), (by first | rfl | (simp; done) | (simp [*]; done)), H', ⟨by have := HK1.out; omega⟩, ⟨by with_reducible repeat (first | exact HB.out | apply below_alloc | apply pw_below_drewN | apply below_drew1)⟩⟩
      ·rw [if_neg c7] at H
       have c7b0 : (((rd_T68 l0 x5_1).f1).toList == t392.toList) = false := beq_eq_false_iff_ne.mpr c7
       have c7b1 : (((rd_T68 l0 x5_1).f1).toList != t392.toList) = true := bne_iff_ne.mpr c7
       obtain rfl := Option.some.inj H
       have p390 : 0 ≤ (x5_1 : Int) := of_decide_eq_true (by assumption)
       have q390 : x5_1 < (l0.length : Int) := of_decide_eq_true (by assumption)
       obtain ⟨ad390, A390_2, c390_2, e390, hx390_0, hx390_1, hx390_2, hl390_2, hi390_2⟩ := at_T68 HR0.out x5_1 p390 q390
       cases e390
       replace hx390_0 := (HB.out.cell (World.block_lt_of_cell? w _ hx390_0)).trans hx390_0
       replace hx390_1 := (HB.out.cell (World.block_lt_of_cell? w _ hx390_1)).trans hx390_1
       replace hx390_2 := (HB.out.cell (World.block_lt_of_cell? w _ hx390_2)).trans hx390_2
       have HR390_2 := Aside0.mk hi390_2
       have HC390_2 := Aside0.mk hl390_2
       clear hi390_2 hl390_2
       replace p390 := eq_true p390
       replace q390 := eq_true q390
       try go_wp2
       have n0_ := Aside0.mk (below_drew1 HB.out)
       clear HB
       have HB := n0_
       clear n0_
       have p391 : 0 ≤ (x5_1 : Int) := of_decide_eq_true (by assumption)
       have q391 : x5_1 < (l0.length : Int) := of_decide_eq_true (by assumption)
       obtain ⟨ad391, A391_2, c391_2, e391, hx391_0, hx391_1, hx391_2, hl391_2, hi391_2⟩ := at_T68 HR0.out x5_1 p391 q391
       have hw391_2 := hx391_2
       have hw391_1 := hx391_1
       have hw391_0 := hx391_0
       obtain rfl : ad390 = ad391 := (by injection e391)
       replace hx391_0 := (HB.out.cell (World.block_lt_of_cell? w _ hx391_0)).trans hx391_0
       replace hx391_1 := (HB.out.cell (World.block_lt_of_cell? w _ hx391_1)).trans hx391_1
       replace hx391_2 := (HB.out.cell (World.block_lt_of_cell? w _ hx391_2)).trans hx391_2
       have HR391_2 := Aside0.mk hi391_2
       have HC391_2 := Aside0.mk hl391_2
       clear hi391_2 hl391_2
       replace p391 := eq_true p391
       replace q391 := eq_true q391
       refine start_ (n := 8) (S := fun w' => w'.cell? (ad390.add ((x5_1).toNat * 3)) = some (.int .i64 ((rd_T68 l0 x5_1).f0)) ∧ w'.cell? ⟨(ad390.add ((x5_1).toNat * 3)).block, (ad390.add ((x5_1).toNat * 3)).off + 1, none⟩ = some (.string ((rd_T68 l0 x5_1).f1)) ∧ w'.cell? ⟨(ad390.add ((x5_1).toNat * 3)).block, (ad390.add ((x5_1).toNat * 3)).off + 2, none⟩ = some (.slice A391_2 ((rd_T68 l0 x5_1).f2).length c391_2)) (ds := []) #[false, false, false, false, false, false, false, false] (by kernel_rfl) rfl rfl ⟨((HB.out.cell (World.block_lt_of_cell? w _ hw391_0)).trans hw391_0), ((HB.out.cell (World.block_lt_of_cell? w _ hw391_1)).trans hw391_1), ((HB.out.cell (World.block_lt_of_cell? w _ hw391_2)).trans hw391_2)⟩ (fun hHeld => ?_); refine with_tabW laws_heldCellS.tab7 laws_heldCellS.bits7 (fun HT_ HW_ => ?_)
       generalize wr.drew = w14 at HB HR391_2 hx391_0 hx391_1 hx391_2 hHeld ⊢
       refine pure_ (i := 0) (N := some 21) (v := ?_) (a' := ?_) #[true, false, false, false, false, false, false, false] rfl rfl (any_of HT_.out (by kernel_rfl)) (fun _ _ _ h => h) (Or.inl ⟨by rfl, ?_⟩) ?_ ?_
       rotate_left
       ·intro w'
        go_simp
        with_reducible rfl
       rotate_left
       ·simp only [Act.put, List.setIfInBounds_toArray, List.set_cons_zero, List.set_cons_succ, i64_w, i32_w]
        rfl
       refine pure_ (i := 1) (N := some 22) (v := ?_) (a' := ?_) #[true, true, false, false, false, false, false, false] rfl rfl (any_of HT_.out (by kernel_rfl)) (fun _ _ _ h => h) (Or.inl ⟨by rfl, ?_⟩) ?_ ?_
       rotate_left
       ·intro w'
        go_simp
        with_reducible rfl
       rotate_left
       ·simp only [Act.put, List.setIfInBounds_toArray, List.set_cons_zero, List.set_cons_succ, i64_w, i32_w]
        rfl
       refine pure_ (i := 2) (N := some 23) (v := ?_) (a' := ?_) #[true, true, true, false, false, false, false, false] rfl rfl (any_of HT_.out (by kernel_rfl)) (fun _ _ _ h => h) (Or.inl ⟨by rfl, ?_⟩) ?_ ?_
       rotate_left
       ·intro w'
        go_simp
        with_reducible rfl
       rotate_left
       ·simp only [Act.put, List.setIfInBounds_toArray, List.set_cons_zero, List.set_cons_succ, i64_w, i32_w]
        rfl
       refine pure_ (i := 3) (N := some 24) (v := ?_) (a' := ?_) #[true, true, true, true, false, false, false, false] rfl rfl (any_of HT_.out (by kernel_rfl)) (fun _ _ _ h => h) (Or.inl ⟨by rfl, ?_⟩) ?_ ?_
       rotate_left
       ·intro w'
        go_simp
        with_reducible rfl
       rotate_left
       ·simp only [Act.put, List.setIfInBounds_toArray, List.set_cons_zero, List.set_cons_succ, i64_w, i32_w]
        rfl
       refine pure_ (i := 5) (N := some 26) (v := ?_) (a' := ?_) #[true, true, true, true, false, true, false, false] rfl rfl (any_of HT_.out (by kernel_rfl)) (fun _ _ _ h => h) (Or.inl ⟨by rfl, ?_⟩) ?_ ?_
       rotate_left
       ·intro w'
        go_simp
        with_reducible rfl
       rotate_left
       ·simp only [Act.put, List.setIfInBounds_toArray, List.set_cons_zero, List.set_cons_succ, i64_w, i32_w]
        rfl
       refine take_ (i := 4) (N := some 25) (v := ?_) (a' := ?_) #[true, true, true, true, true, true, false, false] rfl rfl (take_ofW HT_.out HW_.out (by kernel_rfl)) (fun _ _ _ h => h) (Or.inl ⟨by rfl, ?_⟩) hHeld ?_ ?_
       rotate_left
       ·rintro w' ⟨s0, s1, s2⟩
        go_simp
        with_reducible rfl
       rotate_left
       ·simp only [Act.put, List.setIfInBounds_toArray, List.set_cons_zero, List.set_cons_succ, i64_w, i32_w]
        rfl
       refine one_ (i := 6) (N := some 27) #[true, true, true, true, true, true, true, false] rfl rfl (one_of HT_.out (by kernel_rfl)) (by decide) (fun K hK => ?_)
       refine goes_ Try.func68 (by kernel_rfl) rfl #[.int .i64 (wrap64 (x1_1 + 1))] (by rfl) rfl rfl (by (try simp only [List.map_toArray, List.map_cons, List.map_nil]); first | done | rfl | (simp only [List.length_drop, List.length_take]; rfl)) ?_
       with_reducible refine (laws_markText.calls k1 (wrap64 (x1_1 + 1)) t392 _ A6.out).mono ?_
       rintro e w15 ⟨rfl, hb⟩
       refine ⟨_, rfl, ?_⟩
       have n0_ := Aside0.mk (below_step (by with_reducible repeat (first | exact HB.out | apply below_alloc | apply pw_below_drewN | apply below_drew1)) hb)
       clear HB
       have HB := n0_
       clear n0_
       (try clear hb)
       (try clear hb2)
       (try clear hk)
       (try clear hi)
       refine hK.out _ _ ⟨((HB.out.cell (World.block_lt_of_cell? w _ hw391_0)).trans hw391_0), ((HB.out.cell (World.block_lt_of_cell? w _ hw391_1)).trans hw391_1), ((HB.out.cell (World.block_lt_of_cell? w _ hw391_2)).trans hw391_2)⟩ (fun hHeld => ?_)
       clear hK K
       refine norm_ (a' := ?_) ?_ ?_
       rotate_left
       ·show Act.put _ (some 27) _ = _
        simp only [Act.put, List.setIfInBounds_toArray, List.set_cons_zero, List.set_cons_succ, i64_w, i32_w]
        rfl
       refine pure_ (i := 7) (N := some 28) (v := ?_) (a' := ?_) #[true, true, true, true, true, true, true, true] rfl rfl (any_of HT_.out (by kernel_rfl)) (fun _ _ _ h => h) (Or.inl ⟨by rfl, ?_⟩) ?_ ?_
       rotate_left
       ·intro w'
        go_simp
        with_reducible rfl
       rotate_left
       ·simp only [Act.put, List.setIfInBounds_toArray, List.set_cons_zero, List.set_cons_succ, i64_w, i32_w]
        rfl
       refine done_ (done_of HT_.out (by kernel_rfl)) ?_
       try go_wp2
       go_ret
       exact ⟨by first | rfl | (simp [errW_none, errW_some] <;> rfl) | (simp [*, errW_none, errW_some] <;> rfl) | (simp [E.isEmpty_bne]; done) | (rw [E.bne_empty]), by with_reducible repeat (first | exact HB.out | apply below_alloc | apply pw_below_drewN | apply below_drew1)⟩
     ·rw [if_neg c5] at H
      have c5b0 : (((rd_T68 l0 x5_1).f0) == x1_1) = false := beq_eq_false_iff_ne.mpr c5
      have c5b1 : (((rd_T68 l0 x5_1).f0) != x1_1) = true := bne_iff_ne.mpr c5
      obtain rfl := Option.some.inj H
      have p390 : 0 ≤ (x5_1 : Int) := of_decide_eq_true (by assumption)
      have q390 : x5_1 < (l0.length : Int) := of_decide_eq_true (by assumption)
      obtain ⟨ad390, A390_2, c390_2, e390, hx390_0, hx390_1, hx390_2, hl390_2, hi390_2⟩ := at_T68 HR0.out x5_1 p390 q390
      cases e390
      replace hx390_0 := (HB.out.cell (World.block_lt_of_cell? w _ hx390_0)).trans hx390_0
      replace hx390_1 := (HB.out.cell (World.block_lt_of_cell? w _ hx390_1)).trans hx390_1
      replace hx390_2 := (HB.out.cell (World.block_lt_of_cell? w _ hx390_2)).trans hx390_2
      have HR390_2 := Aside0.mk hi390_2
      have HC390_2 := Aside0.mk hl390_2
      clear hi390_2 hl390_2
      replace p390 := eq_true p390
      replace q390 := eq_true q390
      go_wp2
      go_ret
      exact ⟨by first | rfl | (simp [errW_none, errW_some] <;> rfl) | (simp [*, errW_none, errW_some] <;> rfl) | (simp [E.isEmpty_bne]; done) | (rw [E.bne_empty]), by with_reducible repeat (first | exact HB.out | apply below_alloc | apply pw_below_drewN | apply below_drew1)⟩
    ·rw [if_neg c4] at H
     exact absurd H (by simp)
   ·rw [if_neg c3] at H
    have c3b0 : decide (x5_1 < (l0.length : Int)) = false := decide_eq_false c3
    clear c3
    obtain rfl := Option.some.inj H
    go_wp2
    go_ret
    exact ⟨by first | rfl | (simp [errW_none, errW_some] <;> rfl) | (simp [*, errW_none, errW_some] <;> rfl) | (simp [E.isEmpty_bne]; done) | (rw [E.bne_empty]), by with_reducible repeat (first | exact HB.out | apply below_alloc | apply pw_below_drewN | apply below_drew1)⟩
def laws_heldCow.f (k : Nat) (l0_0 : List (S68)) (l0_1 : List Int) (a0_2 : Int) (a1 : Int) : Option (Int) := (laws_heldCellS.f k l0_0 a1).bind fun t396 => (if t396 < 0 then (some (-1)) else ((laws_heldIntS.f k l0_1 t396).bind fun t397 => (if t397 < 0 then (some (-1)) else (some t397))))
set_option maxHeartbeats 8000000 in
set_option maxRecDepth 100000 in
theorem laws_heldCow.calls (k : Nat) (A0_0 : Option Addr) (c0_0 : Nat) (l0_0 : List (S68)) (A0_1 : Option Addr) (c0_1 : Nat) (l0_1 : List Int) (a0_2 : Int) (a1 : Int) (r : Int) (w : World) (hr0_0 : Kd.C k68 w A0_0 l0_0.length l0_0) (hc0_0 : l0_0.length ≤ c0_0) (hr0_1 : Kd.C (Kd.int .i64) w A0_1 l0_1.length l0_1) (hc0_1 : l0_1.length ≤ c0_1) (h : laws_heldCow.f k l0_0 l0_1 a0_2 a1 = some r) :
  Calls Try.prog 18 #[.agg #[.slice A0_0 l0_0.length c0_0, .slice A0_1 l0_1.length c0_1, .int .i64 a0_2], .int .i64 a1] w fun e w' => e = .returned (.int .i64 r) ∧ Below w.heap.size w w' := by
 have hu25 := Try.underlying25
 have HR0_0 := Aside0.mk hr0_0
 have HC0_0 := Aside0.mk hc0_0
 clear hr0_0 hc0_0
 have HR0_1 := Aside0.mk hr0_1
 have HC0_1 := Aside0.mk hc0_1
 clear hr0_1 hc0_1
 have HB := Aside0.mk (Below.refl w.heap.size w)
 have H : ((laws_heldCellS.f k l0_0 a1).bind fun t396 => (if t396 < 0 then (some (-1)) else ((laws_heldIntS.f k l0_1 t396).bind fun t397 => (if t397 < 0 then (some (-1)) else (some t397))))) = some r := h
 clear h
 replace H := Option.bind_eq_some_iff.mp H
 obtain ⟨t396, A30, H⟩ := H
 replace H : (if t396 < 0 then (some (-1)) else ((laws_heldIntS.f k l0_1 t396).bind fun t397 => (if t397 < 0 then (some (-1)) else (some t397)))) = some r := H
 have A3 := Aside0.mk A30
 clear A30
 by_cases c4 : t396 < 0
 ·rw [if_pos c4] at H
  have c4b0 : decide (t396 < 0) = true := decide_eq_true c4
  clear c4
  obtain rfl := Option.some.inj H
  go_enter Try.func18, Try.ntmps18
  go_wp2_with (first | ((with_reducible refine gate_dst (N := 2) rfl ?_); refine box_event ?hg (N := 2) ?hd (cs := #[.slice A0_0 l0_0.length c0_0, .slice A0_1 l0_1.length c0_1, .int .i64 a0_2]) (t := 25) ?hr ?_; (case hd => rfl); (case hg => rfl); (case hr => first | (go_simp; done) | (go_simp; rfl)); intro gb395 hg w5 hbox hb; have BK395 := Aside0.mk (hbox); have GW395 := Aside0.mk ((by rw [hg]; exact (below_size (by with_reducible repeat (first | exact HB.out | apply below_alloc | apply pw_below_drewN | apply below_drew1))) : w.heap.size ≤ gb395)); have GE395 := Aside0.mk ((by rw [hg]; exact (below_size (by with_reducible repeat (first | exact HB.out | apply below_alloc | apply pw_below_drewN | apply below_drew1))) : w.heap.size ≤ gb395)); replace HB := Aside0.mk (below_step (by with_reducible repeat (first | exact HB.out | apply below_alloc | apply pw_below_drewN | apply below_drew1)) hb); clear hb hbox hg; have hcz6_0 : w5.cell? ⟨gb395, 0, none⟩ = some (.slice A0_0 l0_0.length c0_0) := (blk_cell BK395.out 0).trans rfl; have hcz6_1 : w5.cell? ⟨gb395, 1, none⟩ = some (.slice A0_1 l0_1.length c0_1) := (blk_cell BK395.out 1).trans rfl; have hcz6_2 : w5.cell? ⟨gb395, 2, none⟩ = some (.int .i64 a0_2) := (blk_cell BK395.out 2).trans rfl; have hfz6_0 := blk_frozen BK395.out 0; have hfz6_1 := blk_frozen BK395.out 1; have hfz6_2 := blk_frozen BK395.out 2) | ((with_reducible refine gate_callee (f := 50) rfl ?_); refine goesL_ (some 8) rfl rfl Try.func50 (by kernel_rfl) rfl #[.slice A0_0 l0_0.length c0_0, .int .i64 a1] rfl (by (try simp only [List.map_toArray, List.map_cons, List.map_nil]); first | done | rfl | (simp only [List.length_drop, List.length_take]; rfl)) ?_; (with_reducible refine (laws_heldCellS.calls k _ _ l0_0 a1 t396 _ ?side1 ?side2 A3.out).mono ?_); (case side1 => repeat (first | exact (Kd.C_below HR0_0.out HB.out) | (with_reducible refine Kd.C_alloc ?_ _) | (with_reducible refine Kd.C_drewN ?_ _) | (with_reducible refine Kd.C_drew ?_))); (case side2 => exact HC0_0.out); rintro e w7 ⟨rfl, hb⟩; refine ⟨_, rfl, ?_⟩; replace BK395 := Aside0.mk (blk_below (g := gb395) (o := .cells #[.slice A0_0 l0_0.length c0_0, .slice A0_1 l0_1.length c0_1, .int .i64 a0_2] 25 (0, 0)) (by (with_reducible repeat (first | refine blk_drewN ?_ _ | refine blk_drew ?_ | refine blk_alloc ?_ _)); exact BK395.out) hb); replace HB := Aside0.mk (below_step (by with_reducible repeat (first | exact HB.out | apply below_alloc | apply pw_below_drewN | apply below_drew1 | refine below_set ?_ GE395.out)) hb); (try clear hb); (try clear hb2); (try clear hk); (try clear hi)))
  go_ret
  exact ⟨by first | rfl | (simp [errW_none, errW_some] <;> rfl) | (simp [*, errW_none, errW_some] <;> rfl) | (simp [E.isEmpty_bne]; done) | (rw [E.bne_empty]), by with_reducible repeat (first | exact HB.out | apply below_alloc | apply pw_below_drewN | apply below_drew1 | refine below_set ?_ GE395.out)⟩
 ·rw [if_neg c4] at H
  have c4b0 : decide (t396 < 0) = false := decide_eq_false c4
  clear c4
  replace H := Option.bind_eq_some_iff.mp H
  obtain ⟨t397, A80, H⟩ := H
  replace H : (if t397 < 0 then (some (-1)) else (some t397)) = some r := H
  have A8 := Aside0.mk A80
  clear A80
  by_cases c9 : t397 < 0
  ·rw [if_pos c9] at H
   have c9b0 : decide (t397 < 0) = true := decide_eq_true c9
   clear c9
   obtain rfl := Option.some.inj H
   go_enter Try.func18, Try.ntmps18
   go_wp2_with (first | ((with_reducible refine gate_dst (N := 2) rfl ?_); refine box_event ?hg (N := 2) ?hd (cs := #[.slice A0_0 l0_0.length c0_0, .slice A0_1 l0_1.length c0_1, .int .i64 a0_2]) (t := 25) ?hr ?_; (case hd => rfl); (case hg => rfl); (case hr => first | (go_simp; done) | (go_simp; rfl)); intro gb395 hg w10 hbox hb; have BK395 := Aside0.mk (hbox); have GW395 := Aside0.mk ((by rw [hg]; exact (below_size (by with_reducible repeat (first | exact HB.out | apply below_alloc | apply pw_below_drewN | apply below_drew1))) : w.heap.size ≤ gb395)); have GE395 := Aside0.mk ((by rw [hg]; exact (below_size (by with_reducible repeat (first | exact HB.out | apply below_alloc | apply pw_below_drewN | apply below_drew1))) : w.heap.size ≤ gb395)); replace HB := Aside0.mk (below_step (by with_reducible repeat (first | exact HB.out | apply below_alloc | apply pw_below_drewN | apply below_drew1)) hb); clear hb hbox hg; have hcz11_0 : w10.cell? ⟨gb395, 0, none⟩ = some (.slice A0_0 l0_0.length c0_0) := (blk_cell BK395.out 0).trans rfl; have hcz11_1 : w10.cell? ⟨gb395, 1, none⟩ = some (.slice A0_1 l0_1.length c0_1) := (blk_cell BK395.out 1).trans rfl; have hcz11_2 : w10.cell? ⟨gb395, 2, none⟩ = some (.int .i64 a0_2) := (blk_cell BK395.out 2).trans rfl; have hfz11_0 := blk_frozen BK395.out 0; have hfz11_1 := blk_frozen BK395.out 1; have hfz11_2 := blk_frozen BK395.out 2) | ((with_reducible refine gate_callee (f := 50) rfl ?_); refine goesL_ (some 8) rfl rfl Try.func50 (by kernel_rfl) rfl #[.slice A0_0 l0_0.length c0_0, .int .i64 a1] rfl (by (try simp only [List.map_toArray, List.map_cons, List.map_nil]); first | done | rfl | (simp only [List.length_drop, List.length_take]; rfl)) ?_; (with_reducible refine (laws_heldCellS.calls k _ _ l0_0 a1 t396 _ ?side1 ?side2 A3.out).mono ?_); (case side1 => repeat (first | exact (Kd.C_below HR0_0.out HB.out) | (with_reducible refine Kd.C_alloc ?_ _) | (with_reducible refine Kd.C_drewN ?_ _) | (with_reducible refine Kd.C_drew ?_))); (case side2 => exact HC0_0.out); rintro e w12 ⟨rfl, hb⟩; refine ⟨_, rfl, ?_⟩; replace BK395 := Aside0.mk (blk_below (g := gb395) (o := .cells #[.slice A0_0 l0_0.length c0_0, .slice A0_1 l0_1.length c0_1, .int .i64 a0_2] 25 (0, 0)) (by (with_reducible repeat (first | refine blk_drewN ?_ _ | refine blk_drew ?_ | refine blk_alloc ?_ _)); exact BK395.out) hb); replace HB := Aside0.mk (below_step (by with_reducible repeat (first | exact HB.out | apply below_alloc | apply pw_below_drewN | apply below_drew1 | refine below_set ?_ GE395.out)) hb); (try clear hb); (try clear hb2); (try clear hk); (try clear hi); have hcz13_0 : w12.cell? ⟨gb395, 0, none⟩ = some (.slice A0_0 l0_0.length c0_0) := (blk_cell BK395.out 0).trans rfl; have hcz13_1 : w12.cell? ⟨gb395, 1, none⟩ = some (.slice A0_1 l0_1.length c0_1) := (blk_cell BK395.out 1).trans rfl; have hcz13_2 : w12.cell? ⟨gb395, 2, none⟩ = some (.int .i64 a0_2) := (blk_cell BK395.out 2).trans rfl; have hfz13_0 := blk_frozen BK395.out 0; have hfz13_1 := blk_frozen BK395.out 1; have hfz13_2 := blk_frozen BK395.out 2) | ((with_reducible refine gate_callee (f := 51) rfl ?_); refine goesL_ (some 14) rfl rfl Try.func51 (by kernel_rfl) rfl #[.slice A0_1 l0_1.length c0_1, .int .i64 t396] rfl (by (try simp only [List.map_toArray, List.map_cons, List.map_nil]); first | done | rfl | (simp only [List.length_drop, List.length_take]; rfl)) ?_; (with_reducible refine (laws_heldIntS.calls k _ _ l0_1 t396 t397 _ ?side1 ?side2 A8.out).mono ?_); (case side1 => repeat (first | exact (Kd.C_below HR0_1.out HB.out) | (with_reducible refine Kd.C_alloc ?_ _) | (with_reducible refine Kd.C_drewN ?_ _) | (with_reducible refine Kd.C_drew ?_))); (case side2 => exact HC0_1.out); rintro e w' ⟨rfl, ⟨nd, rfl⟩⟩; refine ⟨_, rfl, ?_⟩))
   go_ret
   exact ⟨by first | rfl | (simp [errW_none, errW_some] <;> rfl) | (simp [*, errW_none, errW_some] <;> rfl) | (simp [E.isEmpty_bne]; done) | (rw [E.bne_empty]), by with_reducible repeat (first | exact HB.out | apply below_alloc | apply pw_below_drewN | apply below_drew1 | refine below_set ?_ GE395.out)⟩
  ·rw [if_neg c9] at H
   have c9b0 : decide (t397 < 0) = false := decide_eq_false c9
   clear c9
   obtain rfl := Option.some.inj H
   go_enter Try.func18, Try.ntmps18
   go_wp2_with (first | ((with_reducible refine gate_dst (N := 2) rfl ?_); refine box_event ?hg (N := 2) ?hd (cs := #[.slice A0_0 l0_0.length c0_0, .slice A0_1 l0_1.length c0_1, .int .i64 a0_2]) (t := 25) ?hr ?_; (case hd => rfl); (case hg => rfl); (case hr => first | (go_simp; done) | (go_simp; rfl)); intro gb395 hg w14 hbox hb; have BK395 := Aside0.mk (hbox); have GW395 := Aside0.mk ((by rw [hg]; exact (below_size (by with_reducible repeat (first | exact HB.out | apply below_alloc | apply pw_below_drewN | apply below_drew1))) : w.heap.size ≤ gb395)); have GE395 := Aside0.mk ((by rw [hg]; exact (below_size (by with_reducible repeat (first | exact HB.out | apply below_alloc | apply pw_below_drewN | apply below_drew1))) : w.heap.size ≤ gb395)); replace HB := Aside0.mk (below_step (by with_reducible repeat (first | exact HB.out | apply below_alloc | apply pw_below_drewN | apply below_drew1)) hb); clear hb hbox hg; have hcz15_0 : w14.cell? ⟨gb395, 0, none⟩ = some (.slice A0_0 l0_0.length c0_0) := (blk_cell BK395.out 0).trans rfl; have hcz15_1 : w14.cell? ⟨gb395, 1, none⟩ = some (.slice A0_1 l0_1.length c0_1) := (blk_cell BK395.out 1).trans rfl; have hcz15_2 : w14.cell? ⟨gb395, 2, none⟩ = some (.int .i64 a0_2) := (blk_cell BK395.out 2).trans rfl; have hfz15_0 := blk_frozen BK395.out 0; have hfz15_1 := blk_frozen BK395.out 1; have hfz15_2 := blk_frozen BK395.out 2) | ((with_reducible refine gate_callee (f := 50) rfl ?_); refine goesL_ (some 8) rfl rfl Try.func50 (by kernel_rfl) rfl #[.slice A0_0 l0_0.length c0_0, .int .i64 a1] rfl (by (try simp only [List.map_toArray, List.map_cons, List.map_nil]); first | done | rfl | (simp only [List.length_drop, List.length_take]; rfl)) ?_; (with_reducible refine (laws_heldCellS.calls k _ _ l0_0 a1 t396 _ ?side1 ?side2 A3.out).mono ?_); (case side1 => repeat (first | exact (Kd.C_below HR0_0.out HB.out) | (with_reducible refine Kd.C_alloc ?_ _) | (with_reducible refine Kd.C_drewN ?_ _) | (with_reducible refine Kd.C_drew ?_))); (case side2 => exact HC0_0.out); rintro e w16 ⟨rfl, hb⟩; refine ⟨_, rfl, ?_⟩; replace BK395 := Aside0.mk (blk_below (g := gb395) (o := .cells #[.slice A0_0 l0_0.length c0_0, .slice A0_1 l0_1.length c0_1, .int .i64 a0_2] 25 (0, 0)) (by (with_reducible repeat (first | refine blk_drewN ?_ _ | refine blk_drew ?_ | refine blk_alloc ?_ _)); exact BK395.out) hb); replace HB := Aside0.mk (below_step (by with_reducible repeat (first | exact HB.out | apply below_alloc | apply pw_below_drewN | apply below_drew1 | refine below_set ?_ GE395.out)) hb); (try clear hb); (try clear hb2); (try clear hk); (try clear hi); have hcz17_0 : w16.cell? ⟨gb395, 0, none⟩ = some (.slice A0_0 l0_0.length c0_0) := (blk_cell BK395.out 0).trans rfl; have hcz17_1 : w16.cell? ⟨gb395, 1, none⟩ = some (.slice A0_1 l0_1.length c0_1) := (blk_cell BK395.out 1).trans rfl; have hcz17_2 : w16.cell? ⟨gb395, 2, none⟩ = some (.int .i64 a0_2) := (blk_cell BK395.out 2).trans rfl; have hfz17_0 := blk_frozen BK395.out 0; have hfz17_1 := blk_frozen BK395.out 1; have hfz17_2 := blk_frozen BK395.out 2) | ((with_reducible refine gate_callee (f := 51) rfl ?_); refine goesL_ (some 14) rfl rfl Try.func51 (by kernel_rfl) rfl #[.slice A0_1 l0_1.length c0_1, .int .i64 t396] rfl (by (try simp only [List.map_toArray, List.map_cons, List.map_nil]); first | done | rfl | (simp only [List.length_drop, List.length_take]; rfl)) ?_; (with_reducible refine (laws_heldIntS.calls k _ _ l0_1 t396 t397 _ ?side1 ?side2 A8.out).mono ?_); (case side1 => repeat (first | exact (Kd.C_below HR0_1.out HB.out) | (with_reducible refine Kd.C_alloc ?_ _) | (with_reducible refine Kd.C_drewN ?_ _) | (with_reducible refine Kd.C_drew ?_))); (case side2 => exact HC0_1.out); rintro e w' ⟨rfl, ⟨nd, rfl⟩⟩; refine ⟨_, rfl, ?_⟩))
   go_ret
   exact ⟨by first | rfl | (simp [errW_none, errW_some] <;> rfl) | (simp [*, errW_none, errW_some] <;> rfl) | (simp [E.isEmpty_bne]; done) | (rw [E.bne_empty]), by with_reducible repeat (first | exact HB.out | apply below_alloc | apply pw_below_drewN | apply below_drew1 | refine below_set ?_ GE395.out)⟩
end Go.Proofs.Ytacfalpgmibfnaa.PCow
namespace Go.Proofs.Ytacfalpgmibfnaa.PCow
open Go.RowKit Go.Proofs.YtacfalpgmibfnaaW.PrintWords Go.Proofs.YtacfalpgmibfnaaW.PrintLast Go.Proofs.YtacfalpgmibfnaaW.PrintMore Go.Proofs.Ytacfalpgmibfnaa.E
set_option linter.unusedSimpArgs false
set_option linter.unusedVariables false
theorem held_cow {k n0 n1 : Nat} {A0 A1 : Option Addr} {c0 c1 : Nat} {l0 : List CL} {l1 : List Int} {L a r : Int} {w : World} (h0 : n0 = l0.length ∧ n0 ≤ c0 ∧ Kd.C k68 w A0 l0.length l0) (h1 : n1 = l1.length ∧ n1 ≤ c1 ∧ Kd.C (Kd.int .i64) w A1 l1.length l1) (hf : laws_heldCow.f k l0 l1 L a = some r) :
  Calls Try.prog 18 #[.agg #[.slice A0 n0 c0, .slice A1 n1 c1, .int .i64 L], .int .i64 a] w fun e w' => e = .returned (.int .i64 r) ∧ Below w.heap.size w w' := by
 obtain ⟨rfl, h2, h3⟩ := h0
 obtain ⟨rfl, h4, h5⟩ := h1
 exact laws_heldCow.calls k A0 c0 l0 A1 c1 l1 L a r w h3 h2 h5 h4 hf
end Go.Proofs.Ytacfalpgmibfnaa.PCow
