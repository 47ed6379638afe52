import Derived.Test.YtacfalpgmibfnaaFPic1
import Derived.Test.YtacfalpgmibfnaaProg
import Derived.Below
import Derived.Deep.Draws
import Derived.Deep.AppendLies
import Derived.Maps.AppendAt
import Derived.OwnWalk
import Derived.Laws.BytesArg
import Derived.Laws.MakeOwn
import Derived.Laws.OwnMore
import Derived.Deep.OwnRows
import Derived.Tactics
import Derived.Lib.ConvBytes
import Derived.Laws.Slices
import Derived.WalkKit
import Derived.KernelRfl
import Derived.RowKit3
import Derived.Deep.LoopGhost
import Derived.Deep.QuietTactic
import Derived.BigQuiet
import Derived.WideLaws
import Derived.Deep.DeepCutAuto
import Derived.Deep.CutBlock
import Derived.Deep.RegionHeld3
import Derived.Laws.Rows
import Derived.Lib.AppendStr
import Derived.ArgAppend
import Derived.Laws.IdiomCopy
import Derived.OrdersHeld
import Derived.Laws.BitsLemmas
import Derived.RowKit
import Derived.StillTailTactics
namespace Go.Proofs.Ytacfalpgmibfnaa
theorem apu_ : (∀ (a : Act) (v : Value), Act.put a none v = a) ∧ (∀ (t : Array Value) (d : List Deferred) (N : Tmp) (v : Value), Act.put ⟨t, d⟩ (some N) v = ⟨t.setIfInBounds N v, d⟩) ∧ (∀ (l : List Value) (i : Nat) (x : Value), l.toArray.setIfInBounds i x = (l.set i x).toArray) ∧ (∀ (a b : Value) (l : List Value), (a :: l).set 0 b = b :: l) ∧ (∀ (a b : Value) (l : List Value) (n : Nat), (a :: l).set (n + 1) b = a :: l.set n b) ∧ (∀ n : Int, IntKind.i64.wrap n = Go.RowKit.wrap64 n) ∧ (∀ n : Int, IntKind.i32.wrap n = Go.RowKit.wrap32 n) :=
  ⟨fun _ _ => rfl, fun _ _ _ _ => rfl, fun _ _ _ => List.setIfInBounds_toArray .., fun _ _ _ => rfl, fun _ _ _ _ => rfl, fun n => by unfold Go.RowKit.wrap64; exact IntKind.wrap_i64 n, fun n => by unfold Go.RowKit.wrap32; exact IntKind.wrap_i32 n⟩
end Go.Proofs.Ytacfalpgmibfnaa
namespace Go.Proofs.Ytacfalpgmibfnaa.PCow
open Go.RowKit Go.Proofs.YtacfalpgmibfnaaW.PrintWords Go.Proofs.YtacfalpgmibfnaaW.PrintLast Go.Proofs.YtacfalpgmibfnaaW.PrintMore
attribute [local go_sem] max2_int min2_int max_two min_two max_three min_three max_four min_four
set_option linter.unusedVariables false
set_option linter.unusedSimpArgs false
def errW : Option Int → Value
 | none => .nilIface
 | some c => .iface 0 (.int .i64 c)
theorem errW_none : errW none = .nilIface := rfl
theorem errW_some (c : Int) : errW (some c) = .iface 0 (.int .i64 c) := rfl
theorem info3 : (Try.prog.info? 3).map (fun i => (i.zero, i.size, i.bytes)) = some (some (.int .i64 0), 1, 8) := by kernel_rfl
theorem info9 : (Try.prog.info? 9).map (fun i => (i.zero, i.size, i.bytes)) = some (some (.string ⟨#[]⟩), 1, 16) := by kernel_rfl
theorem info68 : (Try.prog.info? 68).map (fun i => (i.zero, i.size, i.bytes)) = some (some (.agg #[(.int .i64 0), (.string ⟨#[]⟩), (.slice none 0 0)]), 3, 48) := by kernel_rfl
structure S68 where
 f0 : Int
 f1 : ByteArray
 f2 : (List Int)
def z68 : S68 := ⟨(0 : Int), (⟨#[]⟩ : ByteArray), ([] : List Int)⟩
def k68 : Kd S68 := Kd.iso (Kd.pair (Kd.int .i64) (Kd.pair Kd.string (Kd.slice 3 (Kd.int .i64)))) (fun x : S68 => (x.f0, x.f1, x.f2))
theorem k68_heap : Kd.Heap k68 := Kd.heap_iso _ (Kd.heap_pair (Kd.heap_int .i64) (Kd.heap_pair Kd.heap_string (Kd.heap_slice 3 (Kd.heap_int .i64))))
theorem k68_open {w : World} {x : S68} {cs : List Value} (h : k68.K w x cs) : ∃ A2 c2, cs = [.int .i64 x.f0, .string x.f1, .slice A2 x.f2.length c2] ∧ x.f2.length ≤ c2 ∧ (Kd.int .i64).C w A2 x.f2.length x.f2 := by
 obtain ⟨_, _, rfl, rfl, ⟨_, _, rfl, rfl, ⟨A2, c2, rfl, l2, g2⟩⟩⟩ := h
 exact ⟨A2, c2, rfl, l2, g2⟩
theorem k68_openM {w : World} {base : Nat} {ok : Nat → Prop} {x : S68} {cs : List Value} (h : k68.M w base ok x cs) : ∃ v2, cs = [.int .i64 x.f0, .string x.f1, v2] ∧ (Kd.int .i64).R 3 w base ok v2 x.f2 := by
 obtain ⟨_, _, rfl, rfl, ⟨_, _, rfl, rfl, ⟨v2, rfl, g2⟩⟩⟩ := h
 exact ⟨v2, rfl, g2⟩
theorem k68_mkM (w : World) (base : Nat) (ok : Nat → Prop) (x : S68) {v2 : Value} (g2 : (Kd.int .i64).R 3 w base ok v2 x.f2) : k68.M w base ok x [.int .i64 x.f0, .string x.f1, v2] := ⟨[.int .i64 x.f0], [.string x.f1, v2], rfl, rfl, ⟨[.string x.f1], [v2], rfl, rfl, ⟨v2, rfl, g2⟩⟩⟩
def rd_T68 (xs : List S68) (i : Int) : S68 := xs.getD i.toNat z68
theorem at_T68 {w : World} {A : Option Addr} {n : Nat} {xs : List S68} (h : Kd.C k68 w A n xs) (i : Int) (h0 : 0 ≤ i) (h1 : i < n) : ∃ ad A2 c2, A = some ad ∧ w.cell? (ad.add (i.toNat * 3)) = some (.int .i64 (rd_T68 xs i).f0) ∧ w.cell? ⟨(ad.add (i.toNat * 3)).block, (ad.add (i.toNat * 3)).off + 1, none⟩ = some (.string (rd_T68 xs i).f1) ∧ w.cell? ⟨(ad.add (i.toNat * 3)).block, (ad.add (i.toNat * 3)).off + 2, none⟩ = some (.slice A2 (rd_T68 xs i).f2.length c2) ∧ (rd_T68 xs i).f2.length ≤ c2 ∧ (Kd.int .i64).C w A2 (rd_T68 xs i).f2.length (rd_T68 xs i).f2 := by
 obtain ⟨ad, c, e, _, hK, hc0⟩ := Kd.C_get h z68 i h0 h1
 have hc : ∀ j u, c[j]? = some u → w.cell? (ad.add (i.toNat * 3 + j)) = some u := hc0
 obtain ⟨A2, c2, rfl, l2, g2⟩ := k68_open hK
 exact ⟨ad, A2, c2, e, hc 0 _ rfl, by rw [← add_field _ _ 1 (by omega)]; exact hc 1 _ rfl, by rw [← add_field _ _ 2 (by omega)]; exact hc 2 _ rfl, l2, g2⟩
structure S99 where
 f0 : Int
 f1 : ByteArray
 f2 : (List Int)
structure S25 where
 f0 : (List S68)
 f1 : (List Int)
 f2 : Int
attribute [local go_sem] max2_int min2_int max_two min_two max_three min_three max_four min_four
set_option linter.unusedVariables false
set_option linter.unusedSimpArgs false
def spec_l1In.f (a0 : Int) (a1 : Int) (a2 : Int) : Option (Bool) := if a0 ≥ a1 then (some (decide (a0 ≤ a2))) else (some false)
set_option maxHeartbeats 8000000 in
set_option maxRecDepth 100000 in
theorem spec_l1In.calls (a0 : Int) (a1 : Int) (a2 : Int) (r : Bool) (w : World) (h : spec_l1In.f a0 a1 a2 = some r) :
  Calls Try.prog 44 #[.int .i64 a0, .int .i64 a1, .int .i64 a2] w fun e w' => e = .returned (.bool r) ∧ Drawn0 w w' := by
 have H : (if a0 ≥ a1 then (some (decide (a0 ≤ a2))) else (some false)) = some r := h
 clear h
 by_cases c4 : a0 ≥ a1
 ·rw [if_pos c4] at H
  have c4b0 : decide (a1 ≤ a0) = true := decide_eq_true c4
  clear c4
  obtain rfl := Option.some.inj H
  go_enter Try.func44, Try.ntmps44
  go_wp2
  go_ret
  exact ⟨by first | rfl | (simp; done) | (simp [*]; done), by repeat (first | exact Drawn0.refl _ | apply Drawn0.step)⟩
 ·rw [if_neg c4] at H
  have c4b0 : decide (a1 ≤ a0) = false := decide_eq_false c4
  clear c4
  obtain rfl := Option.some.inj H
  go_enter Try.func44, Try.ntmps44
  go_wp2
  go_ret
  exact ⟨by first | rfl | (simp; done) | (simp [*]; done), by repeat (first | exact Drawn0.refl _ | apply Drawn0.step)⟩
def impl_within.f (a0 : Int) (a1 : Int) (a2 : Int) : Option (Bool) := if a0 ≥ a1 then (some (decide (a0 ≤ a2))) else (some false)
set_option maxHeartbeats 8000000 in
set_option maxRecDepth 100000 in
theorem impl_within.calls (a0 : Int) (a1 : Int) (a2 : Int) (r : Bool) (w : World) (h : impl_within.f a0 a1 a2 = some r) :
  Calls Try.prog 45 #[.int .i64 a0, .int .i64 a1, .int .i64 a2] w fun e w' => e = .returned (.bool r) ∧ Drawn0 w w' := by
 have H : (if a0 ≥ a1 then (some (decide (a0 ≤ a2))) else (some false)) = some r := h
 clear h
 by_cases c4 : a0 ≥ a1
 ·rw [if_pos c4] at H
  have c4b0 : decide (a1 ≤ a0) = true := decide_eq_true c4
  clear c4
  obtain rfl := Option.some.inj H
  go_enter Try.func45, Try.ntmps45
  go_wp2
  go_ret
  exact ⟨by first | rfl | (simp; done) | (simp [*]; done), by repeat (first | exact Drawn0.refl _ | apply Drawn0.step)⟩
 ·rw [if_neg c4] at H
  have c4b0 : decide (a1 ≤ a0) = false := decide_eq_false c4
  clear c4
  obtain rfl := Option.some.inj H
  go_enter Try.func45, Try.ntmps45
  go_wp2
  go_ret
  exact ⟨by first | rfl | (simp; done) | (simp [*]; done), by repeat (first | exact Drawn0.refl _ | apply Drawn0.step)⟩
open Go.RowKit Go.Proofs.YtacfalpgmibfnaaW.PrintWords Go.Proofs.YtacfalpgmibfnaaW.PrintLast Go.Proofs.YtacfalpgmibfnaaW.PrintMore Go.Proofs.Ytacfalpgmibfnaa.E
theorem away {α : Type} {d : Kd α} {w : World} {P : Nat → Prop} {A : Option Addr} {n : Nat} {xs : List α} (hs : 0 < d.sz) (h : ∀ W_, Kept w W_ (fun k_ => P k_) → d.C W_ A n xs) (hn : 0 < n) {ad : Addr} (hA : A = some ad) : ¬ P ad.block ∧ ad.block < w.heap.size := by
 have key : ∀ W_, Kept w W_ (fun k_ => P k_) → ∃ u, W_.cell? (ad.add 0) = some u := by
  intro W hk
  obtain ⟨hl, _, hc⟩ := h W hk
  obtain ⟨ad', e, hc⟩ := hc hn
  rw [hA] at e
  cases e
  obtain ⟨x, hx⟩ : ∃ x, xs[0]? = some x := ⟨_, List.getElem?_eq_getElem (by omega)⟩
  obtain ⟨c, hc1, hc2, hc3⟩ := hc 0 x hx
  obtain ⟨u, hu⟩ : ∃ u, c[0]? = some u := ⟨_, List.getElem?_eq_getElem (by omega)⟩
  have := hc3 0 u hu
  exact ⟨u, by simpa using this⟩
 obtain ⟨u0, h0⟩ := key w (Kept.refl _ _)
 have hlt : ad.block < w.heap.size := by
  have := World.block_lt_of_cell? w _ h0
  rwa [add_block] at this
 refine ⟨fun hP => ?_, hlt⟩
 obtain ⟨u, hu⟩ := key { w with heap := w.heap.setIfInBounds ad.block (.map #[] 0) } ⟨by simp, fun i hi hn => by
  have hne : ad.block ≠ i := fun e => hn (e ▸ hP)
  simp [Array.getElem?_setIfInBounds, hne]⟩
 unfold World.cell? at hu
 rw [add_block] at hu
 simp [Array.getElem?_setIfInBounds, hlt] at hu
theorem cell_at {w : World} {P : Nat → Prop} {A : Option Addr} {xs : List S68} (h : ∀ W_, Kept w W_ (fun k_ => P k_) → Kd.C k68 W_ A xs.length xs) (i : Int) (h0 : 0 ≤ i) (h1 : i < xs.length) :
  ∃ ad A2 c2, A = some ad ∧ (rd_T68 xs i).f2.length ≤ c2 ∧ ∀ W_, Kept w W_ (fun k_ => P k_) → W_.cell? (ad.add (i.toNat * 3)) = some (.int .i64 (rd_T68 xs i).f0) ∧ W_.cell? ⟨(ad.add (i.toNat * 3)).block, (ad.add (i.toNat * 3)).off + 1, none⟩ = some (.string (rd_T68 xs i).f1) ∧ W_.cell? ⟨(ad.add (i.toNat * 3)).block, (ad.add (i.toNat * 3)).off + 2, none⟩ = some (.slice A2 (rd_T68 xs i).f2.length c2) ∧ (Kd.int .i64).C W_ A2 (rd_T68 xs i).f2.length (rd_T68 xs i).f2 := by
 obtain ⟨ad, A2, c2, e, a0, a1, a2, hl, _⟩ := at_T68 (h w (Kept.refl _ _)) i h0 (by omega)
 obtain ⟨hP, hlt⟩ := away (d := k68) (by decide) h (by omega) e
 refine ⟨ad, A2, c2, e, hl, fun W hk => ?_⟩
 obtain ⟨ad', A2', c2', e', b0, b1, b2, _, hC⟩ := at_T68 (h W hk) i h0 (by omega)
 rw [e] at e'
 cases e'
 have e2 := cell_kept a2 hk (show ¬ P (ad.add (i.toNat * 3)).block by rw [add_block]; exact hP)
 rw [b2] at e2
 injection e2 with e2
 injection e2 with e3 e4 e5
 subst e3
 subst e5
 exact ⟨b0, b1, b2, hC⟩
def loopK (F : Int → List Int → Option (Bool × List Int)) : List Int → List Int → Option (Bool × List Int)
 | [], s => some (true, s)
 | q :: r, s => (F q s).bind fun t => if t.1 = true then loopK F r t.2 else some (false, t.2)
def okLeaf (x : S68) : Bool := if x.f2.length = 0 then decide (1 ≤ (x.f1.size : Int) ∧ (x.f1.size : Int) ≤ 8) else false
def someKid (ks : List Int) : Bool := ks.any fun k => decide (k ≥ 0)
def okNode (x : S68) : Bool := if someKid x.f2 = true then (if (x.f2.length : Int) = 4 then decide (x.f1.size = 0) else false) else false
def deepM (C : List S68) : Nat → Int → List Int → Option (Bool × List Int)
 | 0, _, _ => none
 | lev + 1, k, seen =>
  if k = -1 then some (true, seen)
  else if 0 ≤ k ∧ k ≤ (C.length : Int) - 1 then
   if k < (seen.length : Int) then
    let s1 := seen.set k.toNat (wrap64 (rd seen k + 1))
    if wrap64 (rd seen k + 1) > 1 then some (true, s1)
    else if lev = 0 then some (okLeaf (rd_T68 C k), s1)
    else (loopK (deepM C lev) (rd_T68 C k).f2 s1).bind fun t => if t.1 = true then some (okNode (rd_T68 C k), t.2) else some (false, t.2)
   else none
  else some (false, seen)
theorem someKid_take (ks : List Int) (k : Nat) (h : k < ks.length) : someKid (ks.take (k + 1)) = (someKid (ks.take k) || decide (rd ks (k : Int) ≥ 0)) := by
 have er : rd ks (k : Int) = ks[k] := by
  unfold rd
  rw [List.getD_eq_getElem?_getD, Int.toNat_natCast, List.getElem?_eq_getElem h]
  rfl
 unfold someKid
 rw [List.take_succ_eq_append_getElem h, List.any_append, er]
 simp
set_option maxHeartbeats 2000000 in
set_option maxRecDepth 100000 in
theorem deep_calls (C : List S68) : ∀ (lev : Nat) (A0 : Option Addr) (c0 : Nat) (A1 : Option Addr) (c1 : Nat) (l1 : List Int) (a2 k : Int) (P : Nat → Prop) (u : Value) (seen : List Int) (r1 : Bool) (r2 : List Int) (w0 w : World) (hB : Below w0.heap.size w0 w)
  (hr0 : ∀ W_, Kept w W_ (fun k_ => P k_) → Kd.C k68 W_ A0 C.length C) (hc0 : C.length ≤ c0) (hu : (Kd.int .i64).R 3 w w0.heap.size (fun _ => True) u seen) (hP : ∀ k, u.ownBlock = some k → P k ∧ k < w.heap.size) (hlev : lev ≤ 3) (h : deepM C lev k seen = some (r1, r2)),
  Calls Try.prog 54 #[.agg #[.slice A0 C.length c0, .slice A1 l1.length c1, .int .i64 a2], .int .i64 k, .int .i64 lev, u] w fun e w' => e = .returned (.bool r1) ∧ (Kd.int .i64).R 3 w' w0.heap.size (fun _ => True) u r2 ∧ Below w0.heap.size w0 w' ∧ Kept w w' (fun k_ => P k_) := by
 intro lev
 induction lev with
 | zero => intro A0 c0 A1 c1 l1 a2 k P u seen r1 r2 w0 w hB hr0 hc0 hu hP hlev h; cases h
 | succ lev ih =>
  intro A0 c0 A1 c1 l1 a2 k P u seen r1 r2 w0 w hB hr0 hc0 hu hP hlev h
  have hu25 := Try.underlying25
  have hu68 := Try.underlying68
  have hn0 : C.length ≤ 9223372036854775807 := (hr0 w (Kept.refl _ _)).2.1
  have HR := Aside0.mk hr0
  have HU := Aside0.mk hu
  have HP := Aside0.mk hP
  have HB := Aside0.mk hB
  have HS := Aside0.mk hB.size
  have IH := Aside0.mk ih
  have HL := Aside0.mk hlev
  simp only [deepM] at h
  clear hr0 hu hP hB ih hlev
  by_cases hk1 : k = -1
  ·subst hk1
   rw [if_pos rfl] at h
   simp only [Option.some.injEq, Prod.mk.injEq] at h
   obtain ⟨rfl, rfl⟩ := h
   go_enter Try.func54, Try.ntmps54
   go_wp2
   go_ret
   exact ⟨rfl, Kd.R_alloc HU.out _, HB.out.alloc HS.out _, (Kept.refl _ _).alloc _⟩
  rw [if_neg hk1] at h
  have hk1' : (k == -1) = false := beq_eq_false_iff_ne.2 hk1
  clear hk1
  obtain ⟨W1, hW1⟩ : ∃ W, w.alloc (.cells #[.slice A0 C.length c0, .slice A1 l1.length c1, .int .i64 a2] 25) = W := ⟨_, rfl⟩
  have X1 := Aside0.mk (show W1.heap[w.heap.size]? = some (.cells #[.slice A0 C.length c0, .slice A1 l1.length c1, .int .i64 a2] 25 (0, 0)) by rw [← hW1]; exact heap_alloc_new w _)
  have B1 := Aside0.mk (show Below w0.heap.size w0 W1 by rw [← hW1]; exact HB.out.alloc HS.out _)
  have K1 := Aside0.mk (show Kept w W1 (fun k_ => P k_) by rw [← hW1]; exact (Kept.refl _ _).alloc _)
  have U1 := Aside0.mk (show (Kd.int .i64).R 3 W1 w0.heap.size (fun _ => True) u seen by rw [← hW1]; exact Kd.R_alloc HU.out _)
  by_cases hin : 0 ≤ k ∧ k ≤ (C.length : Int) - 1
  ·rw [if_pos hin] at h
   have hw := Aside0.mk (show spec_l1In.f k 0 ((C.length : Int) - 1) = some true by
    unfold spec_l1In.f
    rw [if_pos (by omega)]
    simp; omega)
   by_cases hks : k < (seen.length : Int)
   ·rw [if_pos hks] at h
    obtain ⟨g, cap, hv, hg1, hg2, cs, hgc⟩ := Kd.R_form U1.out (by omega)
    subst hv
    obtain ⟨ad, A2, c2, hA0, hlen, hcell⟩ := cell_at HR.out k hin.1 (by omega)
    subst hA0
    have hcell' := Aside0.mk hcell
    have hgP := HP.out g rfl
    obtain ⟨x, hx⟩ : ∃ x, rd_T68 C k = x := ⟨_, rfl⟩
    obtain ⟨v, hv⟩ : ∃ v, wrap64 (rd seen k + 1) = v := ⟨_, rfl⟩
    rw [hx] at hcell' hlen h
    rw [hv] at h
    have HV := Aside0.mk hv
    have hx2 : x.f2.length ≤ 9223372036854775807 := (hcell'.out w (Kept.refl _ _)).2.2.2.2.1
    have p1 : (0 ≤ k) = True := eq_true hin.1
    have p2 : (k < (C.length : Int)) = True := eq_true (by omega)
    have p3 : (k < (seen.length : Int)) = True := eq_true hks
    have S2 : ∀ nd, Aside0 (((W1.drewN nd).setCell ⟨g, k.toNat, none⟩ (.int .i64 v)).heap[w.heap.size]? = some (.cells #[.slice (some ad) C.length c0, .slice A1 l1.length c1, .int .i64 a2] 25 (0, 0)) ∧ Below w0.heap.size w0 ((W1.drewN nd).setCell ⟨g, k.toNat, none⟩ (.int .i64 v)) ∧ Kept w ((W1.drewN nd).setCell ⟨g, k.toNat, none⟩ (.int .i64 v)) (fun k_ => P k_) ∧ (Kd.int .i64).R 3 ((W1.drewN nd).setCell ⟨g, k.toNat, none⟩ (.int .i64 v)) w0.heap.size (fun _ => True) (.slice (some ⟨g, 0, none⟩) seen.length cap) (seen.set k.toNat v)) := fun nd =>
     ⟨blk_far (blk_drewN X1.out nd) (p := ⟨g, k.toNat, none⟩) (by show w.heap.size ≠ g; omega) _, below_set (pw_below_drewN B1.out nd) hg1, (K1.out.drewN nd).setCell (.inl hgP.1) _, Kd.R_putn (Kd.R_drewN U1.out nd) k _⟩
    have q1 : W1.cell? ⟨g, k.toNat, none⟩ = some (.int .i64 (rd seen k)) := (Kd.R_celln (d := (0 : Int)) U1.out k hin.1 hks).1
    have qf1 : W1.frozen? ⟨g, k.toNat, none⟩ = false := (Kd.R_celln (d := (0 : Int)) U1.out k hin.1 hks).2
    have e0 : W1.cell? ⟨w.heap.size, 0, none⟩ = some (.slice (some ad) C.length c0) := (blk_cell X1.out _).trans rfl
    have hcv : rd (seen.set k.toNat v) k = v := by
     unfold rd
     rw [List.getD_eq_getElem?_getD, List.getElem?_set_self (by omega)]
     rfl
    have T2 : ∀ nd, Aside0 (∃ w2, (W1.drewN nd).setCell ⟨g, k.toNat, none⟩ (.int .i64 v) = w2 ∧ w2.heap[w.heap.size]? = some (.cells #[.slice (some ad) C.length c0, .slice A1 l1.length c1, .int .i64 a2] 25 (0, 0)) ∧ Below w0.heap.size w0 w2 ∧ Kept w w2 (fun k_ => P k_) ∧ (Kd.int .i64).R 3 w2 w0.heap.size (fun _ => True) (.slice (some ⟨g, 0, none⟩) seen.length cap) (seen.set k.toNat v) ∧ w2.cell? ⟨g, k.toNat, none⟩ = some (.int .i64 v)) := fun nd => ⟨_, rfl, (S2 nd).out.1, (S2 nd).out.2.1, (S2 nd).out.2.2.1, (S2 nd).out.2.2.2, by
     have := (Kd.R_celln (d := (0 : Int)) (S2 nd).out.2.2.2 k hin.1 hks).1
     rw [show rdOf (0 : Int) (seen.set k.toNat v) k = v from hcv] at this
     exact this⟩
    clear S2 hcv
    clear hin hks hx
    go_enter Try.func54, Try.ntmps54
    go_wp2_with (go_at_call 44; refine (spec_l1In.calls k 0 ((C.length : Int) - 1) true _ hw.out).mono ?_)
    (first | rintro e w' rfl ⟨⟨nd, rfl⟩⟩ | rintro e w' ⟨rfl, ⟨⟨nd, rfl⟩⟩⟩)
    obtain ⟨w2, hw2, hX2, hB2, hK2, hU2, cv2⟩ := (T2 nd).out
    have X2 := Aside0.mk hX2
    have B2 := Aside0.mk hB2
    have K2 := Aside0.mk hK2
    have U2 := Aside0.mk hU2
    clear T2 hX2 hB2 hK2 hU2 X1 B1 K1 U1 HU HB
    by_cases hgt : v > 1
    ·rw [if_pos hgt] at h
     simp only [Option.some.injEq, Prod.mk.injEq] at h
     obtain ⟨rfl, rfl⟩ := h
     have hgt' : decide (1 < v) = true := decide_eq_true hgt
     clear hgt
     go_wp2
     go_ret
     exact ⟨rfl, U2.out, B2.out, K2.out⟩
    ·rw [if_neg hgt] at h
     have hgt' : decide (1 < v) = false := decide_eq_false hgt
     clear hgt
     have e0' : w2.cell? ⟨w.heap.size, 0, none⟩ = some (.slice (some ad) C.length c0) := (blk_cell X2.out _).trans rfl
     obtain ⟨hx0, hx1, hx2', hxC⟩ := hcell'.out w2 K2.out
     have HXC := Aside0.mk hxC
     clear hxC
     by_cases hl0 : lev = 0
     ·subst hl0
      rw [if_pos rfl] at h
      simp only [Option.some.injEq, Prod.mk.injEq] at h
      obtain ⟨h, rfl⟩ := h
      by_cases hk0 : x.f2.length = 0
      ·have hr1 := Aside0.mk (show spec_l1In.f (x.f1.size : Int) 1 8 = some r1 by
        rw [← h]
        unfold okLeaf spec_l1In.f
        rw [if_pos hk0]
        by_cases h1 : (x.f1.size : Int) ≥ 1
        ·rw [if_pos h1]; simp; omega
        ·rw [if_neg h1]; simp; omega)
       have hkz : ((x.f2.length : Int) == 0) = true := by simp [hk0]
       have hkz' : ((x.f2.length : Int) = 0) = True := eq_true (by omega)
       clear h hk0
       go_wp2_with (go_at_call 44; refine (spec_l1In.calls (x.f1.size : Int) 1 8 r1 _ hr1.out).mono ?_)
       (first | rintro e w' rfl ⟨⟨nd2, rfl⟩⟩ | rintro e w' ⟨rfl, ⟨⟨nd2, rfl⟩⟩⟩)
       go_wp2
       go_ret
       exact ⟨rfl, Kd.R_drewN (Kd.R_alloc U2.out _) nd2, pw_below_drewN (B2.out.alloc B2.out.size _) nd2, (K2.out.alloc _).drewN nd2⟩
      ·have hkz : ((x.f2.length : Int) == 0) = false := beq_eq_false_iff_ne.2 (by omega)
       have hkz' : ((x.f2.length : Int) = 0) = False := eq_false (by omega)
       obtain rfl : r1 = false := by rw [← h]; unfold okLeaf; rw [if_neg hk0]
       clear h hk0
       go_wp2
       go_ret
       exact ⟨rfl, Kd.R_alloc U2.out _, B2.out.alloc B2.out.size _, K2.out.alloc _⟩
     ·rw [if_neg hl0] at h
      have hl1 : ((lev : Int) + 1 == 1) = false := beq_eq_false_iff_ne.2 (by omega)
      have hl1' : ((lev : Int) + 1 = 1) = False := eq_false (by omega)
      have hl2 : ((lev : Int) = 0) = False := eq_false (by omega)
      have hgs := Aside0.mk (show g < w.heap.size from hgP.2)
      have hgp := Aside0.mk hgP.1
      obtain ⟨⟨b, s'⟩, hloop, hres⟩ := Option.bind_eq_some_iff.1 h
      have HLp := Aside0.mk hloop
      have HRs := Aside0.mk (show (if b = true then some (okNode x, s') else some (false, s')) = some (r1, r2) from hres)
      have hszw := Aside0.mk (show w.heap.size < w2.heap.size from blk_lt X2.out)
      clear h hloop hres hl0 hgP
      go_wp2
      obtain ⟨yb, hyb⟩ : ∃ yb, w2.heap.size = yb := ⟨_, rfl⟩
      have hyw := Aside0.mk (show w.heap.size < yb by rw [← hyb]; exact hszw.out)
      obtain ⟨w3, hw3⟩ : ∃ W, w2.alloc (.cells #[.int .i64 x.f0, .string x.f1, .slice A2 x.f2.length c2] 68) = W := ⟨_, rfl⟩
      have X3 := Aside0.mk (show w3.heap[w.heap.size]? = some (.cells #[.slice (some ad) C.length c0, .slice A1 l1.length c1, .int .i64 a2] 25 (0, 0)) by rw [← hw3]; exact blk_alloc X2.out _)
      have Y3 := Aside0.mk (show w3.heap[yb]? = some (.cells #[.int .i64 x.f0, .string x.f1, .slice A2 x.f2.length c2] 68 (0, 0)) by rw [← hw3, ← hyb]; exact heap_alloc_new w2 _)
      have B3 := Aside0.mk (show Below w0.heap.size w0 w3 by rw [← hw3]; exact B2.out.alloc B2.out.size _)
      have K3 := Aside0.mk (show Kept w w3 (fun k_ => P k_) by rw [← hw3]; exact K2.out.alloc _)
      have U3 := Aside0.mk (show (Kd.int .i64).R 3 w3 w0.heap.size (fun _ => True) (.slice (some ⟨g, 0, none⟩) seen.length cap) (seen.set k.toNat v) by rw [← hw3]; exact Kd.R_alloc U2.out _)
      rw [hw3, hyb]
      clear hv hw3 hyb hw2 hszw X2 B2 K2 U2 cv2 e0' e0 hx0 hx1 hx2' HXC q1 qf1
      go_loopw [10, 53] (fun vs vi wr => ∃ (q : Nat) (s : List Int), q ≤ x.f2.length ∧ vi = .int .i64 q ∧ vs = .bool (someKid (x.f2.take q)) ∧ Aside0 (loopK (deepM C lev) (x.f2.drop q) s = some (b, s')) ∧ Aside0 ((Kd.int .i64).R 3 wr w0.heap.size (fun _ => True) (.slice (some ⟨g, 0, none⟩) seen.length cap) s) ∧ Aside0 (wr.heap[w.heap.size]? = some (.cells #[.slice (some ad) C.length c0, .slice A1 l1.length c1, .int .i64 a2] 25 (0, 0))) ∧ Aside0 (wr.heap[yb]? = some (.cells #[.int .i64 x.f0, .string x.f1, .slice A2 x.f2.length c2] 68 (0, 0))) ∧ Aside0 (Below w0.heap.size w0 wr) ∧ Aside0 (Kept w wr (fun k_ => P k_))) (fun _ vi _ => x.f2.length - (intOf vi).toNat)
      case atStart => exact ⟨0, _, Nat.zero_le _, rfl, rfl, ⟨by rw [List.drop_zero]; exact HLp.out⟩, U3, X3, Y3, B3, K3⟩
      case round =>
       clear X3 Y3 B3 K3 U3 HLp
       obtain ⟨q, s, hq, rfl, rfl, HLq, U3, X3, Y3, B3, K3⟩ := hrel
       have e0 : wr.cell? ⟨w.heap.size, 0, none⟩ = some (.slice (some ad) C.length c0) := (blk_cell X3.out _).trans rfl
       have e1 : wr.cell? ⟨w.heap.size, 1, none⟩ = some (.slice A1 l1.length c1) := (blk_cell X3.out _).trans rfl
       have e2 : wr.cell? ⟨w.heap.size, 2, none⟩ = some (.int .i64 a2) := (blk_cell X3.out _).trans rfl
       have y1 : wr.cell? ⟨yb, 1, none⟩ = some (.string x.f1) := (blk_cell Y3.out _).trans rfl
       have y2 : wr.cell? ⟨yb, 2, none⟩ = some (.slice A2 x.f2.length c2) := (blk_cell Y3.out _).trans rfl
       by_cases hql : q < x.f2.length
       ·obtain ⟨ad2, e3, hy⟩ := Kd.at_int (hcell'.out wr K3.out).2.2.2 (q : Int) (by omega) (by omega)
        subst e3
        simp only [Int.toNat_natCast] at hy
        obtain ⟨z, hz⟩ : ∃ z, rd x.f2 (q : Int) = z := ⟨_, rfl⟩
        have hsk := someKid_take x.f2 q hql
        rw [hz] at hy hsk
        have hd : x.f2.drop q = z :: x.f2.drop (q + 1) := by
         rw [List.drop_eq_getElem_cons hql, ← hz]
         congr 1
         unfold rd
         rw [List.getD_eq_getElem?_getD, Int.toNat_natCast, List.getElem?_eq_getElem hql]
         rfl
        obtain ⟨⟨b1, s1⟩, h1, h2⟩ := Option.bind_eq_some_iff.1 (show (deepM C lev z s).bind (fun t => if t.1 = true then loopK (deepM C lev) (x.f2.drop (q + 1)) t.2 else some (false, t.2)) = some (b, s') by
         have := HLq.out
         rw [hd] at this
         exact this)
        have H1 := Aside0.mk h1
        have H2 := Aside0.mk (show (if b1 = true then loopK (deepM C lev) (x.f2.drop (q + 1)) s1 else some (false, s1)) = some (b, s') from h2)
        have hqq : ((q : Int) < (x.f2.length : Int)) = True := eq_true (by omega)
        have hwl : wrap64 (lev : Int) = (lev : Int) := w64 (by have := HL.out; omega) (by have := HL.out; omega)
        have hcall := Aside0.mk (IH.out (some ad) c0 A1 c1 l1 a2 z (fun k_ => P k_ ∧ k_ < w.heap.size) _ s b1 s1 w0 wr B3.out (fun W hk => HR.out W (K3.out.then_ hk (fun _ h3 => .inl h3.1))) hc0 U3.out (fun j hj => by
         have : g = j := by simpa [Value.ownBlock] using hj
         subst this
         exact ⟨⟨hgp.out, hgs.out⟩, by have := K3.out.1; have := hgs.out; omega⟩) (by have := HL.out; omega) h1)
        clear h1 h2 hd hz HLq
        rcases (show (someKid (x.f2.take q) = true ∧ someKid (x.f2.take (q + 1)) = true) ∨ (someKid (x.f2.take q) = false ∧ decide (0 ≤ z) = true ∧ someKid (x.f2.take (q + 1)) = true) ∨ (someKid (x.f2.take q) = false ∧ decide (0 ≤ z) = false ∧ someKid (x.f2.take (q + 1)) = false) by
         cases hb1 : someKid (x.f2.take q) with
         | true => exact .inl ⟨rfl, by rw [hsk, hb1]; rfl⟩
         | false =>
          by_cases hz0 : 0 ≤ z
          ·exact .inr (.inl ⟨rfl, decide_eq_true hz0, by rw [hsk, hb1]; simp; omega⟩)
          ·exact .inr (.inr ⟨rfl, decide_eq_false hz0, by rw [hsk, hb1]; simp; omega⟩)) with ⟨hb, hb'⟩ | ⟨hb, hz0, hb'⟩ | ⟨hb, hz0, hb'⟩
        all_goals
         have HBB := Aside0.mk hb'
         clear hb' hsk
         go_wp2_with (go_at_call 54; (with_reducible refine hcall.out.mono ?_))
         (first | rintro e w4 rfl hU4 hB4 hK4 | rintro e w4 ⟨rfl, hU4, hB4, hK4⟩)
         have X4 := Aside0.mk (blk_kept X3.out hK4 (fun h3 => by have := h3.2; omega))
         have Y4 := Aside0.mk (blk_kept Y3.out hK4 (fun h3 => by have := h3.2; have := hyw.out; omega))
         have K4 := Aside0.mk (K3.out.then_ hK4 (fun _ h3 => .inl h3.1))
         have U4 := Aside0.mk hU4
         have B4 := Aside0.mk hB4
         clear hU4 hB4 hK4 e0 e1 e2 y1 y2 hcall
         cases b1 with
         | true =>
          have H3 := Aside0.mk (show loopK (deepM C lev) (x.f2.drop (q + 1)) s1 = some (b, s') from H2.out)
          go_wp2
          go_roundw
          case rel => exact ⟨q + 1, s1, hql, by go_num, by rw [HBB.out], H3, U4, X4, Y4, B4, K4⟩
          case measure => simp [intOf]; omega
         | false =>
          have H3 : some (false, s1) = some (b, s') := H2.out
          simp only [Option.some.injEq, Prod.mk.injEq] at H3
          obtain ⟨rfl, rfl⟩ := H3
          have H4 : some (false, s1) = some (r1, r2) := HRs.out
          simp only [Option.some.injEq, Prod.mk.injEq] at H4
          obtain ⟨rfl, rfl⟩ := H4
          clear HRs H1 H2 HBB
          go_wp2
          go_ret
          exact ⟨rfl, U4.out, B4.out, K4.out⟩
       ·have hqq : ((q : Int) < (x.f2.length : Int)) = False := eq_false (by omega)
        have h3 := HLq.out
        rw [List.drop_of_length_le (by omega)] at h3
        simp only [loopK, Option.some.injEq, Prod.mk.injEq] at h3
        obtain ⟨rfl, rfl⟩ := h3
        have h4 : some (okNode x, s) = some (r1, r2) := HRs.out
        simp only [Option.some.injEq, Prod.mk.injEq] at h4
        obtain ⟨h4, rfl⟩ := h4
        have hsk : someKid (x.f2.take q) = someKid x.f2 := by rw [List.take_of_length_le (by omega)]
        rw [hsk]
        unfold okNode at h4
        clear hql hq HLq HRs hsk
        cases hb : someKid x.f2 with
        | false =>
         rw [hb, if_neg (by simp)] at h4
         subst h4
         go_wp2
         go_ret
         exact ⟨rfl, U3.out, B3.out, K3.out⟩
        | true =>
         rw [hb, if_pos rfl] at h4
         by_cases h5 : (x.f2.length : Int) = 4
         ·rw [if_pos h5] at h4
          have h5' : ((x.f2.length : Int) == 4) = true := by simpa using h5
          have h5'' : ((x.f2.length : Int) = 4) = True := eq_true h5
          clear h5
          by_cases h6 : x.f1.size = 0
          ·have h7 : (x.f1.toList = []) = True := eq_true (ba_nil.2 h6)
           have h8 : x.f1.toList.isEmpty = true := by rw [ba_nil.2 h6]; rfl
           obtain rfl : r1 = true := by rw [← h4]; simpa using h6
           clear h6 h4
           go_wp2
           go_ret
           exact ⟨rfl, U3.out, B3.out, K3.out⟩
          ·have h7 : (x.f1.toList = []) = False := eq_false (fun h9 => h6 (ba_nil.1 h9))
           have h8 : x.f1.toList.isEmpty = false := by
            cases h9 : x.f1.toList with
            | nil => exact absurd (ba_nil.1 h9) h6
            | cons a b => rfl
           obtain rfl : r1 = false := by rw [← h4]; simpa using h6
           clear h6 h4
           go_wp2
           go_ret
           exact ⟨rfl, U3.out, B3.out, K3.out⟩
         ·rw [if_neg h5] at h4
          have h5' : ((x.f2.length : Int) == 4) = false := beq_eq_false_iff_ne.2 h5
          have h5'' : ((x.f2.length : Int) = 4) = False := eq_false h5
          subst h4
          clear h5
          go_wp2
          go_ret
          exact ⟨rfl, U3.out, B3.out, K3.out⟩
   ·exact absurd (show none = some (r1, r2) by rw [if_neg hks] at h; exact h) (by simp)
  ·rw [if_neg hin] at h
   simp only [Option.some.injEq, Prod.mk.injEq] at h
   obtain ⟨rfl, rfl⟩ := h
   have hw := Aside0.mk (show spec_l1In.f k 0 ((C.length : Int) - 1) = some false by
    unfold spec_l1In.f
    split
    ·simp; omega
    ·rfl)
   have e0 : W1.cell? ⟨w.heap.size, 0, none⟩ = some (.slice A0 C.length c0) := (blk_cell X1.out _).trans rfl
   clear hin
   go_enter Try.func54, Try.ntmps54
   go_wp2_with (go_at_call 44; refine (spec_l1In.calls k 0 ((C.length : Int) - 1) false _ hw.out).mono ?_)
   (first | rintro e w' rfl ⟨⟨nd, rfl⟩⟩ | rintro e w' ⟨rfl, ⟨⟨nd, rfl⟩⟩⟩)
   go_wp2
   go_ret
   exact ⟨rfl, Kd.R_drewN U1.out nd, pw_below_drewN B1.out nd, K1.out.drewN nd⟩
def levM (C : List S68) : Nat → Int → List Int → Option (Bool × List Int)
 | 0, k, at_ => if k = -1 then some (true, at_) else if 0 ≤ k ∧ k < (at_.length : Int) then (if rd at_ k = 0 then some (true, at_) else some (false, at_)) else none
 | lev + 1, k, at_ => if k = -1 then some (true, at_) else if 0 ≤ k ∧ k < (at_.length : Int) then (if rd at_ k = 0 then (if k < (C.length : Int) then loopK (levM C lev) (rd_T68 C k).f2 (at_.set k.toNat ((lev : Int) + 1)) else none) else if rd at_ k = (lev : Int) + 1 then some (true, at_) else some (false, at_)) else none
set_option maxHeartbeats 2000000 in
set_option maxRecDepth 100000 in
theorem lev_calls (C : List S68) : ∀ (lev : Nat) (A0 : Option Addr) (c0 : Nat) (A1 : Option Addr) (c1 : Nat) (l1 : List Int) (a2 k : Int) (P : Nat → Prop) (u : Value) (seen : List Int) (r1 : Bool) (r2 : List Int) (w0 w : World) (hB : Below w0.heap.size w0 w)
  (hr0 : ∀ W_, Kept w W_ (fun k_ => P k_) → Kd.C k68 W_ A0 C.length C) (hc0 : C.length ≤ c0) (hu : (Kd.int .i64).R 3 w w0.heap.size (fun _ => True) u seen) (hP : ∀ k, u.ownBlock = some k → P k ∧ k < w.heap.size) (hlev : lev ≤ 3) (h : levM C lev k seen = some (r1, r2)),
  Calls Try.prog 55 #[.agg #[.slice A0 C.length c0, .slice A1 l1.length c1, .int .i64 a2], .int .i64 k, .int .i64 lev, u] w fun e w' => e = .returned (.bool r1) ∧ (Kd.int .i64).R 3 w' w0.heap.size (fun _ => True) u r2 ∧ Below w0.heap.size w0 w' ∧ Kept w w' (fun k_ => P k_) := by
 intro lev
 induction lev with
 | zero =>
  intro A0 c0 A1 c1 l1 a2 k P u seen r1 r2 w0 w hB hr0 hc0 hu hP hlev h
  have hu25 := Try.underlying25
  have HU := Aside0.mk hu
  have HB := Aside0.mk hB
  simp only [levM] at h
  clear hr0 hu hP hB
  by_cases hk1 : k = -1
  ·subst hk1
   rw [if_pos rfl] at h
   simp only [Option.some.injEq, Prod.mk.injEq] at h
   obtain ⟨rfl, rfl⟩ := h
   go_enter Try.func55, Try.ntmps55
   go_wp2
   go_ret
   exact ⟨rfl, Kd.R_alloc HU.out _, HB.out.alloc HB.out.size _, (Kept.refl _ _).alloc _⟩
  rw [if_neg hk1] at h
  have hk1' : (k == -1) = false := beq_eq_false_iff_ne.2 hk1
  clear hk1
  by_cases hin : 0 ≤ k ∧ k < (seen.length : Int)
  ·rw [if_pos hin] at h
   obtain ⟨g, cap, hv, hg1, hg2, cs, hgc⟩ := Kd.R_form HU.out (by omega)
   subst hv
   have q1 : w.cell? ⟨g, k.toNat, none⟩ = some (.int .i64 (rd seen k)) := (Kd.R_celln (d := (0 : Int)) HU.out k hin.1 hin.2).1
   have p1 : (0 ≤ k) = True := eq_true hin.1
   have p3 : (k < (seen.length : Int)) = True := eq_true hin.2
   have HG := Aside0.mk (show g < w.heap.size from hg2)
   clear hg2 hin hgc
   have q2 : (w.alloc (.cells #[.slice A0 C.length c0, .slice A1 l1.length c1, .int .i64 a2] 25)).cell? ⟨g, k.toNat, none⟩ = some (.int .i64 (rd seen k)) := pw_cell_below (below_alloc (Below.refl _ _) _) q1
   by_cases hz : rd seen k = 0
   ·rw [if_pos hz] at h
    simp only [Option.some.injEq, Prod.mk.injEq] at h
    obtain ⟨rfl, rfl⟩ := h
    rw [hz] at q1 q2
    clear hz
    go_enter Try.func55, Try.ntmps55
    go_wp2
    go_ret
    exact ⟨rfl, Kd.R_alloc HU.out _, HB.out.alloc HB.out.size _, (Kept.refl _ _).alloc _⟩
   ·rw [if_neg hz] at h
    simp only [Option.some.injEq, Prod.mk.injEq] at h
    obtain ⟨rfl, rfl⟩ := h
    have hz1 : (rd seen k == 0) = false := beq_eq_false_iff_ne.2 hz
    have hz2 : (rd seen k != 0) = true := bne_iff_ne.2 hz
    have hz3 : (rd seen k = 0) = False := eq_false hz
    clear hz
    go_enter Try.func55, Try.ntmps55
    go_wp2
    go_ret
    exact ⟨rfl, Kd.R_alloc HU.out _, HB.out.alloc HB.out.size _, (Kept.refl _ _).alloc _⟩
  ·rw [if_neg hin] at h
   cases h
 | succ lev ih =>
  intro A0 c0 A1 c1 l1 a2 k P u seen r1 r2 w0 w hB hr0 hc0 hu hP hlev h
  have hu25 := Try.underlying25
  have hu68 := Try.underlying68
  have hn0 : C.length ≤ 9223372036854775807 := (hr0 w (Kept.refl _ _)).2.1
  have HR := Aside0.mk hr0
  have HU := Aside0.mk hu
  have HP := Aside0.mk hP
  have HB := Aside0.mk hB
  have HS := Aside0.mk hB.size
  have IH := Aside0.mk ih
  have HL := Aside0.mk hlev
  simp only [levM] at h
  clear hr0 hu hP hB ih hlev
  by_cases hk1 : k = -1
  ·subst hk1
   rw [if_pos rfl] at h
   simp only [Option.some.injEq, Prod.mk.injEq] at h
   obtain ⟨rfl, rfl⟩ := h
   go_enter Try.func55, Try.ntmps55
   go_wp2
   go_ret
   exact ⟨rfl, Kd.R_alloc HU.out _, HB.out.alloc HS.out _, (Kept.refl _ _).alloc _⟩
  rw [if_neg hk1] at h
  have hk1' : (k == -1) = false := beq_eq_false_iff_ne.2 hk1
  clear hk1
  by_cases hin : 0 ≤ k ∧ k < (seen.length : Int)
  ·rw [if_pos hin] at h
   obtain ⟨W1, hW1⟩ : ∃ W, w.alloc (.cells #[.slice A0 C.length c0, .slice A1 l1.length c1, .int .i64 a2] 25) = W := ⟨_, rfl⟩
   have X1 := Aside0.mk (show W1.heap[w.heap.size]? = some (.cells #[.slice A0 C.length c0, .slice A1 l1.length c1, .int .i64 a2] 25 (0, 0)) by rw [← hW1]; exact heap_alloc_new w _)
   have B1 := Aside0.mk (show Below w0.heap.size w0 W1 by rw [← hW1]; exact HB.out.alloc HS.out _)
   have K1 := Aside0.mk (show Kept w W1 (fun k_ => P k_) by rw [← hW1]; exact (Kept.refl _ _).alloc _)
   have U1 := Aside0.mk (show (Kd.int .i64).R 3 W1 w0.heap.size (fun _ => True) u seen by rw [← hW1]; exact Kd.R_alloc HU.out _)
   obtain ⟨g, cap, hv, hg1, hg2, cs, hgc⟩ := Kd.R_form U1.out (by omega)
   subst hv
   have hgP := HP.out g rfl
   have p1 : (0 ≤ k) = True := eq_true hin.1
   have p3 : (k < (seen.length : Int)) = True := eq_true hin.2
   have q1 : W1.cell? ⟨g, k.toNat, none⟩ = some (.int .i64 (rd seen k)) := (Kd.R_celln (d := (0 : Int)) U1.out k hin.1 hin.2).1
   have qf1 : W1.frozen? ⟨g, k.toNat, none⟩ = false := (Kd.R_celln (d := (0 : Int)) U1.out k hin.1 hin.2).2
   by_cases hz : rd seen k = 0
   ·rw [if_pos hz] at h
    by_cases hC : k < (C.length : Int)
    ·rw [if_pos hC] at h
     obtain ⟨ad, A2, c2, hA0, hlen, hcell⟩ := cell_at HR.out k hin.1 hC
     subst hA0
     have hcell' := Aside0.mk hcell
     clear hcell
     obtain ⟨x, hx⟩ : ∃ x, rd_T68 C k = x := ⟨_, rfl⟩
     rw [hx] at hcell' hlen h
     have hx2 : x.f2.length ≤ 9223372036854775807 := (hcell'.out w (Kept.refl _ _)).2.2.2.2.1
     have p2 : (k < (C.length : Int)) = True := eq_true hC
     have hl2 : ((0 : Int) = (lev : Int) + 1) = False := eq_false (by omega)
     have hl3 : ((0 : Int) == (lev : Int) + 1) = false := beq_eq_false_iff_ne.2 (by omega)
     have hgs := Aside0.mk (show g < w.heap.size from hgP.2)
     have hgp := Aside0.mk hgP.1
     obtain ⟨w2, hw2, hX2, hB2, hK2, hU2⟩ : ∃ w2, W1.setCell ⟨g, k.toNat, none⟩ (.int .i64 ((lev : Int) + 1)) = w2 ∧ w2.heap[w.heap.size]? = some (.cells #[.slice (some ad) C.length c0, .slice A1 l1.length c1, .int .i64 a2] 25 (0, 0)) ∧ Below w0.heap.size w0 w2 ∧ Kept w w2 (fun k_ => P k_) ∧ (Kd.int .i64).R 3 w2 w0.heap.size (fun _ => True) (.slice (some ⟨g, 0, none⟩) seen.length cap) (seen.set k.toNat ((lev : Int) + 1)) :=
      ⟨_, rfl, blk_far X1.out (p := ⟨g, k.toNat, none⟩) (by show w.heap.size ≠ g; omega) _, below_set B1.out hg1, K1.out.setCell (.inl hgP.1) _, Kd.R_putn U1.out k _⟩
     have X2 := Aside0.mk hX2
     have B2 := Aside0.mk hB2
     have K2 := Aside0.mk hK2
     have U2 := Aside0.mk hU2
     have HLp := Aside0.mk h
     rw [hz] at q1
     have e0' : w2.cell? ⟨w.heap.size, 0, none⟩ = some (.slice (some ad) C.length c0) := (blk_cell X2.out _).trans rfl
     obtain ⟨hx0, hx1, hx2', _⟩ := hcell'.out w2 K2.out
     clear hz hC hin hx hX2 hB2 hK2 hU2 h hgP X1 B1 K1 U1 HU HB
     go_enter Try.func55, Try.ntmps55
     go_wp2
     clear hW1 hw2 e0' hx0 hx1 hx2' q1 qf1
     go_loopw [43] (fun vi wr => ∃ (q : Nat) (s : List Int), q ≤ x.f2.length ∧ vi = .int .i64 q ∧ Aside0 (loopK (levM C lev) (x.f2.drop q) s = some (r1, r2)) ∧ Aside0 ((Kd.int .i64).R 3 wr w0.heap.size (fun _ => True) (.slice (some ⟨g, 0, none⟩) seen.length cap) s) ∧ Aside0 (wr.heap[w.heap.size]? = some (.cells #[.slice (some ad) C.length c0, .slice A1 l1.length c1, .int .i64 a2] 25 (0, 0))) ∧ Aside0 (Below w0.heap.size w0 wr) ∧ Aside0 (Kept w wr (fun k_ => P k_))) (fun vi _ => x.f2.length - (intOf vi).toNat)
     case atStart => exact ⟨0, _, Nat.zero_le _, rfl, ⟨by rw [List.drop_zero]; exact HLp.out⟩, U2, X2, B2, K2⟩
     case round =>
      clear X2 B2 K2 U2 HLp
      obtain ⟨q, s, hq, rfl, HLq, U3, X3, B3, K3⟩ := hrel
      have e0 : wr.cell? ⟨w.heap.size, 0, none⟩ = some (.slice (some ad) C.length c0) := (blk_cell X3.out _).trans rfl
      have e1 : wr.cell? ⟨w.heap.size, 1, none⟩ = some (.slice A1 l1.length c1) := (blk_cell X3.out _).trans rfl
      have e2 : wr.cell? ⟨w.heap.size, 2, none⟩ = some (.int .i64 a2) := (blk_cell X3.out _).trans rfl
      by_cases hql : q < x.f2.length
      ·obtain ⟨ad2, e3, hy⟩ := Kd.at_int (hcell'.out wr K3.out).2.2.2 (q : Int) (by omega) (by omega)
       subst e3
       simp only [Int.toNat_natCast] at hy
       obtain ⟨z, hz⟩ : ∃ z, rd x.f2 (q : Int) = z := ⟨_, rfl⟩
       rw [hz] at hy
       have hd : x.f2.drop q = z :: x.f2.drop (q + 1) := by
        rw [List.drop_eq_getElem_cons hql, ← hz]
        congr 1
        unfold rd
        rw [List.getD_eq_getElem?_getD, Int.toNat_natCast, List.getElem?_eq_getElem hql]
        rfl
       obtain ⟨⟨b1, s1⟩, h1, h2⟩ := Option.bind_eq_some_iff.1 (show (levM C lev z s).bind (fun t => if t.1 = true then loopK (levM C lev) (x.f2.drop (q + 1)) t.2 else some (false, t.2)) = some (r1, r2) by
        have := HLq.out
        rw [hd] at this
        exact this)
       have H2 := Aside0.mk (show (if b1 = true then loopK (levM C lev) (x.f2.drop (q + 1)) s1 else some (false, s1)) = some (r1, r2) from h2)
       have hqq : ((q : Int) < (x.f2.length : Int)) = True := eq_true (by omega)
       have hwl : wrap64 (lev : Int) = (lev : Int) := w64 (by have := HL.out; omega) (by have := HL.out; omega)
       have hcall := Aside0.mk (IH.out (some ad) c0 A1 c1 l1 a2 z (fun k_ => P k_ ∧ k_ < w.heap.size) _ s b1 s1 w0 wr B3.out (fun W hk => HR.out W (K3.out.then_ hk (fun _ h3 => .inl h3.1))) hc0 U3.out (fun j hj => by
        have : g = j := by simpa [Value.ownBlock] using hj
        subst this
        exact ⟨⟨hgp.out, hgs.out⟩, by have := K3.out.1; have := hgs.out; omega⟩) (by have := HL.out; omega) h1)
       clear h1 h2 hd hz HLq
       go_wp2_with (go_at_call 55; (with_reducible refine hcall.out.mono ?_))
       (first | rintro e w4 rfl hU4 hB4 hK4 | rintro e w4 ⟨rfl, hU4, hB4, hK4⟩)
       have X4 := Aside0.mk (blk_kept X3.out hK4 (fun h3 => by have := h3.2; omega))
       have K4 := Aside0.mk (K3.out.then_ hK4 (fun _ h3 => .inl h3.1))
       have U4 := Aside0.mk hU4
       have B4 := Aside0.mk hB4
       clear hU4 hB4 hK4 e0 e1 e2 hcall
       cases b1 with
       | true =>
        have H3 := Aside0.mk (show loopK (levM C lev) (x.f2.drop (q + 1)) s1 = some (r1, r2) from H2.out)
        go_wp2
        go_roundw
        case rel => exact ⟨q + 1, s1, hql, by go_num, H3, U4, X4, B4, K4⟩
        case measure => simp [intOf]; omega
       | false =>
        have H3 : some (false, s1) = some (r1, r2) := H2.out
        simp only [Option.some.injEq, Prod.mk.injEq] at H3
        obtain ⟨rfl, rfl⟩ := H3
        clear H2
        go_wp2
        go_ret
        exact ⟨rfl, U4.out, B4.out, K4.out⟩
      ·have hqq : ((q : Int) < (x.f2.length : Int)) = False := eq_false (by omega)
       have h3 := HLq.out
       rw [List.drop_of_length_le (by omega)] at h3
       simp only [loopK, Option.some.injEq, Prod.mk.injEq] at h3
       obtain ⟨rfl, rfl⟩ := h3
       clear hql hq HLq
       go_wp2
       go_ret
       exact ⟨rfl, U3.out, B3.out, K3.out⟩
    ·rw [if_neg hC] at h
     cases h
   ·rw [if_neg hz] at h
    have hz1 : (rd seen k == 0) = false := beq_eq_false_iff_ne.2 hz
    have hz2 : (rd seen k != 0) = true := bne_iff_ne.2 hz
    have hz3 : (rd seen k = 0) = False := eq_false hz
    by_cases he : rd seen k = (lev : Int) + 1
    ·rw [if_pos he] at h
     simp only [Option.some.injEq, Prod.mk.injEq] at h
     obtain ⟨rfl, rfl⟩ := h
     rw [he] at q1
     have hl2 : ((lev : Int) + 1 = 0) = False := eq_false (by omega)
     have hl3 : ((lev : Int) + 1 == 0) = false := beq_eq_false_iff_ne.2 (by omega)
     have hl4 : ((lev : Int) + 1 != 0) = true := bne_iff_ne.2 (by omega)
     clear hz he hin hz1 hz2 hz3
     go_enter Try.func55, Try.ntmps55
     go_wp2
     go_ret
     exact ⟨rfl, U1.out, B1.out, K1.out⟩
    ·rw [if_neg he] at h
     simp only [Option.some.injEq, Prod.mk.injEq] at h
     obtain ⟨rfl, rfl⟩ := h
     have he1 : (rd seen k == (lev : Int) + 1) = false := beq_eq_false_iff_ne.2 he
     have he2 : (rd seen k != (lev : Int) + 1) = true := bne_iff_ne.2 he
     have he3 : (rd seen k = (lev : Int) + 1) = False := eq_false he
     clear hz he hin
     go_enter Try.func55, Try.ntmps55
     go_wp2
     go_ret
     exact ⟨rfl, U1.out, B1.out, K1.out⟩
  ·rw [if_neg hin] at h
   cases h
theorem row_ok {e base : Nat} {w : World} {v : Value} {xs : List Int} {ok : Nat → Prop} (h : (Kd.int .i64).R e w base (fun _ => True) v xs) (hok : ∀ k, v.ownBlock = some k → ok k) : (Kd.int .i64).R e w base ok v xs := Kd.R_of_own (Kd.own_of_R h) hok
def spec_l14Deep.f (l0_0 : List S68) (l0_1 : List Int) (a0_2 : Int) (a1 : Int) (a2 : Int) (l3 : List Int) : Option (Bool × List Int) := if 0 ≤ a2 ∧ a2 ≤ 3 then deepM l0_0 a2.toNat a1 l3 else none
theorem spec_l14Deep.calls (A0_0 : Option Addr) (c0_0 : Nat) (l0_0 : List (S68)) (A0_1 : Option Addr) (c0_1 : Nat) (l0_1 : List Int) (a0_2 : Int) (a1 : Int) (a2 : Int) (P3_ : Nat → Prop) (u9000_ : Value) (l3 : List Int) (r1 : Bool) (r2 : List Int) (w0 w : World) (hB : Below w0.heap.size w0 w) (hr0_0 : ∀ W_, Kept w W_ (fun k_ => P3_ k_) → Kd.C k68 W_ A0_0 l0_0.length l0_0) (hc0_0 : l0_0.length ≤ c0_0) (hr0_1 : ∀ W_, Kept w W_ (fun k_ => P3_ k_) → Kd.C (Kd.int .i64) W_ A0_1 l0_1.length l0_1) (hc0_1 : l0_1.length ≤ c0_1) (ho3 : Kd.R (Kd.int .i64) 3 w w0.heap.size P3_ u9000_ l3) (h : spec_l14Deep.f l0_0 l0_1 a0_2 a1 a2 l3 = some (r1, r2)) :
  Calls Try.prog 54 #[.agg #[.slice A0_0 l0_0.length c0_0, .slice A0_1 l0_1.length c0_1, .int .i64 a0_2], .int .i64 a1, .int .i64 a2, u9000_] w fun e w' => e = .returned (.bool r1) ∧ Kd.R (Kd.int .i64) 3 w' w0.heap.size (fun k_ => (P3_ k_ ∨ w.heap.size ≤ k_)) u9000_ r2 ∧ Below w0.heap.size w0 w' ∧ Kept w w' (fun k_ => P3_ k_) := by
 unfold spec_l14Deep.f at h
 split at h
 ·rename_i hl
  have e : a2 = ((a2.toNat : Nat) : Int) := by omega
  have h1 := deep_calls l0_0 a2.toNat A0_0 c0_0 A0_1 c0_1 l0_1 a0_2 a1 P3_ u9000_ l3 r1 r2 w0 w hB hr0_0 hc0_0 (Kd.R_mono ho3 (fun _ _ => trivial)) (fun k hk => ⟨ho3.1 k hk, Kd.R_lt ho3 k hk⟩) (by omega) h
  rw [← e] at h1
  exact h1.mono fun e w' ⟨he, hR, hB', hK⟩ => ⟨he, row_ok hR (fun k hk => .inl (ho3.1 k hk)), hB', hK⟩
 ·cases h
def spec_l14Levels.f (l0_0 : List S68) (l0_1 : List Int) (a0_2 : Int) (a1 : Int) (a2 : Int) (l3 : List Int) : Option (Bool × List Int) := if 0 ≤ a2 ∧ a2 ≤ 3 then levM l0_0 a2.toNat a1 l3 else none
theorem spec_l14Levels.calls (A0_0 : Option Addr) (c0_0 : Nat) (l0_0 : List (S68)) (A0_1 : Option Addr) (c0_1 : Nat) (l0_1 : List Int) (a0_2 : Int) (a1 : Int) (a2 : Int) (P3_ : Nat → Prop) (u9000_ : Value) (l3 : List Int) (r1 : Bool) (r2 : List Int) (w0 w : World) (hB : Below w0.heap.size w0 w) (hr0_0 : ∀ W_, Kept w W_ (fun k_ => P3_ k_) → Kd.C k68 W_ A0_0 l0_0.length l0_0) (hc0_0 : l0_0.length ≤ c0_0) (hr0_1 : ∀ W_, Kept w W_ (fun k_ => P3_ k_) → Kd.C (Kd.int .i64) W_ A0_1 l0_1.length l0_1) (hc0_1 : l0_1.length ≤ c0_1) (ho3 : Kd.R (Kd.int .i64) 3 w w0.heap.size P3_ u9000_ l3) (h : spec_l14Levels.f l0_0 l0_1 a0_2 a1 a2 l3 = some (r1, r2)) :
  Calls Try.prog 55 #[.agg #[.slice A0_0 l0_0.length c0_0, .slice A0_1 l0_1.length c0_1, .int .i64 a0_2], .int .i64 a1, .int .i64 a2, u9000_] w fun e w' => e = .returned (.bool r1) ∧ Kd.R (Kd.int .i64) 3 w' w0.heap.size (fun k_ => (P3_ k_ ∨ w.heap.size ≤ k_)) u9000_ r2 ∧ Below w0.heap.size w0 w' ∧ Kept w w' (fun k_ => P3_ k_) := by
 unfold spec_l14Levels.f at h
 split at h
 ·rename_i hl
  have e : a2 = ((a2.toNat : Nat) : Int) := by omega
  have h1 := lev_calls l0_0 a2.toNat A0_0 c0_0 A0_1 c0_1 l0_1 a0_2 a1 P3_ u9000_ l3 r1 r2 w0 w hB hr0_0 hc0_0 (Kd.R_mono ho3 (fun _ _ => trivial)) (fun k hk => ⟨ho3.1 k hk, Kd.R_lt ho3 k hk⟩) (by omega) h
  rw [← e] at h1
  exact h1.mono fun e w' ⟨he, hR, hB', hK⟩ => ⟨he, row_ok hR (fun k hk => .inl (ho3.1 k hk)), hB', hK⟩
 ·cases h
attribute [local go_sem] max2_int max_two
def isNum (n : Nat) (k : Int) : Bool := decide (-1 ≤ k ∧ k ≤ (n : Int) - 1)
theorem within_dec (a b c : Int) : impl_within.f a b c = some (decide (b ≤ a ∧ a ≤ c)) := by
 unfold impl_within.f
 by_cases h : a ≥ b
 ·by_cases h2 : a ≤ c
  ·simp [h, h2] <;> omega
  ·simp [h, h2]
 ·simp [h] <;> omega
set_option maxHeartbeats 1000000 in
set_option maxRecDepth 100000 in
theorem num_calls (A0 : Option Addr) (n c0 : Nat) (A1 : Option Addr) (n1 c1 : Nat) (a2 k : Int) (w : World) (hn : n ≤ 9223372036854775807) :
  Calls Try.prog 59 #[.agg #[.slice A0 n c0, .slice A1 n1 c1, .int .i64 a2], .int .i64 k] w fun e w' => e = .returned (.bool (isNum n k)) ∧ Below w.heap.size w w' := by
 have hu25 := Try.underlying25
 have hw := Aside0.mk (show impl_within.f k (-1) ((n : Int) - 1) = some (isNum n k) from within_dec k (-1) ((n : Int) - 1))
 go_enter Try.func59, Try.ntmps59
 go_wp2_with (go_at_call 45; refine (impl_within.calls k (-1) ((n : Int) - 1) _ _ hw.out).mono ?_)
 (first | rintro e w' rfl ⟨⟨nd, rfl⟩⟩ | rintro e w' ⟨rfl, ⟨⟨nd, rfl⟩⟩⟩)
 go_wp2
 go_ret
 exact ⟨rfl, pw_below_drewN ((Below.refl _ _).alloc (Nat.le_refl _) _) nd⟩
set_option maxHeartbeats 1000000 in
set_option maxRecDepth 100000 in
theorem bad_calls (b : Nat) (A0 : Option Addr) (n c0 : Nat) (A1 : Option Addr) (n1 c1 : Nat) (a2 k : Int) (w : World) (hn : n ≤ 9223372036854775807) (hb : w.heap[b]? = some (.cells #[.slice A0 n c0, .slice A1 n1 c1, .int .i64 a2] 25 (0, 0))) :
  Calls Try.prog 83 #[.int .i64 k, .pointer (some ⟨b, 0, none⟩)] w fun e w' => e = .returned (.bool (!isNum n k)) ∧ Below w.heap.size w w' := by
 have hu25 := Try.underlying25
 have e0 : w.cell? ⟨b, 0, none⟩ = some (.slice A0 n c0) := (blk_cell hb _).trans rfl
 have e1 : w.cell? ⟨b, 1, none⟩ = some (.slice A1 n1 c1) := (blk_cell hb _).trans rfl
 have e2 : w.cell? ⟨b, 2, none⟩ = some (.int .i64 a2) := (blk_cell hb _).trans rfl
 have hc := Aside0.mk (num_calls A0 n c0 A1 n1 c1 a2 k w hn)
 clear hb
 go_enter Try.func83, Try.ntmps83
 go_wp2_with (go_at_call 59; refine hc.out.mono ?_)
 (first | rintro e w' rfl hb | rintro e w' ⟨rfl, hb⟩)
 go_wp2
 go_ret
 exact ⟨rfl, hb⟩
def badKid (n : Nat) (ks : List Int) : Bool := ks.any fun k => !isNum n k
def IdxPost (n : Nat) (ks : List Int) (w : World) (e : Ending) (w' : World) : Prop := ∃ r : Int, e = .returned (.int .i64 r) ∧ decide (0 ≤ r) = badKid n ks ∧ Below w.heap.size w w'
set_option maxHeartbeats 1000000 in
set_option maxRecDepth 100000 in
theorem idx_calls (ks : List Int) (A : Option Addr) (c : Nat) (b : Nat) (A0 : Option Addr) (n c0 : Nat) (A1 : Option Addr) (n1 c1 : Nat) (a2 : Int) (w : World) (hn : n ≤ 9223372036854775807) (hb : w.heap[b]? = some (.cells #[.slice A0 n c0, .slice A1 n1 c1, .int .i64 a2] 25 (0, 0)))
  (hr : (Kd.int .i64).C w A ks.length ks) (hc : ks.length ≤ c) :
  Calls Try.prog 91 #[.slice A ks.length c, .func (.func 83) #[] #[.pointer (some ⟨b, 0, none⟩)]] w (IdxPost n ks w) := by
 have HR := Aside0.mk hr
 have HB := Aside0.mk hb
 have hk : ks.length ≤ 9223372036854775807 := hr.2.1
 clear hr hb
 go_enter Try.func91, Try.ntmps91
 go_wp2
 go_loopw [8] (fun i wr => ∃ q : Nat, q ≤ ks.length ∧ i = .int .i64 q ∧ Aside0 (badKid n (ks.take q) = false) ∧ Aside0 (Below w.heap.size w wr)) (fun i _ => ks.length - (intOf i).toNat)
 case atStart => exact ⟨0, Nat.zero_le _, rfl, ⟨rfl⟩, ⟨Below.refl _ _⟩⟩
 case round =>
  obtain ⟨q, hq, rfl, hT, B⟩ := hrel
  by_cases hql : q < ks.length
  ·obtain ⟨ad2, e3, hy⟩ := Kd.at_int HR.out (q : Int) (by omega) (by omega)
   subst e3
   simp only [Int.toNat_natCast] at hy
   replace hy := pw_cell_below B.out hy
   obtain ⟨z, hz⟩ : ∃ z, rd ks (q : Int) = z := ⟨_, rfl⟩
   rw [hz] at hy
   have hqq : ((q : Int) < (ks.length : Int)) = True := eq_true (by omega)
   have hbt := Aside0.mk (show badKid n (ks.take (q + 1)) = (!isNum n z) by
    have er : rd ks (q : Int) = ks[q] := by
     unfold rd
     rw [List.getD_eq_getElem?_getD, Int.toNat_natCast, List.getElem?_eq_getElem hql]
     rfl
    have h1 := hT.out
    unfold badKid at h1 ⊢
    rw [List.take_succ_eq_append_getElem hql, List.any_append, h1, ← er, hz]
    simp)
   have hcall := Aside0.mk (bad_calls b A0 n c0 A1 n1 c1 a2 z wr hn (blk_below HB.out ⟨B.out.os, B.out.tape, B.out.output, B.out.size, B.out.block⟩))
   clear hz
   cases hnz : isNum n z with
   | true =>
    have hbt2 := Aside0.mk (show badKid n (ks.take (q + 1)) = false by rw [hbt.out, hnz]; rfl)
    rw [hnz] at hcall
    clear hbt hnz hT
    go_wp2_with (go_at_call 83; refine hcall.out.mono ?_)
    (first | rintro e w' rfl hb1 | rintro e w' ⟨rfl, hb1⟩)
    have B1 := Aside0.mk (below_then B.out B.out.size hb1)
    clear hb1 hcall
    go_wp2
    go_roundw
    case rel => exact ⟨q + 1, hql, by go_num, hbt2, B1⟩
    case measure => simp [intOf]; omega
   | false =>
    have hbad := Aside0.mk (show badKid n ks = true by
     have h1 := hbt.out
     rw [hnz] at h1
     unfold badKid at h1 ⊢
     obtain ⟨x, hx, hx2⟩ := List.any_eq_true.1 h1
     exact List.any_eq_true.2 ⟨x, List.mem_of_mem_take hx, hx2⟩)
    rw [hnz] at hcall
    clear hbt hnz hT
    go_wp2_with (go_at_call 83; refine hcall.out.mono ?_)
    (first | rintro e w' rfl hb1 | rintro e w' ⟨rfl, hb1⟩)
    have B1 := Aside0.mk (below_then B.out B.out.size hb1)
    clear hb1 hcall
    go_wp2
    go_ret
    exact ⟨q, rfl, by rw [hbad.out]; simp, B1.out⟩
  ·have hqq : ((q : Int) < (ks.length : Int)) = False := eq_false (by omega)
   have hbad := Aside0.mk (show badKid n ks = false by
    have h1 := hT.out
    rwa [List.take_of_length_le (by omega)] at h1)
   clear hql hq hT
   go_wp2
   go_ret
   exact ⟨-1, rfl, by rw [hbad.out]; rfl, B.out⟩
set_option maxHeartbeats 1000000 in
set_option maxRecDepth 100000 in
theorem contains_calls (ks : List Int) (A : Option Addr) (c : Nat) (b : Nat) (A0 : Option Addr) (n c0 : Nat) (A1 : Option Addr) (n1 c1 : Nat) (a2 : Int) (w : World) (hn : n ≤ 9223372036854775807) (hb : w.heap[b]? = some (.cells #[.slice A0 n c0, .slice A1 n1 c1, .int .i64 a2] 25 (0, 0)))
  (hr : (Kd.int .i64).C w A ks.length ks) (hc : ks.length ≤ c) :
  Calls Try.prog 82 #[.slice A ks.length c, .func (.func 83) #[] #[.pointer (some ⟨b, 0, none⟩)]] w fun e w' => e = .returned (.bool (badKid n ks)) ∧ Below w.heap.size w w' := by
 have hcall := Aside0.mk (idx_calls ks A c b A0 n c0 A1 n1 c1 a2 w hn hb hr hc)
 clear hb hr
 go_enter Try.func82, Try.ntmps82
 go_wp2_with (go_at_call 91; refine hcall.out.mono ?_)
 rintro e w' ⟨r, rfl, hr, hb⟩
 go_wp2
 go_ret
 exact ⟨rfl, hb⟩
def maxOf (m : Int) (ks : List Int) : Int := ks.foldl (fun m x => if m < x then x else m) m
theorem maxOf_ge (ks : List Int) : ∀ m : Int, (0 ≤ maxOf m ks ↔ 0 ≤ m ∨ someKid ks = true) := by
 induction ks with
 | nil => intro m; simp [maxOf, someKid]
 | cons k r ih =>
  intro m
  have e : maxOf m (k :: r) = maxOf (if m < k then k else m) r := rfl
  have e2 : someKid (k :: r) = (decide (k ≥ 0) || someKid r) := rfl
  rw [e, ih, e2]
  simp only [Bool.or_eq_true, decide_eq_true_eq]
  have h0 : (0 ≤ (if m < k then k else m)) ↔ (0 ≤ m ∨ 0 ≤ k) := by split <;> omega
  rw [h0, or_assoc]
set_option maxHeartbeats 1000000 in
set_option maxRecDepth 100000 in
theorem max_calls (ks : List Int) (A : Option Addr) (c : Nat) (w : World) (hr : (Kd.int .i64).C w A ks.length ks) (hc : ks.length ≤ c) (h4 : ks.length = 4) :
  Calls Try.prog 84 #[.slice A ks.length c] w fun e w' => (∃ m : Int, e = .returned (.int .i64 m) ∧ decide (0 ≤ m) = someKid ks) ∧ w = w' := by
 obtain ⟨k0, k1, k2, k3, rfl⟩ : ∃ a b c d, ks = [a, b, c, d] := by
  match ks, h4 with
  | [a, b, c, d], _ => exact ⟨a, b, c, d, rfl⟩
 have g0 := Kd.at_int hr 0 (by omega) (by simp)
 have g1 := Kd.at_int hr 1 (by omega) (by simp)
 have g2 := Kd.at_int hr 2 (by omega) (by simp)
 have g3 := Kd.at_int hr 3 (by omega) (by simp)
 obtain ⟨ad, rfl, g0⟩ := g0
 obtain ⟨_, e1, g1⟩ := g1
 cases e1
 obtain ⟨_, e1, g2⟩ := g2
 cases e1
 obtain ⟨_, e1, g3⟩ := g3
 cases e1
 have x0 : w.cell? ad = some (.int .i64 k0) := by
  have := g0
  rw [show (0 : Int).toNat = 0 from rfl, show ad.add 0 = ad by simp [Addr.add]] at this
  exact this
 have x1 : w.cell? ⟨ad.block, ad.off + 1, none⟩ = some (.int .i64 k1) := by
  have := g1
  rwa [show ad.add (1 : Int).toNat = ⟨ad.block, ad.off + 1, none⟩ from by simp [Addr.add]] at this
 have x2 : w.cell? ⟨ad.block, ad.off + 2, none⟩ = some (.int .i64 k2) := by
  have := g2
  rwa [show ad.add (2 : Int).toNat = ⟨ad.block, ad.off + 2, none⟩ from by simp [Addr.add]] at this
 have x3 : w.cell? ⟨ad.block, ad.off + 3, none⟩ = some (.int .i64 k3) := by
  have := g3
  rwa [show ad.add (3 : Int).toNat = ⟨ad.block, ad.off + 3, none⟩ from by simp [Addr.add]] at this
 have x0' : w.cell? (ad.add 0) = some (.int .i64 k0) := g0
 clear g0 g1 g2 g3 hr h4
 simp only [List.length_cons, List.length_nil] at hc ⊢
 go_enter Try.func84, Try.ntmps84
 go_wp2
 go_loop [3, 4] (fun m i => ∃ q : Nat, 1 ≤ q ∧ q ≤ 4 ∧ i = .int .i64 q ∧ m = .int .i64 (maxOf k0 ([k1, k2, k3].take (q - 1)))) (fun _ i => 4 - (intOf i).toNat)
 case atStart => exact ⟨1, Nat.le_refl _, by omega, rfl, rfl⟩
 case round =>
  obtain ⟨q, hq1, hq, rfl, rfl⟩ := hrel
  rcases (show q = 1 ∨ q = 2 ∨ q = 3 ∨ q = 4 by omega) with rfl | rfl | rfl | rfl
  ·go_wp2
   go_round
   case rel => exact ⟨2, by omega, by omega, rfl, rfl⟩
   case measure => simp [intOf]
  ·go_wp2
   go_round
   case rel => exact ⟨3, by omega, by omega, rfl, rfl⟩
   case measure => simp [intOf]
  ·go_wp2
   go_round
   case rel => exact ⟨4, by omega, by omega, rfl, rfl⟩
   case measure => simp [intOf]
  ·go_wp2
   go_ret
   refine ⟨⟨_, rfl, ?_⟩, rfl⟩
   have h := maxOf_ge [k1, k2, k3] k0
   have e2 : someKid [k0, k1, k2, k3] = (decide (k0 ≥ 0) || someKid [k1, k2, k3]) := rfl
   rw [e2]
   by_cases h0 : 0 ≤ maxOf k0 [k1, k2, k3]
   ·have h1 := h.1 h0
    rw [decide_eq_true h0]
    rcases h1 with h1 | h1
    ·simp [h1]
    ·simp [h1]
   ·have h1 := fun x => h0 (h.2 x)
    rw [decide_eq_false h0]
    have h2 : ¬ 0 ≤ k0 := fun x => h1 (.inl x)
    have h3 : someKid [k1, k2, k3] = false := by
     cases h4 : someKid [k1, k2, k3] with
     | true => exact absurd (.inr h4) h1
     | false => rfl
    simp [h2, h3]
def goodB (n : Nat) (x : S68) (lev : Int) : Bool :=
 if lev = 1 then (if 1 ≤ (x.f1.size : Int) ∧ (x.f1.size : Int) ≤ 8 then decide (x.f2.length = 0) else false)
 else if x.f1.size = 0 then (if (x.f2.length : Int) = 4 then (if badKid n x.f2 = true then false else someKid x.f2) else false) else false
set_option maxHeartbeats 2000000 in
set_option maxRecDepth 100000 in
theorem cell_calls (A0 : Option Addr) (n c0 : Nat) (A1 : Option Addr) (n1 c1 : Nat) (a2 : Int) (x : S68) (A2 : Option Addr) (c2 : Nat) (lev : Int) (w : World) (hn : n ≤ 9223372036854775807) (hr : (Kd.int .i64).C w A2 x.f2.length x.f2) (hc : x.f2.length ≤ c2) :
  Calls Try.prog 60 #[.agg #[.slice A0 n c0, .slice A1 n1 c1, .int .i64 a2], .agg #[.int .i64 x.f0, .string x.f1, .slice A2 x.f2.length c2], .int .i64 lev] w fun e w' => e = .returned (.bool (goodB n x lev)) ∧ Below w.heap.size w w' := by
 have hu25 := Try.underlying25
 have hu68 := Try.underlying68
 have HR := Aside0.mk hr
 have hx2 : x.f2.length ≤ 9223372036854775807 := hr.2.1
 obtain ⟨r, hG⟩ : ∃ r, goodB n x lev = r := ⟨_, rfl⟩
 rw [hG]
 have HG := Aside0.mk hG
 clear hr hG
 have bel : Aside0 (∀ o o', Below w.heap.size w ((w.alloc o).alloc o')) := ⟨fun o o' => ((Below.refl _ _).alloc (Nat.le_refl _) _).alloc (by simp) _⟩
 by_cases hl : lev = 1
 ·subst hl
  have hw := Aside0.mk (within_dec (x.f1.size : Int) 1 8)
  by_cases h8 : 1 ≤ (x.f1.size : Int) ∧ (x.f1.size : Int) ≤ 8
  ·rw [decide_eq_true h8] at hw
   have hg2 := HG.out
   unfold goodB at hg2
   rw [if_pos rfl, if_pos h8] at hg2
   by_cases h0 : x.f2.length = 0
   ·rw [decide_eq_true h0] at hg2
    subst hg2
    have hz : ((x.f2.length : Int) == 0) = true := by simp [h0]
    have hz' : ((x.f2.length : Int) = 0) = True := eq_true (by omega)
    clear h8 h0
    go_enter Try.func60, Try.ntmps60
    go_wp2_with (go_at_call 45; refine (impl_within.calls _ 1 8 _ _ hw.out).mono ?_)
    (first | rintro e w' rfl ⟨⟨nd, rfl⟩⟩ | rintro e w' ⟨rfl, ⟨⟨nd, rfl⟩⟩⟩)
    go_wp2
    go_ret
    exact ⟨rfl, pw_below_drewN (bel.out _ _) nd⟩
   ·rw [decide_eq_false h0] at hg2
    subst hg2
    have hz : ((x.f2.length : Int) == 0) = false := beq_eq_false_iff_ne.2 (by omega)
    have hz' : ((x.f2.length : Int) = 0) = False := eq_false (by omega)
    clear h8 h0
    go_enter Try.func60, Try.ntmps60
    go_wp2_with (go_at_call 45; refine (impl_within.calls _ 1 8 _ _ hw.out).mono ?_)
    (first | rintro e w' rfl ⟨⟨nd, rfl⟩⟩ | rintro e w' ⟨rfl, ⟨⟨nd, rfl⟩⟩⟩)
    go_wp2
    go_ret
    exact ⟨rfl, pw_below_drewN (bel.out _ _) nd⟩
  ·rw [decide_eq_false h8] at hw
   have hg2 := HG.out
   unfold goodB at hg2
   rw [if_pos rfl, if_neg h8] at hg2
   subst hg2
   clear h8
   go_enter Try.func60, Try.ntmps60
   go_wp2_with (go_at_call 45; refine (impl_within.calls _ 1 8 _ _ hw.out).mono ?_)
   (first | rintro e w' rfl ⟨⟨nd, rfl⟩⟩ | rintro e w' ⟨rfl, ⟨⟨nd, rfl⟩⟩⟩)
   go_wp2
   go_ret
   exact ⟨rfl, pw_below_drewN (bel.out _ _) nd⟩
 ·have hl1 : (lev == 1) = false := beq_eq_false_iff_ne.2 hl
  have hl2 : (lev = 1) = False := eq_false hl
  have hg2 := HG.out
  unfold goodB at hg2
  rw [if_neg hl] at hg2
  clear hl
  by_cases h6 : x.f1.size = 0
  ·have h7 : (x.f1.toList = []) = True := eq_true (ba_nil.2 h6)
   have h8 : x.f1.toList.isEmpty = true := by rw [ba_nil.2 h6]; rfl
   rw [if_pos h6] at hg2
   clear h6
   by_cases h5 : (x.f2.length : Int) = 4
   ·rw [if_pos h5] at hg2
    have h5' : ((x.f2.length : Int) == 4) = true := by simpa using h5
    have h5'' : ((x.f2.length : Int) = 4) = True := eq_true h5
    have HF := Aside0.mk (show x.f2.length = 4 by omega)
    clear h5
    have hcon : ∀ W, Below ((w.alloc (.cells #[.slice A0 n c0, .slice A1 n1 c1, .int .i64 a2] 25)).alloc (.cells #[.int .i64 x.f0, .string x.f1, .slice A2 x.f2.length c2] 68)).heap.size ((w.alloc (.cells #[.slice A0 n c0, .slice A1 n1 c1, .int .i64 a2] 25)).alloc (.cells #[.int .i64 x.f0, .string x.f1, .slice A2 x.f2.length c2] 68)) W → True := fun _ _ => trivial
    clear hcon
    have hcont := Aside0.mk (contains_calls x.f2 A2 c2 w.heap.size A0 n c0 A1 n1 c1 a2 ((w.alloc (.cells #[.slice A0 n c0, .slice A1 n1 c1, .int .i64 a2] 25)).alloc (.cells #[.int .i64 x.f0, .string x.f1, .slice A2 x.f2.length c2] 68)) hn (blk_alloc (heap_alloc_new w _) _) (Kd.C_alloc (Kd.C_alloc HR.out _) _) hc)
    cases hb : badKid n x.f2 with
    | true =>
     rw [hb, if_pos rfl] at hg2
     rw [hb] at hcont
     subst hg2
     clear hb
     go_enter Try.func60, Try.ntmps60
     go_wp2_with (go_at_call 82; (with_reducible refine hcont.out.mono ?_))
     (first | rintro e w' rfl hb1 | rintro e w' ⟨rfl, hb1⟩)
     go_wp2
     go_ret
     exact ⟨rfl, below_then (bel.out _ _) (by simp; omega) hb1⟩
    | false =>
     rw [hb, if_neg (by simp)] at hg2
     rw [hb] at hcont
     clear hb
     go_enter Try.func60, Try.ntmps60
     go_wp2_with (go_at_call 82; (with_reducible refine hcont.out.mono ?_))
     (first | rintro e w' rfl hb1 | rintro e w' ⟨rfl, hb1⟩)
     have Y1 := Aside0.mk (blk_below (heap_alloc_new (w.alloc (.cells #[.slice A0 n c0, .slice A1 n1 c1, .int .i64 a2] 25)) (.cells #[.int .i64 x.f0, .string x.f1, .slice A2 x.f2.length c2] 68)) hb1)
     have B1 := Aside0.mk (below_then (bel.out (.cells #[.slice A0 n c0, .slice A1 n1 c1, .int .i64 a2] 25) (.cells #[.int .i64 x.f0, .string x.f1, .slice A2 x.f2.length c2] 68)) (by simp; omega) hb1)
     have C1 := Aside0.mk (Kd.C_below HR.out B1.out)
     have y2 : w'.cell? ⟨(w.alloc (.cells #[.slice A0 n c0, .slice A1 n1 c1, .int .i64 a2] 25)).heap.size, 2, none⟩ = some (.slice A2 x.f2.length c2) := (blk_cell Y1.out _).trans rfl
     rw [show (w.alloc (.cells #[.slice A0 n c0, .slice A1 n1 c1, .int .i64 a2] 25)).heap.size = w.heap.size + 1 from by simp] at y2
     clear hb1 hcont
     go_wp2_with (go_at_call 84; (with_reducible refine (max_calls x.f2 A2 c2 _ C1.out hc HF.out).mono ?_))
     rintro e w5 ⟨⟨m, rfl, hm⟩, rfl⟩
     rw [hg2] at hm
     clear hg2
     go_wp2
     go_ret
     exact ⟨rfl, B1.out⟩
   ·rw [if_neg h5] at hg2
    have h5' : ((x.f2.length : Int) == 4) = false := beq_eq_false_iff_ne.2 h5
    have h5'' : ((x.f2.length : Int) = 4) = False := eq_false h5
    subst hg2
    clear h5
    go_enter Try.func60, Try.ntmps60
    go_wp2
    go_ret
    exact ⟨rfl, bel.out _ _⟩
  ·have h7 : (x.f1.toList = []) = False := eq_false (fun h9 => h6 (ba_nil.1 h9))
   have h8 : x.f1.toList.isEmpty = false := by
    cases h9 : x.f1.toList with
    | nil => exact absurd (ba_nil.1 h9) h6
    | cons a b => rfl
   rw [if_neg h6] at hg2
   subst hg2
   clear h6
   go_enter Try.func60, Try.ntmps60
   go_wp2
   go_ret
   exact ⟨rfl, bel.out _ _⟩
abbrev RI (w0 w : World) (v : Value) (xs : List Int) : Prop := (Kd.int .i64).R 3 w w0.heap.size (fun _ => True) v xs
structure RS (w0 : World) (gb bc bl bn : Nat) (box : Array Value) (vc vl : Value) (w : World) (cnt lev line : List Int) : Prop where
 below : Below w0.heap.size w0 w
 box_ : w.heap[gb]? = some (.cells box 25 (0, 0))
 cb : w.heap[bc]? = some (.cells #[vc] 23 (0, 0))
 lb : w.heap[bl]? = some (.cells #[vl] 23 (0, 0))
 nb : ∃ vn, w.heap[bn]? = some (.cells #[vn] 23 (0, 0)) ∧ RI w0 w vn line ∧ NeRow vc vn ∧ NeRow vl vn
 rc : RI w0 w vc cnt
 rl : RI w0 w vl lev
 ne : NeRow vc vl
 at_ : bc ≠ bl ∧ bc ≠ bn ∧ bl ≠ bn ∧ w0.heap.size ≤ bc ∧ w0.heap.size ≤ bl ∧ w0.heap.size ≤ bn
section
variable {g n c : Nat} {w0 : World} {gb bc bl bn : Nat} {box : Array Value} {vc vl : Value} {w w' : World} {cnt lev line : List Int}
theorem RI_far {v : Value} {xs : List Int} (h : RI w0 w v xs) {p : Addr} (hne : some p.block ≠ v.ownBlock) (u : Value) : RI w0 (w.setCell p u) v xs := Kd.R_of_own (own_setCell (Kd.own_of_R h) hne u) (fun _ _ => trivial)
theorem RI_other {v : Value} {xs : List Int} (h : RI w0 w v xs) {row : Option Nat} (hg : w.grownBy w' row) (hne : v.ownBlock = none ∨ v.ownBlock ≠ row) : RI w0 w' v xs := Kd.R_of_own (own_other (Kd.own_of_R h) hg hne) (fun _ _ => trivial)
theorem RI_blk {v : Value} {xs : List Int} (h : RI w0 w v xs) {g t : Nat} {cs : Array Value} (hb : w.heap[g]? = some (.cells cs t (0, 0))) (ht : 3 ≠ t) : some g ≠ v.ownBlock := Kd.R_ne h hb ht
theorem RS.below_ (h : RS w0 gb bc bl bn box vc vl w cnt lev line) (hb : Below w.heap.size w w') : RS w0 gb bc bl bn box vc vl w' cnt lev line := by
 obtain ⟨vn, h1, h2, h3⟩ := h.nb
 exact ⟨below_then h.below h.below.size hb, blk_below h.box_ hb, blk_below h.cb hb, blk_below h.lb hb, ⟨vn, blk_below h1 hb, Kd.R_below h2 hb, h3⟩, Kd.R_below h.rc hb, Kd.R_below h.rl hb, h.ne, h.at_⟩
theorem RS.putC (h : RS w0 gb bc bl bn box (.slice (some ⟨g, 0, none⟩) n c) vl w cnt lev line) (i x : Int) : RS w0 gb bc bl bn box (.slice (some ⟨g, 0, none⟩) n c) vl (w.setCell ⟨g, i.toNat, none⟩ (.int .i64 x)) (cnt.set i.toNat x) lev line := by
 obtain ⟨vn, h1, h2, h3, h4⟩ := h.nb
 have e : (Value.slice (some ⟨g, 0, none⟩) n c).ownBlock = some g := by simp [Value.ownBlock]
 have hg := Kd.R_base h.rc g e
 refine ⟨below_set h.below hg, blk_far h.box_ (fun q => RI_blk h.rc h.box_ (by decide) (by rw [e, q])) _, blk_far h.cb (fun q => RI_blk h.rc h.cb (by decide) (by rw [e, q])) _, blk_far h.lb (fun q => RI_blk h.rc h.lb (by decide) (by rw [e, q])) _,
  ⟨vn, blk_far h1 (fun q => RI_blk h.rc h1 (by decide) (by rw [e, q])) _, RI_far h2 (fun q => h3 g e q.symm) _, h3, h4⟩, Kd.R_putn h.rc i x, RI_far h.rl (fun q => h.ne g e q.symm) _, h.ne, h.at_⟩
theorem RS.putL (h : RS w0 gb bc bl bn box vc (.slice (some ⟨g, 0, none⟩) n c) w cnt lev line) (i x : Int) : RS w0 gb bc bl bn box vc (.slice (some ⟨g, 0, none⟩) n c) (w.setCell ⟨g, i.toNat, none⟩ (.int .i64 x)) cnt (lev.set i.toNat x) line := by
 obtain ⟨vn, h1, h2, h3, h4⟩ := h.nb
 have e : (Value.slice (some ⟨g, 0, none⟩) n c).ownBlock = some g := by simp [Value.ownBlock]
 have hg := Kd.R_base h.rl g e
 refine ⟨below_set h.below hg, blk_far h.box_ (fun q => RI_blk h.rl h.box_ (by decide) (by rw [e, q])) _, blk_far h.cb (fun q => RI_blk h.rl h.cb (by decide) (by rw [e, q])) _, blk_far h.lb (fun q => RI_blk h.rl h.lb (by decide) (by rw [e, q])) _,
  ⟨vn, blk_far h1 (fun q => RI_blk h.rl h1 (by decide) (by rw [e, q])) _, RI_far h2 (fun q => h4 g e q.symm) _, h3, h4⟩, RI_far h.rc (fun q => (ne_symm h.ne) g e q.symm) _, Kd.R_putn h.rl i x, h.ne, h.at_⟩
theorem RS.line_ (h : RS w0 gb bc bl bn box vc vl w cnt lev line) {vn v1 : Value} {w1 : World} {line1 : List Int} (hn : w.heap[bn]? = some (.cells #[vn] 23 (0, 0))) (hnr : RI w0 w vn line) (hc : NeRow vc vn) (hl : NeRow vl vn)
  (hg : w.grownBy w1 vn.ownBlock) (hb : Below w0.heap.size w0 w1) (hat : v1.ownBlock = vn.ownBlock ∨ ∃ b, v1.ownBlock = some b ∧ w.heap.size ≤ b) (hr : RI w0 w1 v1 line1) :
  RS w0 gb bc bl bn box vc vl (w1.setCell ⟨bn, 0, none⟩ v1) cnt lev line1 := by
 have k1 := blk_grown h.box_ hg (RI_blk hnr h.box_ (by decide))
 have k2 := blk_grown h.cb hg (RI_blk hnr h.cb (by decide))
 have k3 := blk_grown h.lb hg (RI_blk hnr h.lb (by decide))
 have k4 := blk_grown hn hg (RI_blk hnr hn (by decide))
 have r1 := RI_other h.rc hg (ne_other (ne_symm hc))
 have r2 := RI_other h.rl hg (ne_other (ne_symm hl))
 have o1 := RI_blk r1 k4 (by decide)
 have o2 := RI_blk r2 k4 (by decide)
 have o3 := RI_blk hr k4 (by decide)
 refine ⟨below_set hb h.at_.2.2.2.2.2, blk_far k1 (blk_ne k1 k4 (by decide)) _, blk_far k2 h.at_.2.1 _, blk_far k3 h.at_.2.2.1 _, ⟨v1, ?_, RI_far hr o3 _, ne_append' hc hat (Kd.own_of_R h.rc), ne_append' hl hat (Kd.own_of_R h.rl)⟩, RI_far r1 o1 _, RI_far r2 o2 _, h.ne, h.at_⟩
 have := blk_set k4 0 v1
 simpa using this
def referM (C : List S68) (k own : Int) (cnt lev line : List Int) : Bool × List Int × List Int × List Int :=
 if isNum C.length k = true then
  (if k < 0 then (true, cnt, lev, line)
  else if rd lev k = 0 then (goodB C.length (rd_T68 C k) own, cnt.set k.toNat (wrap64 (rd cnt k + 1)), lev.set k.toNat own, line ++ [k])
  else (decide (rd lev k = own), cnt.set k.toNat (wrap64 (rd cnt k + 1)), lev, line))
 else (false, cnt, lev, line)
end
set_option maxHeartbeats 2000000 in
set_option maxRecDepth 100000 in
theorem refer_calls (C : List S68) (w0 : World) (gb bc bl bn : Nat) (A0 : Option Addr) (c0 : Nat) (A1 : Option Addr) (n1 c1 : Nat) (a2 : Int) (vc vl : Value) (w : World) (cnt lev line : List Int) (k own : Int)
  (hr : Kd.C k68 w0 A0 C.length C) (h : RS w0 gb bc bl bn #[.slice A0 C.length c0, .slice A1 n1 c1, .int .i64 a2] vc vl w cnt lev line) (h1 : cnt.length = C.length) (h2 : lev.length = C.length) (h3 : line.length ≤ 1000000000) :
  Calls Try.prog 58 #[.int .i64 k, .int .i64 own, .pointer (some ⟨gb, 0, none⟩), .pointer (some ⟨bc, 0, none⟩), .pointer (some ⟨bl, 0, none⟩), .pointer (some ⟨bn, 0, none⟩)] w fun e w' => e = .returned (.bool (referM C k own cnt lev line).1) ∧ RS w0 gb bc bl bn #[.slice A0 C.length c0, .slice A1 n1 c1, .int .i64 a2] vc vl w' (referM C k own cnt lev line).2.1 (referM C k own cnt lev line).2.2.1 (referM C k own cnt lev line).2.2.2 := by
 have hu25 := Try.underlying25
 have hu68 := Try.underlying68
 have hn : C.length ≤ 9223372036854775807 := hr.2.1
 have HR := Aside0.mk hr
 have H := Aside0.mk h
 have H1 := Aside0.mk h1
 have H2 := Aside0.mk h2
 have H3 := Aside0.mk h3
 have e0 : w.cell? ⟨gb, 0, none⟩ = some (.slice A0 C.length c0) := (blk_cell H.out.box_ _).trans rfl
 have e1 : w.cell? ⟨gb, 1, none⟩ = some (.slice A1 n1 c1) := (blk_cell H.out.box_ _).trans rfl
 have e2 : w.cell? ⟨gb, 2, none⟩ = some (.int .i64 a2) := (blk_cell H.out.box_ _).trans rfl
 have hnum := Aside0.mk (num_calls A0 C.length c0 A1 n1 c1 a2 k w hn)
 clear hr h h1 h2 h3
 by_cases hk : isNum C.length k = true
 ·by_cases hneg : k < 0
  ·have er : referM C k own cnt lev line = (true, cnt, lev, line) := by unfold referM; rw [if_pos hk, if_pos hneg]
   rw [er]
   rw [hk] at hnum
   have hd : decide (k < 0) = true := decide_eq_true hneg
   clear hk hneg er
   go_enter Try.func58, Try.ntmps58
   go_wp2_with (go_at_call 59; (with_reducible refine hnum.out.mono ?_))
   (first | rintro e w' rfl hb1 | rintro e w' ⟨rfl, hb1⟩)
   have HS := Aside0.mk (H.out.below_ hb1)
   clear hb1
   go_wp2
   go_ret
   exact ⟨rfl, HS.out⟩
  ·have hk2 : k ≤ (C.length : Int) - 1 := by
    unfold isNum at hk
    have := of_decide_eq_true hk
    omega
   obtain ⟨x, hx⟩ : ∃ x, rd_T68 C k = x := ⟨_, rfl⟩
   obtain ⟨v, hv⟩ : ∃ v, wrap64 (rd cnt k + 1) = v := ⟨_, rfl⟩
   have p1 : (0 ≤ k) = True := eq_true (by omega)
   have hd : decide (k < 0) = false := decide_eq_false hneg
   have p2 : (k < (C.length : Int)) = True := eq_true (by omega)
   have p3 : (k < (cnt.length : Int)) = True := eq_true (by have := H1.out; omega)
   have p4 : (k < (lev.length : Int)) = True := eq_true (by have := H2.out; omega)
   obtain ⟨gc, cc, hvc, hgc1, hgc2, csc, hgcb⟩ := Kd.R_form H.out.rc (by have := H1.out; omega)
   obtain ⟨gl, cl, hvl, hgl1, hgl2, csl, hglb⟩ := Kd.R_form H.out.rl (by have := H2.out; omega)
   subst hvc
   subst hvl
   rw [hk] at hnum
   have HB0 := Aside0.mk (show 0 ≤ k ∧ k ≤ (C.length : Int) - 1 by omega)
   obtain ⟨ad, A2, c2, hA0, hx0, hx1, hx2, hxl, hxC⟩ := at_T68 HR.out k HB0.out.1 (by have := HB0.out; omega)
   subst hA0
   rw [hx] at hx0 hx1 hx2 hxl hxC
   have X0 := Aside0.mk hx0
   have X1 := Aside0.mk hx1
   have X2 := Aside0.mk hx2
   have XC := Aside0.mk hxC
   clear hx0 hx1 hx2 hxC
   by_cases hz : rd lev k = 0
   ·have er : referM C k own cnt lev line = (goodB C.length x own, cnt.set k.toNat v, lev.set k.toNat own, line ++ [k]) := by unfold referM; rw [if_pos hk, if_neg hneg, if_pos hz, hx, hv]
    rw [er]
    clear hk hneg er
    go_enter Try.func58, Try.ntmps58
    go_wp2_with (go_at_call 59; (with_reducible refine hnum.out.mono ?_))
    (first | rintro e w1 rfl hb1 | rintro e w1 ⟨rfl, hb1⟩)
    have S1 := Aside0.mk (H.out.below_ hb1)
    clear hb1 hnum H e0 e1 e2
    have c1' : w1.cell? ⟨bc, 0, none⟩ = some (.slice (some ⟨gc, 0, none⟩) cnt.length cc) := (blk_cell S1.out.cb _).trans rfl
    have c2' : w1.cell? ⟨gc, k.toNat, none⟩ = some (.int .i64 (rd cnt k)) := (Kd.R_celln (d := (0 : Int)) S1.out.rc k HB0.out.1 (by have := H1.out; have := HB0.out; omega)).1
    have c3' : w1.frozen? ⟨gc, k.toNat, none⟩ = false := (Kd.R_celln (d := (0 : Int)) S1.out.rc k HB0.out.1 (by have := H1.out; have := HB0.out; omega)).2
    obtain ⟨w2, hw2, hS2⟩ : ∃ w2, w1.setCell ⟨gc, k.toNat, none⟩ (.int .i64 v) = w2 ∧ RS w0 gb bc bl bn #[.slice (some ad) C.length c0, .slice A1 n1 c1, .int .i64 a2] (.slice (some ⟨gc, 0, none⟩) cnt.length cc) (.slice (some ⟨gl, 0, none⟩) lev.length cl) w2 (cnt.set k.toNat v) lev line := ⟨_, rfl, S1.out.putC k v⟩
    have S2 := Aside0.mk hS2
    clear hS2
    have d1 : w2.cell? ⟨bl, 0, none⟩ = some (.slice (some ⟨gl, 0, none⟩) lev.length cl) := (blk_cell S2.out.lb _).trans rfl
    have d2 : w2.cell? ⟨gl, k.toNat, none⟩ = some (.int .i64 0) := by
     have := (Kd.R_celln (d := (0 : Int)) S2.out.rl k HB0.out.1 (by have := H2.out; have := HB0.out; omega)).1
     rw [show rdOf (0 : Int) lev k = 0 from hz] at this
     exact this
    have d3 : w2.frozen? ⟨gl, k.toNat, none⟩ = false := (Kd.R_celln (d := (0 : Int)) S2.out.rl k HB0.out.1 (by have := H2.out; have := HB0.out; omega)).2
    obtain ⟨w3, hw3, hS3⟩ : ∃ w3, w2.setCell ⟨gl, k.toNat, none⟩ (.int .i64 own) = w3 ∧ RS w0 gb bc bl bn #[.slice (some ad) C.length c0, .slice A1 n1 c1, .int .i64 a2] (.slice (some ⟨gc, 0, none⟩) cnt.length cc) (.slice (some ⟨gl, 0, none⟩) lev.length cl) w3 (cnt.set k.toNat v) (lev.set k.toNat own) line := ⟨_, rfl, S2.out.putL k own⟩
    obtain ⟨vn, hnb, hnr, hnc, hnl⟩ := hS3.nb
    have S3 := Aside0.mk hS3
    have NB := Aside0.mk hnb
    have NR := Aside0.mk hnr
    have NC := Aside0.mk hnc
    have NL := Aside0.mk hnl
    have f1 : w3.cell? ⟨bn, 0, none⟩ = some vn := (blk_cell NB.out _).trans rfl
    have HLen := Aside0.mk (show (line.length + 1) * 8 ≤ 140737488355328 by have := H3.out; omega)
    clear hS3 hnb hnr hnc hnl hz
    go_wp2_with (at_builtin; refine print_append_num w0.heap.size rfl _ _ 23 3 .i64 8 rfl Try.underlying23 info3 (by decide) vn line k rfl rfl (Kd.own_of_R NR.out) S3.out.below S3.out.below.size HLen.out ?_)
    intro v1 w4 ho4 hb4 hg4 hat4
    have k4 := blk_grown NB.out hg4 (RI_blk NR.out NB.out (by decide))
    have R4 : RI w0 w4 v1 (line ++ [k]) := Kd.R_of_own (by rw [List.length_append]; exact ho4) (fun _ _ => trivial)
    obtain ⟨A4, c4, hv1⟩ := own_slice ho4
    obtain ⟨w5, hw5, hS5⟩ : ∃ w5, w4.setCell ⟨bn, 0, none⟩ v1 = w5 ∧ RS w0 gb bc bl bn #[.slice (some ad) C.length c0, .slice A1 n1 c1, .int .i64 a2] (.slice (some ⟨gc, 0, none⟩) cnt.length cc) (.slice (some ⟨gl, 0, none⟩) lev.length cl) w5 (cnt.set k.toNat v) (lev.set k.toNat own) (line ++ [k]) := ⟨_, rfl, RS.line_ S3.out NB.out NR.out NC.out NL.out hg4 hb4 hat4 R4⟩
    have S5 := Aside0.mk hS5
    subst hv1
    have g1 : w4.cell? ⟨bn, 0, none⟩ = some vn := (blk_cell k4 _).trans rfl
    have g2 : w4.frozen? ⟨bn, 0, none⟩ = false := blk_frozen k4 0
    clear hS5 R4 ho4 hb4 hg4 hat4 k4 c1' c2' c3' d1 d2 d3 f1 hw2 hw3 NB NR NC NL
    go_wp2
    clear g1 g2 hw5
    have S5' := Aside0.mk (show RS w0 gb bc bl bn #[.slice (some ad) C.length c0, .slice A1 n1 c1, .int .i64 a2] (.slice (some ⟨gc, 0, none⟩) cnt.length cc) (.slice (some ⟨gl, 0, none⟩) lev.length cl) w5.drew (cnt.set k.toNat v) (lev.set k.toNat own) (line ++ [k]) from S5.out.below_ (below_drew (Below.refl _ _)))
    refine wp_region_still_tail 7 (by kernel_rfl) (by kernel_rfl) ?_
    simp only [List.take_succ_cons, List.take_zero, List.drop_succ_cons, List.drop_zero]
    change wpStill _ _ w5.drew (fun a' => wpList _ _ _ _ a' w5.drew) _ _
    generalize w5.drew = w7 at S5' ⊢
    have e0 : w7.cell? ⟨gb, 0, none⟩ = some (.slice (some ad) C.length c0) := (blk_cell S5'.out.box_ _).trans rfl
    have e1 : w7.cell? ⟨gb, 1, none⟩ = some (.slice A1 n1 c1) := (blk_cell S5'.out.box_ _).trans rfl
    have e2 : w7.cell? ⟨gb, 2, none⟩ = some (.int .i64 a2) := (blk_cell S5'.out.box_ _).trans rfl
    have x0 := pw_cell_below S5'.out.below X0.out
    have x1 := pw_cell_below S5'.out.below X1.out
    have x2 := pw_cell_below S5'.out.below X2.out
    have hcell := Aside0.mk (cell_calls (some ad) C.length c0 A1 n1 c1 a2 x A2 c2 own w7 hn (Kd.C_below XC.out S5'.out.below) hxl)
    repeat still_step
    try refine wpStill_nil ?_
    clear e0 e1 e2 x0 x1 x2 S5
    go_wp2_with (go_at_call 60; (with_reducible refine hcell.out.mono ?_))
    (first | rintro e w6 rfl hb6 | rintro e w6 ⟨rfl, hb6⟩)
    have S6 := Aside0.mk (S5'.out.below_ hb6)
    clear hb6 hcell
    go_wp2
    go_ret
    exact ⟨rfl, S6.out⟩
   ·have er : referM C k own cnt lev line = (decide (rd lev k = own), cnt.set k.toNat v, lev, line) := by unfold referM; rw [if_pos hk, if_neg hneg, if_neg hz, hv]
    rw [er]
    obtain ⟨z, hzz⟩ : ∃ z, rd lev k = z := ⟨_, rfl⟩
    rw [hzz] at hz ⊢
    have hz1 : (z == 0) = false := beq_eq_false_iff_ne.2 hz
    have hz2 : (z = 0) = False := eq_false hz
    obtain ⟨b, hb⟩ : ∃ b : Bool, decide (z = own) = b := ⟨_, rfl⟩
    have hb2 : (z == own) = b := by rw [← hb]; rfl
    rw [hb]
    clear hk hneg er hz
    go_enter Try.func58, Try.ntmps58
    go_wp2_with (go_at_call 59; (with_reducible refine hnum.out.mono ?_))
    (first | rintro e w1 rfl hb1 | rintro e w1 ⟨rfl, hb1⟩)
    have S1 := Aside0.mk (H.out.below_ hb1)
    clear hb1 hnum H e0 e1 e2
    have c1' : w1.cell? ⟨bc, 0, none⟩ = some (.slice (some ⟨gc, 0, none⟩) cnt.length cc) := (blk_cell S1.out.cb _).trans rfl
    have c2' : w1.cell? ⟨gc, k.toNat, none⟩ = some (.int .i64 (rd cnt k)) := (Kd.R_celln (d := (0 : Int)) S1.out.rc k HB0.out.1 (by have := H1.out; have := HB0.out; omega)).1
    have c3' : w1.frozen? ⟨gc, k.toNat, none⟩ = false := (Kd.R_celln (d := (0 : Int)) S1.out.rc k HB0.out.1 (by have := H1.out; have := HB0.out; omega)).2
    obtain ⟨w2, hw2, hS2⟩ : ∃ w2, w1.setCell ⟨gc, k.toNat, none⟩ (.int .i64 v) = w2 ∧ RS w0 gb bc bl bn #[.slice (some ad) C.length c0, .slice A1 n1 c1, .int .i64 a2] (.slice (some ⟨gc, 0, none⟩) cnt.length cc) (.slice (some ⟨gl, 0, none⟩) lev.length cl) w2 (cnt.set k.toNat v) lev line := ⟨_, rfl, S1.out.putC k v⟩
    have S2 := Aside0.mk hS2
    clear hS2
    have d1 : w2.cell? ⟨bl, 0, none⟩ = some (.slice (some ⟨gl, 0, none⟩) lev.length cl) := (blk_cell S2.out.lb _).trans rfl
    have d2 : w2.cell? ⟨gl, k.toNat, none⟩ = some (.int .i64 z) := by
     have := (Kd.R_celln (d := (0 : Int)) S2.out.rl k HB0.out.1 (by have := H2.out; have := HB0.out; omega)).1
     rw [show rdOf (0 : Int) lev k = z from hzz] at this
     exact this
    clear hzz
    go_wp2
    go_ret
    exact ⟨rfl, S2.out⟩
 ·have hk' : isNum C.length k = false := by simpa using hk
  have er : referM C k own cnt lev line = (false, cnt, lev, line) := by unfold referM; rw [if_neg hk]
  rw [er]
  rw [hk'] at hnum
  clear hk hk' er
  go_enter Try.func58, Try.ntmps58
  go_wp2_with (go_at_call 59; (with_reducible refine hnum.out.mono ?_))
  (first | rintro e w' rfl hb1 | rintro e w' ⟨rfl, hb1⟩)
  have HS := Aside0.mk (H.out.below_ hb1)
  clear hb1
  go_wp2
  go_ret
  exact ⟨rfl, HS.out⟩
structure JS (w0 : World) (gb n : Nat) (box : Array Value) (b3 b7 b8 b9 b10 b11 : Bool) (v34 v38 v3 v4 : Value) (w : World) : Prop where
 below : Below w0.heap.size w0 w
 box_ : w.heap[gb]? = some (.cells box 25 (0, 0))
 r34 : b3 = true → RI w0 w v34 (List.replicate n 0) ∧ ∃ g, v34 = .slice (some ⟨g, 0, none⟩) n n
 r38 : b7 = true → RI w0 w v38 (List.replicate n 0) ∧ ∃ g, v38 = .slice (some ⟨g, 0, none⟩) n n
 ne : b3 = true → b7 = true → NeRow v34 v38
 c3 : b8 = true → ∃ b u, v3 = .pointer (some ⟨b, 0, none⟩) ∧ w0.heap.size ≤ b ∧ w.heap[b]? = some (.cells #[u] 23 (0, 0)) ∧ (b10 = true → u = v34)
 c4 : b9 = true → ∃ b u, v4 = .pointer (some ⟨b, 0, none⟩) ∧ w0.heap.size ≤ b ∧ w.heap[b]? = some (.cells #[u] 23 (0, 0)) ∧ (b11 = true → u = v38)
 ne34 : b8 = true → b9 = true → v3 ≠ v4
 k10 : b10 = true → b3 = true ∧ b8 = true ∧ b9 = true
 k11 : b11 = true → b7 = true ∧ b10 = true
section
variable {w0 : World} {gb n : Nat} {box : Array Value} {b3 b7 b8 b9 b10 b11 : Bool} {v34 v38 v3 v4 : Value} {w w1 : World} {v : Value}
theorem JS.s3 (h : JS w0 gb n box false b7 b8 b9 b10 b11 v34 v38 v3 v4 w) (hr : RI w0 w1 v (List.replicate n 0)) (hg : ∃ g, v = .slice (some ⟨g, 0, none⟩) n n ∧ w.heap.size ≤ g) (hb : Below w.heap.size w w1) : JS w0 gb n box true b7 b8 b9 b10 b11 v v38 v3 v4 w1 := by
 obtain ⟨g, hv, hle⟩ := hg
 have hk10 : b10 = true → False := fun e => by have := (h.k10 e).1; simp at this
 refine ⟨below_then h.below h.below.size hb, blk_below h.box_ hb, fun _ => ⟨hr, g, hv⟩, fun e => ⟨Kd.R_below (h.r38 e).1 hb, (h.r38 e).2⟩, fun _ e k hk hk2 => ?_, fun e => ?_, fun e => ?_, h.ne34, fun e => ((hk10 e).elim), h.k11⟩
 ·rw [hv] at hk
  have h2 := Kd.R_lt (h.r38 e).1 k hk2
  simp [Value.ownBlock] at hk
  omega
 ·obtain ⟨b, u, e1, e2, e3, e4⟩ := h.c3 e
  exact ⟨b, u, e1, e2, blk_below e3 hb, fun e5 => (hk10 e5).elim⟩
 ·obtain ⟨b, u, e1, e2, e3, e4⟩ := h.c4 e
  exact ⟨b, u, e1, e2, blk_below e3 hb, e4⟩
theorem JS.s7 (h : JS w0 gb n box b3 false b8 b9 b10 b11 v34 v38 v3 v4 w) (hr : RI w0 w1 v (List.replicate n 0)) (hg : ∃ g, v = .slice (some ⟨g, 0, none⟩) n n ∧ w.heap.size ≤ g) (hb : Below w.heap.size w w1) : JS w0 gb n box b3 true b8 b9 b10 b11 v34 v v3 v4 w1 := by
 obtain ⟨g, hv, hle⟩ := hg
 have hk11 : b11 = true → False := fun e => by have := (h.k11 e).1; simp at this
 refine ⟨below_then h.below h.below.size hb, blk_below h.box_ hb, fun e => ⟨Kd.R_below (h.r34 e).1 hb, (h.r34 e).2⟩, fun _ => ⟨hr, g, hv⟩, fun e _ k hk hk2 => ?_, fun e => ?_, fun e => ?_, h.ne34, h.k10, fun e => ((hk11 e).elim)⟩
 ·rw [hv] at hk2
  have h2 := Kd.R_lt (h.r34 e).1 k hk
  simp [Value.ownBlock] at hk2
  omega
 ·obtain ⟨b, u, e1, e2, e3, e4⟩ := h.c3 e
  exact ⟨b, u, e1, e2, blk_below e3 hb, e4⟩
 ·obtain ⟨b, u, e1, e2, e3, e4⟩ := h.c4 e
  exact ⟨b, u, e1, e2, blk_below e3 hb, fun e5 => (hk11 e5).elim⟩
theorem JS.s8 (h : JS w0 gb n box b3 b7 false b9 b10 b11 v34 v38 v3 v4 w) (u : Value) : JS w0 gb n box b3 b7 true b9 b10 b11 v34 v38 (.pointer (some ⟨w.heap.size, 0, none⟩)) v4 (w.alloc (.cells #[u] 23)) := by
 have hk10 : b10 = true → False := fun e => by have := (h.k10 e).2.1; simp at this
 have hb : Below w.heap.size w (w.alloc (.cells #[u] 23)) := below_alloc (Below.refl _ _) _
 refine ⟨below_then h.below h.below.size hb, blk_below h.box_ hb, fun e => ⟨Kd.R_below (h.r34 e).1 hb, (h.r34 e).2⟩, fun e => ⟨Kd.R_below (h.r38 e).1 hb, (h.r38 e).2⟩, h.ne, fun _ => ⟨_, u, rfl, h.below.size, blk_new _ _, fun e5 => (hk10 e5).elim⟩, fun e => ?_, fun _ e he => ?_, fun e => ((hk10 e).elim), h.k11⟩
 ·obtain ⟨b, u, e1, e2, e3, e4⟩ := h.c4 e
  exact ⟨b, u, e1, e2, blk_below e3 hb, e4⟩
 ·obtain ⟨b, u, e1, e2, e3, e4⟩ := h.c4 e
  rw [e1] at he
  have := blk_lt e3
  simp at he <;> omega
theorem JS.s9 (h : JS w0 gb n box b3 b7 b8 false b10 b11 v34 v38 v3 v4 w) (u : Value) : JS w0 gb n box b3 b7 b8 true b10 b11 v34 v38 v3 (.pointer (some ⟨w.heap.size, 0, none⟩)) (w.alloc (.cells #[u] 23)) := by
 have hk10 : b10 = true → False := fun e => by have := (h.k10 e).2.2; simp at this
 have hk11 : b11 = true → False := fun e => hk10 (h.k11 e).2
 have hb : Below w.heap.size w (w.alloc (.cells #[u] 23)) := below_alloc (Below.refl _ _) _
 refine ⟨below_then h.below h.below.size hb, blk_below h.box_ hb, fun e => ⟨Kd.R_below (h.r34 e).1 hb, (h.r34 e).2⟩, fun e => ⟨Kd.R_below (h.r38 e).1 hb, (h.r38 e).2⟩, h.ne, fun e => ?_, fun _ => ⟨_, u, rfl, h.below.size, blk_new _ _, fun e5 => (hk11 e5).elim⟩, fun e _ he => ?_, fun e => ((hk10 e).elim), fun e => (hk11 e).elim⟩
 ·obtain ⟨b, u, e1, e2, e3, e4⟩ := h.c3 e
  exact ⟨b, u, e1, e2, blk_below e3 hb, e4⟩
 ·obtain ⟨b, u, e1, e2, e3, e4⟩ := h.c3 e
  rw [e1] at he
  have := blk_lt e3
  simp at he <;> omega
theorem JS.s10 {bl : Nat} (h : JS w0 gb n box true b7 true true false b11 v34 v38 (.pointer (some ⟨bl, 0, none⟩)) v4 w) : JS w0 gb n box true b7 true true true b11 v34 v38 (.pointer (some ⟨bl, 0, none⟩)) v4 (w.setCell ⟨bl, 0, none⟩ v34) := by
 have hk11 : b11 = true → False := fun e => by have := (h.k11 e).2; simp at this
 obtain ⟨b, u, e1, e2, e3, e4⟩ := h.c3 rfl
 simp at e1
 subst e1
 refine ⟨below_set h.below e2, blk_far h.box_ (fun q => ?_) _, fun e => ⟨RI_far (h.r34 e).1 (RI_blk (h.r34 e).1 e3 (by decide)) _, (h.r34 e).2⟩, fun e => ⟨RI_far (h.r38 e).1 (RI_blk (h.r38 e).1 e3 (by decide)) _, (h.r38 e).2⟩, h.ne, fun _ => ⟨_, _, rfl, e2, blk_set e3 _ _, fun _ => rfl⟩, fun e => ?_, h.ne34, fun _ => ⟨rfl, rfl, rfl⟩, fun e => (hk11 e).elim⟩
 ·have := h.box_
  rw [q, show (⟨bl, 0, none⟩ : Addr).block = bl from rfl, e3] at this
  simp at this
 ·obtain ⟨b, u, f1, f2, f3, f4⟩ := h.c4 e
  refine ⟨b, u, f1, f2, blk_far f3 (fun q => ?_) _, f4⟩
  exact h.ne34 rfl rfl (by rw [f1, q])
theorem JS.s11 {bc : Nat} (h : JS w0 gb n box true true true true true false v34 v38 v3 (.pointer (some ⟨bc, 0, none⟩)) w) : JS w0 gb n box true true true true true true v34 v38 v3 (.pointer (some ⟨bc, 0, none⟩)) (w.setCell ⟨bc, 0, none⟩ v38) := by
 obtain ⟨b, u, e1, e2, e3, e4⟩ := h.c4 rfl
 simp at e1
 subst e1
 refine ⟨below_set h.below e2, blk_far h.box_ (fun q => ?_) _, fun e => ⟨RI_far (h.r34 e).1 (RI_blk (h.r34 e).1 e3 (by decide)) _, (h.r34 e).2⟩, fun e => ⟨RI_far (h.r38 e).1 (RI_blk (h.r38 e).1 e3 (by decide)) _, (h.r38 e).2⟩, h.ne, fun e => ?_, fun _ => ⟨_, _, rfl, e2, blk_set e3 _ _, fun _ => rfl⟩, h.ne34, h.k10, fun _ => ⟨rfl, rfl⟩⟩
 ·have := h.box_
  rw [q, show (⟨bc, 0, none⟩ : Addr).block = bc from rfl, e3] at this
  simp at this
 ·obtain ⟨b, u, f1, f2, f3, f4⟩ := h.c3 e
  refine ⟨b, u, f1, f2, blk_far f3 (fun q => ?_) _, f4⟩
  exact h.ne34 rfl rfl (by rw [f1, q])
end
def act4 (t0 : Array Value) (d : List Deferred) (x34 x38 x3 x4 : Value) : Act := ⟨(((t0.setIfInBounds 34 x34).setIfInBounds 38 x38).setIfInBounds 3 x3).setIfInBounds 4 x4, d⟩
section
variable {t0 : Array Value} {d : List Deferred} {x34 x38 x3 x4 : Value} (v : Value)
theorem act4_34 : (act4 t0 d x34 x38 x3 x4).put (some 34) v = act4 t0 d v x38 x3 x4 := by
 simp only [act4, Act.put, Act.mk.injEq, and_true]
 refine Array.ext_getElem? (fun i => ?_)
 simp only [Array.getElem?_setIfInBounds, Array.size_setIfInBounds]
 (repeat' split) <;> first | rfl | omega
theorem act4_38 : (act4 t0 d x34 x38 x3 x4).put (some 38) v = act4 t0 d x34 v x3 x4 := by
 simp only [act4, Act.put, Act.mk.injEq, and_true]
 refine Array.ext_getElem? (fun i => ?_)
 simp only [Array.getElem?_setIfInBounds, Array.size_setIfInBounds]
 (repeat' split) <;> first | rfl | omega
theorem act4_3 : (act4 t0 d x34 x38 x3 x4).put (some 3) v = act4 t0 d x34 x38 v x4 := by
 simp only [act4, Act.put, Act.mk.injEq, and_true]
 refine Array.ext_getElem? (fun i => ?_)
 simp only [Array.getElem?_setIfInBounds, Array.size_setIfInBounds]
 (repeat' split) <;> first | rfl | omega
theorem act4_4 : (act4 t0 d x34 x38 x3 x4).put (some 4) v = act4 t0 d x34 x38 x3 v := by
 simp only [act4, Act.put, Act.mk.injEq, and_true]
 refine Array.ext_getElem? (fun i => ?_)
 simp only [Array.getElem?_setIfInBounds, Array.size_setIfInBounds]
 (repeat' split) <;> first | rfl | omega
theorem act4_e (h : 38 < t0.size) : (act4 t0 d x34 x38 x3 x4).eval (.tmp 34) = x34 ∧ (act4 t0 d x34 x38 x3 x4).eval (.tmp 38) = x38 ∧ (act4 t0 d x34 x38 x3 x4).eval (.tmp 3) = x3 ∧ (act4 t0 d x34 x38 x3 x4).eval (.tmp 4) = x4 := by
 refine ⟨?_, ?_, ?_, ?_⟩ <;> · simp [act4, Act.eval, Array.getElem?_setIfInBounds]; grind
theorem act4_f : (act4 t0 d x34 x38 x3 x4).eval (.tmp 33) = (Act.mk t0 d).eval (.tmp 33) ∧ (act4 t0 d x34 x38 x3 x4).eval (.tmp 37) = (Act.mk t0 d).eval (.tmp 37) := by
 refine ⟨?_, ?_⟩ <;> simp [act4, Act.eval, Array.getElem?_setIfInBounds]
end
def RD (b3 b7 b8 b9 b10 b11 : Bool) : List Nat :=
 (if b3 then [] else [3]) ++ (if b7 then [] else [7]) ++ (if b8 then [] else [8]) ++ (if b9 then [] else [9]) ++ (if b10 = false ∧ b3 = true ∧ b8 = true ∧ b9 = true then [10] else []) ++ (if b11 = false ∧ b10 = true ∧ b3 = true ∧ b7 = true ∧ b8 = true ∧ b9 = true then [11] else [])
def cntF (b3 b7 b8 b9 b10 b11 : Bool) : Nat := (!b3).toNat + (!b7).toNat + (!b8).toNat + (!b9).toNat + (!b10).toNat + (!b11).toNat
theorem is_make (a : Act) (o : Oper) (n : Nat) (hn : n ≤ 80) (x y : Operand) (ho : o.op = .makeSlice 23 x y) (hx : a.eval x = .int .i64 (n : Int)) (hy : a.eval y = .int .i64 (n : Int)) (w0 w : World) (hw : w0.heap.size ≤ w.heap.size) :
  ∃ w1 v, (execOp a.eval o).run Try.prog w = .ok (.value v) w1 ∧ RI w0 w1 v (List.replicate n 0) ∧ (∃ g, v = .slice (some ⟨g, 0, none⟩) n n ∧ w.heap.size ≤ g) ∧ Below w.heap.size w w1 := by
 have hr := print_make (P := Try.prog) 23 3 .i64 8 (by kernel_rfl) (by kernel_rfl) (by decide) n (by omega) w
 refine ⟨w.alloc (.cells (madeCells #[.int .i64 0] n) 3), .slice (some ⟨w.heap.size, 0, none⟩) n n, by simp [execOp, ho, hx, hy, hr], ?_, ⟨_, rfl, Nat.le_refl _⟩, below_alloc (Below.refl _ _) _⟩
 exact Kd.R_of_own (own_made' w w0.heap.size 3 .i64 n hw (by omega)) (fun _ _ => trivial)
theorem is_alloc (a : Act) (o : Oper) (ho : o.op = .alloc 23) (w : World) :
  ∃ u, (execOp a.eval o).run Try.prog w = .ok (.value (.pointer (some ⟨w.heap.size, 0, none⟩))) (w.alloc (.cells #[u] 23)) := by
 have hu := Try.underlying23
 refine ⟨.slice none 0 0, ?_⟩
 simp only [execOp, ho]
 go_simp
theorem is_store (a : Act) (o : Oper) (x y : Operand) (ho : o.op = .store 23 x y) (w : World) (b : Nat) (u : Value) (g n : Nat) (hx : a.eval x = .pointer (some ⟨b, 0, none⟩)) (hy : a.eval y = .slice (some ⟨g, 0, none⟩) n n) (hb : w.heap[b]? = some (.cells #[u] 23 (0, 0))) :
  (execOp a.eval o).run Try.prog w = .ok .skip (w.setCell ⟨b, 0, none⟩ (.slice (some ⟨g, 0, none⟩) n n)) := by
 have h1 : w.cell? ⟨b, 0, none⟩ = some u := (blk_cell hb 0).trans rfl
 have h2 : w.frozen? ⟨b, 0, none⟩ = false := blk_frozen hb 0
 simp only [execOp, ho, hx, hy]
 go_simp
theorem reg_any {ops : Array Oper} {Q : Exit → Act → World → Prop} {S : World → Prop} {w0 : World} {gb n : Nat} {box : Array Value} {t0 : Array Value} {d : List Deferred} (hn : n ≤ 80) (hsz : 38 < t0.size)
  (hrd : ∀ b3 b7 b8 b9 b10 b11, Region.ready .any ops #[true, true, true, b3, true, true, true, b7, b8, b9, b10, b11] = RD b3 b7 b8 b9 b10 b11)
  (h3 : ∃ o, ops[3]? = some o ∧ o.op = .makeSlice 23 (.tmp 33) (.tmp 33) ∧ o.dst = some 34 ∧ o.guard = none) (h7 : ∃ o, ops[7]? = some o ∧ o.op = .makeSlice 23 (.tmp 37) (.tmp 37) ∧ o.dst = some 38 ∧ o.guard = none)
  (h8 : ∃ o, ops[8]? = some o ∧ o.op = .alloc 23 ∧ o.dst = some 3 ∧ o.guard = none) (h9 : ∃ o, ops[9]? = some o ∧ o.op = .alloc 23 ∧ o.dst = some 4 ∧ o.guard = none)
  (h10 : ∃ o, ops[10]? = some o ∧ o.op = .store 23 (.tmp 3) (.tmp 34) ∧ o.dst = none ∧ o.guard = none) (h11 : ∃ o, ops[11]? = some o ∧ o.op = .store 23 (.tmp 4) (.tmp 38) ∧ o.dst = none ∧ o.guard = none)
  (he33 : (Act.mk t0 d).eval (.tmp 33) = .int .i64 (n : Int)) (he37 : (Act.mk t0 d).eval (.tmp 37) = .int .i64 (n : Int))
  (hS : ∀ w', w'.heap[gb]? = some (.cells box 25 (0, 0)) → S w')
  (hQ : ∀ x34 x38 x3 x4 w', JS w0 gb n box true true true true true true x34 x38 x3 x4 w' → Q .normal (act4 t0 d x34 x38 x3 x4) w') :
  ∀ (fuel : Nat) (b3 b7 b8 b9 b10 b11 : Bool) (x34 x38 x3 x4 : Value) (w : World), cntF b3 b7 b8 b9 b10 b11 = fuel → JS w0 gb n box b3 b7 b8 b9 b10 b11 x34 x38 x3 x4 w →
   wpAnyLast Try.prog .any ops Q S [] fuel #[true, true, true, b3, true, true, true, b7, b8, b9, b10, b11] (act4 t0 d x34 x38 x3 x4) w := by
 have hnil : ∀ b3 b7 b8 b9 b10 b11 : Bool, RD b3 b7 b8 b9 b10 b11 = [] → b3 = true ∧ b7 = true ∧ b8 = true ∧ b9 = true ∧ b10 = true ∧ b11 = true := by decide
 have h0 : ∀ b3 b7 b8 b9 b10 b11 : Bool, cntF b3 b7 b8 b9 b10 b11 = 0 → b3 = true ∧ b7 = true ∧ b8 = true ∧ b9 = true ∧ b10 = true ∧ b11 = true := by decide
 have hmem0 : ∀ b3 b7 b8 b9 b10 b11 : Bool, (RD b3 b7 b8 b9 b10 b11).all (fun i => decide ((i = 3 ∧ b3 = false) ∨ (i = 7 ∧ b7 = false) ∨ (i = 8 ∧ b8 = false) ∨ (i = 9 ∧ b9 = false) ∨ (i = 10 ∧ b10 = false ∧ b3 = true ∧ b8 = true ∧ b9 = true) ∨ (i = 11 ∧ b11 = false ∧ b10 = true ∧ b3 = true ∧ b7 = true ∧ b8 = true ∧ b9 = true))) = true := by decide
 have hmem : ∀ b3 b7 b8 b9 b10 b11 : Bool, ∀ i ∈ RD b3 b7 b8 b9 b10 b11, (i = 3 ∧ b3 = false) ∨ (i = 7 ∧ b7 = false) ∨ (i = 8 ∧ b8 = false) ∨ (i = 9 ∧ b9 = false) ∨ (i = 10 ∧ b10 = false ∧ b3 = true ∧ b8 = true ∧ b9 = true) ∨ (i = 11 ∧ b11 = false ∧ b10 = true ∧ b3 = true ∧ b7 = true ∧ b8 = true ∧ b9 = true) := fun b3 b7 b8 b9 b10 b11 i hi => of_decide_eq_true (List.all_eq_true.1 (hmem0 b3 b7 b8 b9 b10 b11) i hi)
 intro fuel
 induction fuel with
 | zero =>
  intro b3 b7 b8 b9 b10 b11 x34 x38 x3 x4 w hc hj
  obtain ⟨rfl, rfl, rfl, rfl, rfl, rfl⟩ := h0 _ _ _ _ _ _ hc
  exact ⟨by rw [hrd]; rfl, hQ _ _ _ _ _ hj⟩
 | succ fuel ih =>
  intro b3 b7 b8 b9 b10 b11 x34 x38 x3 x4 w hc hj
  refine ⟨fun hr => ?_, fun i hi => ?_⟩
  ·rw [hrd] at hr
   obtain ⟨rfl, rfl, rfl, rfl, rfl, rfl⟩ := hnil _ _ _ _ _ _ hr
   exact hQ _ _ _ _ _ hj
  ·rw [hrd] at hi
   obtain ⟨e34, e38, e3, e4⟩ := act4_e (d := d) (x34 := x34) (x38 := x38) (x3 := x3) (x4 := x4) hsz
   obtain ⟨f33, f37⟩ := act4_f (t0 := t0) (d := d) (x34 := x34) (x38 := x38) (x3 := x3) (x4 := x4)
   rcases hmem _ _ _ _ _ _ i hi with ⟨rfl, rfl⟩ | ⟨rfl, rfl⟩ | ⟨rfl, rfl⟩ | ⟨rfl, rfl⟩ | ⟨rfl, rfl, rfl, rfl, rfl⟩ | ⟨rfl, rfl, rfl, rfl, rfl, rfl, rfl⟩
   ·obtain ⟨o, ho, hop, hd, hg⟩ := h3
    obtain ⟨w1, v, hrun, hri, hgv, hb⟩ := is_make (act4 t0 d x34 x38 x3 x4) o n hn _ _ hop (f33.trans he33) (f33.trans he33) w0 w hj.below.size
    have hj' := hj.s3 hri hgv hb
    simp only [wpOp, ho, Region.wanted, hg, if_true]
    refine Or.inl ?_
    rw [Oper.wp, hrun, Oper.upon_value, hd, act4_34]
    exact ⟨fun _ _ => hS _ hj'.box_, ih _ _ _ _ _ _ _ _ _ _ _ (by simp [cntF] at hc ⊢; omega) hj'⟩
   ·obtain ⟨o, ho, hop, hd, hg⟩ := h7
    obtain ⟨w1, v, hrun, hri, hgv, hb⟩ := is_make (act4 t0 d x34 x38 x3 x4) o n hn _ _ hop (f37.trans he37) (f37.trans he37) w0 w hj.below.size
    have hj' := hj.s7 hri hgv hb
    simp only [wpOp, ho, Region.wanted, hg, if_true]
    refine Or.inl ?_
    rw [Oper.wp, hrun, Oper.upon_value, hd, act4_38]
    exact ⟨fun _ _ => hS _ hj'.box_, ih _ _ _ _ _ _ _ _ _ _ _ (by simp [cntF] at hc ⊢; omega) hj'⟩
   ·obtain ⟨o, ho, hop, hd, hg⟩ := h8
    obtain ⟨u, hrun⟩ := is_alloc (act4 t0 d x34 x38 x3 x4) o hop w
    have hj' := hj.s8 u
    simp only [wpOp, ho, Region.wanted, hg, if_true]
    refine Or.inl ?_
    rw [Oper.wp, hrun, Oper.upon_value, hd, act4_3]
    exact ⟨fun _ _ => hS _ hj'.box_, ih _ _ _ _ _ _ _ _ _ _ _ (by simp [cntF] at hc ⊢; omega) hj'⟩
   ·obtain ⟨o, ho, hop, hd, hg⟩ := h9
    obtain ⟨u, hrun⟩ := is_alloc (act4 t0 d x34 x38 x3 x4) o hop w
    have hj' := hj.s9 u
    simp only [wpOp, ho, Region.wanted, hg, if_true]
    refine Or.inl ?_
    rw [Oper.wp, hrun, Oper.upon_value, hd, act4_4]
    exact ⟨fun _ _ => hS _ hj'.box_, ih _ _ _ _ _ _ _ _ _ _ _ (by simp [cntF] at hc ⊢; omega) hj'⟩
   ·obtain ⟨o, ho, hop, hd, hg⟩ := h10
    obtain ⟨bl, u, rfl, g1, g2, g3⟩ := hj.c3 rfl
    obtain ⟨_, g, rfl⟩ := hj.r34 rfl
    have hrun := is_store (act4 t0 d (.slice (some ⟨g, 0, none⟩) n n) x38 (.pointer (some ⟨bl, 0, none⟩)) x4) o _ _ hop w bl u g n e3 e34 g2
    have hj' := hj.s10
    simp only [wpOp, ho, Region.wanted, hg, if_true]
    refine Or.inl ?_
    rw [Oper.wp, hrun, Oper.upon_skip, hd]
    exact ⟨fun _ _ => hS _ hj'.box_, ih _ _ _ _ _ _ _ _ _ _ _ (by simp [cntF] at hc ⊢; omega) hj'⟩
   ·obtain ⟨o, ho, hop, hd, hg⟩ := h11
    obtain ⟨bl, u, rfl, g1, g2, g3⟩ := hj.c4 rfl
    obtain ⟨_, g, rfl⟩ := hj.r38 rfl
    have hrun := is_store (act4 t0 d x34 (.slice (some ⟨g, 0, none⟩) n n) x3 (.pointer (some ⟨bl, 0, none⟩))) o _ _ hop w bl u g n e4 e38 g2
    have hj' := hj.s11
    simp only [wpOp, ho, Region.wanted, hg, if_true]
    refine Or.inl ?_
    rw [Oper.wp, hrun, Oper.upon_skip, hd]
    exact ⟨fun _ _ => hS _ hj'.box_, ih _ _ _ _ _ _ _ _ _ _ _ (by simp [cntF] at hc ⊢; omega) hj'⟩
theorem referM_len (C : List S68) (k own : Int) (cnt lev line : List Int) : (referM C k own cnt lev line).2.1.length = cnt.length ∧ (referM C k own cnt lev line).2.2.1.length = lev.length := by
 unfold referM
 (repeat' split) <;> simp
theorem act4_of (t0 : Array Value) (d : List Deferred) (h34 : t0[34]? = some undef) (h38 : t0[38]? = some undef) (h3 : t0[3]? = some undef) (h4 : t0[4]? = some undef) : Act.mk t0 d = act4 t0 d undef undef undef undef := by
 simp only [act4, Act.mk.injEq, and_true]
 refine Array.ext_getElem? (fun i => ?_)
 simp only [Array.getElem?_setIfInBounds, Array.size_setIfInBounds]
 by_cases e4 : 4 = i
 ·subst e4; rw [h4]; simp; have := (Array.getElem?_eq_some_iff.1 h4).1; omega
 by_cases e3 : 3 = i
 ·subst e3; rw [h3]; simp; have := (Array.getElem?_eq_some_iff.1 h3).1; omega
 by_cases e38 : 38 = i
 ·subst e38; rw [h38]; simp; have := (Array.getElem?_eq_some_iff.1 h38).1; omega
 by_cases e34 : 34 = i
 ·subst e34; rw [h34]; simp; have := (Array.getElem?_eq_some_iff.1 h34).1; omega
 simp [e4, e3, e38, e34]
abbrev St := List Int × List Int × List Int
def loopS (F : Int → St → Option (Bool × St)) : List Int → St → Option (Bool × St)
 | [], s => some (true, s)
 | q :: r, s => (F q s).bind fun t => if t.1 = true then loopS F r t.2 else some (false, t.2)
def rootF (C : List S68) (L k : Int) (s : St) : Option (Bool × St) := if s.2.2.length ≤ 1000000 then some (referM C k L s.1 s.2.1 s.2.2) else none
def kidF (C : List S68) (i : Int) (k : Int) (s : St) : Option (Bool × St) :=
 if s.2.2.length ≤ 1000000 ∧ i < (s.2.2.length : Int) ∧ 0 ≤ rd s.2.2 i ∧ rd s.2.2 i < (C.length : Int) then some (referM C k (wrap64 (rd s.2.1 (rd s.2.2 i) - 1)) s.1 s.2.1 s.2.2) else none
def lineM (C : List S68) : Nat → Nat → St → Option (Bool × St)
 | 0, _, _ => none
 | f + 1, i, s =>
  if (i : Int) < (s.2.2.length : Int) then
   (if s.2.2.length ≤ 1000000 ∧ 0 ≤ rd s.2.2 (i : Int) ∧ rd s.2.2 (i : Int) < (C.length : Int) then
    (loopS (kidF C (i : Int)) (rd_T68 C (rd s.2.2 (i : Int))).f2 s).bind fun t => if t.1 = true then lineM C f (i + 1) t.2 else some (false, t.2)
   else none)
  else some (true, s)
def okEnd (x : S68) (c : Int) : Bool := if x.f0 = c then (if x.f0 = 0 then (if x.f1.size = 0 then decide (x.f2.length = 0) else false) else true) else false
def endM (C : List S68) (cnt : List Int) : Nat → Nat → Bool
 | 0, _ => true
 | f + 1, i => if okEnd (rd_T68 C (i : Int)) (rd cnt (i : Int)) = true then endM C cnt f (i + 1) else false
def inR (a b c : Int) : Bool := decide (b ≤ a ∧ a ≤ c)
theorem within_inR (a b c : Int) : impl_within.f a b c = some (inR a b c) := within_dec a b c
def finM (C : List S68) (fuel : Nat) (t : Bool × St) : Option Bool := if t.1 = true then ((lineM C fuel 0 t.2).bind fun q => if q.1 = true then some (endM C q.2.1 C.length 0) else some false) else some false
def goodC (fuel : Nat) (C : List S68) (roots : List Int) (L : Int) : Option Bool :=
 if inR L 1 3 = true then (if (C.length : Int) > 80 then some false else if inR (roots.length : Int) 1 8 = true then
  (loopS (rootF C L) roots (List.replicate C.length 0, List.replicate C.length 0, [])).bind fun t => if t.1 = true then
   ((lineM C fuel 0 t.2).bind fun q => if q.1 = true then some (endM C q.2.1 C.length 0) else some false) else some false
  else some false) else some false
set_option maxHeartbeats 4000000 in
set_option maxRecDepth 100000 in
theorem goodC_calls (fuel : Nat) (A0 : Option Addr) (c0 : Nat) (C : List S68) (A1 : Option Addr) (c1 : Nat) (roots : List Int) (L : Int) (r : Bool) (w : World) (hr0 : Kd.C k68 w A0 C.length C) (hc0 : C.length ≤ c0) (hr1 : (Kd.int .i64).C w A1 roots.length roots) (hc1 : roots.length ≤ c1) (h : goodC fuel C roots L = some r) :
  Calls Try.prog 22 #[.agg #[.slice A0 C.length c0, .slice A1 roots.length c1, .int .i64 L]] w fun e w' => e = .returned (.bool r) ∧ Below w.heap.size w w' := by
 have hu25 := Try.underlying25
 have hu68 := Try.underlying68
 have HR0 := Aside0.mk hr0
 have HR1 := Aside0.mk hr1
 have H := Aside0.mk h
 have hn0 : C.length ≤ 9223372036854775807 := hr0.2.1
 have hn1 : roots.length ≤ 9223372036854775807 := hr1.2.1
 clear hr0 hr1 h
 cases hL : inR L 1 3 with
 | false =>
  have hr : r = false := by have := H.out; unfold goodC at this; rw [hL, if_neg (by simp)] at this; exact (Option.some.inj this).symm
  subst hr
  go_enter Try.func22, Try.ntmps22
  go_wp2_with (go_at_call 45; refine (impl_within.calls _ _ _ _ _ (within_inR L 1 3)).mono ?_)
  (first | rintro e w' rfl ⟨⟨nd, rfl⟩⟩ | rintro e w' ⟨rfl, ⟨⟨nd, rfl⟩⟩⟩)
  go_wp2
  go_ret
  exact ⟨rfl, pw_below_drewN ((Below.refl _ _).alloc (Nat.le_refl _) _) nd⟩
 | true =>
  by_cases h80 : (C.length : Int) > 80
  ·have hr : r = false := by have := H.out; unfold goodC at this; rw [hL, if_pos rfl, if_pos h80] at this; exact (Option.some.inj this).symm
   subst hr
   have hd : decide (80 < (C.length : Int)) = true := decide_eq_true h80
   clear h80
   go_enter Try.func22, Try.ntmps22
   go_wp2_with (go_at_call 45; refine (impl_within.calls _ _ _ _ _ (within_inR L 1 3)).mono ?_)
   (first | rintro e w' rfl ⟨⟨nd, rfl⟩⟩ | rintro e w' ⟨rfl, ⟨⟨nd, rfl⟩⟩⟩)
   go_wp2
   go_ret
   exact ⟨rfl, pw_below_drewN ((Below.refl _ _).alloc (Nat.le_refl _) _) nd⟩
  ·have hd : decide (80 < (C.length : Int)) = false := decide_eq_false h80
   cases hR8 : inR (roots.length : Int) 1 8 with
   | false =>
    have hr : r = false := by have := H.out; unfold goodC at this; rw [hL, if_pos rfl, if_neg h80, hR8, if_neg (by simp)] at this; exact (Option.some.inj this).symm
    subst hr
    clear h80
    go_enter Try.func22, Try.ntmps22
    go_wp2_with (go_at_call 45; refine (impl_within.calls _ _ _ _ _ (within_inR L 1 3)).mono ?_)
    (first | rintro e w' rfl ⟨⟨nd, rfl⟩⟩ | rintro e w' ⟨rfl, ⟨⟨nd, rfl⟩⟩⟩)
    go_wp2_with (go_at_call 45; refine (impl_within.calls _ _ _ _ _ (within_inR (roots.length : Int) 1 8)).mono ?_)
    (first | rintro e w' rfl ⟨⟨nd2, rfl⟩⟩ | rintro e w' ⟨rfl, ⟨⟨nd2, rfl⟩⟩⟩)
    go_wp2
    go_ret
    exact ⟨rfl, by first | exact pw_below_drewN (pw_below_drewN ((Below.refl _ _).alloc (Nat.le_refl _) _) nd) nd2 | exact pw_below_drewN ((Below.refl _ _).alloc (Nat.le_refl _) _) _⟩
   | true =>
    have H2 := Aside0.mk (show ((loopS (rootF C L) roots (List.replicate C.length 0, List.replicate C.length 0, [])).bind fun t => if t.1 = true then ((lineM C fuel 0 t.2).bind fun q => if q.1 = true then some (endM C q.2.1 C.length 0) else some false) else some false) = some r by
     have := H.out
     unfold goodC at this
     rwa [hL, if_pos rfl, if_neg h80, hR8, if_pos rfl] at this)
    have H80 := Aside0.mk (show (C.length : Int) ≤ 80 by omega)
    clear h80 H
    go_enter Try.func22, Try.ntmps22
    go_wp2_with (go_at_call 45; refine (impl_within.calls _ _ _ _ _ (within_inR L 1 3)).mono ?_)
    (first | rintro e w' rfl ⟨⟨nd, rfl⟩⟩ | rintro e w' ⟨rfl, ⟨⟨nd, rfl⟩⟩⟩)
    go_wp2_with (go_at_call 45; refine (impl_within.calls _ _ _ _ _ (within_inR (roots.length : Int) 1 8)).mono ?_)
    (first | rintro e w' rfl ⟨⟨nd2, rfl⟩⟩ | rintro e w' ⟨rfl, ⟨⟨nd2, rfl⟩⟩⟩)
    go_wp2
    have hb1 : Below w.heap.size w ((w.alloc (.cells #[.slice A0 C.length c0, .slice A1 roots.length c1, .int .i64 L] 25)).drewN (nd + nd2)) := pw_below_drewN ((Below.refl _ _).alloc (Nat.le_refl _) _) _
    have hx1 : ((w.alloc (.cells #[.slice A0 C.length c0, .slice A1 roots.length c1, .int .i64 L] 25)).drewN (nd + nd2)).heap[w.heap.size]? = some (.cells #[.slice A0 C.length c0, .slice A1 roots.length c1, .int .i64 L] 25 (0, 0)) := blk_drewN (blk_new _ _) _
    generalize ((w.alloc (.cells #[.slice A0 C.length c0, .slice A1 roots.length c1, .int .i64 L] 25)).drewN (nd + nd2)) = w1 at hb1 hx1 ⊢
    have HB1 := Aside0.mk hb1
    have HX1 := Aside0.mk hx1
    clear hb1 hx1
    refine start_ (n := 12) (S := fun w' => w'.cell? ⟨w.heap.size, 0, none⟩ = some (.slice A0 C.length c0)) (ds := []) #[false, false, false, false, false, false, false, false, false, false, false, false] (by kernel_rfl) rfl rfl ((blk_cell HX1.out 0).trans rfl) (fun hHeld => ?_)
    have HB2 := Aside0.mk (below_drew HB1.out)
    have HX2 := Aside0.mk (blk_drew HX1.out)
    clear HB1 HX1
    generalize w1.drew = w2 at HB2 HX2 hHeld ⊢
    refine take_ (i := 0) (N := some 31) (v := ?_) (a' := ?_) #[true, false, false, false, false, false, false, false, false, false, false, false] rfl rfl (by kernel_rfl) (fun _ _ _ h => h) (Or.inl ⟨by rfl, ?_⟩) hHeld ?_ ?_
    rotate_left
    ·rintro w' s0
     go_simp
     with_reducible rfl
    rotate_left
    ·simp only [apu_]
     rfl
    refine take_ (i := 1) (N := some 32) (v := ?_) (a' := ?_) #[true, true, false, false, false, false, false, false, false, false, false, false] rfl rfl (by kernel_rfl) (fun _ _ _ h => h) (Or.inl ⟨by rfl, ?_⟩) hHeld ?_ ?_
    rotate_left
    ·rintro w' s0
     go_simp
     with_reducible rfl
    rotate_left
    ·simp only [apu_]
     rfl
    refine take_ (i := 2) (N := some 33) (v := ?_) (a' := ?_) #[true, true, true, false, false, false, false, false, false, false, false, false] rfl rfl (by kernel_rfl) (fun _ _ _ h => h) (Or.inl ⟨by rfl, ?_⟩) hHeld ?_ ?_
    rotate_left
    ·rintro w' s0
     go_simp
     with_reducible rfl
    rotate_left
    ·simp only [apu_]
     rfl
    refine take_ (i := 4) (N := some 35) (v := ?_) (a' := ?_) #[true, true, true, false, true, false, false, false, false, false, false, false] rfl rfl (by kernel_rfl) (fun _ _ _ h => h) (Or.inl ⟨by rfl, ?_⟩) hHeld ?_ ?_
    rotate_left
    ·rintro w' s0
     go_simp
     with_reducible rfl
    rotate_left
    ·simp only [apu_]
     rfl
    refine take_ (i := 5) (N := some 36) (v := ?_) (a' := ?_) #[true, true, true, false, true, true, false, false, false, false, false, false] rfl rfl (by kernel_rfl) (fun _ _ _ h => h) (Or.inl ⟨by rfl, ?_⟩) hHeld ?_ ?_
    rotate_left
    ·rintro w' s0
     go_simp
     with_reducible rfl
    rotate_left
    ·simp only [apu_]
     rfl
    refine take_ (i := 6) (N := some 37) (v := ?_) (a' := ?_) #[true, true, true, false, true, true, true, false, false, false, false, false] rfl rfl (by kernel_rfl) (fun _ _ _ h => h) (Or.inl ⟨by rfl, ?_⟩) hHeld ?_ ?_
    rotate_left
    ·rintro w' s0
     go_simp
     with_reducible rfl
    rotate_left
    ·simp only [apu_]
     rfl
    refine norm_ (act4_of _ _ rfl rfl rfl rfl) ?_
    refine reg_any (w0 := w) (gb := w.heap.size) (n := C.length) (box := #[.slice A0 C.length c0, .slice A1 roots.length c1, .int .i64 L]) (by have := H80.out; omega) (by simp) (by
     intro b3 b7 b8 b9 b10 b11
     cases b3 <;> cases b7 <;> cases b8 <;> cases b9 <;> cases b10 <;> cases b11 <;> kernel_rfl) ⟨_, rfl, rfl, rfl, rfl⟩ ⟨_, rfl, rfl, rfl, rfl⟩ ⟨_, rfl, rfl, rfl, rfl⟩ ⟨_, rfl, rfl, rfl, rfl⟩ ⟨_, rfl, rfl, rfl, rfl⟩ ⟨_, rfl, rfl, rfl, rfl⟩ rfl rfl
     (fun w' hw' => (blk_cell hw' 0).trans rfl) ?_ 6 false false false false false false undef undef undef undef _ rfl
     ⟨HB2.out, HX2.out, by simp, by simp, by simp, by simp, by simp, by simp, by simp, by simp⟩
    intro x34 x38 x3 x4 w3 hj
    obtain ⟨hrl, gl, rfl⟩ := hj.r34 rfl
    obtain ⟨hrc, gc, rfl⟩ := hj.r38 rfl
    obtain ⟨bl, u1, rfl, hbl, hbl2, hu1⟩ := hj.c3 rfl
    obtain ⟨bc, u2, rfl, hbc, hbc2, hu2⟩ := hj.c4 rfl
    obtain rfl := hu1 rfl
    obtain rfl := hu2 rfl
    have hne := hj.ne rfl rfl
    have hnb : bl ≠ bc := fun e => hj.ne34 rfl rfl (by rw [e])
    have J := Aside0.mk hj
    clear hj
    simp only [act4, List.setIfInBounds_toArray, List.set_cons_zero, List.set_cons_succ]
    clear hu1 hu2 H80 hR8 HB2 HX2 hHeld
    have hcl : gc < w3.heap.size := Kd.R_lt hrc gc rfl
    have hll : gl < w3.heap.size := Kd.R_lt hrl gl rfl
    have hbcl : bc < w3.heap.size := blk_lt hbc2
    have hbll : bl < w3.heap.size := blk_lt hbl2
    have Hbx : ((w3.alloc (.cells #[] 3)).alloc (.cells #[.slice (some ⟨w3.heap.size, 0, none⟩) 0 0] 23)).cell? ⟨w.heap.size, 1, none⟩ = some (.slice A1 roots.length c1) := (blk_cell (blk_alloc (blk_alloc J.out.box_ _) _) 1).trans rfl
    have hRS : RS w w.heap.size bc bl (w3.heap.size + 1) #[.slice A0 C.length c0, .slice A1 roots.length c1, .int .i64 L] (.slice (some ⟨gc, 0, none⟩) C.length C.length) (.slice (some ⟨gl, 0, none⟩) C.length C.length) ((w3.alloc (.cells #[] 3)).alloc (.cells #[.slice (some ⟨w3.heap.size, 0, none⟩) 0 0] 23)) (List.replicate C.length 0) (List.replicate C.length 0) [] := by
     have hbs : w.heap.size ≤ w3.heap.size := J.out.below.size
     have hsz : (w3.alloc (.cells #[] 3)).heap.size = w3.heap.size + 1 := Array.size_push _
     refine ⟨below_alloc (below_alloc J.out.below _) _, blk_alloc (blk_alloc J.out.box_ _) _, blk_alloc (blk_alloc hbc2 _) _, blk_alloc (blk_alloc hbl2 _) _, ⟨.slice (some ⟨w3.heap.size, 0, none⟩) 0 0, ?_, ?_, ?_, ?_⟩, Kd.R_alloc (Kd.R_alloc hrc _) _, Kd.R_alloc (Kd.R_alloc hrl _) _, ne_symm hne, fun e => hnb e.symm, by omega, by omega, hbc, hbl, by omega⟩
     ·rw [← hsz]; exact blk_new _ _
     ·exact Kd.R_alloc (Kd.R_of_own (World.ownsRow_made w3 #[] 0 hbs (Nat.zero_le _) rfl) (fun _ _ => trivial)) _
     ·intro k hk hk2
      simp [Value.ownBlock] at hk hk2
      omega
     ·intro k hk hk2
      simp [Value.ownBlock] at hk hk2
      omega
    have HRS := Aside0.mk hRS
    have H3 := Aside0.mk (show (loopS (rootF C L) roots (List.replicate C.length 0, List.replicate C.length 0, [])).bind (finM C fuel) = some r from H2.out)
    clear hRS H2 J hrl hrc hbl2 hbc2 hne hnb hcl hll hbcl hbll hbl hbc
    go_wp2
    generalize (w3.alloc (.cells #[] 3)).alloc (.cells #[.slice (some ⟨w3.heap.size, 0, none⟩) 0 0] 23) = w4 at HRS Hbx ⊢
    obtain ⟨bn, hbn⟩ : ∃ b, w3.heap.size + 1 = b := ⟨_, rfl⟩
    rw [hbn] at HRS
    simp only [hbn]
    clear hbn Hbx
    go_loopw [44] (fun vi wr => ∃ (q : Nat) (s : St), q ≤ roots.length ∧ vi = .int .i64 q ∧ Aside0 ((loopS (rootF C L) (roots.drop q) s).bind (finM C fuel) = some r) ∧ Aside0 (RS w w.heap.size bc bl bn #[.slice A0 C.length c0, .slice A1 roots.length c1, .int .i64 L] (.slice (some ⟨gc, 0, none⟩) C.length C.length) (.slice (some ⟨gl, 0, none⟩) C.length C.length) wr s.1 s.2.1 s.2.2) ∧ Aside0 (s.1.length = C.length) ∧ Aside0 (s.2.1.length = C.length)) (fun vi _ => roots.length - (intOf vi).toNat)
    case atStart => exact ⟨0, (_, _, _), Nat.zero_le _, rfl, ⟨by rw [List.drop_zero]; exact H3.out⟩, HRS, ⟨by simp⟩, ⟨by simp⟩⟩
    case round =>
     clear HRS H3
     obtain ⟨q, ⟨cnt, lev, line⟩, hq, rfl, HL, S, L1, L2⟩ := hrel
     by_cases hql : q < roots.length
     ·obtain ⟨ad2, e3, hy⟩ := Kd.at_int (Kd.C_below HR1.out S.out.below) (q : Int) (by omega) (by omega)
      subst e3
      simp only [Int.toNat_natCast] at hy
      obtain ⟨z, hz⟩ : ∃ z, rd roots (q : Int) = z := ⟨_, rfl⟩
      rw [hz] at hy
      have hd : roots.drop q = z :: roots.drop (q + 1) := by
       rw [List.drop_eq_getElem_cons hql, ← hz]
       congr 1
       unfold rd
       rw [List.getD_eq_getElem?_getD, Int.toNat_natCast, List.getElem?_eq_getElem hql]
       rfl
      have HL2 := Aside0.mk (show ((rootF C L z (cnt, lev, line)).bind fun t => if t.1 = true then loopS (rootF C L) (roots.drop (q + 1)) t.2 else some (false, t.2)).bind (finM C fuel) = some r by
       have := HL.out
       rw [hd] at this
       exact this)
      have hline : line.length ≤ 1000000 := by
       have := HL2.out
       unfold rootF at this
       by_cases hh : line.length ≤ 1000000
       ·exact hh
       ·rw [if_neg (by simpa using hh)] at this
        simp at this
      have HL3 := Aside0.mk (show (if (referM C z L cnt lev line).1 = true then loopS (rootF C L) (roots.drop (q + 1)) (referM C z L cnt lev line).2 else some (false, (referM C z L cnt lev line).2)).bind (finM C fuel) = some r by
       have := HL2.out
       unfold rootF at this
       rw [if_pos (by simpa using hline)] at this
       exact this)
      have hcall := Aside0.mk (refer_calls C w w.heap.size bc bl bn A0 c0 (some ad2) roots.length c1 L _ _ wr cnt lev line z L HR0.out S.out L1.out L2.out (by omega))
      have hqq : ((q : Int) < (roots.length : Int)) = True := eq_true (by omega)
      have e2 : wr.cell? ⟨w.heap.size, 2, none⟩ = some (.int .i64 L) := (blk_cell S.out.box_ _).trans rfl
      clear HL HL2 hd hline hz
      have hlen := referM_len C z L cnt lev line
      obtain ⟨⟨b, cnt1, lev1, line1⟩, hR⟩ : ∃ t, referM C z L cnt lev line = t := ⟨_, rfl⟩
      rw [hR] at hcall HL3 hlen
      have L1' := Aside0.mk (hlen.1.trans L1.out)
      have L2' := Aside0.mk (hlen.2.trans L2.out)
      clear hR hlen
      go_wp2_with (go_at_call 58; (with_reducible refine hcall.out.mono ?_))
      (first | rintro e w5 rfl hS5 | rintro e w5 ⟨rfl, hS5⟩)
      have S5 := Aside0.mk hS5
      clear hS5 hcall e2 hy
      cases b with
      | true =>
       have H4 := Aside0.mk (show (loopS (rootF C L) (roots.drop (q + 1)) (cnt1, lev1, line1)).bind (finM C fuel) = some r from HL3.out)
       go_wp2
       go_roundw
       case rel => exact ⟨q + 1, (cnt1, lev1, line1), hql, by go_num, H4, S5, L1', L2'⟩
       case measure => simp [intOf]; omega
      | false =>
       have H4 : some false = some r := HL3.out
       simp only [Option.some.injEq] at H4
       subst H4
       clear HL3
       go_wp2
       go_ret
       exact ⟨rfl, S5.out.below⟩
     ·have hqq : ((q : Int) < (roots.length : Int)) = False := eq_false (by omega)
      have H4 := Aside0.mk (show finM C fuel (true, (cnt, lev, line)) = some r by
       have := HL.out
       rw [List.drop_of_length_le (by omega)] at this
       exact this)
      have H5 := Aside0.mk (show ((lineM C fuel 0 (cnt, lev, line)).bind fun q => if q.1 = true then some (endM C q.2.1 C.length 0) else some false) = some r from H4.out)
      clear HL H4 hql hq
      obtain ⟨vn, hnb, hnr, hnc, hnl⟩ := S.out.nb
      have NB := Aside0.mk hnb
      have c5 : wr.cell? ⟨bn, 0, none⟩ = some vn := (blk_cell hnb _).trans rfl
      clear hnb hnr hnc hnl
      go_wp2
      clear c5 hqq NB vn
      go_loopg [9] fuel (fun kq vi w5 => ∃ (i : Nat) (s : St), vi = .int .i64 i ∧ Aside0 (((lineM C kq i s).bind fun q => if q.1 = true then some (endM C q.2.1 C.length 0) else some false) = some r) ∧ Aside0 (kq ≤ fuel) ∧ Aside0 (RS w w.heap.size bc bl bn #[.slice A0 C.length c0, .slice A1 roots.length c1, .int .i64 L] (.slice (some ⟨gc, 0, none⟩) C.length C.length) (.slice (some ⟨gl, 0, none⟩) C.length C.length) w5 s.1 s.2.1 s.2.2) ∧ Aside0 (s.1.length = C.length) ∧ Aside0 (s.2.1.length = C.length))
      case atStart => exact ⟨0, (cnt, lev, line), rfl, H5, ⟨Nat.le_refl _⟩, S, L1, L2⟩
      case round =>
       clear S L1 L2 H5 cnt lev line
       obtain ⟨i, ⟨cnt, lev, line⟩, rfl, HL, HK1, S, L1, L2⟩ := hrel
       cases gk with
       | zero => exact absurd HL.out (by simp [lineM])
       | succ k1 =>
        obtain ⟨vn, hnb, hnr, hnc, hnl⟩ := S.out.nb
        have c5 : wr.cell? ⟨bn, 0, none⟩ = some vn := (blk_cell hnb _).trans rfl
        by_cases hil : (i : Int) < (line.length : Int)
        ·have hg : line.length ≤ 1000000 ∧ 0 ≤ rd line (i : Int) ∧ rd line (i : Int) < (C.length : Int) := by
          have h1 := HL.out
          unfold lineM at h1
          rw [if_pos hil] at h1
          by_cases hh : line.length ≤ 1000000 ∧ 0 ≤ rd line (i : Int) ∧ rd line (i : Int) < (C.length : Int)
          ·exact hh
          ·rw [if_neg hh] at h1
           simp at h1
         obtain ⟨k, hk⟩ : ∃ k, rd line (i : Int) = k := ⟨_, rfl⟩
         obtain ⟨x, hx⟩ : ∃ x, rd_T68 C k = x := ⟨_, rfl⟩
         have HLn := Aside0.mk (show ((loopS (kidF C (i : Int)) x.f2 (cnt, lev, line)).bind fun t => if t.1 = true then lineM C k1 (i + 1) t.2 else some (false, t.2)).bind (fun q => if q.1 = true then some (endM C q.2.1 C.length 0) else some false) = some r by
          have h1 := HL.out
          unfold lineM at h1
          rw [if_pos hil, if_pos hg] at h1
          rw [← hx, ← hk]
          exact h1)
         rw [hk] at hg
         obtain ⟨hl6, hk0, hk1⟩ := hg
         obtain ⟨ad, A2, c2, hA0, hx0, hx1, hx2, hxl, hxC⟩ := at_T68 HR0.out k hk0 hk1
         subst hA0
         rw [hx] at hx0 hx1 hx2 hxl hxC
         have hl0 : 0 < line.length := by omega
         obtain ⟨gn, cn, hvn, hgn1, hgn2, csn, hgnb⟩ := Kd.R_form hnr hl0
         subst hvn
         have c6 : wr.cell? ⟨gn, i, none⟩ = some (.int .i64 k) := by
          have := (Kd.R_celln (d := (0 : Int)) hnr (i : Int) (by omega) hil).1
          rw [show rdOf (0 : Int) line (i : Int) = k from hk] at this
          exact this
         have c7 : wr.cell? ⟨w.heap.size, 0, none⟩ = some (.slice (some ad) C.length c0) := (blk_cell S.out.box_ _).trans rfl
         have c8 := pw_cell_below S.out.below hx2
         have hxm : x.f2.length ≤ 9223372036854775807 := hxC.2.1
         have XC := Aside0.mk hxC
         have hi6 : (i : Int) ≤ 1000000 := by omega
         have hp1 : (0 ≤ k) = True := eq_true hk0
         have hp2 : (k < (C.length : Int)) = True := eq_true hk1
         have hp3 : ((i : Int) < (line.length : Int)) = True := eq_true hil
         clear hnb hnr hnc hnl hgn1 hgn2 hgnb hx0 hx1 hx2 hxC HL hil hl6 hk0 hk1 csn
         go_wp2
         go_quiet (fail)
         try go_wp2
         have S1 := Aside0.mk (S.out.below_ (pw_below_drewN (Below.refl _ _) nq))
         clear S c5 c6 c7 c8 hp3 hp1 hp2
         generalize wr.drewN nq = wr1 at S1 ⊢
         go_loopw [71] (fun vi w6 => ∃ (q2 : Nat) (s : St), q2 ≤ x.f2.length ∧ vi = .int .i64 q2 ∧ Aside0 (((loopS (kidF C (i : Int)) (x.f2.drop q2) s).bind fun t => if t.1 = true then lineM C k1 (i + 1) t.2 else some (false, t.2)).bind (fun q => if q.1 = true then some (endM C q.2.1 C.length 0) else some false) = some r) ∧ Aside0 (RS w w.heap.size bc bl bn #[.slice (some ad) C.length c0, .slice A1 roots.length c1, .int .i64 L] (.slice (some ⟨gc, 0, none⟩) C.length C.length) (.slice (some ⟨gl, 0, none⟩) C.length C.length) w6 s.1 s.2.1 s.2.2) ∧ Aside0 (s.1.length = C.length) ∧ Aside0 (s.2.1.length = C.length)) (fun vi _ => x.f2.length - (intOf vi).toNat)
         case atStart => exact ⟨0, (cnt, lev, line), Nat.zero_le _, rfl, ⟨by rw [List.drop_zero]; exact HLn.out⟩, S1, L1, L2⟩
         case round =>
          clear S1 L1 L2 HLn hk
          obtain ⟨q2, ⟨cnt2, lev2, line2⟩, hq2, rfl, HL2, S2, M1, M2⟩ := hrel
          by_cases hql2 : q2 < x.f2.length
          ·obtain ⟨ad2, e3, hy⟩ := Kd.at_int (Kd.C_below XC.out S2.out.below) (q2 : Int) (by omega) (by omega)
           subst e3
           simp only [Int.toNat_natCast] at hy
           obtain ⟨z, hz⟩ : ∃ z, rd x.f2 (q2 : Int) = z := ⟨_, rfl⟩
           rw [hz] at hy
           have hd : x.f2.drop q2 = z :: x.f2.drop (q2 + 1) := by
            rw [List.drop_eq_getElem_cons hql2, ← hz]
            congr 1
            unfold rd
            rw [List.getD_eq_getElem?_getD, Int.toNat_natCast, List.getElem?_eq_getElem hql2]
            rfl
           have HL3 := Aside0.mk (show (((kidF C (i : Int) z (cnt2, lev2, line2)).bind fun t => if t.1 = true then loopS (kidF C (i : Int)) (x.f2.drop (q2 + 1)) t.2 else some (false, t.2)).bind fun t => if t.1 = true then lineM C k1 (i + 1) t.2 else some (false, t.2)).bind (fun q => if q.1 = true then some (endM C q.2.1 C.length 0) else some false) = some r by
            have := HL2.out
            rw [hd] at this
            exact this)
           have hg2 : line2.length ≤ 1000000 ∧ (i : Int) < (line2.length : Int) ∧ 0 ≤ rd line2 (i : Int) ∧ rd line2 (i : Int) < (C.length : Int) := by
            have h1 := HL3.out
            unfold kidF at h1
            by_cases hh : line2.length ≤ 1000000 ∧ (i : Int) < (line2.length : Int) ∧ 0 ≤ rd line2 (i : Int) ∧ rd line2 (i : Int) < (C.length : Int)
            ·exact hh
            ·rw [if_neg (by simpa using hh)] at h1
             simp at h1
           obtain ⟨k2, hk2⟩ : ∃ k2, rd line2 (i : Int) = k2 := ⟨_, rfl⟩
           obtain ⟨own, hown⟩ : ∃ o, wrap64 (rd lev2 k2 - 1) = o := ⟨_, rfl⟩
           have HL4 := Aside0.mk (show ((if (referM C z own cnt2 lev2 line2).1 = true then loopS (kidF C (i : Int)) (x.f2.drop (q2 + 1)) (referM C z own cnt2 lev2 line2).2 else some (false, (referM C z own cnt2 lev2 line2).2)).bind fun t => if t.1 = true then lineM C k1 (i + 1) t.2 else some (false, t.2)).bind (fun q => if q.1 = true then some (endM C q.2.1 C.length 0) else some false) = some r by
            have h1 := HL3.out
            unfold kidF at h1
            rw [if_pos (by simpa using hg2)] at h1
            rw [← hown, ← hk2]
            exact h1)
           rw [hk2] at hg2
           obtain ⟨hl6, hil2, hk0, hk1⟩ := hg2
           obtain ⟨vn2, hnb2, hnr2, hnc2, hnl2⟩ := S2.out.nb
           have hl0 : 0 < line2.length := by omega
           obtain ⟨gn2, cn2, hvn2, hgn3, hgn4, csn2, hgnb2⟩ := Kd.R_form hnr2 hl0
           subst hvn2
           have d2 : wr.cell? ⟨gn2, i, none⟩ = some (.int .i64 k2) := by
            have := (Kd.R_celln (d := (0 : Int)) hnr2 (i : Int) (by omega) hil2).1
            rw [show rdOf (0 : Int) line2 (i : Int) = k2 from hk2] at this
            exact this
           have d1 : wr.cell? ⟨bn, 0, none⟩ = some (.slice (some ⟨gn2, 0, none⟩) line2.length cn2) := (blk_cell hnb2 _).trans rfl
           have d0 : wr.cell? ⟨bl, 0, none⟩ = some (.slice (some ⟨gl, 0, none⟩) C.length C.length) := (blk_cell S2.out.lb _).trans rfl
           have d3 : wr.cell? ⟨gl, k2.toNat, none⟩ = some (.int .i64 (rd lev2 k2)) := (Kd.R_celln (d := (0 : Int)) S2.out.rl k2 hk0 hk1).1
           have D0 := Aside0.mk d0
           have D1 := Aside0.mk d1
           have D2 := Aside0.mk d2
           have D3 := Aside0.mk d3
           have hp0 : ((q2 : Int) < (x.f2.length : Int)) = True := eq_true (by omega)
           have hp1 : (0 ≤ k2) = True := eq_true hk0
           have hp2 : (k2 < (C.length : Int)) = True := eq_true hk1
           have hp3 : ((i : Int) < (line2.length : Int)) = True := eq_true hil2
           have hlen := referM_len C z own cnt2 lev2 line2
           have H6 := Aside0.mk hl6
           clear hnb2 hnr2 hnc2 hnl2 hgn3 hgn4 hgnb2 csn2 hd hz HL3 HL2 d0 d1 d2 d3 hk0 hk1 hil2 hl0 hl6
           go_wp2
           have S3 := Aside0.mk (S2.out.below_ (below_drew (Below.refl _ _)))
           have d0 : wr.drew.cell? ⟨bl, 0, none⟩ = some (.slice (some ⟨gl, 0, none⟩) C.length C.length) := D0.out
           have d1 : wr.drew.cell? ⟨bn, 0, none⟩ = some (.slice (some ⟨gn2, 0, none⟩) line2.length cn2) := D1.out
           have d2 : wr.drew.cell? ⟨gn2, i, none⟩ = some (.int .i64 k2) := D2.out
           have d3 : wr.drew.cell? ⟨gl, k2.toNat, none⟩ = some (.int .i64 (rd lev2 k2)) := D3.out
           refine wp_region_still_tail 10 (by kernel_rfl) (by kernel_rfl) ?_
           simp only [List.take_succ_cons, List.take_zero, List.drop_succ_cons, List.drop_zero]
           change wpStill _ _ wr.drew (fun a' => wpList _ _ _ _ a' wr.drew) _ _
           generalize wr.drew = w7 at S3 d0 d1 d2 d3 ⊢
           have hcall := Aside0.mk (refer_calls C w w.heap.size bc bl bn (some ad) c0 A1 roots.length c1 L _ _ w7 cnt2 lev2 line2 z own HR0.out S3.out M1.out M2.out (by have := H6.out; omega))
           obtain ⟨⟨b, cnt3, lev3, line3⟩, hR⟩ : ∃ t, referM C z own cnt2 lev2 line2 = t := ⟨_, rfl⟩
           rw [hR] at hcall HL4 hlen
           have N1 := Aside0.mk (hlen.1.trans M1.out)
           have N2 := Aside0.mk (hlen.2.trans M2.out)
           clear hR hlen S2 M1 M2
           repeat still_step
           try refine wpStill_nil ?_
           clear d0 d1 d2 d3 D0 D1 D2 D3
           go_wp2_with (go_at_call 58; (with_reducible refine hcall.out.mono ?_))
           (first | rintro e w8 rfl hS8 | rintro e w8 ⟨rfl, hS8⟩)
           have S8 := Aside0.mk hS8
           clear hS8 hcall
           cases b with
           | true =>
            have H4 := Aside0.mk (show ((loopS (kidF C (i : Int)) (x.f2.drop (q2 + 1)) (cnt3, lev3, line3)).bind fun t => if t.1 = true then lineM C k1 (i + 1) t.2 else some (false, t.2)).bind (fun q => if q.1 = true then some (endM C q.2.1 C.length 0) else some false) = some r from HL4.out)
            go_wp2
            go_roundw
            case rel => exact ⟨q2 + 1, (cnt3, lev3, line3), hql2, by go_num, H4, S8, N1, N2⟩
            case measure => simp [intOf]; omega
           | false =>
            have H4 : some false = some r := HL4.out
            simp only [Option.some.injEq] at H4
            subst H4
            clear HL4
            go_wp2
            go_ret
            exact ⟨rfl, S8.out.below⟩
          ·have hp0 : ((q2 : Int) < (x.f2.length : Int)) = False := eq_false (by omega)
           have H6 := Aside0.mk (show (lineM C k1 (i + 1) (cnt2, lev2, line2)).bind (fun q => if q.1 = true then some (endM C q.2.1 C.length 0) else some false) = some r by
            have := HL2.out
            rw [List.drop_of_length_le (by omega)] at this
            exact this)
           clear HL2 hql2 hq2
           go_wp2
           go_roundg k1
           case measure => have := HK1.out; omega
           case rel => exact ⟨i + 1, (cnt2, lev2, line2), by go_num, H6, ⟨by have := HK1.out; omega⟩, S2, M1, M2⟩
        ·have hp3 : ((i : Int) < (line.length : Int)) = False := eq_false hil
         have H7 := Aside0.mk (show endM C cnt (C.length - 0) 0 = r by
          have h1 := HL.out
          unfold lineM at h1
          rw [if_neg hil] at h1
          exact Option.some.inj h1)
         have c7 : wr.cell? ⟨w.heap.size, 0, none⟩ = some (.slice A0 C.length c0) := (blk_cell S.out.box_ _).trans rfl
         obtain ⟨A4, c4, hv⟩ := own_slice (Kd.own_of_R hnr)
         subst hv
         clear hnb hnr hnc hnl HL hil
         go_wp2
         clear c5 c7 hp3
         go_loopw [91] (fun vi w6 => ∃ j : Nat, j ≤ C.length ∧ vi = .int .i64 j ∧ Aside0 (endM C cnt (C.length - j) j = r) ∧ Aside0 (RS w w.heap.size bc bl bn #[.slice A0 C.length c0, .slice A1 roots.length c1, .int .i64 L] (.slice (some ⟨gc, 0, none⟩) C.length C.length) (.slice (some ⟨gl, 0, none⟩) C.length C.length) w6 cnt lev line)) (fun vi _ => C.length - (intOf vi).toNat)
         case atStart => exact ⟨0, Nat.zero_le _, rfl, H7, S⟩
         case round =>
          clear H7 S
          obtain ⟨j, hj, rfl, H7, S⟩ := hrel
          by_cases hjl : j < C.length
          ·obtain ⟨x, hx⟩ : ∃ x, rd_T68 C (j : Int) = x := ⟨_, rfl⟩
           obtain ⟨cj, hcj⟩ : ∃ c, rd cnt (j : Int) = c := ⟨_, rfl⟩
           obtain ⟨ad, A2, c2, hA0, hx0, hx1, hx2, hxl, hxC⟩ := at_T68 HR0.out (j : Int) (by omega) (by omega)
           subst hA0
           rw [hx] at hx0 hx1 hx2 hxl hxC
           have y0 := pw_cell_below S.out.below hx0
           have y1 := pw_cell_below S.out.below hx1
           have y2 := pw_cell_below S.out.below hx2
           simp only [Int.toNat_natCast] at y0 y1 y2
           have hxm : x.f2.length ≤ 9223372036854775807 := hxC.2.1
           have D4 : ∀ o, (wr.alloc o).cell? ⟨bc, 0, none⟩ = some (.slice (some ⟨gc, 0, none⟩) C.length C.length) := fun o => (blk_cell (blk_alloc S.out.cb o) 0).trans rfl
           have D5 : ∀ o, (wr.alloc o).cell? ⟨gc, j, none⟩ = some (.int .i64 cj) := fun o => by
            have := (Kd.R_celln (d := (0 : Int)) (Kd.R_alloc S.out.rc o) (j : Int) (by omega) (by omega)).1
            rw [show rdOf (0 : Int) cnt (j : Int) = cj from hcj] at this
            exact this
           have hp0 : ((j : Int) < (C.length : Int)) = True := eq_true (by omega)
           clear hx0 hx1 hx2 hxC
           by_cases q0 : x.f0 = cj
           ·subst q0
            by_cases q1 : x.f0 = 0
            ·have q1' : rd cnt (j : Int) = 0 := hcj.trans q1
             rw [q1] at y0 D5
             by_cases q2 : x.f1.size = 0
             ·have q3 : x.f1.toList = [] := ba_nil.2 q2
              have q6 : (x.f1.toList = []) = True := eq_true q3
              have q7 : x.f1.toList.isEmpty = true := by rw [q3]; rfl
              have q8 : (x.f1.toList == []) = true := by rw [q3]; rfl
              clear q3
              by_cases q4 : x.f2.length = 0
              ·have q5 : (0 < (x.f2.length : Int)) = False := eq_false (by omega)
               have H8 := Aside0.mk (show endM C cnt (C.length - (j + 1)) (j + 1) = r by
                have h1 := H7.out
                rw [show C.length - j = C.length - (j + 1) + 1 by omega] at h1
                unfold endM at h1
                rw [if_pos (by rw [hx, hcj]; unfold okEnd; rw [if_pos rfl]; first | (rw [if_pos q1, if_pos q2]; exact decide_eq_true q4) | (rw [if_neg q1]))] at h1
                exact h1)
               clear H7
               go_wp2
               go_quiet (fail)
               try go_wp2
               go_roundw
               case rel => exact ⟨j + 1, hjl, by go_num, H8, ⟨S.out.below_ (pw_below_drewN (below_alloc (Below.refl _ _) _) nq)⟩⟩
               case measure => simp [intOf]; omega
              ·have q5 : (0 < (x.f2.length : Int)) = True := eq_true (by omega)
               have H8 : r = false := by
                have h1 := H7.out
                rw [show C.length - j = C.length - (j + 1) + 1 by omega] at h1
                unfold endM at h1
                rw [if_neg (by rw [hx, hcj]; unfold okEnd; first | (rw [if_pos rfl, if_pos q1, if_pos q2, decide_eq_false q4]; simp; done) | (rw [if_pos rfl, if_pos q1, if_neg q2]; simp; done) | (rw [if_neg q0]; simp))] at h1
                exact h1.symm
               subst H8
               clear H7
               go_wp2
               go_quiet (fail)
               try go_wp2
               go_ret
               exact ⟨rfl, pw_below_drewN (below_alloc S.out.below _) nq⟩
             ·have q3 : (x.f1.toList = []) = False := eq_false (fun e => q2 (ba_nil.1 e))
              have q4 : x.f1.toList.isEmpty = false := by cases h : x.f1.toList with | nil => exact absurd h (fun e => q2 (ba_nil.1 e)) | cons _ _ => rfl
              have q5 : (x.f1.toList == []) = false := beq_eq_false_iff_ne.2 (fun e => q2 (ba_nil.1 e))
              have H8 : r = false := by
               have h1 := H7.out
               rw [show C.length - j = C.length - (j + 1) + 1 by omega] at h1
               unfold endM at h1
               rw [if_neg (by rw [hx, hcj]; unfold okEnd; first | (rw [if_pos rfl, if_pos q1, if_pos q2, decide_eq_false q4]; simp; done) | (rw [if_pos rfl, if_pos q1, if_neg q2]; simp; done) | (rw [if_neg q0]; simp))] at h1
               exact h1.symm
              subst H8
              clear H7
              go_wp2
              go_quiet (fail)
              try go_wp2
              go_ret
              exact ⟨rfl, pw_below_drewN (below_alloc S.out.below _) nq⟩
            ·have q2 : (x.f0 == 0) = false := beq_eq_false_iff_ne.2 q1
             have q3 : (x.f0 != 0) = true := bne_iff_ne.2 q1
             have q4 : (x.f0 = 0) = False := eq_false q1
             have H8 := Aside0.mk (show endM C cnt (C.length - (j + 1)) (j + 1) = r by
              have h1 := H7.out
              rw [show C.length - j = C.length - (j + 1) + 1 by omega] at h1
              unfold endM at h1
              rw [if_pos (by rw [hx, hcj]; unfold okEnd; rw [if_pos rfl]; first | (rw [if_pos q1, if_pos q2]; exact decide_eq_true q4) | (rw [if_neg q1]))] at h1
              exact h1)
             clear H7
             go_wp2
             go_quiet (fail)
             try go_wp2
             go_roundw
             case rel => exact ⟨j + 1, hjl, by go_num, H8, ⟨S.out.below_ (pw_below_drewN (below_alloc (Below.refl _ _) _) nq)⟩⟩
             case measure => simp [intOf]; omega
           ·have q1 : (x.f0 == cj) = false := beq_eq_false_iff_ne.2 q0
            have q2 : (x.f0 != cj) = true := bne_iff_ne.2 q0
            have q3 : (x.f0 = cj) = False := eq_false q0
            have H8 : r = false := by
             have h1 := H7.out
             rw [show C.length - j = C.length - (j + 1) + 1 by omega] at h1
             unfold endM at h1
             rw [if_neg (by rw [hx, hcj]; unfold okEnd; first | (rw [if_pos rfl, if_pos q1, if_pos q2, decide_eq_false q4]; simp; done) | (rw [if_pos rfl, if_pos q1, if_neg q2]; simp; done) | (rw [if_neg q0]; simp))] at h1
             exact h1.symm
            subst H8
            clear H7
            go_wp2
            go_quiet (fail)
            try go_wp2
            go_ret
            exact ⟨rfl, pw_below_drewN (below_alloc S.out.below _) nq⟩
          ·have hp0 : ((j : Int) < (C.length : Int)) = False := eq_false (by omega)
           have H8 : r = true := by
            have h1 := H7.out
            rw [show C.length - j = 0 by omega] at h1
            exact h1.symm
           subst H8
           clear H7
           go_wp2
           go_ret
           exact ⟨rfl, S.out.below⟩
def impl_GoodCow.f (l0_0 : List S68) (l0_1 : List Int) (a0_2 : Int) : Option Bool := goodC 100 l0_0 l0_1 a0_2
theorem impl_GoodCow.calls (A0_0 : Option Addr) (c0_0 : Nat) (l0_0 : List S68) (A0_1 : Option Addr) (c0_1 : Nat) (l0_1 : List Int) (a0_2 : Int) (r : Bool) (w : World) (hr0_0 : Kd.C k68 w A0_0 l0_0.length l0_0) (hc0_0 : l0_0.length ≤ c0_0) (hr0_1 : (Kd.int .i64).C w A0_1 l0_1.length l0_1) (hc0_1 : l0_1.length ≤ c0_1) (h : impl_GoodCow.f l0_0 l0_1 a0_2 = some r) :
  Calls Try.prog 22 #[.agg #[.slice A0_0 l0_0.length c0_0, .slice A0_1 l0_1.length c0_1, .int .i64 a0_2]] w fun e w' => e = .returned (.bool r) ∧ Below w.heap.size w w' :=
 goodC_calls 100 A0_0 c0_0 l0_0 A0_1 c0_1 l0_1 a0_2 r w hr0_0 hc0_0 hr0_1 hc0_1 h
attribute [local go_sem] max2_int min2_int max_two min_two max_three min_three max_four min_four
set_option linter.unusedVariables false
set_option linter.unusedSimpArgs false
mutual
def spec_GoodCow.j0 : Nat → Bool → List (S68) → List Int → Int → Option (Bool)
 | 0, _, _, _, _ => none
 | k + 1, x27, x151000, x151001, x151002 => if x27 = true then (some false) else (if 0 ≤ (x151000.length : Int) then (if ((x151000.length : Int) : Int).toNat ≤ 35184372088832 then (spec_GoodCow.l0 k (List.replicate ((x151000.length : Int) : Int).toNat 0) x151001 (x151001.length : Int) 0 x151000 x151001 x151002) else (none)) else (none))
def spec_GoodCow.l0 : Nat → List Int → List Int → Int → Int → List (S68) → List Int → Int → Option (Bool)
 | 0, _, _, _, _, _, _, _ => none
 | k + 1, x3, x33, x34, x35, x151000, x151001, x151002 => if x35 < x34 then (if 0 ≤ x35 then (if x35 < (x33.length : Int) then ((spec_l14Deep.f x151000 x151001 x151002 (rd x33 x35) x151002 x3).bind fun bt157 => (if bt157.1 = true then (spec_GoodCow.l0 k bt157.2 x33 x34 (wrap64 (x35 + 1)) x151000 x151001 x151002) else (some false))) else (none)) else (none)) else (if 0 ≤ (x151000.length : Int) then (if ((x151000.length : Int) : Int).toNat ≤ 35184372088832 then (spec_GoodCow.l1 k x3 (List.replicate ((x151000.length : Int) : Int).toNat 0) x151001 (x151001.length : Int) 0 x151000 x151001 x151002) else (none)) else (none))
def spec_GoodCow.l1 : Nat → List Int → List Int → List Int → Int → Int → List (S68) → List Int → Int → Option (Bool)
 | 0, _, _, _, _, _, _, _, _ => none
 | k + 1, x3, x6, x52, x53, x54, x151000, x151001, x151002 => if x54 < x53 then (if 0 ≤ x54 then (if x54 < (x52.length : Int) then ((spec_l14Levels.f x151000 x151001 x151002 (rd x52 x54) x151002 x6).bind fun bt163 => (if bt163.1 = true then (spec_GoodCow.l1 k x3 bt163.2 x52 x53 (wrap64 (x54 + 1)) x151000 x151001 x151002) else (some false))) else (none)) else (none)) else (spec_GoodCow.l2 k x3 x151000 (x151000.length : Int) 0)
def spec_GoodCow.l2 : Nat → List Int → List (S68) → Int → Int → Option (Bool)
 | 0, _, _, _, _ => none
 | k + 1, x3, x67, x68, x69 => if x69 < x68 then (if 0 ≤ x69 then (if x69 < (x67.length : Int) then (if x69 < (x3.length : Int) then (if ((rd_T68 x67 x69).f0) = (rd x3 x69) then (if ((rd_T68 x67 x69).f0) = 0 then (if ((rd_T68 x67 x69).f1).toList = ([] : List UInt8) then (if (((rd_T68 x67 x69).f2).length : Int) > 0 then (some false) else (spec_GoodCow.l2 k x3 x67 x68 (wrap64 (x69 + 1)))) else (some false)) else (spec_GoodCow.l2 k x3 x67 x68 (wrap64 (x69 + 1)))) else (some false)) else (none)) else (none)) else (none)) else (some true)
end
def spec_GoodCow.f (k : Nat) (l0_0 : List (S68)) (l0_1 : List Int) (a0_2 : Int) : Option (Bool) := (spec_l1In.f a0_2 1 3).bind fun t151 => (if t151 = true then (if (l0_0.length : Int) > 80 then (spec_GoodCow.j0 k true l0_0 l0_1 a0_2) else ((spec_l1In.f (l0_1.length : Int) 1 8).bind fun t152 => (spec_GoodCow.j0 k (!t152) l0_0 l0_1 a0_2))) else (spec_GoodCow.j0 k true l0_0 l0_1 a0_2))
set_option maxHeartbeats 8000000 in
set_option maxRecDepth 100000 in
theorem spec_GoodCow.calls (k : Nat) (A0_0 : Option Addr) (c0_0 : Nat) (l0_0 : List (S68)) (A0_1 : Option Addr) (c0_1 : Nat) (l0_1 : List Int) (a0_2 : Int) (r : Bool) (w : World) (hr0_0 : Kd.C k68 w A0_0 l0_0.length l0_0) (hc0_0 : l0_0.length ≤ c0_0) (hr0_1 : Kd.C (Kd.int .i64) w A0_1 l0_1.length l0_1) (hc0_1 : l0_1.length ≤ c0_1) (h : spec_GoodCow.f k l0_0 l0_1 a0_2 = some r) :
  Calls Try.prog 20 #[.agg #[.slice A0_0 l0_0.length c0_0, .slice A0_1 l0_1.length c0_1, .int .i64 a0_2]] w fun e w' => e = .returned (.bool r) ∧ Below w.heap.size w w' := by
 have hu25 := Try.underlying25
 have hu68 := Try.underlying68
 have HR0_0 := Aside0.mk hr0_0
 have HC0_0 := Aside0.mk hc0_0
 clear hr0_0 hc0_0
 have HR0_1 := Aside0.mk hr0_1
 have HC0_1 := Aside0.mk hc0_1
 clear hr0_1 hc0_1
 have HB := Aside0.mk (Below.refl w.heap.size w)
 have H : ((spec_l1In.f a0_2 1 3).bind fun t151 => (if t151 = true then (if (l0_0.length : Int) > 80 then (spec_GoodCow.j0 k true l0_0 l0_1 a0_2) else ((spec_l1In.f (l0_1.length : Int) 1 8).bind fun t152 => (spec_GoodCow.j0 k (!t152) l0_0 l0_1 a0_2))) else (spec_GoodCow.j0 k true l0_0 l0_1 a0_2))) = some r := h
 clear h
 have HC2 := Aside0.mk H
 clear H
 go_enter Try.func20, Try.ntmps20
 go_upto_region 1 with (first | ((with_reducible refine gate_dst (N := 1) rfl ?_); (try (refine gate_guard (by rfl) ?_; dsimp only)); refine box_event ?hg (N := 1) ?hd (cs := #[.slice A0_0 l0_0.length c0_0, .slice A0_1 l0_1.length c0_1, .int .i64 a0_2]) (t := 25) ?hr ?_; (case hd => rfl); (case hg => rfl); (case hr => first | (go_simp; done) | (go_simp; rfl)); intro gb150 hg w3 hbox hb; have BK150 := Aside0.mk (hbox); have GW150 := Aside0.mk ((by rw [hg]; exact (below_size (by with_reducible repeat (first | exact HB.out | apply below_alloc | apply pw_below_drewN | apply below_drew1))) : w.heap.size ≤ gb150)); have GE150 := Aside0.mk ((by rw [hg]; exact (below_size (by with_reducible repeat (first | exact HB.out | apply below_alloc | apply pw_below_drewN | apply below_drew1))) : w.heap.size ≤ gb150)); replace HB := Aside0.mk (below_step (by with_reducible repeat (first | exact HB.out | apply below_alloc | apply pw_below_drewN | apply below_drew1)) hb); clear hb hbox hg))
 repeat (go_quiet (first | ((with_reducible refine gate_dst (N := 1) rfl ?_); (try (refine gate_guard (by rfl) ?_; dsimp only)); refine box_event ?hg (N := 1) ?hd (cs := #[.slice A0_0 l0_0.length c0_0, .slice A0_1 l0_1.length c0_1, .int .i64 a0_2]) (t := 25) ?hr ?_; (case hd => rfl); (case hg => rfl); (case hr => first | (go_simp; done) | (go_simp; rfl)); intro gb150 hg w3 hbox hb; have BK150 := Aside0.mk (hbox); have GW150 := Aside0.mk ((by rw [hg]; exact (below_size (by with_reducible repeat (first | exact HB.out | apply below_alloc | apply pw_below_drewN | apply below_drew1))) : w.heap.size ≤ gb150)); have GE150 := Aside0.mk ((by rw [hg]; exact (below_size (by with_reducible repeat (first | exact HB.out | apply below_alloc | apply pw_below_drewN | apply below_drew1))) : w.heap.size ≤ gb150)); replace HB := Aside0.mk (below_step (by with_reducible repeat (first | exact HB.out | apply below_alloc | apply pw_below_drewN | apply below_drew1)) hb); clear hb hbox hg)); go_upto_region 1 with (first | ((with_reducible refine gate_dst (N := 1) rfl ?_); (try (refine gate_guard (by rfl) ?_; dsimp only)); refine box_event ?hg (N := 1) ?hd (cs := #[.slice A0_0 l0_0.length c0_0, .slice A0_1 l0_1.length c0_1, .int .i64 a0_2]) (t := 25) ?hr ?_; (case hd => rfl); (case hg => rfl); (case hr => first | (go_simp; done) | (go_simp; rfl)); intro gb150 hg w3 hbox hb; have BK150 := Aside0.mk (hbox); have GW150 := Aside0.mk ((by rw [hg]; exact (below_size (by with_reducible repeat (first | exact HB.out | apply below_alloc | apply pw_below_drewN | apply below_drew1))) : w.heap.size ≤ gb150)); have GE150 := Aside0.mk ((by rw [hg]; exact (below_size (by with_reducible repeat (first | exact HB.out | apply below_alloc | apply pw_below_drewN | apply below_drew1))) : w.heap.size ≤ gb150)); replace HB := Aside0.mk (below_step (by with_reducible repeat (first | exact HB.out | apply below_alloc | apply pw_below_drewN | apply below_drew1)) hb); clear hb hbox hg)))
 (try simp only [apu_])
 go_cut [27] (fun v27 wc => ∃ (kq : Nat) (x27_1 : Bool), v27 = .bool x27_1 ∧ Aside0 (spec_GoodCow.j0 kq x27_1 l0_0 l0_1 a0_2 = some r) ∧ Aside0 (kq ≤ k) ∧ Aside0 (wc.heap[gb150]? = some (.cells #[(.slice A0_0 l0_0.length c0_0), (.slice A0_1 l0_1.length c0_1), .int .i64 a0_2] 25 (0, 0))) ∧ Aside0 (Below w.heap.size w wc))
 case first =>
  have H := HC2.out
  clear HC2
  replace H := Option.bind_eq_some_iff.mp H
  obtain ⟨t151, A40, H⟩ := H
  replace H : (if t151 = true then (if (l0_0.length : Int) > 80 then (spec_GoodCow.j0 k true l0_0 l0_1 a0_2) else ((spec_l1In.f (l0_1.length : Int) 1 8).bind fun t152 => (spec_GoodCow.j0 k (!t152) l0_0 l0_1 a0_2))) else (spec_GoodCow.j0 k true l0_0 l0_1 a0_2)) = some r := H
  have A4 := Aside0.mk A40
  clear A40
  by_cases c5 : t151 = true
  ·subst c5
   have H1 : (if (l0_0.length : Int) > 80 then (spec_GoodCow.j0 k true l0_0 l0_1 a0_2) else ((spec_l1In.f (l0_1.length : Int) 1 8).bind fun t152 => (spec_GoodCow.j0 k (!t152) l0_0 l0_1 a0_2))) = some r := by rw [if_pos rfl] at H; exact H
   clear H
   have H := H1
   clear H1
   by_cases c6 : (l0_0.length : Int) > 80
   ·rw [if_pos c6] at H
    have c6b0 : decide (80 < (l0_0.length : Int)) = true := decide_eq_true c6
    have c6b1 : decide (80 < l0_0.length) = true := decide_eq_true (by omega)
    clear c6
    (first | rw [c6b0] | (simp only [i64_w, i32_w]; rw [c6b0]) | skip)
    have H' := Aside0.mk H
    clear H
    have hcz7_0 : w3.cell? ⟨gb150, 0, none⟩ = some (.slice A0_0 l0_0.length c0_0) := (blk_cell BK150.out 0).trans rfl
    have hcz7_1 : w3.cell? ⟨gb150, 1, none⟩ = some (.slice A0_1 l0_1.length c0_1) := (blk_cell BK150.out 1).trans rfl
    have hcz7_2 : w3.cell? ⟨gb150, 2, none⟩ = some (.int .i64 a0_2) := (blk_cell BK150.out 2).trans rfl
    have hfz7_0 := blk_frozen BK150.out 0
    have hfz7_1 := blk_frozen BK150.out 1
    have hfz7_2 := blk_frozen BK150.out 2
    go_wp2_with (first | (go_at_call 44; (with_reducible refine (spec_l1In.calls a0_2 1 3 true _ A4.out).mono ?_); rintro e w' ⟨rfl, ⟨nd, rfl⟩⟩; (try first | exact ⟨rfl, _, World.drewN_drewN _ _ _⟩ | exact ⟨rfl, _, Eq.trans (World.drewN_drewN _ _ _) (congrArg (World.drewN _) (Nat.add_assoc _ _ _))⟩)))
    repeat (go_quiet (fail); try go_wp2)
    go_meet
    case rel => exact ⟨_, (true), (by first | rfl | (simp; done) | (simp [*]; done)), H', ⟨by first | omega | exact Nat.le_refl _⟩, ⟨by (with_reducible repeat (first | refine blk_drewN ?_ _ | refine blk_drew ?_ | refine blk_alloc ?_ _)); exact BK150.out⟩, ⟨by with_reducible repeat (first | exact HB.out | apply below_alloc | apply pw_below_drewN | apply below_drew1 | refine below_set ?_ GE150.out)⟩⟩
   ·rw [if_neg c6] at H
    have c6b0 : decide (80 < (l0_0.length : Int)) = false := decide_eq_false c6
    have c6b1 : decide (80 < l0_0.length) = false := decide_eq_false (by omega)
    clear c6
    (first | rw [c6b0] | (simp only [i64_w, i32_w]; rw [c6b0]) | skip)
    replace H := Option.bind_eq_some_iff.mp H
    obtain ⟨t152, A80, H⟩ := H
    replace H : (spec_GoodCow.j0 k (!t152) l0_0 l0_1 a0_2) = some r := H
    have A8 := Aside0.mk A80
    clear A80
    have H' := Aside0.mk H
    clear H
    have hcz9_0 : w3.cell? ⟨gb150, 0, none⟩ = some (.slice A0_0 l0_0.length c0_0) := (blk_cell BK150.out 0).trans rfl
    have hcz9_1 : w3.cell? ⟨gb150, 1, none⟩ = some (.slice A0_1 l0_1.length c0_1) := (blk_cell BK150.out 1).trans rfl
    have hcz9_2 : w3.cell? ⟨gb150, 2, none⟩ = some (.int .i64 a0_2) := (blk_cell BK150.out 2).trans rfl
    have hfz9_0 := blk_frozen BK150.out 0
    have hfz9_1 := blk_frozen BK150.out 1
    have hfz9_2 := blk_frozen BK150.out 2
    go_wp2_with (first | (go_at_call 44; (with_reducible refine (spec_l1In.calls a0_2 1 3 true _ A4.out).mono ?_); rintro e w' ⟨rfl, ⟨nd, rfl⟩⟩; (try first | exact ⟨rfl, _, World.drewN_drewN _ _ _⟩ | exact ⟨rfl, _, Eq.trans (World.drewN_drewN _ _ _) (congrArg (World.drewN _) (Nat.add_assoc _ _ _))⟩)) | (go_at_call 44; (with_reducible refine (spec_l1In.calls (l0_1.length : Int) 1 8 t152 _ A8.out).mono ?_); rintro e w' ⟨rfl, ⟨nd, rfl⟩⟩; (try first | exact ⟨rfl, _, World.drewN_drewN _ _ _⟩ | exact ⟨rfl, _, Eq.trans (World.drewN_drewN _ _ _) (congrArg (World.drewN _) (Nat.add_assoc _ _ _))⟩)))
    repeat (go_quiet (fail); try go_wp2)
    go_meet
    case rel => exact ⟨_, (!t152), (by first | rfl | (simp; done) | (simp [*]; done)), H', ⟨by first | omega | exact Nat.le_refl _⟩, ⟨by (with_reducible repeat (first | refine blk_drewN ?_ _ | refine blk_drew ?_ | refine blk_alloc ?_ _)); exact BK150.out⟩, ⟨by with_reducible repeat (first | exact HB.out | apply below_alloc | apply pw_below_drewN | apply below_drew1 | refine below_set ?_ GE150.out)⟩⟩
  ·replace c5 := Bool.eq_false_iff.mpr c5
   subst c5
   have H1 : (spec_GoodCow.j0 k true l0_0 l0_1 a0_2) = some r := by rw [if_neg (show ¬ (false = true) by decide)] at H; exact H
   clear H
   have H := H1
   clear H1
   have H' := Aside0.mk H
   clear H
   have hcz10_0 : w3.cell? ⟨gb150, 0, none⟩ = some (.slice A0_0 l0_0.length c0_0) := (blk_cell BK150.out 0).trans rfl
   have hcz10_1 : w3.cell? ⟨gb150, 1, none⟩ = some (.slice A0_1 l0_1.length c0_1) := (blk_cell BK150.out 1).trans rfl
   have hcz10_2 : w3.cell? ⟨gb150, 2, none⟩ = some (.int .i64 a0_2) := (blk_cell BK150.out 2).trans rfl
   have hfz10_0 := blk_frozen BK150.out 0
   have hfz10_1 := blk_frozen BK150.out 1
   have hfz10_2 := blk_frozen BK150.out 2
   go_wp2_with (first | (go_at_call 44; (with_reducible refine (spec_l1In.calls a0_2 1 3 false _ A4.out).mono ?_); rintro e w' ⟨rfl, ⟨nd, rfl⟩⟩; (try first | exact ⟨rfl, _, World.drewN_drewN _ _ _⟩ | exact ⟨rfl, _, Eq.trans (World.drewN_drewN _ _ _) (congrArg (World.drewN _) (Nat.add_assoc _ _ _))⟩)))
   repeat (go_quiet (fail); try go_wp2)
   go_meet
   case rel => exact ⟨_, (true), (by first | rfl | (simp; done) | (simp [*]; done)), H', ⟨by first | omega | exact Nat.le_refl _⟩, ⟨by (with_reducible repeat (first | refine blk_drewN ?_ _ | refine blk_drew ?_ | refine blk_alloc ?_ _)); exact BK150.out⟩, ⟨by with_reducible repeat (first | exact HB.out | apply below_alloc | apply pw_below_drewN | apply below_drew1 | refine below_set ?_ GE150.out)⟩⟩
 case rest =>
  clear HC2
  try clear c2
  try clear p2
  try clear c5
  try clear c6
  try clear c6b0
  try clear c6b1
  try clear hcz10_0
  try clear hcz10_1
  try clear hcz10_2
  try clear hcz7_0
  try clear hcz7_1
  try clear hcz7_2
  try clear hcz9_0
  try clear hcz9_1
  try clear hcz9_2
  try clear hfz10_0
  try clear hfz10_1
  try clear hfz10_2
  try clear hfz7_0
  try clear hfz7_1
  try clear hfz7_2
  try clear hfz9_0
  try clear hfz9_1
  try clear hfz9_2
  obtain ⟨kq, x27_1, rfl, HA, HJ1, BK150, HB⟩ := hcut
  cases kq with
  | zero => exact absurd HA.out (by simp [spec_GoodCow.j0])
  | succ kj1 =>
   have H := HA.out
   clear HA
   simp only [spec_GoodCow.j0] at H
   by_cases c11 : x27_1 = true
   ·subst c11
    have H1 : (some false) = some r := by rw [if_pos rfl] at H; exact H
    clear H
    have H := H1
    clear H1
    obtain rfl := Option.some.inj H
    go_wp2
    repeat (go_quiet (fail); try go_wp2)
    go_ret
    exact ⟨by first | rfl | (simp [errW_none, errW_some] <;> rfl) | (simp [*, errW_none, errW_some] <;> rfl) | (simp [E.isEmpty_bne]; done) | (rw [E.bne_empty]), by with_reducible repeat (first | exact HB.out | apply below_alloc | apply pw_below_drewN | apply below_drew1 | refine below_set ?_ GE150.out)⟩
   ·replace c11 := Bool.eq_false_iff.mpr c11
    subst c11
    have H1 : (if 0 ≤ (l0_0.length : Int) then (if ((l0_0.length : Int) : Int).toNat ≤ 35184372088832 then (spec_GoodCow.l0 kj1 (List.replicate ((l0_0.length : Int) : Int).toNat 0) l0_1 (l0_1.length : Int) 0 l0_0 l0_1 a0_2) else (none)) else (none)) = some r := by rw [if_neg (show ¬ (false = true) by decide)] at H; exact H
    clear H
    have H := H1
    clear H1
    by_cases c12 : 0 ≤ (l0_0.length : Int)
    ·rw [if_pos c12] at H
     have c12b0 := eq_true c12
     have c12b1 : decide (0 ≤ (l0_0.length : Int)) = true := decide_eq_true c12
     clear c12
     by_cases c13 : ((l0_0.length : Int) : Int).toNat ≤ 35184372088832
     ·rw [if_pos c13] at H
      have c13b0 := eq_true c13
      have c13b1 : decide (((l0_0.length : Int) : Int).toNat ≤ 35184372088832) = true := decide_eq_true c13
      clear c13
      obtain ⟨y153, hy153⟩ : ∃ y_ : List Int, y_ = (List.replicate ((l0_0.length : Int) : Int).toNat 0) := ⟨_, rfl⟩
      replace H : (spec_GoodCow.l0 kj1 y153 l0_1 (l0_1.length : Int) 0 l0_0 l0_1 a0_2) = some r := by first | (rw [hy153]; with_reducible exact H) | (have H2_ := (Option.bind_some _ _).symm.trans H; rw [hy153]; with_reducible exact H2_) | (have H2_ := (Option.bind_some _ _).symm.trans H; with_reducible exact H2_) | with_reducible exact H | (rw [hy153]; exact H) | exact H
      have Ny153 := Aside0.mk hy153
      clear hy153
      have H' := Aside0.mk H
      clear H
      have hcz14_0 : wc.cell? ⟨gb150, 0, none⟩ = some (.slice A0_0 l0_0.length c0_0) := (blk_cell BK150.out 0).trans rfl
      have hcz14_1 : wc.cell? ⟨gb150, 1, none⟩ = some (.slice A0_1 l0_1.length c0_1) := (blk_cell BK150.out 1).trans rfl
      have hcz14_2 : wc.cell? ⟨gb150, 2, none⟩ = some (.int .i64 a0_2) := (blk_cell BK150.out 2).trans rfl
      have hfz14_0 := blk_frozen BK150.out 0
      have hfz14_1 := blk_frozen BK150.out 1
      have hfz14_2 := blk_frozen BK150.out 2
      go_wp2_with (first | ((with_reducible refine gate_dst (N := 31) rfl ?_); (try (refine gate_guard (by rfl) ?_; dsimp only)); refine Kd.R_make (Kd.int .i64) _ 3 rfl (N := 31) rfl 23 _ _ rfl (l0_0.length : Int) rfl rfl Try.underlying23 (.int .i64 0) 8 info3 rfl (by decide) (by omega) 0 (ok := fun _ => True) (okp := fun _ => True) rfl (fun _ hk => hk) trivial (of_decide_eq_true (by assumption)) (Nat.le_trans (Nat.mul_le_mul_right _ (of_decide_eq_true (by assumption) : (l0_0.length : Int).toNat ≤ 35184372088832)) (by omega)) (Below.refl _ _) (Nat.le_refl _) ?_; intro v154 w15 ho16 hb hg_ hnew_; clear hg_ hnew_; (first | rw [← Ny153.out] at ho16 | (simp only [Int.reduceToNat] at ho16; rw [← Ny153.out] at ho16)); have HO155 := Aside0.mk (Kd.R_lower ho16 (below_size (by with_reducible repeat (first | exact HB.out | apply below_alloc | apply pw_below_drewN | apply below_drew1 | refine below_set ?_ GE150.out)))); replace BK150 := Aside0.mk (blk_below (g := gb150) (o := .cells #[.slice A0_0 l0_0.length c0_0, .slice A0_1 l0_1.length c0_1, .int .i64 a0_2] 25 (0, 0)) (by (with_reducible repeat (first | refine blk_drewN ?_ _ | refine blk_drew ?_ | refine blk_alloc ?_ _)); exact BK150.out) hb); replace HB := Aside0.mk (below_step (by with_reducible repeat (first | exact HB.out | apply below_alloc | apply pw_below_drewN | apply below_drew1 | refine below_set ?_ GE150.out)) hb); clear hb ho16; have hcz17_0 : w15.cell? ⟨gb150, 0, none⟩ = some (.slice A0_0 l0_0.length c0_0) := (blk_cell BK150.out 0).trans rfl; have hcz17_1 : w15.cell? ⟨gb150, 1, none⟩ = some (.slice A0_1 l0_1.length c0_1) := (blk_cell BK150.out 1).trans rfl; have hcz17_2 : w15.cell? ⟨gb150, 2, none⟩ = some (.int .i64 a0_2) := (blk_cell BK150.out 2).trans rfl; have hfz17_0 := blk_frozen BK150.out 0; have hfz17_1 := blk_frozen BK150.out 1; have hfz17_2 := blk_frozen BK150.out 2))
      repeat (go_quiet (fail); try go_wp2)
      go_loopg [35] kj1 (fun kq v35 w' => ∃ (x3_2 : List Int) (x35_2 : Int), v35 = .int .i64 x35_2 ∧ Aside0 (spec_GoodCow.l0 kq x3_2 l0_1 (l0_1.length : Int) x35_2 l0_0 l0_1 a0_2 = some r) ∧ Aside0 (kq ≤ kj1) ∧ Aside0 (Kd.R (Kd.int .i64) 3 w' w.heap.size (fun _ => True) v154 x3_2) ∧ Aside0 (w'.heap[gb150]? = some (.cells #[(.slice A0_0 l0_0.length c0_0), (.slice A0_1 l0_1.length c0_1), .int .i64 a0_2] 25 (0, 0))) ∧ Aside0 (Below w.heap.size w w'))
      case atStart => exact ⟨(y153), (0), (by first | rfl | (simp; done) | (simp [*]; done)), H', ⟨Nat.le_refl _⟩, ⟨by (with_reducible repeat (first | apply Kd.R_alloc | apply Kd.R_drewN | apply Kd.R_drew)); exact HO155.out⟩, ⟨by (with_reducible repeat (first | refine blk_drewN ?_ _ | refine blk_drew ?_ | refine blk_alloc ?_ _)); exact BK150.out⟩, ⟨by with_reducible repeat (first | exact HB.out | apply below_alloc | apply pw_below_drewN | apply below_drew1 | refine below_set ?_ GE150.out)⟩⟩
      case round =>
       clear H'
       try clear c1
       try clear c2
       try clear p2
       try clear c5
       try clear c6
       try clear c6b0
       try clear c6b1
       try clear c11
       try clear c12
       try clear c12b0
       try clear c12b1
       try clear c13
       try clear c13b0
       try clear c13b1
       try clear hcz10_0
       try clear hcz10_1
       try clear hcz10_2
       try clear hcz14_0
       try clear hcz14_1
       try clear hcz14_2
       try clear hcz17_0
       try clear hcz17_1
       try clear hcz17_2
       try clear hcz7_0
       try clear hcz7_1
       try clear hcz7_2
       try clear hcz9_0
       try clear hcz9_1
       try clear hcz9_2
       try clear hfz10_0
       try clear hfz10_1
       try clear hfz10_2
       try clear hfz14_0
       try clear hfz14_1
       try clear hfz14_2
       try clear hfz17_0
       try clear hfz17_1
       try clear hfz17_2
       try clear hfz7_0
       try clear hfz7_1
       try clear hfz7_2
       try clear hfz9_0
       try clear hfz9_1
       try clear hfz9_2
       try clear p2
       obtain ⟨x3_2, x35_2, rfl, HA, HK2, HO_3, BK150, HB⟩ := hrel
       cases gk with
       | zero => exact absurd HA.out (by simp [spec_GoodCow.l0])
       | succ k2 =>
        have H := HA.out
        clear HA
        simp only [spec_GoodCow.l0] at H
        by_cases c18 : x35_2 < (l0_1.length : Int)
        ·rw [if_pos c18] at H
         have c18b0 : decide (x35_2 < (l0_1.length : Int)) = true := decide_eq_true c18
         clear c18
         by_cases c19 : 0 ≤ x35_2
         ·rw [if_pos c19] at H
          have c19b0 : decide (0 ≤ x35_2) = true := decide_eq_true c19
          clear c19
          by_cases c20 : x35_2 < (l0_1.length : Int)
          ·rw [if_pos c20] at H
           have c20b0 : decide (x35_2 < (l0_1.length : Int)) = true := decide_eq_true c20
           clear c20
           replace H := Option.bind_eq_some_iff.mp H
           obtain ⟨⟨t157, t158⟩, A210, H⟩ := H
           replace H : (if t157 = true then (spec_GoodCow.l0 k2 t158 l0_1 (l0_1.length : Int) (wrap64 (x35_2 + 1)) l0_0 l0_1 a0_2) else (some false)) = some r := H
           have A21 := Aside0.mk A210
           clear A210
           by_cases c22 : t157 = true
           ·subst c22
            have H1 : (spec_GoodCow.l0 k2 t158 l0_1 (l0_1.length : Int) (wrap64 (x35_2 + 1)) l0_0 l0_1 a0_2) = some r := by rw [if_pos rfl] at H; exact H
            clear H
            have H := H1
            clear H1
            have H' := Aside0.mk H
            clear H
            have p156 : 0 ≤ (x35_2 : Int) := of_decide_eq_true (by assumption)
            have q156 : x35_2 < (l0_1.length : Int) := of_decide_eq_true (by assumption)
            obtain ⟨ad156, e156, hx156_0⟩ := Kd.at_int HR0_1.out x35_2 p156 q156
            cases e156
            replace hx156_0 := (HB.out.cell (World.block_lt_of_cell? w _ hx156_0)).trans hx156_0
            replace p156 := eq_true p156
            replace q156 := eq_true q156
            have hcz23_0 : wr.cell? ⟨gb150, 0, none⟩ = some (.slice A0_0 l0_0.length c0_0) := (blk_cell BK150.out 0).trans rfl
            have hcz23_1 : wr.cell? ⟨gb150, 1, none⟩ = some (.slice (some ad156) l0_1.length c0_1) := (blk_cell BK150.out 1).trans rfl
            have hcz23_2 : wr.cell? ⟨gb150, 2, none⟩ = some (.int .i64 a0_2) := (blk_cell BK150.out 2).trans rfl
            have hfz23_0 := blk_frozen BK150.out 0
            have hfz23_1 := blk_frozen BK150.out 1
            have hfz23_2 := blk_frozen BK150.out 2
            obtain ⟨Ao24, co24, eo24⟩ := Kd.R_slice HO_3.out
            subst eo24
            go_wp2_with (first | (go_at_call 54; (with_reducible refine (spec_l14Deep.calls _ _ l0_0 _ _ l0_1 a0_2 (rd l0_1 x35_2) a0_2 (fun k_ => some k_ = (.slice Ao24 x3_2.length co24 : Value).ownBlock) (.slice Ao24 x3_2.length co24) x3_2 true t158 w _ ?side1 ?side2 ?side3 ?side4 ?side5 ?side6 A21.out).mono ?_); (case side1 => with_reducible repeat (first | exact HB.out | apply below_alloc | apply pw_below_drewN | apply below_drew1 | refine below_set ?_ GE150.out)); (case side2 => exact Kd.C_kept_came k68_heap HR0_0.out (by with_reducible repeat (first | exact HB.out | apply below_alloc | apply pw_below_drewN | apply below_drew1 | refine below_set ?_ GE150.out)) (fun k_ hs_ => (fun e_ => Kd.R_base HO_3.out k_ e_.symm) hs_)); (case side3 => exact HC0_0.out); (case side4 => exact Kd.C_kept_came (Kd.heap_int .i64) HR0_1.out (by with_reducible repeat (first | exact HB.out | apply below_alloc | apply pw_below_drewN | apply below_drew1 | refine below_set ?_ GE150.out)) (fun k_ hs_ => (fun e_ => Kd.R_base HO_3.out k_ e_.symm) hs_)); (case side5 => exact HC0_1.out); (case side6 => exact Kd.R_tight rfl HO_3.out); rintro e w25 ⟨rfl, hy0, hb, hkp⟩; replace BK150 := Aside0.mk (blk_kept (by (with_reducible repeat (first | refine blk_drewN ?_ _ | refine blk_drew ?_ | refine blk_alloc ?_ _)); exact BK150.out) hkp (fun hs_ => (fun e_ => (Kd.R_ne HO_3.out BK150.out (by decide)) e_) hs_)); replace HO_3 := Aside0.mk (Kd.R_reok rfl hy0 (fun k_ e_ => HO_3.out.1 k_ e_)); replace HB := Aside0.mk (hb); (try clear hb); (try clear hkp); (try clear hy0)))
            repeat (go_quiet (fail); try go_wp2)
            go_roundg k2
            case measure => have := HJ1.out; have := HK2.out; omega
            case rel => exact ⟨(t158), (wrap64 (x35_2 + 1)), (by first | rfl | (simp; done) | (simp [*]; done)), H', ⟨by have := HJ1.out; have := HK2.out; omega⟩, ⟨by (with_reducible repeat (first | apply Kd.R_alloc | apply Kd.R_drewN | apply Kd.R_drew)); exact HO_3.out⟩, ⟨by (with_reducible repeat (first | refine blk_drewN ?_ _ | refine blk_drew ?_ | refine blk_alloc ?_ _)); exact BK150.out⟩, ⟨by with_reducible repeat (first | exact HB.out | apply below_alloc | apply pw_below_drewN | apply below_drew1 | refine below_set ?_ GE150.out)⟩⟩
           ·replace c22 := Bool.eq_false_iff.mpr c22
            subst c22
            have H1 : (some false) = some r := by rw [if_neg (show ¬ (false = true) by decide)] at H; exact H
            clear H
            have H := H1
            clear H1
            obtain rfl := Option.some.inj H
            have p156 : 0 ≤ (x35_2 : Int) := of_decide_eq_true (by assumption)
            have q156 : x35_2 < (l0_1.length : Int) := of_decide_eq_true (by assumption)
            obtain ⟨ad156, e156, hx156_0⟩ := Kd.at_int HR0_1.out x35_2 p156 q156
            cases e156
            replace hx156_0 := (HB.out.cell (World.block_lt_of_cell? w _ hx156_0)).trans hx156_0
            replace p156 := eq_true p156
            replace q156 := eq_true q156
            have hcz26_0 : wr.cell? ⟨gb150, 0, none⟩ = some (.slice A0_0 l0_0.length c0_0) := (blk_cell BK150.out 0).trans rfl
            have hcz26_1 : wr.cell? ⟨gb150, 1, none⟩ = some (.slice (some ad156) l0_1.length c0_1) := (blk_cell BK150.out 1).trans rfl
            have hcz26_2 : wr.cell? ⟨gb150, 2, none⟩ = some (.int .i64 a0_2) := (blk_cell BK150.out 2).trans rfl
            have hfz26_0 := blk_frozen BK150.out 0
            have hfz26_1 := blk_frozen BK150.out 1
            have hfz26_2 := blk_frozen BK150.out 2
            obtain ⟨Ao27, co27, eo27⟩ := Kd.R_slice HO_3.out
            subst eo27
            go_wp2_with (first | (go_at_call 54; (with_reducible refine (spec_l14Deep.calls _ _ l0_0 _ _ l0_1 a0_2 (rd l0_1 x35_2) a0_2 (fun k_ => some k_ = (.slice Ao27 x3_2.length co27 : Value).ownBlock) (.slice Ao27 x3_2.length co27) x3_2 false t158 w _ ?side1 ?side2 ?side3 ?side4 ?side5 ?side6 A21.out).mono ?_); (case side1 => with_reducible repeat (first | exact HB.out | apply below_alloc | apply pw_below_drewN | apply below_drew1 | refine below_set ?_ GE150.out)); (case side2 => exact Kd.C_kept_came k68_heap HR0_0.out (by with_reducible repeat (first | exact HB.out | apply below_alloc | apply pw_below_drewN | apply below_drew1 | refine below_set ?_ GE150.out)) (fun k_ hs_ => (fun e_ => Kd.R_base HO_3.out k_ e_.symm) hs_)); (case side3 => exact HC0_0.out); (case side4 => exact Kd.C_kept_came (Kd.heap_int .i64) HR0_1.out (by with_reducible repeat (first | exact HB.out | apply below_alloc | apply pw_below_drewN | apply below_drew1 | refine below_set ?_ GE150.out)) (fun k_ hs_ => (fun e_ => Kd.R_base HO_3.out k_ e_.symm) hs_)); (case side5 => exact HC0_1.out); (case side6 => exact Kd.R_tight rfl HO_3.out); rintro e w28 ⟨rfl, hy0, hb, hkp⟩; replace BK150 := Aside0.mk (blk_kept (by (with_reducible repeat (first | refine blk_drewN ?_ _ | refine blk_drew ?_ | refine blk_alloc ?_ _)); exact BK150.out) hkp (fun hs_ => (fun e_ => (Kd.R_ne HO_3.out BK150.out (by decide)) e_) hs_)); replace HO_3 := Aside0.mk (Kd.R_reok rfl hy0 (fun k_ e_ => HO_3.out.1 k_ e_)); replace HB := Aside0.mk (hb); (try clear hb); (try clear hkp); (try clear hy0)))
            repeat (go_quiet (fail); try go_wp2)
            go_ret
            exact ⟨by first | rfl | (simp [errW_none, errW_some] <;> rfl) | (simp [*, errW_none, errW_some] <;> rfl) | (simp [E.isEmpty_bne]; done) | (rw [E.bne_empty]), by with_reducible repeat (first | exact HB.out | apply below_alloc | apply pw_below_drewN | apply below_drew1 | refine below_set ?_ GE150.out)⟩
          ·rw [if_neg c20] at H
           exact absurd H (by simp)
         ·rw [if_neg c19] at H
          exact absurd H (by simp)
        ·rw [if_neg c18] at H
         have c18b0 : decide (x35_2 < (l0_1.length : Int)) = false := decide_eq_false c18
         clear c18
         by_cases c29 : 0 ≤ (l0_0.length : Int)
         ·rw [if_pos c29] at H
          have c29b0 := eq_true c29
          have c29b1 : decide (0 ≤ (l0_0.length : Int)) = true := decide_eq_true c29
          clear c29
          by_cases c30 : ((l0_0.length : Int) : Int).toNat ≤ 35184372088832
          ·rw [if_pos c30] at H
           have c30b0 := eq_true c30
           have c30b1 : decide (((l0_0.length : Int) : Int).toNat ≤ 35184372088832) = true := decide_eq_true c30
           clear c30
           obtain ⟨y159, hy159⟩ : ∃ y_ : List Int, y_ = (List.replicate ((l0_0.length : Int) : Int).toNat 0) := ⟨_, rfl⟩
           replace H : (spec_GoodCow.l1 k2 x3_2 y159 l0_1 (l0_1.length : Int) 0 l0_0 l0_1 a0_2) = some r := by first | (rw [hy159]; with_reducible exact H) | (have H2_ := (Option.bind_some _ _).symm.trans H; rw [hy159]; with_reducible exact H2_) | (have H2_ := (Option.bind_some _ _).symm.trans H; with_reducible exact H2_) | with_reducible exact H | (rw [hy159]; exact H) | exact H
           have Ny159 := Aside0.mk hy159
           clear hy159
           have H' := Aside0.mk H
           clear H
           have hcz31_0 : wr.cell? ⟨gb150, 0, none⟩ = some (.slice A0_0 l0_0.length c0_0) := (blk_cell BK150.out 0).trans rfl
           have hcz31_1 : wr.cell? ⟨gb150, 1, none⟩ = some (.slice A0_1 l0_1.length c0_1) := (blk_cell BK150.out 1).trans rfl
           have hcz31_2 : wr.cell? ⟨gb150, 2, none⟩ = some (.int .i64 a0_2) := (blk_cell BK150.out 2).trans rfl
           have hfz31_0 := blk_frozen BK150.out 0
           have hfz31_1 := blk_frozen BK150.out 1
           have hfz31_2 := blk_frozen BK150.out 2
           go_wp2_with (first | ((with_reducible refine gate_dst (N := 50) rfl ?_); (try (refine gate_guard (by rfl) ?_; dsimp only)); refine Kd.R_make (Kd.int .i64) _ 3 rfl (N := 50) rfl 23 _ _ rfl (l0_0.length : Int) rfl rfl Try.underlying23 (.int .i64 0) 8 info3 rfl (by decide) (by omega) 0 (ok := fun _ => True) (okp := fun _ => True) rfl (fun _ hk => hk) trivial (of_decide_eq_true (by assumption)) (Nat.le_trans (Nat.mul_le_mul_right _ (of_decide_eq_true (by assumption) : (l0_0.length : Int).toNat ≤ 35184372088832)) (by omega)) (Below.refl _ _) (Nat.le_refl _) ?_; intro v160 w32 ho33 hb hg_ hnew_; clear hg_ hnew_; (first | rw [← Ny159.out] at ho33 | (simp only [Int.reduceToNat] at ho33; rw [← Ny159.out] at ho33)); have HO161 := Aside0.mk (Kd.R_lower (Kd.R_new' ho33 (Kd.R_lt (by (with_reducible repeat (first | apply Kd.R_alloc | apply Kd.R_drewN | apply Kd.R_drew)); exact HO_3.out))) (below_size (by with_reducible repeat (first | exact HB.out | apply below_alloc | apply pw_below_drewN | apply below_drew1 | refine below_set ?_ GE150.out)))); replace HO_3 := Aside0.mk (Kd.R_elder' (by (with_reducible repeat (first | apply Kd.R_alloc | apply Kd.R_drewN | apply Kd.R_drew)); exact HO_3.out) (Kd.R_base ho33) hb); replace BK150 := Aside0.mk (blk_below (g := gb150) (o := .cells #[.slice A0_0 l0_0.length c0_0, .slice A0_1 l0_1.length c0_1, .int .i64 a0_2] 25 (0, 0)) (by (with_reducible repeat (first | refine blk_drewN ?_ _ | refine blk_drew ?_ | refine blk_alloc ?_ _)); exact BK150.out) hb); replace HB := Aside0.mk (below_step (by with_reducible repeat (first | exact HB.out | apply below_alloc | apply pw_below_drewN | apply below_drew1 | refine below_set ?_ GE150.out)) hb); clear hb ho33; have hcz34_0 : w32.cell? ⟨gb150, 0, none⟩ = some (.slice A0_0 l0_0.length c0_0) := (blk_cell BK150.out 0).trans rfl; have hcz34_1 : w32.cell? ⟨gb150, 1, none⟩ = some (.slice A0_1 l0_1.length c0_1) := (blk_cell BK150.out 1).trans rfl; have hcz34_2 : w32.cell? ⟨gb150, 2, none⟩ = some (.int .i64 a0_2) := (blk_cell BK150.out 2).trans rfl; have hfz34_0 := blk_frozen BK150.out 0; have hfz34_1 := blk_frozen BK150.out 1; have hfz34_2 := blk_frozen BK150.out 2))
           repeat (go_quiet (fail); try go_wp2)
           go_loopg [54] k2 (fun kq v54 w' => ∃ (x6_3 : List Int) (x54_3 : Int), v54 = .int .i64 x54_3 ∧ Aside0 (spec_GoodCow.l1 kq x3_2 x6_3 l0_1 (l0_1.length : Int) x54_3 l0_0 l0_1 a0_2 = some r) ∧ Aside0 (kq ≤ k2) ∧ Aside0 (Kd.R (Kd.int .i64) 3 w' w.heap.size (fun k_ => some k_ ≠ (v160 : Value).ownBlock) v154 x3_2) ∧ Aside0 (Kd.R (Kd.int .i64) 3 w' w.heap.size (fun k_ => some k_ ≠ (v154 : Value).ownBlock) v160 x6_3) ∧ Aside0 (w'.heap[gb150]? = some (.cells #[(.slice A0_0 l0_0.length c0_0), (.slice A0_1 l0_1.length c0_1), .int .i64 a0_2] 25 (0, 0))) ∧ Aside0 (Below w.heap.size w w'))
           case atStart => exact ⟨(y159), (0), (by first | rfl | (simp; done) | (simp [*]; done)), H', ⟨Nat.le_refl _⟩, ⟨by (with_reducible repeat (first | apply Kd.R_alloc | apply Kd.R_drewN | apply Kd.R_drew)); exact Kd.R_mono HO_3.out (fun _ hk => hk.2)⟩, ⟨by (with_reducible repeat (first | apply Kd.R_alloc | apply Kd.R_drewN | apply Kd.R_drew)); exact Kd.R_mono HO161.out (fun _ hk => hk.2)⟩, ⟨by (with_reducible repeat (first | refine blk_drewN ?_ _ | refine blk_drew ?_ | refine blk_alloc ?_ _)); exact BK150.out⟩, ⟨by with_reducible repeat (first | exact HB.out | apply below_alloc | apply pw_below_drewN | apply below_drew1 | refine below_set ?_ GE150.out)⟩⟩
           case round =>
            clear H'
            try clear c1
            try clear p1
            try clear q1
            try clear hx1
            try clear c2
            try clear p2
            try clear c3
            try clear c5
            try clear c6
            try clear c6b0
            try clear c6b1
            try clear p6
            try clear c11
            try clear c12
            try clear c12b0
            try clear c12b1
            try clear c13
            try clear c13b0
            try clear c13b1
            try clear p15
            try clear q15
            try clear hx15
            try clear c18
            try clear c18b0
            try clear c19
            try clear c19b0
            try clear c20
            try clear c20b0
            try clear c22
            try clear c29
            try clear c29b0
            try clear c29b1
            try clear c30
            try clear c30b0
            try clear c30b1
            try clear hcz10_0
            try clear hcz10_1
            try clear hcz10_2
            try clear hcz14_0
            try clear hcz14_1
            try clear hcz14_2
            try clear hcz17_0
            try clear hcz17_1
            try clear hcz17_2
            try clear hcz23_0
            try clear hcz23_1
            try clear hcz23_2
            try clear hcz26_0
            try clear hcz26_1
            try clear hcz26_2
            try clear hcz31_0
            try clear hcz31_1
            try clear hcz31_2
            try clear hcz34_0
            try clear hcz34_1
            try clear hcz34_2
            try clear hcz7_0
            try clear hcz7_1
            try clear hcz7_2
            try clear hcz9_0
            try clear hcz9_1
            try clear hcz9_2
            try clear hfz10_0
            try clear hfz10_1
            try clear hfz10_2
            try clear hfz14_0
            try clear hfz14_1
            try clear hfz14_2
            try clear hfz17_0
            try clear hfz17_1
            try clear hfz17_2
            try clear hfz23_0
            try clear hfz23_1
            try clear hfz23_2
            try clear hfz26_0
            try clear hfz26_1
            try clear hfz26_2
            try clear hfz31_0
            try clear hfz31_1
            try clear hfz31_2
            try clear hfz34_0
            try clear hfz34_1
            try clear hfz34_2
            try clear hfz7_0
            try clear hfz7_1
            try clear hfz7_2
            try clear hfz9_0
            try clear hfz9_1
            try clear hfz9_2
            try clear hx156_0
            try clear p156
            try clear p2
            try clear q156
            obtain ⟨x6_3, x54_3, rfl, HA, HK3, HO_3, HO_6, BK150, HB⟩ := hrel
            cases gk with
            | zero => exact absurd HA.out (by simp [spec_GoodCow.l1])
            | succ k3 =>
             have H := HA.out
             clear HA
             simp only [spec_GoodCow.l1] at H
             by_cases c35 : x54_3 < (l0_1.length : Int)
             ·rw [if_pos c35] at H
              have c35b0 : decide (x54_3 < (l0_1.length : Int)) = true := decide_eq_true c35
              clear c35
              by_cases c36 : 0 ≤ x54_3
              ·rw [if_pos c36] at H
               have c36b0 : decide (0 ≤ x54_3) = true := decide_eq_true c36
               clear c36
               by_cases c37 : x54_3 < (l0_1.length : Int)
               ·rw [if_pos c37] at H
                have c37b0 : decide (x54_3 < (l0_1.length : Int)) = true := decide_eq_true c37
                clear c37
                replace H := Option.bind_eq_some_iff.mp H
                obtain ⟨⟨t163, t164⟩, A380, H⟩ := H
                replace H : (if t163 = true then (spec_GoodCow.l1 k3 x3_2 t164 l0_1 (l0_1.length : Int) (wrap64 (x54_3 + 1)) l0_0 l0_1 a0_2) else (some false)) = some r := H
                have A38 := Aside0.mk A380
                clear A380
                by_cases c39 : t163 = true
                ·subst c39
                 have H1 : (spec_GoodCow.l1 k3 x3_2 t164 l0_1 (l0_1.length : Int) (wrap64 (x54_3 + 1)) l0_0 l0_1 a0_2) = some r := by rw [if_pos rfl] at H; exact H
                 clear H
                 have H := H1
                 clear H1
                 have H' := Aside0.mk H
                 clear H
                 have p162 : 0 ≤ (x54_3 : Int) := of_decide_eq_true (by assumption)
                 have q162 : x54_3 < (l0_1.length : Int) := of_decide_eq_true (by assumption)
                 obtain ⟨ad162, e162, hx162_0⟩ := Kd.at_int HR0_1.out x54_3 p162 q162
                 cases e162
                 replace hx162_0 := (HB.out.cell (World.block_lt_of_cell? w _ hx162_0)).trans hx162_0
                 replace p162 := eq_true p162
                 replace q162 := eq_true q162
                 have hcz40_0 : wr.cell? ⟨gb150, 0, none⟩ = some (.slice A0_0 l0_0.length c0_0) := (blk_cell BK150.out 0).trans rfl
                 have hcz40_1 : wr.cell? ⟨gb150, 1, none⟩ = some (.slice (some ad162) l0_1.length c0_1) := (blk_cell BK150.out 1).trans rfl
                 have hcz40_2 : wr.cell? ⟨gb150, 2, none⟩ = some (.int .i64 a0_2) := (blk_cell BK150.out 2).trans rfl
                 have hfz40_0 := blk_frozen BK150.out 0
                 have hfz40_1 := blk_frozen BK150.out 1
                 have hfz40_2 := blk_frozen BK150.out 2
                 obtain ⟨Ao41, co41, eo41⟩ := Kd.R_slice HO_6.out
                 subst eo41
                 go_wp2_with (first | (go_at_call 55; (with_reducible refine (spec_l14Levels.calls _ _ l0_0 _ _ l0_1 a0_2 (rd l0_1 x54_3) a0_2 (fun k_ => some k_ = (.slice Ao41 x6_3.length co41 : Value).ownBlock) (.slice Ao41 x6_3.length co41) x6_3 true t164 w _ ?side1 ?side2 ?side3 ?side4 ?side5 ?side6 A38.out).mono ?_); (case side1 => with_reducible repeat (first | exact HB.out | apply below_alloc | apply pw_below_drewN | apply below_drew1 | refine below_set ?_ GE150.out)); (case side2 => exact Kd.C_kept_came k68_heap HR0_0.out (by with_reducible repeat (first | exact HB.out | apply below_alloc | apply pw_below_drewN | apply below_drew1 | refine below_set ?_ GE150.out)) (fun k_ hs_ => (fun e_ => Kd.R_base HO_6.out k_ e_.symm) hs_)); (case side3 => exact HC0_0.out); (case side4 => exact Kd.C_kept_came (Kd.heap_int .i64) HR0_1.out (by with_reducible repeat (first | exact HB.out | apply below_alloc | apply pw_below_drewN | apply below_drew1 | refine below_set ?_ GE150.out)) (fun k_ hs_ => (fun e_ => Kd.R_base HO_6.out k_ e_.symm) hs_)); (case side5 => exact HC0_1.out); (case side6 => exact Kd.R_tight rfl HO_6.out); rintro e w42 ⟨rfl, hy0, hb, hkp⟩; replace HO_3 := Aside0.mk (Kd.R_mono (ok' := fun k_ => some k_ ≠ (.slice Ao41 x6_3.length co41 : Value).ownBlock) (Kd.R_keptB (HO_3.out) hkp (fun k_ hk_ hs_ => (hk_) hs_)) (fun k_ hk_ => hk_.1)); replace BK150 := Aside0.mk (blk_kept (by (with_reducible repeat (first | refine blk_drewN ?_ _ | refine blk_drew ?_ | refine blk_alloc ?_ _)); exact BK150.out) hkp (fun hs_ => (fun e_ => (Kd.R_ne HO_6.out BK150.out (by decide)) e_) hs_)); replace HO_6 := Aside0.mk (Kd.R_reok rfl hy0 (fun k_ e_ => HO_6.out.1 k_ e_)); replace HB := Aside0.mk (hb); (try clear hb); (try clear hkp); (try clear hy0)))
                 repeat (go_quiet (fail); try go_wp2)
                 go_roundg k3
                 case measure => have := HJ1.out; have := HK2.out; have := HK3.out; omega
                 case rel => exact ⟨(t164), (wrap64 (x54_3 + 1)), (by first | rfl | (simp; done) | (simp [*]; done)), H', ⟨by have := HJ1.out; have := HK2.out; have := HK3.out; omega⟩, ⟨by (with_reducible repeat (first | apply Kd.R_alloc | apply Kd.R_drewN | apply Kd.R_drew)); exact HO_3.out⟩, ⟨by (with_reducible repeat (first | apply Kd.R_alloc | apply Kd.R_drewN | apply Kd.R_drew)); exact HO_6.out⟩, ⟨by (with_reducible repeat (first | refine blk_drewN ?_ _ | refine blk_drew ?_ | refine blk_alloc ?_ _)); exact BK150.out⟩, ⟨by with_reducible repeat (first | exact HB.out | apply below_alloc | apply pw_below_drewN | apply below_drew1 | refine below_set ?_ GE150.out)⟩⟩
                ·replace c39 := Bool.eq_false_iff.mpr c39
                 subst c39
                 have H1 : (some false) = some r := by rw [if_neg (show ¬ (false = true) by decide)] at H; exact H
                 clear H
                 have H := H1
                 clear H1
                 obtain rfl := Option.some.inj H
                 have p162 : 0 ≤ (x54_3 : Int) := of_decide_eq_true (by assumption)
                 have q162 : x54_3 < (l0_1.length : Int) := of_decide_eq_true (by assumption)
                 obtain ⟨ad162, e162, hx162_0⟩ := Kd.at_int HR0_1.out x54_3 p162 q162
                 cases e162
                 replace hx162_0 := (HB.out.cell (World.block_lt_of_cell? w _ hx162_0)).trans hx162_0
                 replace p162 := eq_true p162
                 replace q162 := eq_true q162
                 have hcz43_0 : wr.cell? ⟨gb150, 0, none⟩ = some (.slice A0_0 l0_0.length c0_0) := (blk_cell BK150.out 0).trans rfl
                 have hcz43_1 : wr.cell? ⟨gb150, 1, none⟩ = some (.slice (some ad162) l0_1.length c0_1) := (blk_cell BK150.out 1).trans rfl
                 have hcz43_2 : wr.cell? ⟨gb150, 2, none⟩ = some (.int .i64 a0_2) := (blk_cell BK150.out 2).trans rfl
                 have hfz43_0 := blk_frozen BK150.out 0
                 have hfz43_1 := blk_frozen BK150.out 1
                 have hfz43_2 := blk_frozen BK150.out 2
                 obtain ⟨Ao44, co44, eo44⟩ := Kd.R_slice HO_6.out
                 subst eo44
                 go_wp2_with (first | (go_at_call 55; (with_reducible refine (spec_l14Levels.calls _ _ l0_0 _ _ l0_1 a0_2 (rd l0_1 x54_3) a0_2 (fun k_ => some k_ = (.slice Ao44 x6_3.length co44 : Value).ownBlock) (.slice Ao44 x6_3.length co44) x6_3 false t164 w _ ?side1 ?side2 ?side3 ?side4 ?side5 ?side6 A38.out).mono ?_); (case side1 => with_reducible repeat (first | exact HB.out | apply below_alloc | apply pw_below_drewN | apply below_drew1 | refine below_set ?_ GE150.out)); (case side2 => exact Kd.C_kept_came k68_heap HR0_0.out (by with_reducible repeat (first | exact HB.out | apply below_alloc | apply pw_below_drewN | apply below_drew1 | refine below_set ?_ GE150.out)) (fun k_ hs_ => (fun e_ => Kd.R_base HO_6.out k_ e_.symm) hs_)); (case side3 => exact HC0_0.out); (case side4 => exact Kd.C_kept_came (Kd.heap_int .i64) HR0_1.out (by with_reducible repeat (first | exact HB.out | apply below_alloc | apply pw_below_drewN | apply below_drew1 | refine below_set ?_ GE150.out)) (fun k_ hs_ => (fun e_ => Kd.R_base HO_6.out k_ e_.symm) hs_)); (case side5 => exact HC0_1.out); (case side6 => exact Kd.R_tight rfl HO_6.out); rintro e w45 ⟨rfl, hy0, hb, hkp⟩; replace HO_3 := Aside0.mk (Kd.R_mono (ok' := fun k_ => some k_ ≠ (.slice Ao44 x6_3.length co44 : Value).ownBlock) (Kd.R_keptB (HO_3.out) hkp (fun k_ hk_ hs_ => (hk_) hs_)) (fun k_ hk_ => hk_.1)); replace BK150 := Aside0.mk (blk_kept (by (with_reducible repeat (first | refine blk_drewN ?_ _ | refine blk_drew ?_ | refine blk_alloc ?_ _)); exact BK150.out) hkp (fun hs_ => (fun e_ => (Kd.R_ne HO_6.out BK150.out (by decide)) e_) hs_)); replace HO_6 := Aside0.mk (Kd.R_reok rfl hy0 (fun k_ e_ => HO_6.out.1 k_ e_)); replace HB := Aside0.mk (hb); (try clear hb); (try clear hkp); (try clear hy0)))
                 repeat (go_quiet (fail); try go_wp2)
                 go_ret
                 exact ⟨by first | rfl | (simp [errW_none, errW_some] <;> rfl) | (simp [*, errW_none, errW_some] <;> rfl) | (simp [E.isEmpty_bne]; done) | (rw [E.bne_empty]), by with_reducible repeat (first | exact HB.out | apply below_alloc | apply pw_below_drewN | apply below_drew1 | refine below_set ?_ GE150.out)⟩
               ·rw [if_neg c37] at H
                exact absurd H (by simp)
              ·rw [if_neg c36] at H
               exact absurd H (by simp)
             ·rw [if_neg c35] at H
              have c35b0 : decide (x54_3 < (l0_1.length : Int)) = false := decide_eq_false c35
              clear c35
              have H' := Aside0.mk H
              clear H
              have hcz46_0 : wr.cell? ⟨gb150, 0, none⟩ = some (.slice A0_0 l0_0.length c0_0) := (blk_cell BK150.out 0).trans rfl
              have hcz46_1 : wr.cell? ⟨gb150, 1, none⟩ = some (.slice A0_1 l0_1.length c0_1) := (blk_cell BK150.out 1).trans rfl
              have hcz46_2 : wr.cell? ⟨gb150, 2, none⟩ = some (.int .i64 a0_2) := (blk_cell BK150.out 2).trans rfl
              have hfz46_0 := blk_frozen BK150.out 0
              have hfz46_1 := blk_frozen BK150.out 1
              have hfz46_2 := blk_frozen BK150.out 2
              go_wp2
              repeat (go_quiet (fail); try go_wp2)
              go_loopg [69] k3 (fun kq v69 w' => ∃ (x69_4 : Int), v69 = .int .i64 x69_4 ∧ Aside0 (spec_GoodCow.l2 kq x3_2 l0_0 (l0_0.length : Int) x69_4 = some r) ∧ Aside0 (kq ≤ k3) ∧ Aside0 (Kd.R (Kd.int .i64) 3 w' w.heap.size (fun _ => True) v154 x3_2) ∧ Aside0 (w'.heap[gb150]? = some (.cells #[(.slice A0_0 l0_0.length c0_0), (.slice A0_1 l0_1.length c0_1), .int .i64 a0_2] 25 (0, 0))) ∧ Aside0 (Below w.heap.size w w'))
              case atStart => exact ⟨(0), (by first | rfl | (simp; done) | (simp [*]; done)), H', ⟨Nat.le_refl _⟩, ⟨by (with_reducible repeat (first | apply Kd.R_alloc | apply Kd.R_drewN | apply Kd.R_drew)); exact Kd.R_mono HO_3.out (fun _ hk => trivial)⟩, ⟨by (with_reducible repeat (first | refine blk_drewN ?_ _ | refine blk_drew ?_ | refine blk_alloc ?_ _)); exact BK150.out⟩, ⟨by with_reducible repeat (first | exact HB.out | apply below_alloc | apply pw_below_drewN | apply below_drew1 | refine below_set ?_ GE150.out)⟩⟩
              case round =>
               clear H'
               try clear c1
               try clear p1
               try clear q1
               try clear hx1
               try clear c2
               try clear p2
               try clear c3
               try clear c5
               try clear c6
               try clear c6b0
               try clear c6b1
               try clear p6
               try clear c11
               try clear c12
               try clear c12b0
               try clear c12b1
               try clear c13
               try clear c13b0
               try clear c13b1
               try clear p15
               try clear q15
               try clear hx15
               try clear p16
               try clear q16
               try clear hx16
               try clear c18
               try clear c18b0
               try clear c19
               try clear c19b0
               try clear c20
               try clear c20b0
               try clear c22
               try clear c29
               try clear c29b0
               try clear c29b1
               try clear c30
               try clear c30b0
               try clear c30b1
               try clear c35
               try clear c35b0
               try clear c36
               try clear c36b0
               try clear c37
               try clear c37b0
               try clear c39
               try clear hcz10_0
               try clear hcz10_1
               try clear hcz10_2
               try clear hcz14_0
               try clear hcz14_1
               try clear hcz14_2
               try clear hcz17_0
               try clear hcz17_1
               try clear hcz17_2
               try clear hcz23_0
               try clear hcz23_1
               try clear hcz23_2
               try clear hcz26_0
               try clear hcz26_1
               try clear hcz26_2
               try clear hcz31_0
               try clear hcz31_1
               try clear hcz31_2
               try clear hcz34_0
               try clear hcz34_1
               try clear hcz34_2
               try clear hcz40_0
               try clear hcz40_1
               try clear hcz40_2
               try clear hcz43_0
               try clear hcz43_1
               try clear hcz43_2
               try clear hcz46_0
               try clear hcz46_1
               try clear hcz46_2
               try clear hcz7_0
               try clear hcz7_1
               try clear hcz7_2
               try clear hcz9_0
               try clear hcz9_1
               try clear hcz9_2
               try clear hfz10_0
               try clear hfz10_1
               try clear hfz10_2
               try clear hfz14_0
               try clear hfz14_1
               try clear hfz14_2
               try clear hfz17_0
               try clear hfz17_1
               try clear hfz17_2
               try clear hfz23_0
               try clear hfz23_1
               try clear hfz23_2
               try clear hfz26_0
               try clear hfz26_1
               try clear hfz26_2
               try clear hfz31_0
               try clear hfz31_1
               try clear hfz31_2
               try clear hfz34_0
               try clear hfz34_1
               try clear hfz34_2
               try clear hfz40_0
               try clear hfz40_1
               try clear hfz40_2
               try clear hfz43_0
               try clear hfz43_1
               try clear hfz43_2
               try clear hfz46_0
               try clear hfz46_1
               try clear hfz46_2
               try clear hfz7_0
               try clear hfz7_1
               try clear hfz7_2
               try clear hfz9_0
               try clear hfz9_1
               try clear hfz9_2
               try clear hx156_0
               try clear hx162_0
               try clear p1
               try clear p15
               try clear p156
               try clear p162
               try clear p2
               try clear p6
               try clear q1
               try clear q15
               try clear q156
               try clear q162
               obtain ⟨x69_4, rfl, HA, HK4, HO_3, BK150, HB⟩ := hrel
               cases gk with
               | zero => exact absurd HA.out (by simp [spec_GoodCow.l2])
               | succ k4 =>
                have H := HA.out
                clear HA
                simp only [spec_GoodCow.l2] at H
                by_cases c47 : x69_4 < (l0_0.length : Int)
                ·rw [if_pos c47] at H
                 have c47b0 : decide (x69_4 < (l0_0.length : Int)) = true := decide_eq_true c47
                 clear c47
                 by_cases c48 : 0 ≤ x69_4
                 ·rw [if_pos c48] at H
                  have c48b0 : decide (0 ≤ x69_4) = true := decide_eq_true c48
                  clear c48
                  by_cases c49 : x69_4 < (l0_0.length : Int)
                  ·rw [if_pos c49] at H
                   have c49b0 : decide (x69_4 < (l0_0.length : Int)) = true := decide_eq_true c49
                   clear c49
                   by_cases c50 : x69_4 < (x3_2.length : Int)
                   ·rw [if_pos c50] at H
                    have c50b0 : decide (x69_4 < (x3_2.length : Int)) = true := decide_eq_true c50
                    clear c50
                    by_cases c51 : ((rd_T68 l0_0 x69_4).f0) = (rd x3_2 x69_4)
                    ·rw [if_pos c51] at H
                     have c51b0 : (((rd_T68 l0_0 x69_4).f0) == (rd x3_2 x69_4)) = true := beq_iff_eq.mpr c51
                     have c51b1 : (((rd_T68 l0_0 x69_4).f0) != (rd x3_2 x69_4)) = false := bne_eq_false_iff_eq.mpr c51
                     clear c51
                     by_cases c52 : ((rd_T68 l0_0 x69_4).f0) = 0
                     ·rw [if_pos c52] at H
                      have c52b0 : (((rd_T68 l0_0 x69_4).f0) == 0) = true := beq_iff_eq.mpr c52
                      have c52b1 : (((rd_T68 l0_0 x69_4).f0) != 0) = false := bne_eq_false_iff_eq.mpr c52
                      clear c52
                      by_cases c53 : ((rd_T68 l0_0 x69_4).f1).toList = ([] : List UInt8)
                      ·rw [if_pos c53] at H
                       have c53b0 : (((rd_T68 l0_0 x69_4).f1).toList == ([] : List UInt8)) = true := beq_iff_eq.mpr c53
                       have c53b1 : (((rd_T68 l0_0 x69_4).f1).toList != ([] : List UInt8)) = false := bne_eq_false_iff_eq.mpr c53
                       clear c53
                       by_cases c54 : (((rd_T68 l0_0 x69_4).f2).length : Int) > 0
                       ·rw [if_pos c54] at H
                        have c54b0 : decide (0 < (((rd_T68 l0_0 x69_4).f2).length : Int)) = true := decide_eq_true c54
                        have c54b1 : decide (0 < ((rd_T68 l0_0 x69_4).f2).length) = true := decide_eq_true (by omega)
                        clear c54
                        obtain rfl := Option.some.inj H
                        have p165 : 0 ≤ (x69_4 : Int) := of_decide_eq_true (by assumption)
                        have q165 : x69_4 < (l0_0.length : Int) := of_decide_eq_true (by assumption)
                        obtain ⟨ad165, A165_2, c165_2, e165, hx165_0, hx165_1, hx165_2, hl165_2, hi165_2⟩ := at_T68 HR0_0.out x69_4 p165 q165
                        cases e165
                        replace hx165_0 := (HB.out.cell (World.block_lt_of_cell? w _ hx165_0)).trans hx165_0
                        replace hx165_1 := (HB.out.cell (World.block_lt_of_cell? w _ hx165_1)).trans hx165_1
                        replace hx165_2 := (HB.out.cell (World.block_lt_of_cell? w _ hx165_2)).trans hx165_2
                        have HR165_2 := Aside0.mk hi165_2
                        have HC165_2 := Aside0.mk hl165_2
                        clear hi165_2 hl165_2
                        replace p165 := eq_true p165
                        replace q165 := eq_true q165
                        go_wp2_with (first | ((with_reducible refine gate_dst (N := 10) rfl ?_); (try (refine gate_guard (by rfl) ?_; dsimp only)); refine box_event ?hg (N := 10) ?hd (cs := #[.int .i64 0, .string (⟨#[]⟩ : ByteArray), .slice none 0 0]) (t := 68) ?hr ?_; (case hd => rfl); (case hg => rfl); (case hr => first | (go_simp; done) | (go_simp; rfl)); intro gb166 hg w55 hbox hb; replace HO_3 := Aside0.mk (Kd.R_below (by (with_reducible repeat (first | apply Kd.R_alloc | apply Kd.R_drewN | apply Kd.R_drew)); exact HO_3.out) hb); have BK166 := Aside0.mk (hbox); have GW166 := Aside0.mk ((by rw [hg]; exact (below_size (by with_reducible repeat (first | exact HB.out | apply below_alloc | apply pw_below_drewN | apply below_drew1 | refine below_set ?_ GE150.out))) : w.heap.size ≤ gb166)); have GE166 := Aside0.mk ((by rw [hg]; exact (below_size (by with_reducible repeat (first | exact HB.out | apply below_alloc | apply pw_below_drewN | apply below_drew1 | refine below_set ?_ GE150.out))) : w.heap.size ≤ gb166)); replace HB := Aside0.mk (below_step (by with_reducible repeat (first | exact HB.out | apply below_alloc | apply pw_below_drewN | apply below_drew1 | refine below_set ?_ GE150.out)) hb); have NB150_166 := Aside0.mk ((by rw [hg]; exact Nat.ne_of_lt (blk_lt (g := gb150) (o := .cells #[.slice (some ad165) l0_0.length c0_0, .slice A0_1 l0_1.length c0_1, .int .i64 a0_2] 25 (0, 0)) (by (with_reducible repeat (first | refine blk_drewN ?_ _ | refine blk_drew ?_ | refine blk_alloc ?_ _)); exact BK150.out)) : gb150 ≠ gb166)); have NB166_150 := Aside0.mk ((by rw [hg]; exact Nat.ne_of_gt (blk_lt (g := gb150) (o := .cells #[.slice (some ad165) l0_0.length c0_0, .slice A0_1 l0_1.length c0_1, .int .i64 a0_2] 25 (0, 0)) (by (with_reducible repeat (first | refine blk_drewN ?_ _ | refine blk_drew ?_ | refine blk_alloc ?_ _)); exact BK150.out)) : gb166 ≠ gb150)); replace BK150 := Aside0.mk (blk_below (g := gb150) (o := .cells #[.slice (some ad165) l0_0.length c0_0, .slice A0_1 l0_1.length c0_1, .int .i64 a0_2] 25 (0, 0)) (by (with_reducible repeat (first | refine blk_drewN ?_ _ | refine blk_drew ?_ | refine blk_alloc ?_ _)); exact BK150.out) hb); clear hb hbox hg; have hnb56 := NB166_150.out; have hnc56 := NB150_166.out; have hcz57_0 : w55.cell? ⟨gb166, 0, none⟩ = some (.int .i64 0) := (blk_cell BK166.out 0).trans rfl; have hcz57_1 : w55.cell? ⟨gb166, 1, none⟩ = some (.string (⟨#[]⟩ : ByteArray)) := (blk_cell BK166.out 1).trans rfl; have hcz57_2 : w55.cell? ⟨gb166, 2, none⟩ = some (.slice none 0 0) := (blk_cell BK166.out 2).trans rfl; have hfz57_0 := blk_frozen BK166.out 0; have hfz57_1 := blk_frozen BK166.out 1; have hfz57_2 := blk_frozen BK166.out 2; obtain ⟨Ao58, co58, eo58⟩ := Kd.R_slice HO_3.out; subst eo58; have p167 : 0 ≤ (x69_4 : Int) := of_decide_eq_true (by assumption); have q167 : x69_4 < (x3_2.length : Int) := of_decide_eq_true (by assumption); obtain ⟨ad167, e167, hx167_0⟩ := Kd.at_int (Kd.R_reads' HO_3.out).2.2 x69_4 p167 q167; cases e167; have hn167_0 : ad167.block ≠ gb166 := Kd.own_blk (Kd.R_ne HO_3.out BK166.out (by decide)); have hn167_1 : ad167.block ≠ gb166 := Kd.own_blk (Kd.R_ne HO_3.out BK166.out (by decide)); have hn167_2 : ad167.block ≠ gb166 := Kd.own_blk (Kd.R_ne HO_3.out BK166.out (by decide)); replace hx167_0 := (cell_far (p := ⟨gb166, 0, none⟩) (by first | (rw [add_block]; exact hn167_0) | (show (Addr.add _ _).block ≠ _; rw [add_block]; exact hn167_0) | exact hn167_0) (.int .i64 ((rd_T68 l0_0 x69_4).f0))).trans hx167_0; replace hx167_0 := (cell_far (p := ⟨gb166, 1, none⟩) (by first | (rw [add_block]; exact hn167_1) | (show (Addr.add _ _).block ≠ _; rw [add_block]; exact hn167_1) | exact hn167_1) (.string ((rd_T68 l0_0 x69_4).f1))).trans hx167_0; replace hx167_0 := (cell_far (p := ⟨gb166, 2, none⟩) (by first | (rw [add_block]; exact hn167_2) | (show (Addr.add _ _).block ≠ _; rw [add_block]; exact hn167_2) | exact hn167_2) (.slice A165_2 ((rd_T68 l0_0 x69_4).f2).length c165_2)).trans hx167_0; (try have hy167_0 := fun (n_ : Nat) => (show (((((w55.drewN n_).setCell ⟨gb166, 0, none⟩ (.int .i64 ((rd_T68 l0_0 x69_4).f0))).setCell ⟨gb166, 1, none⟩ (.string ((rd_T68 l0_0 x69_4).f1))).setCell ⟨gb166, 2, none⟩ (.slice A165_2 ((rd_T68 l0_0 x69_4).f2).length c165_2))).cell? _ = some _ from hx167_0)); clear hn167_0; clear hn167_1; clear hn167_2; replace p167 := eq_true p167; replace q167 := eq_true q167))
                        repeat (go_quiet (fail); try go_wp2)
                        go_ret
                        exact ⟨by first | rfl | (simp [errW_none, errW_some] <;> rfl) | (simp [*, errW_none, errW_some] <;> rfl) | (simp [E.isEmpty_bne]; done) | (rw [E.bne_empty]), by with_reducible repeat (first | exact HB.out | apply below_alloc | apply pw_below_drewN | apply below_drew1 | refine below_set ?_ GE150.out | refine below_set ?_ GE166.out)⟩
                       ·rw [if_neg c54] at H
                        have c54b0 : decide (0 < (((rd_T68 l0_0 x69_4).f2).length : Int)) = false := decide_eq_false c54
                        have c54b1 : decide (0 < ((rd_T68 l0_0 x69_4).f2).length) = false := decide_eq_false (by omega)
                        clear c54
                        have H' := Aside0.mk H
                        clear H
                        have p165 : 0 ≤ (x69_4 : Int) := of_decide_eq_true (by assumption)
                        have q165 : x69_4 < (l0_0.length : Int) := of_decide_eq_true (by assumption)
                        obtain ⟨ad165, A165_2, c165_2, e165, hx165_0, hx165_1, hx165_2, hl165_2, hi165_2⟩ := at_T68 HR0_0.out x69_4 p165 q165
                        cases e165
                        replace hx165_0 := (HB.out.cell (World.block_lt_of_cell? w _ hx165_0)).trans hx165_0
                        replace hx165_1 := (HB.out.cell (World.block_lt_of_cell? w _ hx165_1)).trans hx165_1
                        replace hx165_2 := (HB.out.cell (World.block_lt_of_cell? w _ hx165_2)).trans hx165_2
                        have HR165_2 := Aside0.mk hi165_2
                        have HC165_2 := Aside0.mk hl165_2
                        clear hi165_2 hl165_2
                        replace p165 := eq_true p165
                        replace q165 := eq_true q165
                        go_wp2_with (first | ((with_reducible refine gate_dst (N := 10) rfl ?_); (try (refine gate_guard (by rfl) ?_; dsimp only)); refine box_event ?hg (N := 10) ?hd (cs := #[.int .i64 0, .string (⟨#[]⟩ : ByteArray), .slice none 0 0]) (t := 68) ?hr ?_; (case hd => rfl); (case hg => rfl); (case hr => first | (go_simp; done) | (go_simp; rfl)); intro gb166 hg w59 hbox hb; replace HO_3 := Aside0.mk (Kd.R_below (by (with_reducible repeat (first | apply Kd.R_alloc | apply Kd.R_drewN | apply Kd.R_drew)); exact HO_3.out) hb); have BK166 := Aside0.mk (hbox); have GW166 := Aside0.mk ((by rw [hg]; exact (below_size (by with_reducible repeat (first | exact HB.out | apply below_alloc | apply pw_below_drewN | apply below_drew1 | refine below_set ?_ GE150.out))) : w.heap.size ≤ gb166)); have GE166 := Aside0.mk ((by rw [hg]; exact (below_size (by with_reducible repeat (first | exact HB.out | apply below_alloc | apply pw_below_drewN | apply below_drew1 | refine below_set ?_ GE150.out))) : w.heap.size ≤ gb166)); replace HB := Aside0.mk (below_step (by with_reducible repeat (first | exact HB.out | apply below_alloc | apply pw_below_drewN | apply below_drew1 | refine below_set ?_ GE150.out)) hb); have NB150_166 := Aside0.mk ((by rw [hg]; exact Nat.ne_of_lt (blk_lt (g := gb150) (o := .cells #[.slice (some ad165) l0_0.length c0_0, .slice A0_1 l0_1.length c0_1, .int .i64 a0_2] 25 (0, 0)) (by (with_reducible repeat (first | refine blk_drewN ?_ _ | refine blk_drew ?_ | refine blk_alloc ?_ _)); exact BK150.out)) : gb150 ≠ gb166)); have NB166_150 := Aside0.mk ((by rw [hg]; exact Nat.ne_of_gt (blk_lt (g := gb150) (o := .cells #[.slice (some ad165) l0_0.length c0_0, .slice A0_1 l0_1.length c0_1, .int .i64 a0_2] 25 (0, 0)) (by (with_reducible repeat (first | refine blk_drewN ?_ _ | refine blk_drew ?_ | refine blk_alloc ?_ _)); exact BK150.out)) : gb166 ≠ gb150)); replace BK150 := Aside0.mk (blk_below (g := gb150) (o := .cells #[.slice (some ad165) l0_0.length c0_0, .slice A0_1 l0_1.length c0_1, .int .i64 a0_2] 25 (0, 0)) (by (with_reducible repeat (first | refine blk_drewN ?_ _ | refine blk_drew ?_ | refine blk_alloc ?_ _)); exact BK150.out) hb); clear hb hbox hg; have hnb60 := NB166_150.out; have hnc60 := NB150_166.out; have hcz61_0 : w59.cell? ⟨gb166, 0, none⟩ = some (.int .i64 0) := (blk_cell BK166.out 0).trans rfl; have hcz61_1 : w59.cell? ⟨gb166, 1, none⟩ = some (.string (⟨#[]⟩ : ByteArray)) := (blk_cell BK166.out 1).trans rfl; have hcz61_2 : w59.cell? ⟨gb166, 2, none⟩ = some (.slice none 0 0) := (blk_cell BK166.out 2).trans rfl; have hfz61_0 := blk_frozen BK166.out 0; have hfz61_1 := blk_frozen BK166.out 1; have hfz61_2 := blk_frozen BK166.out 2; obtain ⟨Ao62, co62, eo62⟩ := Kd.R_slice HO_3.out; subst eo62; have p167 : 0 ≤ (x69_4 : Int) := of_decide_eq_true (by assumption); have q167 : x69_4 < (x3_2.length : Int) := of_decide_eq_true (by assumption); obtain ⟨ad167, e167, hx167_0⟩ := Kd.at_int (Kd.R_reads' HO_3.out).2.2 x69_4 p167 q167; cases e167; have hn167_0 : ad167.block ≠ gb166 := Kd.own_blk (Kd.R_ne HO_3.out BK166.out (by decide)); have hn167_1 : ad167.block ≠ gb166 := Kd.own_blk (Kd.R_ne HO_3.out BK166.out (by decide)); have hn167_2 : ad167.block ≠ gb166 := Kd.own_blk (Kd.R_ne HO_3.out BK166.out (by decide)); replace hx167_0 := (cell_far (p := ⟨gb166, 0, none⟩) (by first | (rw [add_block]; exact hn167_0) | (show (Addr.add _ _).block ≠ _; rw [add_block]; exact hn167_0) | exact hn167_0) (.int .i64 ((rd_T68 l0_0 x69_4).f0))).trans hx167_0; replace hx167_0 := (cell_far (p := ⟨gb166, 1, none⟩) (by first | (rw [add_block]; exact hn167_1) | (show (Addr.add _ _).block ≠ _; rw [add_block]; exact hn167_1) | exact hn167_1) (.string ((rd_T68 l0_0 x69_4).f1))).trans hx167_0; replace hx167_0 := (cell_far (p := ⟨gb166, 2, none⟩) (by first | (rw [add_block]; exact hn167_2) | (show (Addr.add _ _).block ≠ _; rw [add_block]; exact hn167_2) | exact hn167_2) (.slice A165_2 ((rd_T68 l0_0 x69_4).f2).length c165_2)).trans hx167_0; (try have hy167_0 := fun (n_ : Nat) => (show (((((w59.drewN n_).setCell ⟨gb166, 0, none⟩ (.int .i64 ((rd_T68 l0_0 x69_4).f0))).setCell ⟨gb166, 1, none⟩ (.string ((rd_T68 l0_0 x69_4).f1))).setCell ⟨gb166, 2, none⟩ (.slice A165_2 ((rd_T68 l0_0 x69_4).f2).length c165_2))).cell? _ = some _ from hx167_0)); clear hn167_0; clear hn167_1; clear hn167_2; replace p167 := eq_true p167; replace q167 := eq_true q167))
                        repeat (go_quiet (fail); try go_wp2)
                        go_roundg k4
                        case measure => have := HJ1.out; have := HK2.out; have := HK3.out; have := HK4.out; omega
                        case rel => exact ⟨(wrap64 (x69_4 + 1)), (by first | rfl | (simp; done) | (simp [*]; done)), H', ⟨by have := HJ1.out; have := HK2.out; have := HK3.out; have := HK4.out; omega⟩, ⟨by (with_reducible repeat (first | apply Kd.R_alloc | apply Kd.R_drewN | apply Kd.R_drew)); exact Kd.R_mono (Kd.R_far (p := ⟨gb166, 2, none⟩) (Kd.R_far (p := ⟨gb166, 1, none⟩) (Kd.R_far (p := ⟨gb166, 0, none⟩) (Kd.R_types HO_3.out BK166.out (by decide)) (fun _ hk => hk.2) (.int .i64 ((rd_T68 l0_0 x69_4).f0))) (fun _ hk => hk.2) (.string ((rd_T68 l0_0 x69_4).f1))) (fun _ hk => hk.2) (.slice A165_2 ((rd_T68 l0_0 x69_4).f2).length c165_2)) (fun _ hk => trivial)⟩, ⟨by (with_reducible repeat (first | refine blk_drewN ?_ _ | refine blk_drew ?_ | refine blk_alloc ?_ _)); refine blk_far ?_ NB150_166.out _; (with_reducible repeat (first | refine blk_drewN ?_ _ | refine blk_drew ?_ | refine blk_alloc ?_ _)); refine blk_far ?_ NB150_166.out _; (with_reducible repeat (first | refine blk_drewN ?_ _ | refine blk_drew ?_ | refine blk_alloc ?_ _)); refine blk_far ?_ NB150_166.out _; (with_reducible repeat (first | refine blk_drewN ?_ _ | refine blk_drew ?_ | refine blk_alloc ?_ _)); exact BK150.out⟩, ⟨by with_reducible repeat (first | exact HB.out | apply below_alloc | apply pw_below_drewN | apply below_drew1 | refine below_set ?_ GE150.out | refine below_set ?_ GE166.out)⟩⟩
                      ·rw [if_neg c53] at H
                       have c53b0 : (((rd_T68 l0_0 x69_4).f1).toList == ([] : List UInt8)) = false := beq_eq_false_iff_ne.mpr c53
                       have c53b1 : (((rd_T68 l0_0 x69_4).f1).toList != ([] : List UInt8)) = true := bne_iff_ne.mpr c53
                       obtain rfl := Option.some.inj H
                       have p165 : 0 ≤ (x69_4 : Int) := of_decide_eq_true (by assumption)
                       have q165 : x69_4 < (l0_0.length : Int) := of_decide_eq_true (by assumption)
                       obtain ⟨ad165, A165_2, c165_2, e165, hx165_0, hx165_1, hx165_2, hl165_2, hi165_2⟩ := at_T68 HR0_0.out x69_4 p165 q165
                       cases e165
                       replace hx165_0 := (HB.out.cell (World.block_lt_of_cell? w _ hx165_0)).trans hx165_0
                       replace hx165_1 := (HB.out.cell (World.block_lt_of_cell? w _ hx165_1)).trans hx165_1
                       replace hx165_2 := (HB.out.cell (World.block_lt_of_cell? w _ hx165_2)).trans hx165_2
                       have HR165_2 := Aside0.mk hi165_2
                       have HC165_2 := Aside0.mk hl165_2
                       clear hi165_2 hl165_2
                       replace p165 := eq_true p165
                       replace q165 := eq_true q165
                       go_wp2_with (first | ((with_reducible refine gate_dst (N := 10) rfl ?_); (try (refine gate_guard (by rfl) ?_; dsimp only)); refine box_event ?hg (N := 10) ?hd (cs := #[.int .i64 0, .string (⟨#[]⟩ : ByteArray), .slice none 0 0]) (t := 68) ?hr ?_; (case hd => rfl); (case hg => rfl); (case hr => first | (go_simp; done) | (go_simp; rfl)); intro gb166 hg w63 hbox hb; replace HO_3 := Aside0.mk (Kd.R_below (by (with_reducible repeat (first | apply Kd.R_alloc | apply Kd.R_drewN | apply Kd.R_drew)); exact HO_3.out) hb); have BK166 := Aside0.mk (hbox); have GW166 := Aside0.mk ((by rw [hg]; exact (below_size (by with_reducible repeat (first | exact HB.out | apply below_alloc | apply pw_below_drewN | apply below_drew1 | refine below_set ?_ GE150.out))) : w.heap.size ≤ gb166)); have GE166 := Aside0.mk ((by rw [hg]; exact (below_size (by with_reducible repeat (first | exact HB.out | apply below_alloc | apply pw_below_drewN | apply below_drew1 | refine below_set ?_ GE150.out))) : w.heap.size ≤ gb166)); replace HB := Aside0.mk (below_step (by with_reducible repeat (first | exact HB.out | apply below_alloc | apply pw_below_drewN | apply below_drew1 | refine below_set ?_ GE150.out)) hb); have NB150_166 := Aside0.mk ((by rw [hg]; exact Nat.ne_of_lt (blk_lt (g := gb150) (o := .cells #[.slice (some ad165) l0_0.length c0_0, .slice A0_1 l0_1.length c0_1, .int .i64 a0_2] 25 (0, 0)) (by (with_reducible repeat (first | refine blk_drewN ?_ _ | refine blk_drew ?_ | refine blk_alloc ?_ _)); exact BK150.out)) : gb150 ≠ gb166)); have NB166_150 := Aside0.mk ((by rw [hg]; exact Nat.ne_of_gt (blk_lt (g := gb150) (o := .cells #[.slice (some ad165) l0_0.length c0_0, .slice A0_1 l0_1.length c0_1, .int .i64 a0_2] 25 (0, 0)) (by (with_reducible repeat (first | refine blk_drewN ?_ _ | refine blk_drew ?_ | refine blk_alloc ?_ _)); exact BK150.out)) : gb166 ≠ gb150)); replace BK150 := Aside0.mk (blk_below (g := gb150) (o := .cells #[.slice (some ad165) l0_0.length c0_0, .slice A0_1 l0_1.length c0_1, .int .i64 a0_2] 25 (0, 0)) (by (with_reducible repeat (first | refine blk_drewN ?_ _ | refine blk_drew ?_ | refine blk_alloc ?_ _)); exact BK150.out) hb); clear hb hbox hg; have hnb64 := NB166_150.out; have hnc64 := NB150_166.out; have hcz65_0 : w63.cell? ⟨gb166, 0, none⟩ = some (.int .i64 0) := (blk_cell BK166.out 0).trans rfl; have hcz65_1 : w63.cell? ⟨gb166, 1, none⟩ = some (.string (⟨#[]⟩ : ByteArray)) := (blk_cell BK166.out 1).trans rfl; have hcz65_2 : w63.cell? ⟨gb166, 2, none⟩ = some (.slice none 0 0) := (blk_cell BK166.out 2).trans rfl; have hfz65_0 := blk_frozen BK166.out 0; have hfz65_1 := blk_frozen BK166.out 1; have hfz65_2 := blk_frozen BK166.out 2; obtain ⟨Ao66, co66, eo66⟩ := Kd.R_slice HO_3.out; subst eo66; have p167 : 0 ≤ (x69_4 : Int) := of_decide_eq_true (by assumption); have q167 : x69_4 < (x3_2.length : Int) := of_decide_eq_true (by assumption); obtain ⟨ad167, e167, hx167_0⟩ := Kd.at_int (Kd.R_reads' HO_3.out).2.2 x69_4 p167 q167; cases e167; have hn167_0 : ad167.block ≠ gb166 := Kd.own_blk (Kd.R_ne HO_3.out BK166.out (by decide)); have hn167_1 : ad167.block ≠ gb166 := Kd.own_blk (Kd.R_ne HO_3.out BK166.out (by decide)); have hn167_2 : ad167.block ≠ gb166 := Kd.own_blk (Kd.R_ne HO_3.out BK166.out (by decide)); replace hx167_0 := (cell_far (p := ⟨gb166, 0, none⟩) (by first | (rw [add_block]; exact hn167_0) | (show (Addr.add _ _).block ≠ _; rw [add_block]; exact hn167_0) | exact hn167_0) (.int .i64 ((rd_T68 l0_0 x69_4).f0))).trans hx167_0; replace hx167_0 := (cell_far (p := ⟨gb166, 1, none⟩) (by first | (rw [add_block]; exact hn167_1) | (show (Addr.add _ _).block ≠ _; rw [add_block]; exact hn167_1) | exact hn167_1) (.string ((rd_T68 l0_0 x69_4).f1))).trans hx167_0; replace hx167_0 := (cell_far (p := ⟨gb166, 2, none⟩) (by first | (rw [add_block]; exact hn167_2) | (show (Addr.add _ _).block ≠ _; rw [add_block]; exact hn167_2) | exact hn167_2) (.slice A165_2 ((rd_T68 l0_0 x69_4).f2).length c165_2)).trans hx167_0; (try have hy167_0 := fun (n_ : Nat) => (show (((((w63.drewN n_).setCell ⟨gb166, 0, none⟩ (.int .i64 ((rd_T68 l0_0 x69_4).f0))).setCell ⟨gb166, 1, none⟩ (.string ((rd_T68 l0_0 x69_4).f1))).setCell ⟨gb166, 2, none⟩ (.slice A165_2 ((rd_T68 l0_0 x69_4).f2).length c165_2))).cell? _ = some _ from hx167_0)); clear hn167_0; clear hn167_1; clear hn167_2; replace p167 := eq_true p167; replace q167 := eq_true q167))
                       repeat (go_quiet (fail); try go_wp2)
                       go_ret
                       exact ⟨by first | rfl | (simp [errW_none, errW_some] <;> rfl) | (simp [*, errW_none, errW_some] <;> rfl) | (simp [E.isEmpty_bne]; done) | (rw [E.bne_empty]), by with_reducible repeat (first | exact HB.out | apply below_alloc | apply pw_below_drewN | apply below_drew1 | refine below_set ?_ GE150.out | refine below_set ?_ GE166.out)⟩
                     ·rw [if_neg c52] at H
                      have c52b0 : (((rd_T68 l0_0 x69_4).f0) == 0) = false := beq_eq_false_iff_ne.mpr c52
                      have c52b1 : (((rd_T68 l0_0 x69_4).f0) != 0) = true := bne_iff_ne.mpr c52
                      have H' := Aside0.mk H
                      clear H
                      have p165 : 0 ≤ (x69_4 : Int) := of_decide_eq_true (by assumption)
                      have q165 : x69_4 < (l0_0.length : Int) := of_decide_eq_true (by assumption)
                      obtain ⟨ad165, A165_2, c165_2, e165, hx165_0, hx165_1, hx165_2, hl165_2, hi165_2⟩ := at_T68 HR0_0.out x69_4 p165 q165
                      cases e165
                      replace hx165_0 := (HB.out.cell (World.block_lt_of_cell? w _ hx165_0)).trans hx165_0
                      replace hx165_1 := (HB.out.cell (World.block_lt_of_cell? w _ hx165_1)).trans hx165_1
                      replace hx165_2 := (HB.out.cell (World.block_lt_of_cell? w _ hx165_2)).trans hx165_2
                      have HR165_2 := Aside0.mk hi165_2
                      have HC165_2 := Aside0.mk hl165_2
                      clear hi165_2 hl165_2
                      replace p165 := eq_true p165
                      replace q165 := eq_true q165
                      go_wp2_with (first | ((with_reducible refine gate_dst (N := 10) rfl ?_); (try (refine gate_guard (by rfl) ?_; dsimp only)); refine box_event ?hg (N := 10) ?hd (cs := #[.int .i64 0, .string (⟨#[]⟩ : ByteArray), .slice none 0 0]) (t := 68) ?hr ?_; (case hd => rfl); (case hg => rfl); (case hr => first | (go_simp; done) | (go_simp; rfl)); intro gb166 hg w67 hbox hb; replace HO_3 := Aside0.mk (Kd.R_below (by (with_reducible repeat (first | apply Kd.R_alloc | apply Kd.R_drewN | apply Kd.R_drew)); exact HO_3.out) hb); have BK166 := Aside0.mk (hbox); have GW166 := Aside0.mk ((by rw [hg]; exact (below_size (by with_reducible repeat (first | exact HB.out | apply below_alloc | apply pw_below_drewN | apply below_drew1 | refine below_set ?_ GE150.out))) : w.heap.size ≤ gb166)); have GE166 := Aside0.mk ((by rw [hg]; exact (below_size (by with_reducible repeat (first | exact HB.out | apply below_alloc | apply pw_below_drewN | apply below_drew1 | refine below_set ?_ GE150.out))) : w.heap.size ≤ gb166)); replace HB := Aside0.mk (below_step (by with_reducible repeat (first | exact HB.out | apply below_alloc | apply pw_below_drewN | apply below_drew1 | refine below_set ?_ GE150.out)) hb); have NB150_166 := Aside0.mk ((by rw [hg]; exact Nat.ne_of_lt (blk_lt (g := gb150) (o := .cells #[.slice (some ad165) l0_0.length c0_0, .slice A0_1 l0_1.length c0_1, .int .i64 a0_2] 25 (0, 0)) (by (with_reducible repeat (first | refine blk_drewN ?_ _ | refine blk_drew ?_ | refine blk_alloc ?_ _)); exact BK150.out)) : gb150 ≠ gb166)); have NB166_150 := Aside0.mk ((by rw [hg]; exact Nat.ne_of_gt (blk_lt (g := gb150) (o := .cells #[.slice (some ad165) l0_0.length c0_0, .slice A0_1 l0_1.length c0_1, .int .i64 a0_2] 25 (0, 0)) (by (with_reducible repeat (first | refine blk_drewN ?_ _ | refine blk_drew ?_ | refine blk_alloc ?_ _)); exact BK150.out)) : gb166 ≠ gb150)); replace BK150 := Aside0.mk (blk_below (g := gb150) (o := .cells #[.slice (some ad165) l0_0.length c0_0, .slice A0_1 l0_1.length c0_1, .int .i64 a0_2] 25 (0, 0)) (by (with_reducible repeat (first | refine blk_drewN ?_ _ | refine blk_drew ?_ | refine blk_alloc ?_ _)); exact BK150.out) hb); clear hb hbox hg; have hnb68 := NB166_150.out; have hnc68 := NB150_166.out; have hcz69_0 : w67.cell? ⟨gb166, 0, none⟩ = some (.int .i64 0) := (blk_cell BK166.out 0).trans rfl; have hcz69_1 : w67.cell? ⟨gb166, 1, none⟩ = some (.string (⟨#[]⟩ : ByteArray)) := (blk_cell BK166.out 1).trans rfl; have hcz69_2 : w67.cell? ⟨gb166, 2, none⟩ = some (.slice none 0 0) := (blk_cell BK166.out 2).trans rfl; have hfz69_0 := blk_frozen BK166.out 0; have hfz69_1 := blk_frozen BK166.out 1; have hfz69_2 := blk_frozen BK166.out 2; obtain ⟨Ao70, co70, eo70⟩ := Kd.R_slice HO_3.out; subst eo70; have p167 : 0 ≤ (x69_4 : Int) := of_decide_eq_true (by assumption); have q167 : x69_4 < (x3_2.length : Int) := of_decide_eq_true (by assumption); obtain ⟨ad167, e167, hx167_0⟩ := Kd.at_int (Kd.R_reads' HO_3.out).2.2 x69_4 p167 q167; cases e167; have hn167_0 : ad167.block ≠ gb166 := Kd.own_blk (Kd.R_ne HO_3.out BK166.out (by decide)); have hn167_1 : ad167.block ≠ gb166 := Kd.own_blk (Kd.R_ne HO_3.out BK166.out (by decide)); have hn167_2 : ad167.block ≠ gb166 := Kd.own_blk (Kd.R_ne HO_3.out BK166.out (by decide)); replace hx167_0 := (cell_far (p := ⟨gb166, 0, none⟩) (by first | (rw [add_block]; exact hn167_0) | (show (Addr.add _ _).block ≠ _; rw [add_block]; exact hn167_0) | exact hn167_0) (.int .i64 ((rd_T68 l0_0 x69_4).f0))).trans hx167_0; replace hx167_0 := (cell_far (p := ⟨gb166, 1, none⟩) (by first | (rw [add_block]; exact hn167_1) | (show (Addr.add _ _).block ≠ _; rw [add_block]; exact hn167_1) | exact hn167_1) (.string ((rd_T68 l0_0 x69_4).f1))).trans hx167_0; replace hx167_0 := (cell_far (p := ⟨gb166, 2, none⟩) (by first | (rw [add_block]; exact hn167_2) | (show (Addr.add _ _).block ≠ _; rw [add_block]; exact hn167_2) | exact hn167_2) (.slice A165_2 ((rd_T68 l0_0 x69_4).f2).length c165_2)).trans hx167_0; (try have hy167_0 := fun (n_ : Nat) => (show (((((w67.drewN n_).setCell ⟨gb166, 0, none⟩ (.int .i64 ((rd_T68 l0_0 x69_4).f0))).setCell ⟨gb166, 1, none⟩ (.string ((rd_T68 l0_0 x69_4).f1))).setCell ⟨gb166, 2, none⟩ (.slice A165_2 ((rd_T68 l0_0 x69_4).f2).length c165_2))).cell? _ = some _ from hx167_0)); clear hn167_0; clear hn167_1; clear hn167_2; replace p167 := eq_true p167; replace q167 := eq_true q167))
                      repeat (go_quiet (fail); try go_wp2)
                      go_roundg k4
                      case measure => have := HJ1.out; have := HK2.out; have := HK3.out; have := HK4.out; omega
                      case rel => exact ⟨(wrap64 (x69_4 + 1)), (by first | rfl | (simp; done) | (simp [*]; done)), H', ⟨by have := HJ1.out; have := HK2.out; have := HK3.out; have := HK4.out; omega⟩, ⟨by (with_reducible repeat (first | apply Kd.R_alloc | apply Kd.R_drewN | apply Kd.R_drew)); exact Kd.R_mono (Kd.R_far (p := ⟨gb166, 2, none⟩) (Kd.R_far (p := ⟨gb166, 1, none⟩) (Kd.R_far (p := ⟨gb166, 0, none⟩) (Kd.R_types HO_3.out BK166.out (by decide)) (fun _ hk => hk.2) (.int .i64 ((rd_T68 l0_0 x69_4).f0))) (fun _ hk => hk.2) (.string ((rd_T68 l0_0 x69_4).f1))) (fun _ hk => hk.2) (.slice A165_2 ((rd_T68 l0_0 x69_4).f2).length c165_2)) (fun _ hk => trivial)⟩, ⟨by (with_reducible repeat (first | refine blk_drewN ?_ _ | refine blk_drew ?_ | refine blk_alloc ?_ _)); refine blk_far ?_ NB150_166.out _; (with_reducible repeat (first | refine blk_drewN ?_ _ | refine blk_drew ?_ | refine blk_alloc ?_ _)); refine blk_far ?_ NB150_166.out _; (with_reducible repeat (first | refine blk_drewN ?_ _ | refine blk_drew ?_ | refine blk_alloc ?_ _)); refine blk_far ?_ NB150_166.out _; (with_reducible repeat (first | refine blk_drewN ?_ _ | refine blk_drew ?_ | refine blk_alloc ?_ _)); exact BK150.out⟩, ⟨by with_reducible repeat (first | exact HB.out | apply below_alloc | apply pw_below_drewN | apply below_drew1 | refine below_set ?_ GE150.out | refine below_set ?_ GE166.out)⟩⟩
                    ·rw [if_neg c51] at H
                     have c51b0 : (((rd_T68 l0_0 x69_4).f0) == (rd x3_2 x69_4)) = false := beq_eq_false_iff_ne.mpr c51
                     have c51b1 : (((rd_T68 l0_0 x69_4).f0) != (rd x3_2 x69_4)) = true := bne_iff_ne.mpr c51
                     obtain rfl := Option.some.inj H
                     have p165 : 0 ≤ (x69_4 : Int) := of_decide_eq_true (by assumption)
                     have q165 : x69_4 < (l0_0.length : Int) := of_decide_eq_true (by assumption)
                     obtain ⟨ad165, A165_2, c165_2, e165, hx165_0, hx165_1, hx165_2, hl165_2, hi165_2⟩ := at_T68 HR0_0.out x69_4 p165 q165
                     cases e165
                     replace hx165_0 := (HB.out.cell (World.block_lt_of_cell? w _ hx165_0)).trans hx165_0
                     replace hx165_1 := (HB.out.cell (World.block_lt_of_cell? w _ hx165_1)).trans hx165_1
                     replace hx165_2 := (HB.out.cell (World.block_lt_of_cell? w _ hx165_2)).trans hx165_2
                     have HR165_2 := Aside0.mk hi165_2
                     have HC165_2 := Aside0.mk hl165_2
                     clear hi165_2 hl165_2
                     replace p165 := eq_true p165
                     replace q165 := eq_true q165
                     go_wp2_with (first | ((with_reducible refine gate_dst (N := 10) rfl ?_); (try (refine gate_guard (by rfl) ?_; dsimp only)); refine box_event ?hg (N := 10) ?hd (cs := #[.int .i64 0, .string (⟨#[]⟩ : ByteArray), .slice none 0 0]) (t := 68) ?hr ?_; (case hd => rfl); (case hg => rfl); (case hr => first | (go_simp; done) | (go_simp; rfl)); intro gb166 hg w71 hbox hb; replace HO_3 := Aside0.mk (Kd.R_below (by (with_reducible repeat (first | apply Kd.R_alloc | apply Kd.R_drewN | apply Kd.R_drew)); exact HO_3.out) hb); have BK166 := Aside0.mk (hbox); have GW166 := Aside0.mk ((by rw [hg]; exact (below_size (by with_reducible repeat (first | exact HB.out | apply below_alloc | apply pw_below_drewN | apply below_drew1 | refine below_set ?_ GE150.out))) : w.heap.size ≤ gb166)); have GE166 := Aside0.mk ((by rw [hg]; exact (below_size (by with_reducible repeat (first | exact HB.out | apply below_alloc | apply pw_below_drewN | apply below_drew1 | refine below_set ?_ GE150.out))) : w.heap.size ≤ gb166)); replace HB := Aside0.mk (below_step (by with_reducible repeat (first | exact HB.out | apply below_alloc | apply pw_below_drewN | apply below_drew1 | refine below_set ?_ GE150.out)) hb); have NB150_166 := Aside0.mk ((by rw [hg]; exact Nat.ne_of_lt (blk_lt (g := gb150) (o := .cells #[.slice (some ad165) l0_0.length c0_0, .slice A0_1 l0_1.length c0_1, .int .i64 a0_2] 25 (0, 0)) (by (with_reducible repeat (first | refine blk_drewN ?_ _ | refine blk_drew ?_ | refine blk_alloc ?_ _)); exact BK150.out)) : gb150 ≠ gb166)); have NB166_150 := Aside0.mk ((by rw [hg]; exact Nat.ne_of_gt (blk_lt (g := gb150) (o := .cells #[.slice (some ad165) l0_0.length c0_0, .slice A0_1 l0_1.length c0_1, .int .i64 a0_2] 25 (0, 0)) (by (with_reducible repeat (first | refine blk_drewN ?_ _ | refine blk_drew ?_ | refine blk_alloc ?_ _)); exact BK150.out)) : gb166 ≠ gb150)); replace BK150 := Aside0.mk (blk_below (g := gb150) (o := .cells #[.slice (some ad165) l0_0.length c0_0, .slice A0_1 l0_1.length c0_1, .int .i64 a0_2] 25 (0, 0)) (by (with_reducible repeat (first | refine blk_drewN ?_ _ | refine blk_drew ?_ | refine blk_alloc ?_ _)); exact BK150.out) hb); clear hb hbox hg; have hnb72 := NB166_150.out; have hnc72 := NB150_166.out; have hcz73_0 : w71.cell? ⟨gb166, 0, none⟩ = some (.int .i64 0) := (blk_cell BK166.out 0).trans rfl; have hcz73_1 : w71.cell? ⟨gb166, 1, none⟩ = some (.string (⟨#[]⟩ : ByteArray)) := (blk_cell BK166.out 1).trans rfl; have hcz73_2 : w71.cell? ⟨gb166, 2, none⟩ = some (.slice none 0 0) := (blk_cell BK166.out 2).trans rfl; have hfz73_0 := blk_frozen BK166.out 0; have hfz73_1 := blk_frozen BK166.out 1; have hfz73_2 := blk_frozen BK166.out 2; obtain ⟨Ao74, co74, eo74⟩ := Kd.R_slice HO_3.out; subst eo74; have p167 : 0 ≤ (x69_4 : Int) := of_decide_eq_true (by assumption); have q167 : x69_4 < (x3_2.length : Int) := of_decide_eq_true (by assumption); obtain ⟨ad167, e167, hx167_0⟩ := Kd.at_int (Kd.R_reads' HO_3.out).2.2 x69_4 p167 q167; cases e167; have hn167_0 : ad167.block ≠ gb166 := Kd.own_blk (Kd.R_ne HO_3.out BK166.out (by decide)); have hn167_1 : ad167.block ≠ gb166 := Kd.own_blk (Kd.R_ne HO_3.out BK166.out (by decide)); have hn167_2 : ad167.block ≠ gb166 := Kd.own_blk (Kd.R_ne HO_3.out BK166.out (by decide)); replace hx167_0 := (cell_far (p := ⟨gb166, 0, none⟩) (by first | (rw [add_block]; exact hn167_0) | (show (Addr.add _ _).block ≠ _; rw [add_block]; exact hn167_0) | exact hn167_0) (.int .i64 ((rd_T68 l0_0 x69_4).f0))).trans hx167_0; replace hx167_0 := (cell_far (p := ⟨gb166, 1, none⟩) (by first | (rw [add_block]; exact hn167_1) | (show (Addr.add _ _).block ≠ _; rw [add_block]; exact hn167_1) | exact hn167_1) (.string ((rd_T68 l0_0 x69_4).f1))).trans hx167_0; replace hx167_0 := (cell_far (p := ⟨gb166, 2, none⟩) (by first | (rw [add_block]; exact hn167_2) | (show (Addr.add _ _).block ≠ _; rw [add_block]; exact hn167_2) | exact hn167_2) (.slice A165_2 ((rd_T68 l0_0 x69_4).f2).length c165_2)).trans hx167_0; (try have hy167_0 := fun (n_ : Nat) => (show (((((w71.drewN n_).setCell ⟨gb166, 0, none⟩ (.int .i64 ((rd_T68 l0_0 x69_4).f0))).setCell ⟨gb166, 1, none⟩ (.string ((rd_T68 l0_0 x69_4).f1))).setCell ⟨gb166, 2, none⟩ (.slice A165_2 ((rd_T68 l0_0 x69_4).f2).length c165_2))).cell? _ = some _ from hx167_0)); clear hn167_0; clear hn167_1; clear hn167_2; replace p167 := eq_true p167; replace q167 := eq_true q167))
                     repeat (go_quiet (fail); try go_wp2)
                     go_ret
                     exact ⟨by first | rfl | (simp [errW_none, errW_some] <;> rfl) | (simp [*, errW_none, errW_some] <;> rfl) | (simp [E.isEmpty_bne]; done) | (rw [E.bne_empty]), by with_reducible repeat (first | exact HB.out | apply below_alloc | apply pw_below_drewN | apply below_drew1 | refine below_set ?_ GE150.out | refine below_set ?_ GE166.out)⟩
                   ·rw [if_neg c50] at H
                    exact absurd H (by simp)
                  ·rw [if_neg c49] at H
                   exact absurd H (by simp)
                 ·rw [if_neg c48] at H
                  exact absurd H (by simp)
                ·rw [if_neg c47] at H
                 have c47b0 : decide (x69_4 < (l0_0.length : Int)) = false := decide_eq_false c47
                 clear c47
                 obtain rfl := Option.some.inj H
                 go_wp2
                 repeat (go_quiet (fail); try go_wp2)
                 go_ret
                 exact ⟨by first | rfl | (simp [errW_none, errW_some] <;> rfl) | (simp [*, errW_none, errW_some] <;> rfl) | (simp [E.isEmpty_bne]; done) | (rw [E.bne_empty]), by with_reducible repeat (first | exact HB.out | apply below_alloc | apply pw_below_drewN | apply below_drew1 | refine below_set ?_ GE150.out)⟩
          ·rw [if_neg c30] at H
           exact absurd H (by simp)
         ·rw [if_neg c29] at H
          exact absurd H (by simp)
     ·rw [if_neg c13] at H
      exact absurd H (by simp)
    ·rw [if_neg c12] at H
     exact absurd H (by simp)
attribute [local go_sem] max2_int min2_int max_two min_two max_three min_three max_four min_four
set_option linter.unusedVariables false
set_option linter.unusedSimpArgs false
def impl_isRoot.f (l0_0 : List (S68)) (l0_1 : List Int) (a0_2 : Int) (a1 : Int) : Option (Bool) := (impl_GoodCow.f l0_0 l0_1 a0_2).bind fun t221 => (if t221 = true then ((impl_within.f a1 0 (wrap64 ((l0_1.length : Int) - 1))).bind fun t222 => (some t222)) else (some false))
set_option maxHeartbeats 8000000 in
set_option maxRecDepth 100000 in
theorem impl_isRoot.calls (A0_0 : Option Addr) (c0_0 : Nat) (l0_0 : List (S68)) (A0_1 : Option Addr) (c0_1 : Nat) (l0_1 : List Int) (a0_2 : Int) (a1 : Int) (r : Bool) (w : World) (hr0_0 : Kd.C k68 w A0_0 l0_0.length l0_0) (hc0_0 : l0_0.length ≤ c0_0) (hr0_1 : Kd.C (Kd.int .i64) w A0_1 l0_1.length l0_1) (hc0_1 : l0_1.length ≤ c0_1) (h : impl_isRoot.f l0_0 l0_1 a0_2 a1 = some r) :
  Calls Try.prog 63 #[.agg #[.slice A0_0 l0_0.length c0_0, .slice A0_1 l0_1.length c0_1, .int .i64 a0_2], .int .i64 a1] w fun e w' => e = .returned (.bool r) ∧ Below w.heap.size w w' := by
 have hu25 := Try.underlying25
 have HR0_0 := Aside0.mk hr0_0
 have HC0_0 := Aside0.mk hc0_0
 clear hr0_0 hc0_0
 have HR0_1 := Aside0.mk hr0_1
 have HC0_1 := Aside0.mk hc0_1
 clear hr0_1 hc0_1
 have HB := Aside0.mk (Below.refl w.heap.size w)
 have H : ((impl_GoodCow.f l0_0 l0_1 a0_2).bind fun t221 => (if t221 = true then ((impl_within.f a1 0 (wrap64 ((l0_1.length : Int) - 1))).bind fun t222 => (some t222)) else (some false))) = some r := h
 clear h
 replace H := Option.bind_eq_some_iff.mp H
 obtain ⟨t221, A30, H⟩ := H
 replace H : (if t221 = true then ((impl_within.f a1 0 (wrap64 ((l0_1.length : Int) - 1))).bind fun t222 => (some t222)) else (some false)) = some r := H
 have A3 := Aside0.mk A30
 clear A30
 by_cases c4 : t221 = true
 ·subst c4
  have H1 : ((impl_within.f a1 0 (wrap64 ((l0_1.length : Int) - 1))).bind fun t222 => (some t222)) = some r := by rw [if_pos rfl] at H; exact H
  clear H
  have H := H1
  clear H1
  replace H := Option.bind_eq_some_iff.mp H
  obtain ⟨t222, A50, H⟩ := H
  replace H : (some t222) = some r := H
  have A5 := Aside0.mk A50
  clear A50
  obtain rfl := Option.some.inj H
  go_enter Try.func63, Try.ntmps63
  go_wp2_with (first | ((with_reducible refine gate_dst (N := 2) rfl ?_); (try (refine gate_guard (by rfl) ?_; dsimp only)); refine box_event ?hg (N := 2) ?hd (cs := #[.slice A0_0 l0_0.length c0_0, .slice A0_1 l0_1.length c0_1, .int .i64 a0_2]) (t := 25) ?hr ?_; (case hd => rfl); (case hg => rfl); (case hr => first | (go_simp; done) | (go_simp; rfl)); intro gb220 hg w6 hbox hb; have BK220 := Aside0.mk (hbox); have GW220 := Aside0.mk ((by rw [hg]; exact (below_size (by with_reducible repeat (first | exact HB.out | apply below_alloc | apply pw_below_drewN | apply below_drew1))) : w.heap.size ≤ gb220)); have GE220 := Aside0.mk ((by rw [hg]; exact (below_size (by with_reducible repeat (first | exact HB.out | apply below_alloc | apply pw_below_drewN | apply below_drew1))) : w.heap.size ≤ gb220)); replace HB := Aside0.mk (below_step (by with_reducible repeat (first | exact HB.out | apply below_alloc | apply pw_below_drewN | apply below_drew1)) hb); clear hb hbox hg; have hcz7_0 : w6.cell? ⟨gb220, 0, none⟩ = some (.slice A0_0 l0_0.length c0_0) := (blk_cell BK220.out 0).trans rfl; have hcz7_1 : w6.cell? ⟨gb220, 1, none⟩ = some (.slice A0_1 l0_1.length c0_1) := (blk_cell BK220.out 1).trans rfl; have hcz7_2 : w6.cell? ⟨gb220, 2, none⟩ = some (.int .i64 a0_2) := (blk_cell BK220.out 2).trans rfl; have hfz7_0 := blk_frozen BK220.out 0; have hfz7_1 := blk_frozen BK220.out 1; have hfz7_2 := blk_frozen BK220.out 2) | ((with_reducible refine gate_callee (f := 22) rfl ?_); refine goesL_ (some 6) rfl rfl Try.func22 (by kernel_rfl) rfl #[.agg #[.slice A0_0 l0_0.length c0_0, .slice A0_1 l0_1.length c0_1, .int .i64 a0_2]] rfl (by (try simp only [List.map_toArray, List.map_cons, List.map_nil]); first | done | rfl | (simp only [List.length_drop, List.length_take]; rfl)) ?_; (with_reducible refine (impl_GoodCow.calls _ _ l0_0 _ _ l0_1 a0_2 true _ ?side1 ?side2 ?side3 ?side4 A3.out).mono ?_); (case side1 => repeat (first | exact (Kd.C_below HR0_0.out HB.out) | (with_reducible refine Kd.C_alloc ?_ _) | (with_reducible refine Kd.C_drewN ?_ _) | (with_reducible refine Kd.C_drew ?_))); (case side2 => exact HC0_0.out); (case side3 => repeat (first | exact (Kd.C_below HR0_1.out HB.out) | (with_reducible refine Kd.C_alloc ?_ _) | (with_reducible refine Kd.C_drewN ?_ _) | (with_reducible refine Kd.C_drew ?_))); (case side4 => exact HC0_1.out); rintro e w8 ⟨rfl, hb⟩; refine ⟨_, rfl, ?_⟩; replace BK220 := Aside0.mk (blk_below (g := gb220) (o := .cells #[.slice A0_0 l0_0.length c0_0, .slice A0_1 l0_1.length c0_1, .int .i64 a0_2] 25 (0, 0)) (by (with_reducible repeat (first | refine blk_drewN ?_ _ | refine blk_drew ?_ | refine blk_alloc ?_ _)); exact BK220.out) hb); replace HB := Aside0.mk (below_step (by with_reducible repeat (first | exact HB.out | apply below_alloc | apply pw_below_drewN | apply below_drew1 | refine below_set ?_ GE220.out)) hb); (try clear hb); (try clear hb2); (try clear hk); (try clear hi); have hcz9_0 : w8.cell? ⟨gb220, 0, none⟩ = some (.slice A0_0 l0_0.length c0_0) := (blk_cell BK220.out 0).trans rfl; have hcz9_1 : w8.cell? ⟨gb220, 1, none⟩ = some (.slice A0_1 l0_1.length c0_1) := (blk_cell BK220.out 1).trans rfl; have hcz9_2 : w8.cell? ⟨gb220, 2, none⟩ = some (.int .i64 a0_2) := (blk_cell BK220.out 2).trans rfl; have hfz9_0 := blk_frozen BK220.out 0; have hfz9_1 := blk_frozen BK220.out 1; have hfz9_2 := blk_frozen BK220.out 2) | (go_at_call 45; (with_reducible refine (impl_within.calls a1 0 (wrap64 ((l0_1.length : Int) - 1)) t222 _ A5.out).mono ?_); rintro e w' ⟨rfl, ⟨nd, rfl⟩⟩))
  go_ret
  exact ⟨by first | rfl | (simp [errW_none, errW_some] <;> rfl) | (simp [*, errW_none, errW_some] <;> rfl) | (simp [E.isEmpty_bne]; done) | (rw [E.bne_empty]), by with_reducible repeat (first | exact HB.out | apply below_alloc | apply pw_below_drewN | apply below_drew1 | refine below_set ?_ GE220.out)⟩
 ·replace c4 := Bool.eq_false_iff.mpr c4
  subst c4
  have H1 : (some false) = some r := by rw [if_neg (show ¬ (false = true) by decide)] at H; exact H
  clear H
  have H := H1
  clear H1
  obtain rfl := Option.some.inj H
  go_enter Try.func63, Try.ntmps63
  go_wp2_with (first | ((with_reducible refine gate_dst (N := 2) rfl ?_); (try (refine gate_guard (by rfl) ?_; dsimp only)); refine box_event ?hg (N := 2) ?hd (cs := #[.slice A0_0 l0_0.length c0_0, .slice A0_1 l0_1.length c0_1, .int .i64 a0_2]) (t := 25) ?hr ?_; (case hd => rfl); (case hg => rfl); (case hr => first | (go_simp; done) | (go_simp; rfl)); intro gb220 hg w10 hbox hb; have BK220 := Aside0.mk (hbox); have GW220 := Aside0.mk ((by rw [hg]; exact (below_size (by with_reducible repeat (first | exact HB.out | apply below_alloc | apply pw_below_drewN | apply below_drew1))) : w.heap.size ≤ gb220)); have GE220 := Aside0.mk ((by rw [hg]; exact (below_size (by with_reducible repeat (first | exact HB.out | apply below_alloc | apply pw_below_drewN | apply below_drew1))) : w.heap.size ≤ gb220)); replace HB := Aside0.mk (below_step (by with_reducible repeat (first | exact HB.out | apply below_alloc | apply pw_below_drewN | apply below_drew1)) hb); clear hb hbox hg; have hcz11_0 : w10.cell? ⟨gb220, 0, none⟩ = some (.slice A0_0 l0_0.length c0_0) := (blk_cell BK220.out 0).trans rfl; have hcz11_1 : w10.cell? ⟨gb220, 1, none⟩ = some (.slice A0_1 l0_1.length c0_1) := (blk_cell BK220.out 1).trans rfl; have hcz11_2 : w10.cell? ⟨gb220, 2, none⟩ = some (.int .i64 a0_2) := (blk_cell BK220.out 2).trans rfl; have hfz11_0 := blk_frozen BK220.out 0; have hfz11_1 := blk_frozen BK220.out 1; have hfz11_2 := blk_frozen BK220.out 2) | ((with_reducible refine gate_callee (f := 22) rfl ?_); refine goesL_ (some 6) rfl rfl Try.func22 (by kernel_rfl) rfl #[.agg #[.slice A0_0 l0_0.length c0_0, .slice A0_1 l0_1.length c0_1, .int .i64 a0_2]] rfl (by (try simp only [List.map_toArray, List.map_cons, List.map_nil]); first | done | rfl | (simp only [List.length_drop, List.length_take]; rfl)) ?_; (with_reducible refine (impl_GoodCow.calls _ _ l0_0 _ _ l0_1 a0_2 false _ ?side1 ?side2 ?side3 ?side4 A3.out).mono ?_); (case side1 => repeat (first | exact (Kd.C_below HR0_0.out HB.out) | (with_reducible refine Kd.C_alloc ?_ _) | (with_reducible refine Kd.C_drewN ?_ _) | (with_reducible refine Kd.C_drew ?_))); (case side2 => exact HC0_0.out); (case side3 => repeat (first | exact (Kd.C_below HR0_1.out HB.out) | (with_reducible refine Kd.C_alloc ?_ _) | (with_reducible refine Kd.C_drewN ?_ _) | (with_reducible refine Kd.C_drew ?_))); (case side4 => exact HC0_1.out); rintro e w12 ⟨rfl, hb⟩; refine ⟨_, rfl, ?_⟩; replace BK220 := Aside0.mk (blk_below (g := gb220) (o := .cells #[.slice A0_0 l0_0.length c0_0, .slice A0_1 l0_1.length c0_1, .int .i64 a0_2] 25 (0, 0)) (by (with_reducible repeat (first | refine blk_drewN ?_ _ | refine blk_drew ?_ | refine blk_alloc ?_ _)); exact BK220.out) hb); replace HB := Aside0.mk (below_step (by with_reducible repeat (first | exact HB.out | apply below_alloc | apply pw_below_drewN | apply below_drew1 | refine below_set ?_ GE220.out)) hb); (try clear hb); (try clear hb2); (try clear hk); (try clear hi)))
  go_ret
  exact ⟨by first | rfl | (simp [errW_none, errW_some] <;> rfl) | (simp [*, errW_none, errW_some] <;> rfl) | (simp [E.isEmpty_bne]; done) | (rw [E.bne_empty]), by with_reducible repeat (first | exact HB.out | apply below_alloc | apply pw_below_drewN | apply below_drew1 | refine below_set ?_ GE220.out)⟩
end Go.Proofs.Ytacfalpgmibfnaa.PCow
