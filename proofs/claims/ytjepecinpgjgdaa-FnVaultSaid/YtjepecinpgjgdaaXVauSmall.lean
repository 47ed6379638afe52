import Derived.Test.YtjepecinpgjgdaaYVaux0
import Derived.Test.YtjepecinpgjgdaaEv
import Derived.Maps.OwnOps
import Derived.Maps.OwnSet
import Derived.StringKeys
import Derived.Test.YtjepecinpgjgdaaYVausmall
import Derived.Test.YtjepecinpgjgdaaXVauRow
/-! A map of texts that the call makes: which of the first texts of a row it holds. -/
namespace Go.Proofs.Ytjepecinpgjgdaa.PVau
open Go.RowKit Go.Proofs.YtjepecinpgjgdaaW.PrintWords Go.Proofs.YtjepecinpgjgdaaW.PrintLast Go.Proofs.YtjepecinpgjgdaaW.PrintMore Go.Proofs.Ytjepecinpgjgdaa.E
set_option linter.unusedVariables false
set_option linter.unusedSimpArgs false
def seenB (ps : List S89) (n : Nat) (s : ByteArray) : Bool := (ps.take n).any fun x => decide (x.f0 = s)
theorem seenB_zero (ps : List S89) (s : ByteArray) : seenB ps 0 s = false := rfl
theorem seenB_succ (ps : List S89) (n : Nat) (h : n < ps.length) (s : ByteArray) : seenB ps (n + 1) s = (seenB ps n s || decide ((rd_T89 ps n).f0 = s)) := by
 unfold seenB
 rw [List.take_succ_eq_append_getElem h, List.any_append]
 have : rd_T89 ps n = ps[n] := by
  unfold rd_T89
  rw [List.getD_eq_getElem?_getD, Int.toNat_natCast, List.getElem?_eq_getElem h]
  rfl
 rw [this]
 simp
def MT (w : World) (bm n : Nat) (ps : List S89) : Prop :=
 ∃ D : DataW Unit, w.ownsMap Try.prog 9 (plainElem Try.prog 4) bm n D ∧ ∀ s : ByteArray, D.atKey (.string s.data.toList) (.lit (.bool false)) = .lit (.bool (seenB ps n s))
theorem MT_made (w : World) (ps : List S89) : MT (w.alloc (.map #[] 0)) w.heap.size 0 ps :=
 ⟨_, World.ownsMap_made _ _ _ _, fun s => rfl⟩
theorem MT_kept {w w' : World} {bm n : Nat} {ps : List S89} {row : Option Nat} (h : MT w bm n ps) (hg : w.grownBy w' row) (hne : some bm ≠ row) : MT w' bm n ps := by
 obtain ⟨D, h1, h2⟩ := h
 exact ⟨D, h1.kept hg hne, h2⟩
theorem MT_below {w w' : World} {bm n : Nat} {ps : List S89} (h : MT w bm n ps) (hb : Below w.heap.size w w') : MT w' bm n ps := MT_kept h (grown_of_below hb none) (by simp)
theorem MT_set {w : World} {bm n : Nat} {ps : List S89} (h : MT w bm n ps) {a : Addr} (ha : bm ≠ a.block) (u : Value) : MT (w.setCell a u) bm n ps := by
 obtain ⟨D, h1, h2⟩ := h
 exact ⟨D, h1.setCell ha u, h2⟩
theorem MT_lt {w : World} {bm n : Nat} {ps : List S89} (h : MT w bm n ps) : bm < w.heap.size := by
 obtain ⟨D, h1, _⟩ := h
 exact h1.lt
theorem MT_blk {w : World} {bm n g : Nat} {ps : List S89} (h : MT w bm n ps) {cs : Array Value} {t : TypeId} {fr : Nat × Nat} (hg : w.heap[g]? = some (.cells cs t fr)) : bm ≠ g := by
 rintro rfl
 obtain ⟨D, ⟨es, clock, hb, _⟩, _⟩ := h
 rw [hb] at hg
 cases hg
theorem zero_bool (w : World) : (zeroValue 4).run Try.prog w = .ok (.bool false) w := by kernel_rfl
theorem plainElem_bool_inv {v : Value} {z : DataW Unit × List MemPlace} (h : plainElem Try.prog 4 v = some z) : ∃ b, v = .bool b ∧ z = (.lit (.bool b), []) := by
 have hu := Try.underlying4
 cases v with
 | bool x => rw [plainElem_bool hu] at h; exact ⟨x, rfl, (Option.some.inj h).symm⟩
 | _ => simp only [plainElem, hu] at h; cases h
theorem MT_look {w : World} {bm n : Nat} {ps : List S89} (h : MT w bm n ps) (s : ByteArray) (hs : s.size ≤ maxLen) :
  ∀ m, (Instr.lookup 93 (.map (some bm)) (.string s) false).run Try.prog (w.drewN m) = .ok (.bool (seenB ps n s)) (w.drewN m) := by
 obtain ⟨D, h1, h2⟩ := h
 intro m
 have h3 : (w.drewN m).ownsMap Try.prog 9 (plainElem Try.prog 4) bm n D := h1
 obtain ⟨v, q, hrun, hv⟩ := h3.lookup (Maps.string_keyed Try.underlying9) Try.underlying93 (zero_bool _) (plainElem_bool Try.underlying4 false) (WideMaps.keyOf_string_mk Try.underlying9 hs)
 obtain ⟨b, rfl, hb⟩ := plainElem_bool_inv hv
 rw [h2 s] at hb
 have : seenB ps n s = b := by simp at hb; exact hb.1
 rw [this]
 exact hrun
theorem R_map {α : Type} {d : Kd α} {w w' : World} {bm n e base : Nat} {ps : List S89} {v : Value} {xs : List α} {ok : Nat → Prop} (h : d.R e w base ok v xs) (hm : MT w bm n ps) (hg : w.grownBy w' (some bm)) : d.R e w' base ok v xs :=
 Kd.R_mono (Kd.R_step (Kd.R_bound h) (fun k hk hlt => hg.block k hlt (fun he => by
  obtain ⟨_, _, _, q, _, cells, hc⟩ := hk
  exact MT_blk hm hc (Option.some.inj he).symm))) (fun _ hk => hk.1)
section
variable {ops : Array Oper} {rest : List Oper} {o : Oper} {a : Act} {Q : Exit → Act → World → Prop}
theorem MT_put {w : World} {bm n : Nat} {ps : List S89} (hgd : o.guard = none) (m x v : Operand) (ho : o.op = Op.mapUpdate 93 m x v) (hm : a.eval m = .map (some bm)) (t : ByteArray) (hx : a.eval x = .string t) (ht : (rd_T89 ps (n : Int)).f0 = t) (hv : a.eval v = .bool true)
  (h : MT w bm n ps) (hn : n < ps.length) (hl : n < maxLen) (hs : t.size ≤ maxLen)
  (hK : ∀ w', MT w' bm (n + 1) ps → w.grownBy w' (some bm) → wpList Try.prog ops Q rest (a.put o.dst undef) w') : wpList Try.prog ops Q (o :: rest) a w := by
 subst ht
 obtain ⟨D, h1, h2⟩ := h
 refine wpList_mapUpdate_own w hgd m x v 93 ho 9 4 (Maps.string_keyed Try.underlying9) Try.underlying93 _ bm n D hm h1 hl _ _ _ hx hv (WideMaps.keyOf_string_mk Try.underlying9 hs) _ [] (plainElem_bool Try.underlying4 true) (fun w' k1 k2 => hK w' ⟨_, k1, fun s => ?_⟩ k2)
 rw [seenB_succ ps n hn]
 by_cases e : (rd_T89 ps (n : Int)).f0 = s
 ·subst e
  rw [Maps.atKey_put_same h1.isMap (show WideAt.IsKeyLit (.string _) from trivial)]
  simp
 ·have : (Lit.string s.data.toList) ≠ .string (rd_T89 ps (n : Int)).f0.data.toList := fun h => by
   injection h with h
   apply e
   have h4 := Array.toList_inj.1 h
   cases s; cases hq : (rd_T89 ps (n : Int)).f0
   rw [hq] at h4
   simp only at h4
   rw [h4]
  rw [Maps.atKey_put_other this, h2 s]
  simp [e]
end
end Go.Proofs.Ytjepecinpgjgdaa.PVau
/-! GoodVault of the program: uses are counted, texts are kept in a map; walked by hand. -/
namespace Go.Proofs.Ytjepecinpgjgdaa.PVau
open Go.RowKit Go.Proofs.YtjepecinpgjgdaaW.PrintWords Go.Proofs.YtjepecinpgjgdaaW.PrintLast Go.Proofs.YtjepecinpgjgdaaW.PrintMore Go.Proofs.Ytjepecinpgjgdaa.E
set_option linter.unusedSimpArgs false
set_option linter.unusedVariables false
def incs (n : Nat) : List Int → List Int → Option (List Int)
 | U, [] => some U
 | U, k :: r => if 0 ≤ k ∧ k ≤ (n : Int) - 1 then incs n (U.set k.toNat (wrap64 (rd U k + 1))) r else none
def gV (n : Nat) : List Int → List S87 → Option (List Int)
 | U, [] => some U
 | U, f :: r => if (f.f0.length : Int) > 200 then none else (incs n U f.f0).bind fun V => gV n V r
def okP (ps : List S89) (U : List Int) (i : Nat) : Bool :=
 if 1 ≤ (rd_T89 ps i).f0.size ∧ (rd_T89 ps i).f0.size ≤ 24 then
  (if seenB ps i (rd_T89 ps i).f0 = true then false else if (rd_T89 ps i).f1 = rd U i then decide (1 ≤ (rd_T89 ps i).f1) else false) else false
def goodP (ps : List S89) (U : List Int) : Nat → Nat → Bool
 | 0, _ => true
 | f + 1, i => if okP ps U i = true then goodP ps U f (i + 1) else false
def good (ps : List S89) (fs : List S87) : Bool :=
 if (ps.length : Int) > 100 ∨ (fs.length : Int) > 20 then false else
  match gV ps.length (List.replicate ps.length 0) fs with
  | none => false
  | some U => goodP ps U ps.length 0
theorem incs_len (n : Nat) : ∀ (ks U V : List Int), incs n U ks = some V → V.length = U.length := by
 intro ks
 induction ks with
 | nil => intro U V h; simp [incs] at h; rw [h]
 | cons k r ih =>
  intro U V h
  simp only [incs] at h
  split at h
  ·rw [ih _ _ h, List.length_set]
  ·cases h
set_option maxHeartbeats 8000000 in
set_option maxRecDepth 100000 in
theorem good_calls (A0 : Option Addr) (c0 : Nat) (l0 : List S89) (A1 : Option Addr) (c1 : Nat) (l1 : List S87) (r : Bool) (w : World) (hr0 : Kd.C k89 w A0 l0.length l0) (hc0 : l0.length ≤ c0) (hr1 : Kd.C k87 w A1 l1.length l1) (hc1 : l1.length ≤ c1) (h : good l0 l1 = r) :
  Calls Try.prog 36 #[.agg #[.slice A0 l0.length c0, .slice A1 l1.length c1]] w fun e w' => e = .returned (.bool r) ∧ Below w.heap.size w w' := by
 have hu51 := Try.underlying51
 have hu87 := Try.underlying87
 have hu89 := Try.underlying89
 have hmm := @run_makeMap Try.prog
 have HR0 := Aside0.mk hr0
 have HR1 := Aside0.mk hr1
 have H := Aside0.mk h
 have hn0 : l0.length ≤ 9223372036854775807 := hr0.2.1
 have hn1 : l1.length ≤ 9223372036854775807 := hr1.2.1
 clear hr0 hr1 h
 by_cases h100 : (l0.length : Int) > 100
 ·have e1 : decide ((100 : Int) < l0.length) = true := decide_eq_true h100
  have hr : r = false := by rw [← H.out]; unfold good; rw [if_pos (.inl h100)]
  clear h100
  subst hr
  go_enter Try.func36, Try.ntmps36
  go_wp2
  go_ret
  exact ⟨rfl, (Below.refl _ _).alloc (Nat.le_refl _) _⟩
 ·have e1 : decide ((100 : Int) < l0.length) = false := decide_eq_false h100
  by_cases h20 : (l1.length : Int) > 20
  ·have e2 : decide ((20 : Int) < l1.length) = true := decide_eq_true h20
   have hr : r = false := by rw [← H.out]; unfold good; rw [if_pos (.inr h20)]
   clear h100 h20
   subst hr
   go_enter Try.func36, Try.ntmps36
   go_wp2
   go_ret
   exact ⟨rfl, (Below.refl _ _).alloc (Nat.le_refl _) _⟩
  ·have e2 : decide ((20 : Int) < l1.length) = false := decide_eq_false h20
   have hN := Aside0.mk (show (l0.length : Int) ≤ 100 ∧ (l1.length : Int) ≤ 20 by omega)
   have hr := Aside0.mk (show (match gV l0.length (List.replicate l0.length 0) l1 with | none => false | some U => goodP l0 U l0.length 0) = r by
    have := H.out
    unfold good at this
    rwa [if_neg (by omega)] at this)
   clear h100 h20 H
   go_enter Try.func36, Try.ntmps36
   go_wp2_with ((with_reducible refine gate_dst (N := 24) rfl ?_); (try (refine gate_guard (by rfl) ?_; dsimp only)); refine Kd.R_make (Kd.int .i64) _ 3 rfl (N := 24) rfl 22 _ _ rfl (l0.length : Int) rfl rfl Try.underlying22 (.int .i64 0) 8 info3 rfl (by decide) (by omega) 0 (ok := fun _ => True) (okp := fun _ => True) rfl (fun _ hk => hk) trivial (by omega) (by have := hN.out; omega) (Below.refl _ _) (Nat.le_refl _) ?_)
   intro v w1 ho hb hg_ hnew_ hq1_ hq2_
   clear hg_ hq1_ hq2_
   have X := Aside0.mk (show w1.heap[w.heap.size]? = some (.cells #[.slice A0 l0.length c0, .slice A1 l1.length c1] 51 (0, 0)) from (hb.block w.heap.size (by simp)).trans (heap_alloc_new w _))
   have B := Aside0.mk (show Below w.heap.size w w1 from ((Below.refl _ _).alloc (Nat.le_refl _) _).trans (hb.mono (by simp)))
   have RU := Aside0.mk (Kd.R_lower ho (base' := w.heap.size) (by simp))
   clear hb ho
   have d0 : w1.cell? ⟨w.heap.size, 0, none⟩ = some (.slice A0 l0.length c0) := (blk_cell X.out _).trans rfl
   have d1 : w1.cell? ⟨w.heap.size, 1, none⟩ = some (.slice A1 l1.length c1) := (blk_cell X.out _).trans rfl
   go_wp2
   go_loopw [28] (fun i wr => ∃ (j : Nat) (U : List Int), j ≤ l1.length ∧ i = .int .i64 j ∧ U.length = l0.length ∧ Aside0 (gV l0.length U (l1.drop j) = gV l0.length (List.replicate l0.length 0) l1) ∧ Aside0 (Kd.R (Kd.int .i64) 3 wr w.heap.size (fun _ => True) v U) ∧ Aside0 (wr.heap[w.heap.size]? = some (.cells #[.slice A0 l0.length c0, .slice A1 l1.length c1] 51 (0, 0))) ∧ Aside0 (Below w.heap.size w wr)) (fun i _ => l1.length - (intOf i).toNat)
   case atStart => exact ⟨0, _, Nat.zero_le _, rfl, by simp, ⟨by simp⟩, RU, X, B⟩
   case round =>
    clear RU X B d0 d1
    obtain ⟨j, U, hj, rfl, hU, hG, RU, X, B⟩ := hrel
    have d0 : wr.cell? ⟨w.heap.size, 0, none⟩ = some (.slice A0 l0.length c0) := (blk_cell X.out _).trans rfl
    have d1 : wr.cell? ⟨w.heap.size, 1, none⟩ = some (.slice A1 l1.length c1) := (blk_cell X.out _).trans rfl
    by_cases hlt : j < l1.length
    ·obtain ⟨ad, A, c, e, hx0, hx1, hx2⟩ := at_T87 HR1.out (j : Int) (by omega) (by omega)
     cases e
     simp only [Int.toNat_natCast] at hx0
     replace hx0 := (B.out.cell (World.block_lt_of_cell? w _ hx0)).trans hx0
     have HX := Aside0.mk hx2
     clear hx2
     have hjl : ((j : Int) < (l1.length : Int)) = True := eq_true (by omega)
     have hd : l1.drop j = rd_T87 l1 j :: l1.drop (j + 1) := by
      rw [List.drop_eq_getElem_cons hlt]
      congr 1
      unfold rd_T87
      rw [List.getD_eq_getElem?_getD, Int.toNat_natCast, List.getElem?_eq_getElem hlt]
      rfl
     have hG2 := Aside0.mk hG.out
     clear hG
     obtain ⟨ps, hps⟩ : ∃ ps, (rd_T87 l1 j).f0 = ps := ⟨_, rfl⟩
     rw [hps] at hx0 hx1 HX
     by_cases h200 : (ps.length : Int) > 200
     ·have e200 : decide ((200 : Int) < ps.length) = true := decide_eq_true h200
      have hrf : r = false := by
       have h1 := hr.out
       rw [← hG2.out, hd] at h1
       simp only [gV] at h1
       rw [hps, if_pos h200] at h1
       exact h1.symm
      clear h200 hr hG2 hd
      subst hrf
      go_wp2
      go_ret
      exact ⟨rfl, B.out.alloc B.out.size _⟩
     ·have e200 : decide ((200 : Int) < ps.length) = false := decide_eq_false h200
      have hG3 := Aside0.mk (show (incs l0.length U ps).bind (fun V => gV l0.length V (l1.drop (j + 1))) = gV l0.length (List.replicate l0.length 0) l1 by
       have h1 := hG2.out
       rw [hd] at h1
       simp only [gV] at h1
       rwa [hps, if_neg h200] at h1)
      have hp200 : ps.length ≤ 200 := by omega
      clear h200 hG2 hd
      go_wp2
      go_loopw [39] (fun i w2 => ∃ (k : Nat) (V : List Int), k ≤ ps.length ∧ i = .int .i64 k ∧ V.length = l0.length ∧ Aside0 (incs l0.length V (ps.drop k) = incs l0.length U ps) ∧ Aside0 (Kd.R (Kd.int .i64) 3 w2 w.heap.size (fun _ => True) v V) ∧ Aside0 (w2.heap[w.heap.size]? = some (.cells #[.slice A0 l0.length c0, .slice (some ad) l1.length c1] 51 (0, 0))) ∧ Aside0 (Below w.heap.size w w2)) (fun i _ => ps.length - (intOf i).toNat)
      case atStart => exact ⟨0, U, Nat.zero_le _, rfl, hU, ⟨by simp⟩, ⟨Kd.R_alloc RU.out _⟩, ⟨blk_alloc X.out _⟩, ⟨B.out.alloc B.out.size _⟩⟩
      case round =>
       clear RU X B d0 d1 hx0
       obtain ⟨k, V, hk, rfl, hV, hI, RU, X, B⟩ := hrel
       have d0 : wr.cell? ⟨w.heap.size, 0, none⟩ = some (.slice A0 l0.length c0) := (blk_cell X.out _).trans rfl
       have d1 : wr.cell? ⟨w.heap.size, 1, none⟩ = some (.slice (some ad) l1.length c1) := (blk_cell X.out _).trans rfl
       by_cases hkl : k < ps.length
       ·obtain ⟨ad2, e2', hy0⟩ := Kd.at_int HX.out (k : Int) (by omega) (by omega)
        cases e2'
        simp only [Int.toNat_natCast] at hy0
        replace hy0 := (B.out.cell (World.block_lt_of_cell? w _ hy0)).trans hy0
        have hkk : ((k : Int) < (ps.length : Int)) = True := eq_true (by omega)
        obtain ⟨q, hq⟩ : ∃ q, rd ps (k : Int) = q := ⟨_, rfl⟩
        rw [hq] at hy0
        have hd2 : ps.drop k = q :: ps.drop (k + 1) := by
         rw [List.drop_eq_getElem_cons hkl]
         congr 1
         rw [← hq]
         unfold rd
         rw [List.getD_eq_getElem?_getD, Int.toNat_natCast, List.getElem?_eq_getElem hkl]
         rfl
        by_cases hin : 0 ≤ q ∧ q ≤ (l0.length : Int) - 1
        ·obtain ⟨g, cap, hv, hg1, hg2, cs, hgc⟩ := Kd.R_form RU.out (by omega : 0 < V.length)
         subst hv
         obtain ⟨hcl, hfr⟩ := Kd.R_celln (d := (0 : Int)) RU.out q hin.1 (by omega)
         replace hcl : wr.cell? ⟨g, q.toNat, none⟩ = some (.int .i64 (rd V q)) := hcl
         have hw := Aside0.mk (show impl_within.f q 0 ((l0.length : Int) - 1) = some true by
          unfold impl_within.f
          rw [if_pos (by omega)]
          simp; omega)
         have hI2 := Aside0.mk (show incs l0.length (V.set q.toNat (wrap64 (rd V q + 1))) (ps.drop (k + 1)) = incs l0.length U ps by
          have := hI.out
          rw [hd2] at this
          simp only [incs] at this
          rwa [if_pos hin] at this)
         have p1 : (0 ≤ q) = True := eq_true hin.1
         have p2 : (q < (V.length : Int)) = True := eq_true (by omega)
         have HV := Aside0.mk hV
         have HU := Aside0.mk hU
         clear hV hU hq hd2 hI hin
         go_wp2_with (go_at_call 60; refine (impl_within.calls q 0 ((l0.length : Int) - 1) true _ hw.out).mono ?_)
         rintro e w2 ⟨rfl, nd, rfl⟩
         go_wp2
         go_roundw
         case rel =>
          exact ⟨k + 1, V.set q.toNat (wrap64 (rd V q + 1)), hkl, by go_num, by rw [List.length_set]; exact HV.out, hI2,
           ⟨Kd.R_putn (Kd.R_drewN RU.out nd) q _⟩, ⟨blk_far (blk_drewN X.out nd) (p := ⟨g, q.toNat, none⟩) (blk_ne X.out hgc (by decide)) _⟩, ⟨below_set (pw_below_drewN B.out nd) hg1⟩⟩
         case measure => simp [intOf]; omega
        ·have hw := Aside0.mk (show impl_within.f q 0 ((l0.length : Int) - 1) = some false by
          unfold impl_within.f
          split
          ·simp; omega
          ·rfl)
         have hrf : r = false := by
          have h1 := hr.out
          have h2 := hI.out
          rw [hd2] at h2
          simp only [incs] at h2
          rw [if_neg hin] at h2
          rw [← hG3.out, ← h2] at h1
          exact h1.symm
         have HV := Aside0.mk hV
         clear hV hU hq hd2 hkl hk hp200 hI hin hr hG3
         subst hrf
         go_wp2_with (go_at_call 60; refine (impl_within.calls q 0 ((l0.length : Int) - 1) false _ hw.out).mono ?_)
         rintro e w2 ⟨rfl, nd, rfl⟩
         go_wp2
         go_ret
         exact ⟨rfl, pw_below_drewN B.out nd⟩
       ·have hkk : ((k : Int) < (ps.length : Int)) = False := eq_false (by omega)
        have hG4 := Aside0.mk (show gV l0.length V (l1.drop (j + 1)) = gV l0.length (List.replicate l0.length 0) l1 by
         have h1 := hI.out
         rw [List.drop_of_length_le (by omega)] at h1
         simp only [incs] at h1
         rw [← hG3.out, ← h1]
         rfl)
        have HV := Aside0.mk hV
        have hl20 : (l1.length : Int) ≤ 20 := hN.out.2
        clear hV hU hk hp200 hI hkl hj hG3
        go_wp2
        go_roundw
        case rel =>
         exact ⟨j + 1, V, hlt, by go_num, HV.out, hG4, RU, X, B⟩
        case measure => simp [intOf]; omega
    ·have hjl : ((j : Int) < (l1.length : Int)) = False := eq_false (by omega)
     have hP := Aside0.mk (show goodP l0 U l0.length 0 = r by
      have h1 := hG.out
      rw [List.drop_of_length_le (by omega)] at h1
      simp only [gV] at h1
      have h2 := hr.out
      rw [← h1] at h2
      exact h2)
     have HU := Aside0.mk hU
     clear hU hj hG hr hlt
     have M0 := Aside0.mk (MT_made wr l0)
     have X0 := Aside0.mk (blk_alloc X.out (.map #[] 0))
     have R0 := Aside0.mk (Kd.R_alloc RU.out (.map #[] 0))
     have B0 := Aside0.mk (B.out.alloc B.out.size (.map #[] 0))
     have d0 : (wr.alloc (.map #[] 0)).cell? ⟨w.heap.size, 0, none⟩ = some (.slice A0 l0.length c0) := (blk_cell X0.out _).trans rfl
     have d1 : (wr.alloc (.map #[] 0)).cell? ⟨w.heap.size, 1, none⟩ = some (.slice A1 l1.length c1) := (blk_cell X0.out _).trans rfl
     have hbm := Aside0.mk (show w.heap.size ≤ wr.heap.size from B.out.size)
     clear RU X B
     go_wp2
     obtain ⟨wo, rfl⟩ : ∃ wo : World, wo = wr := ⟨_, rfl⟩
     go_loopw [62] (fun i w2 => ∃ j : Nat, j ≤ l0.length ∧ i = .int .i64 j ∧ Aside0 (goodP l0 U (l0.length - j) j = r) ∧ Aside0 (Kd.R (Kd.int .i64) 3 w2 w.heap.size (fun _ => True) v U) ∧ Aside0 (MT w2 wo.heap.size j l0) ∧ Aside0 (Below w.heap.size w w2)) (fun i _ => l0.length - (intOf i).toNat)
     case atStart => exact ⟨0, Nat.zero_le _, rfl, hP, R0, M0, B0⟩
     case round =>
      clear R0 M0 B0 d0 d1 hP
      obtain ⟨i, hi, rfl, hP, RU, M, B⟩ := hrel
      have hl100 : (l0.length : Int) ≤ 100 := hN.out.1
      by_cases hil : i < l0.length
      ·obtain ⟨ad, e, hx0, hx1⟩ := at_T89 HR0.out (i : Int) (by omega) (by omega)
       subst e
       simp only [Int.toNat_natCast] at hx0 hx1
       replace hx0 := (B.out.cell (World.block_lt_of_cell? w _ hx0)).trans hx0
       replace hx1 := (B.out.cell (World.block_lt_of_cell? w _ hx1)).trans hx1
       have hii : ((i : Int) < (l0.length : Int)) = True := eq_true (by omega)
       obtain ⟨t, ht⟩ : ∃ t, (rd_T89 l0 i).f0 = t := ⟨_, rfl⟩
       obtain ⟨u, hu⟩ : ∃ u, (rd_T89 l0 i).f1 = u := ⟨_, rfl⟩
       rw [ht] at hx0
       rw [hu] at hx1
       have HT := Aside0.mk ht
       have HUu := Aside0.mk hu
       clear ht hu
       obtain ⟨g, cap, hv, hg1, hg2, cs, hgc⟩ := Kd.R_form RU.out (by have := HU.out; omega : 0 < U.length)
       subst hv
       obtain ⟨hcl, _⟩ := Kd.R_celln (d := (0 : Int)) RU.out (i : Int) (by omega) (by have := HU.out; omega)
       replace hcl : wr.cell? ⟨g, i, none⟩ = some (.int .i64 (rd U i)) := hcl
       have p2 : ((i : Int) < (U.length : Int)) = True := eq_true (by have := HU.out; omega)
       have W1 : ∀ x : Obj, Aside0 (MT (wr.alloc x) wo.heap.size i l0) := fun x => ⟨MT_below M.out (below_alloc (Below.refl _ _) _)⟩
       obtain ⟨x, hx⟩ : ∃ x, rd U i = x := ⟨_, rfl⟩
       rw [hx] at hcl
       have HXx := Aside0.mk hx
       clear hx
       have hP1 := Aside0.mk (show (if okP l0 U i = true then goodP l0 U (l0.length - (i + 1)) (i + 1) else false) = r by
        have h1 := hP.out
        rw [show l0.length - i = (l0.length - (i + 1)) + 1 by omega] at h1
        exact h1)
       clear hP
       go_wp2
       by_cases hsz : 1 ≤ t.size ∧ t.size ≤ 24
       ·have hw := Aside0.mk (show impl_within.f (t.size : Int) 1 24 = some true by
         unfold impl_within.f
         rw [if_pos (by omega)]
         simp; omega)
        have hlook := MT_look (W1 (.cells #[.string t, .int .i64 u] 89)).out t (by simp only [maxLen]; omega)
        have hts := Aside0.mk (show t.size ≤ 24 from hsz.2)
        cases hsn : seenB l0 i t with
        | true =>
         rw [hsn] at hlook
         have hrf : r = false := by
          have h1 := hP1.out
          unfold okP at h1
          rw [HT.out, if_pos hsz, if_pos hsn, if_neg (by simp)] at h1
          exact h1.symm
         clear hP1 hsn hsz
         subst hrf
         go_quiet ((go_at_call 60; exact Calls.quiet_of ((impl_within.calls _ 1 24 true _ hw.out).mono (fun e w' h => ⟨h.1, h.2.out⟩))))
         go_wp2
         go_ret
         exact ⟨rfl, pw_below_drewN (B.out.alloc B.out.size _) nq⟩
        | false =>
         rw [hsn] at hlook
         by_cases hux : u = x
         ·subst hux
          by_cases hu1 : 1 ≤ u
          ·have hlt1 : decide (u < 1) = false := decide_eq_false (by omega)
           have hok : okP l0 U i = true := by
            unfold okP
            rw [HT.out, if_pos hsz, if_neg (by simp [hsn]), HUu.out, HXx.out, if_pos rfl]
            simpa using hu1
           have hP2 := Aside0.mk (show goodP l0 U (l0.length - (i + 1)) (i + 1) = r by
            have h1 := hP1.out
            rwa [if_pos hok] at h1)
           clear hP1 hsn hsz hok hu1
           go_quiet ((go_at_call 60; exact Calls.quiet_of ((impl_within.calls _ 1 24 true _ hw.out).mono (fun e w' h => ⟨h.1, h.2.out⟩))))
           have M1 := Aside0.mk (MT_below (W1 (.cells #[.string t, .int .i64 u] 89)).out (pw_below_drewN (Below.refl _ _) nq))
           clear hlook
           have mx := Aside0.mk (show i < maxLen ∧ t.size ≤ maxLen from ⟨by simp only [maxLen]; omega, by have := hts.out; simp only [maxLen]; omega⟩)
           go_wp2_with (at_mapUpdate; refine MT_put rfl _ _ _ rfl rfl t rfl HT.out rfl M1.out hil mx.out.1 mx.out.2 ?_)
           intro w5 M5 hg5
           have R5 := Aside0.mk (R_map (Kd.R_drewN (Kd.R_alloc RU.out _) nq) M1.out hg5)
           have B5 := Aside0.mk (pw_below_grown (pw_below_drewN (B.out.alloc B.out.size _) nq) (some wo.heap.size) (by simp; have := B.out.size; omega) hg5 (fun k hk => by cases hk; exact hbm.out))
           have M6 := Aside0.mk M5
           clear hg5 M5 M1
           go_wp2
           go_roundw
           case rel => exact ⟨i + 1, hil, by go_num, hP2, R5, M6, B5⟩
           case measure => simp [intOf]; omega
          ·have hlt1 : decide (u < 1) = true := decide_eq_true (by omega)
           have hrf : r = false := by
            have h1 := hP1.out
            have hok : okP l0 U i = false := by
             unfold okP
             rw [HT.out, if_pos hsz, if_neg (by simp [hsn]), HUu.out, HXx.out, if_pos rfl]
             simpa using hu1
            rw [hok, if_neg (by simp)] at h1
            exact h1.symm
           clear hP1 hsn hsz hu1
           subst hrf
           go_quiet ((go_at_call 60; exact Calls.quiet_of ((impl_within.calls _ 1 24 true _ hw.out).mono (fun e w' h => ⟨h.1, h.2.out⟩))))
           go_wp2
           go_ret
           exact ⟨rfl, pw_below_drewN (B.out.alloc B.out.size _) nq⟩
         ·have hrf : r = false := by
           have h1 := hP1.out
           have hok : okP l0 U i = false := by
            unfold okP
            rw [HT.out, if_pos hsz, if_neg (by simp [hsn]), HUu.out, HXx.out, if_neg hux]
           rw [hok, if_neg (by simp)] at h1
           exact h1.symm
          have hne1 : (u == x) = false := by simpa using hux
          have hne2 : (u != x) = true := by simpa using hux
          have hne3 : (u = x) = False := eq_false hux
          clear hP1 hsn hsz hux
          subst hrf
          go_quiet ((go_at_call 60; exact Calls.quiet_of ((impl_within.calls _ 1 24 true _ hw.out).mono (fun e w' h => ⟨h.1, h.2.out⟩))))
          go_wp2
          go_ret
          exact ⟨rfl, pw_below_drewN (B.out.alloc B.out.size _) nq⟩
       ·have hw := Aside0.mk (show impl_within.f (t.size : Int) 1 24 = some false by
         unfold impl_within.f
         split
         ·simp; omega
         ·rfl)
        have hrf : r = false := by
         have h1 := hP1.out
         unfold okP at h1
         rw [HT.out, if_neg hsz, if_neg (by simp)] at h1
         exact h1.symm
        clear hP1 hsz
        subst hrf
        go_quiet ((go_at_call 60; exact Calls.quiet_of ((impl_within.calls _ 1 24 false _ hw.out).mono (fun e w' h => ⟨h.1, h.2.out⟩))))
        go_wp2
        go_ret
        exact ⟨rfl, pw_below_drewN (B.out.alloc B.out.size _) nq⟩
      ·have hii : ((i : Int) < (l0.length : Int)) = False := eq_false (by omega)
       have hr1 : r = true := by
        have h1 := hP.out
        rw [show l0.length - i = 0 by omega] at h1
        exact h1.symm
       subst hr1
       clear hP hil
       go_wp2
       go_ret
       exact ⟨rfl, B.out⟩
def impl_GoodVault.f (l0_0 : List S89) (l0_1 : List S87) : Option Bool := some (good l0_0 l0_1)
theorem impl_GoodVault.calls (A0_0 : Option Addr) (c0_0 : Nat) (l0_0 : List S89) (A0_1 : Option Addr) (c0_1 : Nat) (l0_1 : List S87) (r : Bool) (w : World) (hr0_0 : Kd.C k89 w A0_0 l0_0.length l0_0) (hc0_0 : l0_0.length ≤ c0_0) (hr0_1 : Kd.C k87 w A0_1 l0_1.length l0_1) (hc0_1 : l0_1.length ≤ c0_1) (h : impl_GoodVault.f l0_0 l0_1 = some r) :
  Calls Try.prog 36 #[.agg #[.slice A0_0 l0_0.length c0_0, .slice A0_1 l0_1.length c0_1]] w fun e w' => e = .returned (.bool r) ∧ Below w.heap.size w w' :=
 good_calls A0_0 c0_0 l0_0 A0_1 c0_1 l0_1 r w hr0_0 hc0_0 hr0_1 hc0_1 (Option.some.inj h)
end Go.Proofs.Ytjepecinpgjgdaa.PVau
/-! What a good vault bounds; a store grows one row. -/
namespace Go.Proofs.Ytjepecinpgjgdaa.PVau
open Go.RowKit Go.Proofs.YtjepecinpgjgdaaW.PrintWords Go.Proofs.YtjepecinpgjgdaaW.PrintLast Go.Proofs.YtjepecinpgjgdaaW.PrintMore Go.Proofs.Ytjepecinpgjgdaa.E
set_option linter.unusedSimpArgs false
set_option linter.unusedVariables false
theorem gV_parts (n : Nat) : ∀ (fs : List FL) (U V : List Int), gV n U fs = some V → ∀ f ∈ fs, f.f0.length ≤ 200 := by
 intro fs
 induction fs with
 | nil => intro U V h f hf; cases hf
 | cons g r ih =>
  intro U V h f hf
  simp only [gV] at h
  split at h
  ·cases h
  ·obtain ⟨W, h1, h2⟩ := Option.bind_eq_some_iff.1 h
   rcases List.mem_cons.1 hf with rfl | hf
   ·omega
   ·exact ih _ _ h2 f hf
theorem good_small {ps : List KL} {fs : List FL} (h : good ps fs = true) : ps.length ≤ 100 ∧ fs.length ≤ 20 ∧ ∀ f ∈ fs, f.f0.length ≤ 200 := by
 unfold good at h
 split at h
 ·cases h
 ·rename_i hn
  split at h
  ·cases h
  ·rename_i V hV
   exact ⟨by omega, by omega, gV_parts _ _ _ _ hV⟩
theorem grown_cell (W : World) (g i : Nat) (v : Value) : W.grownBy (W.setCell ⟨g, i, none⟩ v) (some g) :=
 ⟨rfl, rfl, rfl, by simp [World.setCell], fun k _ hk => Below.heap_setCell W ⟨g, i, none⟩ v k (fun e_ => hk (by rw [e_]))⟩
end Go.Proofs.Ytjepecinpgjgdaa.PVau
