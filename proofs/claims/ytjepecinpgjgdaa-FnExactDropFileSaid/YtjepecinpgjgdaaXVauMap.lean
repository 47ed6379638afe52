import Derived.Test.YtjepecinpgjgdaaYVaux0
import Derived.Test.YtjepecinpgjgdaaEv
import Derived.Maps.OwnOps
import Derived.Maps.OwnSet
import Derived.StringKeys
/-! A map of texts that the call makes: which of the first texts of a row it holds. -/
namespace Go.Proofs.Ytjepecinpgjgdaa.PVau
open Go.RowKit Go.Proofs.YtjepecinpgjgdaaW.PrintWords Go.Proofs.YtjepecinpgjgdaaW.PrintLast Go.Proofs.YtjepecinpgjgdaaW.PrintMore Go.Proofs.Ytjepecinpgjgdaa.E
set_option linter.unusedVariables false
set_option linter.unusedSimpArgs false
def seenB (ps : List S89) (n : Nat) (s : ByteArray) : Bool := (ps.take n).any fun x => decide (x.f0 = s)
theorem seenB_zero (ps : List S89) (s : ByteArray) : seenB ps 0 s = false := rfl
theorem seenB_succ (ps : List S89) (n : Nat) (h : n < ps.length) (s : ByteArray) : seenB ps (n + 1) s = (seenB ps n s || decide ((rd_T89 ps n).f0 = s)) := by
 unfold seenB
 rw [List.take_succ_eq_append_getElem h, List.any_append]
 have : rd_T89 ps n = ps[n] := by
  unfold rd_T89
  rw [List.getD_eq_getElem?_getD, Int.toNat_natCast, List.getElem?_eq_getElem h]
  rfl
 rw [this]
 simp
def MT (w : World) (bm n : Nat) (ps : List S89) : Prop :=
 ∃ D : DataW Unit, w.ownsMap Try.prog 9 (plainElem Try.prog 4) bm n D ∧ ∀ s : ByteArray, D.atKey (.string s.data.toList) (.lit (.bool false)) = .lit (.bool (seenB ps n s))
theorem MT_made (w : World) (ps : List S89) : MT (w.alloc (.map #[] 0)) w.heap.size 0 ps :=
 ⟨_, World.ownsMap_made _ _ _ _, fun s => rfl⟩
theorem MT_kept {w w' : World} {bm n : Nat} {ps : List S89} {row : Option Nat} (h : MT w bm n ps) (hg : w.grownBy w' row) (hne : some bm ≠ row) : MT w' bm n ps := by
 obtain ⟨D, h1, h2⟩ := h
 exact ⟨D, h1.kept hg hne, h2⟩
theorem MT_below {w w' : World} {bm n : Nat} {ps : List S89} (h : MT w bm n ps) (hb : Below w.heap.size w w') : MT w' bm n ps := MT_kept h (grown_of_below hb none) (by simp)
theorem MT_set {w : World} {bm n : Nat} {ps : List S89} (h : MT w bm n ps) {a : Addr} (ha : bm ≠ a.block) (u : Value) : MT (w.setCell a u) bm n ps := by
 obtain ⟨D, h1, h2⟩ := h
 exact ⟨D, h1.setCell ha u, h2⟩
theorem MT_lt {w : World} {bm n : Nat} {ps : List S89} (h : MT w bm n ps) : bm < w.heap.size := by
 obtain ⟨D, h1, _⟩ := h
 exact h1.lt
theorem MT_blk {w : World} {bm n g : Nat} {ps : List S89} (h : MT w bm n ps) {cs : Array Value} {t : TypeId} {fr : Nat × Nat} (hg : w.heap[g]? = some (.cells cs t fr)) : bm ≠ g := by
 rintro rfl
 obtain ⟨D, ⟨es, clock, hb, _⟩, _⟩ := h
 rw [hb] at hg
 cases hg
theorem zero_bool (w : World) : (zeroValue 4).run Try.prog w = .ok (.bool false) w := by kernel_rfl
theorem plainElem_bool_inv {v : Value} {z : DataW Unit × List MemPlace} (h : plainElem Try.prog 4 v = some z) : ∃ b, v = .bool b ∧ z = (.lit (.bool b), []) := by
 have hu := Try.underlying4
 cases v with
 | bool x => rw [plainElem_bool hu] at h; exact ⟨x, rfl, (Option.some.inj h).symm⟩
 | _ => simp only [plainElem, hu] at h; cases h
theorem MT_look {w : World} {bm n : Nat} {ps : List S89} (h : MT w bm n ps) (s : ByteArray) (hs : s.size ≤ maxLen) :
  ∀ m, (Instr.lookup 93 (.map (some bm)) (.string s) false).run Try.prog (w.drewN m) = .ok (.bool (seenB ps n s)) (w.drewN m) := by
 obtain ⟨D, h1, h2⟩ := h
 intro m
 have h3 : (w.drewN m).ownsMap Try.prog 9 (plainElem Try.prog 4) bm n D := h1
 obtain ⟨v, q, hrun, hv⟩ := h3.lookup (Maps.string_keyed Try.underlying9) Try.underlying93 (zero_bool _) (plainElem_bool Try.underlying4 false) (WideMaps.keyOf_string_mk Try.underlying9 hs)
 obtain ⟨b, rfl, hb⟩ := plainElem_bool_inv hv
 rw [h2 s] at hb
 have : seenB ps n s = b := by simp at hb; exact hb.1
 rw [this]
 exact hrun
theorem R_map {α : Type} {d : Kd α} {w w' : World} {bm n e base : Nat} {ps : List S89} {v : Value} {xs : List α} {ok : Nat → Prop} (h : d.R e w base ok v xs) (hm : MT w bm n ps) (hg : w.grownBy w' (some bm)) : d.R e w' base ok v xs :=
 Kd.R_mono (Kd.R_step (Kd.R_bound h) (fun k hk hlt => hg.block k hlt (fun he => by
  obtain ⟨_, _, _, q, _, cells, hc⟩ := hk
  exact MT_blk hm hc (Option.some.inj he).symm))) (fun _ hk => hk.1)
section
variable {ops : Array Oper} {rest : List Oper} {o : Oper} {a : Act} {Q : Exit → Act → World → Prop}
theorem MT_put {w : World} {bm n : Nat} {ps : List S89} (hgd : o.guard = none) (m x v : Operand) (ho : o.op = Op.mapUpdate 93 m x v) (hm : a.eval m = .map (some bm)) (t : ByteArray) (hx : a.eval x = .string t) (ht : (rd_T89 ps (n : Int)).f0 = t) (hv : a.eval v = .bool true)
  (h : MT w bm n ps) (hn : n < ps.length) (hl : n < maxLen) (hs : t.size ≤ maxLen)
  (hK : ∀ w', MT w' bm (n + 1) ps → w.grownBy w' (some bm) → wpList Try.prog ops Q rest (a.put o.dst undef) w') : wpList Try.prog ops Q (o :: rest) a w := by
 subst ht
 obtain ⟨D, h1, h2⟩ := h
 refine wpList_mapUpdate_own w hgd m x v 93 ho 9 4 (Maps.string_keyed Try.underlying9) Try.underlying93 _ bm n D hm h1 hl _ _ _ hx hv (WideMaps.keyOf_string_mk Try.underlying9 hs) _ [] (plainElem_bool Try.underlying4 true) (fun w' k1 k2 => hK w' ⟨_, k1, fun s => ?_⟩ k2)
 rw [seenB_succ ps n hn]
 by_cases e : (rd_T89 ps (n : Int)).f0 = s
 ·subst e
  rw [Maps.atKey_put_same h1.isMap (show WideAt.IsKeyLit (.string _) from trivial)]
  simp
 ·have : (Lit.string s.data.toList) ≠ .string (rd_T89 ps (n : Int)).f0.data.toList := fun h => by
   injection h with h
   apply e
   have h4 := Array.toList_inj.1 h
   cases s; cases hq : (rd_T89 ps (n : Int)).f0
   rw [hq] at h4
   simp only at h4
   rw [h4]
  rw [Maps.atKey_put_other this, h2 s]
  simp [e]
end
end Go.Proofs.Ytjepecinpgjgdaa.PVau
