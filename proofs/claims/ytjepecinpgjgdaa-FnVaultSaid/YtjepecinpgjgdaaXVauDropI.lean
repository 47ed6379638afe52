import Derived.Test.YtjepecinpgjgdaaXVauDropF
/-! DropFile of the program: walked by hand (the drawn region's steps told by wip/vaudropi.py). -/
namespace Go.Proofs.Ytjepecinpgjgdaa.PVau
open Go.RowKit Go.Proofs.YtjepecinpgjgdaaW.PrintWords Go.Proofs.YtjepecinpgjgdaaW.PrintLast Go.Proofs.YtjepecinpgjgdaaW.PrintMore Go.Proofs.Ytjepecinpgjgdaa.E
set_option linter.unusedSimpArgs false
set_option linter.unusedVariables false
theorem below_of_grown {W W1 : World} (hg : W.grownBy W1 none) : Below W.heap.size W W1 := ⟨hg.os, hg.tape, hg.output, hg.size, fun i hi => hg.block i hi (by simp)⟩
theorem within_is (a b c : Int) : impl_within.f a b c = some (decide (b ≤ a ∧ a ≤ c)) := by
 unfold impl_within.f
 by_cases h : a ≥ b
 ·by_cases h2 : a ≤ c
  ·simp [h, h2] <;> omega
  ·simp [h, h2]
 ·simp [h] <;> omega
/-- The files, of which the first q are renamed, but for one. -/
def upTo (pl : List Int) (a q : Nat) (l : List FL) : List FL := l.mapIdx (fun j x => if j < q ∧ j ≠ a then mapP pl x else x)
theorem upTo_zero (pl : List Int) (a : Nat) (l : List FL) : upTo pl a 0 l = l := by
 apply List.ext_getElem?
 intro j
 unfold upTo
 rw [List.getElem?_mapIdx]
 cases l[j]? with
 | none => rfl
 | some x => simp
theorem upTo_len (pl : List Int) (a q : Nat) (l : List FL) : (upTo pl a q l).length = l.length := by unfold upTo; simp
theorem upTo_at (pl : List Int) (a : Nat) {q : Nat} {l : List FL} (h : q < l.length) : (upTo pl a q l)[q]? = some l[q] := by
 unfold upTo
 rw [List.getElem?_mapIdx, List.getElem?_eq_getElem h]
 simp
theorem upTo_skip (pl : List Int) (a : Nat) (l : List FL) : upTo pl a (a + 1) l = upTo pl a a l := by
 apply List.ext_getElem?
 intro j
 unfold upTo
 rw [List.getElem?_mapIdx, List.getElem?_mapIdx]
 cases l[j]? with
 | none => rfl
 | some x =>
  show some (if _ then _ else _) = some (if _ then _ else _)
  congr 1
  by_cases h : j < a ∧ j ≠ a
  ·rw [if_pos h, if_pos ⟨by omega, h.2⟩]
  ·rw [if_neg h, if_neg (fun h2 => h ⟨by omega, h2.2⟩)]
theorem upTo_step (pl : List Int) {a q : Nat} {l : List FL} (h : q < l.length) (hn : q ≠ a) : (upTo pl a q l).set q (mapP pl l[q]) = upTo pl a (q + 1) l := by
 apply List.ext_getElem?
 intro j
 by_cases e : q = j
 ·subst e
  rw [List.getElem?_set_self (by rw [upTo_len]; exact h)]
  unfold upTo
  rw [List.getElem?_mapIdx, List.getElem?_eq_getElem h]
  show _ = some (if _ then _ else _)
  rw [if_pos ⟨by omega, hn⟩]
 ·rw [List.getElem?_set_ne e]
  unfold upTo
  rw [List.getElem?_mapIdx, List.getElem?_mapIdx]
  cases l[j]? with
  | none => rfl
  | some x =>
   show some (if _ then _ else _) = some (if _ then _ else _)
   congr 1
   by_cases h : j < q ∧ j ≠ a
   ·rw [if_pos h, if_pos ⟨by omega, h.2⟩]
   ·rw [if_neg h, if_neg (fun h2 => h ⟨by omega, h2.2⟩)]
theorem upTo_all (pl : List Int) (a : Nat) (l : List FL) : (upTo pl a l.length l).eraseIdx a = (l.eraseIdx a).map (mapP pl) := by
 apply List.ext_getElem?
 intro j
 rw [List.getElem?_map, List.getElem?_eraseIdx, List.getElem?_eraseIdx]
 unfold upTo
 by_cases e : j < a
 ·rw [if_pos e, if_pos e, List.getElem?_mapIdx]
  cases hx : l[j]? with
  | none => rfl
  | some x =>
   have := (List.getElem?_eq_some_iff.1 hx).1
   show some (if _ then _ else _) = some _
   rw [if_pos ⟨this, by omega⟩]
 ·rw [if_neg e, if_neg e, List.getElem?_mapIdx]
  cases hx : l[j + 1]? with
  | none => rfl
  | some x =>
   have := (List.getElem?_eq_some_iff.1 hx).1
   show some (if _ then _ else _) = some _
   rw [if_pos ⟨this, by omega⟩]
theorem keep_skip {α : Type} (hs : List α) (a : Nat) (h : a < hs.length) : (hs.take (a + 1)).eraseIdx a = (hs.take a).eraseIdx a := by
 apply List.ext_getElem?
 intro j
 rw [List.getElem?_eraseIdx, List.getElem?_eraseIdx]
 by_cases e : j < a
 ·rw [if_pos e, if_pos e, List.getElem?_take, List.getElem?_take, if_pos (by omega), if_pos e]
 ·rw [if_neg e, if_neg e, List.getElem?_take, List.getElem?_take, if_neg (by omega), if_neg (by omega)]
theorem keep_step {α : Type} (hs : List α) {a q : Nat} (h : q < hs.length) (hn : q ≠ a) : (hs.take (q + 1)).eraseIdx a = (hs.take q).eraseIdx a ++ [hs[q]] := by
 rw [List.take_succ_eq_append_getElem h]
 by_cases e : q < a
 ·rw [List.eraseIdx_of_length_le (by simp; omega), List.eraseIdx_of_length_le (by rw [List.length_take]; omega)]
 ·rw [List.eraseIdx_append_of_lt_length (by rw [List.length_take]; omega)]
/-- What a row among files says. -/
theorem Fam.head {W : World} {base : Nat} {ok : Nat → Prop} {hs : List HV} {xs : List FL} (h : Fam W base ok hs xs) {i : Nat} {x : FL} {P : HV} (hx : xs[i]? = some x) (hp : hs[i]? = some P) : ∃ A c, P = (A, x.f0.length, c) ∧ x.f0.length ≤ c ∧ (Kd.int .i64).C W A x.f0.length x.f0 := by
 obtain ⟨A, c, e, hc, hC⟩ := Kd.R_reads (h.at_ hp hx)
 obtain ⟨P0, P1, P2⟩ := P
 injection e with e1 e2 e3
 exact ⟨A, c, by rw [show P0 = A from e1, show P1 = x.f0.length from e2, show P2 = c from e3], hc, hC⟩
/-- The new vault beside the old one. -/
structure D4 (w W : World) (gz g9 : Nat) (hv : Value) (hs : List HV) (xs : List FL) (A8 : Option Addr) (c8 : Nat) (pc : List KL) (A10 : Option Addr) (c10 : Nat) (pl : List Int) (A9 : Option Addr) (c9 : Nat) (h2 : List HV) : Prop where
 d : D3 w W gz hv hs xs A8 c8 pc A10 c10 pl
 o : W.heap[g9]? = some (.cells #[.slice A8 pc.length c8, .slice A9 h2.length c9] 51 (0, 0))
 ho : HR W w.heap.size (fun _ => True) (.slice A9 h2.length c9) h2
 ne : ∀ k, (Value.slice A9 h2.length c9).ownBlock = some k → some k ≠ hv.ownBlock
section
variable {w W W1 : World} {gz g9 : Nat} {hv : Value} {hs : List HV} {xs : List FL} {A8 : Option Addr} {c8 : Nat} {pc : List KL} {A10 : Option Addr} {c10 : Nat} {pl : List Int} {A9 : Option Addr} {c9 : Nat} {h2 : List HV}
theorem D4.below (h : D4 w W gz g9 hv hs xs A8 c8 pc A10 c10 pl A9 c9 h2) (hb : Below W.heap.size W W1) : D4 w W1 gz g9 hv hs xs A8 c8 pc A10 c10 pl A9 c9 h2 := ⟨h.d.below hb, blk_below h.o hb, Kd.R_below h.ho hb, h.ne⟩
theorem D4.drew (h : D4 w W gz g9 hv hs xs A8 c8 pc A10 c10 pl A9 c9 h2) : D4 w W.drew gz g9 hv hs xs A8 c8 pc A10 c10 pl A9 c9 h2 := h.below (below_drew1 (Below.refl _ _))
theorem D4.put (h : D4 w W gz g9 hv hs xs A8 c8 pc A10 c10 pl A9 c9 h2) {i q : Nat} {P : HV} {r : List Int} (hp : hs[i]? = some P) (hx : xs[i]? = some ⟨r⟩) (hq : q < r.length) (y : Int) :
  ∃ g c w6, P = (some ⟨g, 0, none⟩, r.length, c) ∧ W.cell? ⟨g, q, none⟩ = some (.int .i64 (rd r (q : Int))) ∧ W.frozen? ⟨g, q, none⟩ = false ∧ W.setCell ⟨g, q, none⟩ (.int .i64 y) = w6 ∧ W.grownBy w6 (some g) ∧ (∃ cells, W.heap[g]? = some (.cells cells 3 (0, 0))) ∧
   D4 w w6 gz g9 hv hs (xs.set i ⟨r.set q y⟩) A8 c8 pc A10 c10 pl A9 c9 h2 := by
 obtain ⟨g, c, w6, hP, e1, e2, e3, hg, ⟨cells, hty⟩, d⟩ := h.d.put hp hx hq y
 have hg' : W.grownBy w6 (Value.slice (some ⟨g, 0, none⟩) 0 0).ownBlock := hg
 exact ⟨g, c, w6, hP, e1, e2, e3, hg, ⟨cells, hty⟩, d, blk_grown h.o hg (fun e_ => absurd (blk_ne h.o hty (by decide)) (fun h_ => h_ (Option.some.inj e_))), Kd.R_over' h.ho (v := .slice (some ⟨g, 0, none⟩) 0 0) (fun k hk => by obtain rfl : g = k := Option.some.inj hk; exact ⟨cells, hty⟩) (by decide) hg', h.ne⟩
/-- A header is put behind the new ones. -/
theorem D4.more {v7 : Value} {P : HV} (h : D4 w W gz g9 hv hs xs A8 c8 pc A10 c10 pl A9 c9 h2) (hzg : gz ≠ g9) (hge : w.heap.size ≤ g9) (ho : HR W1 w.heap.size (fun _ => True) v7 (h2 ++ [P])) (hb : Below w.heap.size w W1) (hg : W.grownBy W1 (Value.slice A9 h2.length c9).ownBlock) (hat : v7.ownBlock = (Value.slice A9 h2.length c9).ownBlock ∨ ∃ b, v7.ownBlock = some b ∧ W.heap.size ≤ b) :
  ∃ A7 c7 w8, v7 = .slice A7 (h2.length + 1) c7 ∧ W1.cell? ⟨g9, 1, none⟩ = some (.slice A9 h2.length c9) ∧ W1.frozen? ⟨g9, 1, none⟩ = false ∧ W1.setCell ⟨g9, 1, none⟩ (.slice A7 (h2.length + 1) c7) = w8 ∧ D4 w w8 gz g9 hv hs xs A8 c8 pc A10 c10 pl A7 c7 (h2 ++ [P]) := by
 obtain ⟨A7, c7, rfl⟩ := Kd.R_slice ho
 have ty := Kd.R_typed h.ho
 have hl : (h2 ++ [P]).length = h2.length + 1 := by simp
 have o1 := blk_grown h.o hg (Kd.R_ne h.ho h.o (by decide))
 have d : D3 w W1 gz hv hs xs A8 c8 pc A10 c10 pl := ⟨blk_grown h.d.z hg (Kd.R_ne h.ho h.d.z (by decide)), Kd.R_over' h.d.ks ty (by decide) hg, Kd.R_grown2 h.d.hr rfl hg h.ne, h.d.fm.over ty (by decide) hg, Kd.R_over' h.d.ir ty (by decide) hg, hb⟩
 have hlt : ∀ k, hv.ownBlock = some k → k < W.heap.size := fun k hk => Kd.R_lt h.d.hr k hk
 rw [hl] at ho hat ⊢
 refine ⟨A7, c7, _, rfl, (blk_cell o1 1).trans rfl, blk_frozen o1 1, rfl, ⟨blk_far d.z hzg _, Kd.R_set d.ks o1 (by decide) 1 _, Kd.R_set d.hr o1 (by decide) 1 _, d.fm.set_ o1 (by decide) 1 _, Kd.R_set d.ir o1 (by decide) 1 _, below_set hb hge⟩, ?_, ?_, ?_⟩
 ·rw [hl]; exact blk_put (cs := #[.slice A8 pc.length c8, .slice A9 h2.length c9]) o1 1 _ rfl
 ·rw [hl]; exact Kd.R_set ho o1 (by decide) 1 _
 ·rw [hl]
  intro k hk e_
  rcases hat with hat | ⟨b, hb1, hb2⟩
  ·rw [hat] at hk; exact h.ne k hk e_
  ·rw [hb1] at hk
   obtain rfl := Option.some.inj hk
   have := hlt _ e_.symm
   omega
end
theorem Fam.bound {W : World} {base : Nat} {ok : Nat → Prop} {hs : List HV} {xs : List FL} (h : Fam W base ok hs xs) : Fam W base (fun k => ok k ∧ k < W.heap.size) hs xs := by
 obtain ⟨l, f, h⟩ := h
 exact ⟨l, f, fun i p x hp hx => Kd.R_mono (Kd.R_bound (h i p x hp hx)) (fun k hk => ⟨⟨hk.1.1, hk.2.2.1⟩, hk.1.2⟩)⟩
theorem D2.start {w W W1 : World} {gz gb : Nat} {A6 : Option Addr} {c6 : Nat} {p : List KL} {A7 : Option Addr} {c7 : Nat} {l1 : List FL} {hs : List HV} {A10 : Option Addr} {c10 : Nat} {pl : List Int} (Q : D1 w W gz gb A6 c6 p A7 c7 l1 hs) (hb : Below W.heap.size W W1) (ho : IR W1 w.heap.size (fun _ => True) (.slice A10 pl.length c10) pl) (hn : ∀ k, (Value.slice A10 pl.length c10).ownBlock = some k → W.heap.size ≤ k) : D2 w W1 gz gb A6 c6 p A7 c7 l1 hs none 0 [] A10 c10 pl :=
 ⟨blk_below Q.z hb, blk_below Q.b hb, Kd.R_mono (Kd.R_below Q.ks hb) (fun k _ => ⟨trivial, by simp [Value.ownBlock]⟩), Kd.R_nil _ _ _ _ _, Kd.R_below Q.hr hb, (Q.fm.bound.below hb).mono (fun k hk e_ => by have := hn k e_.symm; have := hk.2; omega), ho, below_step Q.bl hb⟩
theorem D2.push {w W W1 : World} {gz gb : Nat} {A6 : Option Addr} {c6 : Nat} {p : List KL} {A7 : Option Addr} {c7 : Nat} {l1 : List FL} {hs : List HV} {A8 : Option Addr} {c8 : Nat} {pc : List KL} {A10 : Option Addr} {c10 : Nat} {pl : List Int} {v4 y : Value} {x : KL} {g9 : Nat}
  (h : D2 w W gz gb A6 c6 p A7 c7 l1 hs A8 c8 pc A10 c10 pl) (hO : W.heap[g9]? = some (.cells #[.slice A8 pc.length c8, y] 51 (0, 0))) (hge : w.heap.size ≤ g9) (hz : gz ≠ g9) (hb2 : gb ≠ g9)
  (ho : KS W1 w.heap.size (fun _ => True) v4 (pc ++ [x])) (hb : Below w.heap.size w W1) (hg : W.grownBy W1 (Value.slice A8 pc.length c8).ownBlock) (hat : v4.ownBlock = (Value.slice A8 pc.length c8).ownBlock ∨ ∃ b, v4.ownBlock = some b ∧ W.heap.size ≤ b) :
  ∃ A9 c9 w7, v4 = .slice A9 (pc.length + 1) c9 ∧ W1.cell? ⟨g9, 0, none⟩ = some (.slice A8 pc.length c8) ∧ W1.frozen? ⟨g9, 0, none⟩ = false ∧ W1.setCell ⟨g9, 0, none⟩ (.slice A9 (pc.length + 1) c9) = w7 ∧ D2 w w7 gz gb A6 c6 p A7 c7 l1 hs A9 c9 (pc ++ [x]) A10 c10 pl ∧ w7.heap[g9]? = some (.cells #[.slice A9 (pc ++ [x]).length c9, y] 51 (0, 0)) := by
 have o1 := blk_grown hO hg (Kd.R_ne h.ks hO (by decide))
 obtain ⟨A9, c9, rfl, P6⟩ := h.more ho hb hg hat
 have hl : (pc ++ [x]).length = pc.length + 1 := by simp
 refine ⟨A9, c9, _, rfl, (blk_cell o1 0).trans rfl, blk_frozen o1 0, rfl, P6.box o1 rfl hge hz hb2 0 _, ?_⟩
 rw [hl]
 exact blk_put (cs := #[.slice A8 pc.length c8, y]) o1 0 _ rfl
theorem take_put (pl : List Int) (q : Nat) (h : q < pl.length) (y : Int) : (pl.set q y).take (q + 1) = pl.take q ++ [y] := by
 rw [List.take_succ_eq_append_getElem (by rw [List.length_set]; exact h), List.getElem_set_self, List.take_set_of_le (Nat.le_refl _)]
theorem drop_put (pl : List Int) (q : Nat) (y : Int) : (pl.set q y).drop (q + 1) = pl.drop (q + 1) := by
 rw [List.drop_set_of_lt (by omega)]
theorem set_same {l : List FL} {q : Nat} {x : FL} (h : l[q]? = some x) : l.set q ⟨x.f0⟩ = l := by
 apply List.ext_getElem?
 intro j
 by_cases e : q = j
 ·subst e
  rw [List.getElem?_set_self (List.getElem?_eq_some_iff.1 h).1, h]
 ·rw [List.getElem?_set_ne e]
structure Ren (pl f r : List Int) (n : Nat) : Prop where
 len : r.length = f.length
 tk : r.take n = (f.map (fun k => rd pl k)).take n
 dr : r.drop n = f.drop n
theorem Ren.zero (pl f : List Int) : Ren pl f f 0 := ⟨rfl, by simp, rfl⟩
theorem Ren.at_ {pl f r : List Int} {n : Nat} (h : Ren pl f r n) (hn : n < f.length) : rd r (n : Int) = rd f (n : Int) := by
 have h1 := h.dr
 rw [List.drop_eq_getElem_cons hn, List.drop_eq_getElem_cons (by rw [h.len]; exact hn)] at h1
 injection h1 with h1 _
 unfold rd
 rw [Int.toNat_natCast, List.getD_eq_getElem?_getD, List.getD_eq_getElem?_getD, List.getElem?_eq_getElem hn, List.getElem?_eq_getElem (by rw [h.len]; exact hn), h1]
theorem Ren.step {pl f r : List Int} {n : Nat} (h : Ren pl f r n) (hn : n < f.length) {k : Int} (hk : rd f (n : Int) = k) : Ren pl f (r.set n (rd pl k)) (n + 1) := by
 have hkg : f[n] = k := by rw [← hk]; unfold rd; rw [Int.toNat_natCast, List.getD_eq_getElem?_getD, List.getElem?_eq_getElem hn]; rfl
 have hr : n < r.length := by rw [h.len]; exact hn
 refine ⟨by rw [List.length_set]; exact h.len, ?_, ?_⟩
 ·rw [take_put r n hr, h.tk, List.take_succ_eq_append_getElem (by rw [List.length_map]; exact hn), List.getElem_map, hkg]
 ·rw [drop_put]
  have h1 := h.dr
  rw [List.drop_eq_getElem_cons hn, List.drop_eq_getElem_cons hr] at h1
  injection h1
theorem Ren.end_ {pl f r : List Int} {n : Nat} (h : Ren pl f r n) (hn : f.length ≤ n) : r = f.map (fun k => rd pl k) := by
 have h1 := h.tk
 rw [List.take_of_length_le (by rw [h.len]; exact hn), List.take_of_length_le (by rw [List.length_map]; exact hn)] at h1
 exact h1
/-- f.Parts[n] = renamed[k]: what is read, and what stands then. -/
theorem D4.sub {w W : World} {gz g9 : Nat} {hv : Value} {hs : List HV} {xs : List FL} {A8 : Option Addr} {c8 : Nat} {pc : List KL} {A10 : Option Addr} {c10 : Nat} {pl : List Int} {A9 : Option Addr} {c9 : Nat} {h2 : List HV}
  (h : D4 w W gz g9 hv hs xs A8 c8 pc A10 c10 pl A9 c9 h2) {k : Int} (h0 : 0 ≤ k) (h1 : k < (pl.length : Int)) : ∃ g10, A10 = some ⟨g10, 0, none⟩ ∧ W.cell? ⟨g10, k.toNat, none⟩ = some (.int .i64 (rd pl k)) := by
 obtain ⟨g10, cap, e6, _⟩ := Kd.R_form h.d.ir (by omega)
 injection e6 with eA en ec
 subst eA
 have h2 := (ir_put h.d.ir (q := k.toNat) (by omega) 0).1
 rw [Int.toNat_of_nonneg h0] at h2
 exact ⟨g10, rfl, h2⟩
set_option maxHeartbeats 16000000 in
set_option maxRecDepth 100000 in
theorem drop_calls (k_ : Nat) (A0_0 : Option Addr) (c0_0 : Nat) (l0_0 : List KL) (A0_1 : Option Addr) (c0_1 : Nat) (l0_1 : List FL) (a1 : Int) (r1 : List KL) (r2 : List FL) (r3 : Bool) (w : World) (hr0_0 : Kd.C k89 w A0_0 l0_0.length l0_0) (hc0_0 : l0_0.length ≤ c0_0) (hr0_1 : Kd.C k87 w A0_1 l0_1.length l0_1) (hc0_1 : l0_1.length ≤ c0_1) (h : dropF l0_0 l0_1 a1 = (r1, r2, r3)) :
  Calls Try.prog 43 #[.agg #[.slice A0_0 l0_0.length c0_0, .slice A0_1 l0_1.length c0_1], .int .i64 a1] w fun e w' => ∃ v0_ v1_ : Value, e = .returned (.tuple #[.agg #[v0_, v1_], .bool r3]) ∧ Kd.R k89 89 w' w.heap.size (fun _ => True) v0_ r1 ∧ Kd.S k87 87 w' w.heap.size (fun _ => True) v1_ r2 ∧ Below w.heap.size w w' := by
 have huV := Try.underlying51
 have huF := Try.underlying87
 have huK := Try.underlying89
 have huFS := Try.underlying49
 have huKS := Try.underlying48
 have huI := Try.underlying22
 have HR0 := Aside0.mk hr0_0
 have HR1 := Aside0.mk hr0_1
 have HC0 := Aside0.mk hc0_0
 have HC1 := Aside0.mk hc0_1
 have hln : l0_1.length ≤ 9223372036854775807 := hr0_1.2.1
 clear hr0_0 hr0_1 hc0_0 hc0_1
 obtain ⟨W1, hW1⟩ : ∃ W, w.alloc (.cells #[.slice A0_0 l0_0.length c0_0, .slice A0_1 l0_1.length c0_1] 51) = W := ⟨_, rfl⟩
 obtain ⟨W2, hW2⟩ : ∃ W, W1.alloc (.cells #[.slice none 0 0, .slice none 0 0] 51) = W := ⟨_, rfl⟩
 have hb1 : Below w.heap.size w W1 := by rw [← hW1]; exact below_alloc (Below.refl _ _) _
 have hb2 : Below W1.heap.size W1 W2 := by rw [← hW2]; exact below_alloc (Below.refl _ _) _
 have X1 : W1.heap[w.heap.size]? = some (.cells #[.slice A0_0 l0_0.length c0_0, .slice A0_1 l0_1.length c0_1] 51 (0, 0)) := by rw [← hW1]; exact heap_alloc_new w _
 have Z1 : W2.heap[W1.heap.size]? = some (.cells #[.slice none 0 0, .slice none 0 0] 51 (0, 0)) := by rw [← hW2]; exact heap_alloc_new W1 _
 have B2 := Aside0.mk (below_step hb1 hb2)
 have X2 := Aside0.mk (blk_below X1 hb2)
 have Z2 := Aside0.mk Z1
 have ZG := Aside0.mk (show w.heap.size ≤ W1.heap.size from hb1.size)
 clear hb1 hb2 X1 Z1
 have d0 : W2.cell? ⟨w.heap.size, 0, none⟩ = some (.slice A0_0 l0_0.length c0_0) := (blk_cell X2.out 0).trans rfl
 have d1 : W2.cell? ⟨w.heap.size, 1, none⟩ = some (.slice A0_1 l0_1.length c0_1) := (blk_cell X2.out 1).trans rfl
 have TG := Aside0.mk (impl_GoodVault.calls A0_0 c0_0 l0_0 A0_1 c0_1 l0_1 (good l0_0 l0_1) W2 (Kd.C_below HR0.out B2.out) HC0.out (Kd.C_below HR1.out B2.out) HC1.out rfl)
 have HH := Aside0.mk h
 clear h
 go_enter Try.func43, Try.ntmps43
 go_wp2_with (go_at_call 36; refine TG.out.mono ?_)
 (first | rintro e w3 rfl hb | rintro e w3 ⟨rfl, hb⟩)
 clear TG hW1 d0 d1
 generalize hgz : W1.heap.size = gz at *
 clear hgz hW2
 have B3 := Aside0.mk (below_step B2.out hb)
 have X3 := Aside0.mk (blk_below X2.out hb)
 have Z3 := Aside0.mk (blk_below Z2.out hb)
 clear hb B2 X2 Z2
 have d0 : w3.cell? ⟨w.heap.size, 0, none⟩ = some (.slice A0_0 l0_0.length c0_0) := (blk_cell X3.out 0).trans rfl
 have d1 : w3.cell? ⟨w.heap.size, 1, none⟩ = some (.slice A0_1 l0_1.length c0_1) := (blk_cell X3.out 1).trans rfl
 have z0 : w3.cell? ⟨gz, 0, none⟩ = some (.slice none 0 0) := (blk_cell Z3.out 0).trans rfl
 have z1 : w3.cell? ⟨gz, 1, none⟩ = some (.slice none 0 0) := (blk_cell Z3.out 1).trans rfl
 have y0 := blk_frozen Z3.out 0
 have y1 := blk_frozen Z3.out 1
 cases hG : good l0_0 l0_1 with
 | false =>
  have h := HH.out
  unfold dropF at h
  rw [if_neg (fun h_ => by rw [hG] at h_; exact absurd h_.1 (by decide))] at h
  simp only [Prod.mk.injEq] at h
  obtain ⟨rfl, rfl, rfl⟩ := h
  clear hG HH
  go_wp2
  refine bodyPost_ret (results_ct rfl _ _ gz 51 #[.slice none 0 0, .slice none 0 0] (0, 0) _ rfl (put2 Z3.out _ _) Try.underlying51 rfl (by kernel_rfl)) rfl ?_
  exact ⟨_, _, rfl, Kd.R_nil _ _ _ _ _, Kd.S_nil _ _ _ _ _, below_set (below_set B3.out ZG.out) ZG.out⟩
 | true =>
  have HS := Aside0.mk (good_small hG)
  have HRG := Aside0.mk (good_rng hG)
  have HG := Aside0.mk hG
  clear hG
  obtain ⟨t, ht⟩ : ∃ t, decide (0 ≤ a1 ∧ a1 ≤ (l0_1.length : Int) - 1) = t := ⟨_, rfl⟩
  have TT := Aside0.mk (impl_within.calls a1 0 ((l0_1.length : Int) - 1) t w3 (by rw [within_is, ht]))
  have HT := Aside0.mk ht
  clear ht
  go_wp2_with (go_at_call 60; refine TT.out.mono ?_)
  (first | rintro e w4 rfl hd | rintro e w4 ⟨rfl, hd⟩)
  have hb := hd.below
  have B4 := Aside0.mk (below_step B3.out hb)
  have X4 := Aside0.mk (blk_below X3.out hb)
  have Z4 := Aside0.mk (blk_below Z3.out hb)
  clear TT hd hb d0 d1 z0 z1 y0 y1 B3 X3 Z3
  have d0 : w4.cell? ⟨w.heap.size, 0, none⟩ = some (.slice A0_0 l0_0.length c0_0) := (blk_cell X4.out 0).trans rfl
  have d1 : w4.cell? ⟨w.heap.size, 1, none⟩ = some (.slice A0_1 l0_1.length c0_1) := (blk_cell X4.out 1).trans rfl
  cases t with
  | false =>
   have h := HH.out
   unfold dropF at h
   rw [if_neg (fun h_ => by have h2 := of_decide_eq_false HT.out; omega)] at h
   simp only [Prod.mk.injEq] at h
   obtain ⟨rfl, rfl, rfl⟩ := h
   clear HH
   have z0 : w4.cell? ⟨gz, 0, none⟩ = some (.slice none 0 0) := (blk_cell Z4.out 0).trans rfl
   have z1 : w4.cell? ⟨gz, 1, none⟩ = some (.slice none 0 0) := (blk_cell Z4.out 1).trans rfl
   have y0 := blk_frozen Z4.out 0
   have y1 := blk_frozen Z4.out 1
   go_wp2
   refine bodyPost_ret (results_ct rfl _ _ gz 51 #[.slice none 0 0, .slice none 0 0] (0, 0) _ rfl (put2 Z4.out _ _) Try.underlying51 rfl (by kernel_rfl)) rfl ?_
   exact ⟨_, _, rfl, Kd.R_nil _ _ _ _ _, Kd.S_nil _ _ _ _ _, below_set (below_set B4.out ZG.out) ZG.out⟩
  | true =>
   have ht := of_decide_eq_true HT.out
   obtain ⟨ai, rfl⟩ : ∃ ai : Nat, a1 = (ai : Int) := ⟨a1.toNat, by omega⟩
   have h := HH.out
   unfold dropF at h
   rw [if_pos ⟨HG.out, by omega, by omega⟩, Int.toNat_natCast] at h
   simp only [Prod.mk.injEq] at h
   obtain ⟨rfl, rfl, rfl⟩ := h
   have hai : ai < l0_1.length := by omega
   have HAI := Aside0.mk hai
   clear HH HT ht
   have TO := Aside0.mk (ownVault_calls A0_0 c0_0 l0_0 A0_1 c0_1 l0_1 w4 (Kd.C_below HR0.out B4.out) HC0.out (Kd.C_below HR1.out B4.out) HC1.out (by have := HS.out.1; omega) (by have := HS.out.2.1; omega) (fun x hx => by have := HS.out.2.2 x hx; omega))
   go_wp2_with (go_at_call 76; refine TO.out.mono ?_)
   (first | rintro e w5 v6 v7 rfl hr0 hr1 hb | rintro e w5 ⟨v6, v7, rfl, hr0, hr1, hb⟩)
   clear TO d0 d1
   obtain ⟨A6, c6, rfl⟩ := Kd.R_slice hr0
   obtain ⟨A7, c7, rfl⟩ := Kd.S_slice hr1
   obtain ⟨hs, hh, hf⟩ := S_fam (Kd.S_lower hr1 B4.out.size)
   have K5 := Aside0.mk (Kd.R_lower hr0 B4.out.size)
   have Z5 := Aside0.mk (blk_below Z4.out hb)
   have B5 := Aside0.mk (below_step B4.out hb)
   have H5 := Aside0.mk hh
   have F5 := Aside0.mk hf
   clear hr0 hr1 hb hh hf B4 X4 Z4
   obtain ⟨W6, hW6⟩ : ∃ W, w5.alloc (.cells #[.slice A6 l0_0.length c6, .slice A7 l0_1.length c7] 51) = W := ⟨_, rfl⟩
   have hb6 : Below w5.heap.size w5 W6 := by rw [← hW6]; exact below_alloc (Below.refl _ _) _
   have G6 : W6.heap[w5.heap.size]? = some (.cells #[.slice A6 l0_0.length c6, .slice A7 l0_1.length c7] 51 (0, 0)) := by rw [← hW6]; exact heap_alloc_new w5 _
   have P6 := Aside0.mk (show D1 w W6 gz w5.heap.size A6 c6 l0_0 A7 c7 l0_1 hs from ⟨blk_below Z5.out hb6, G6, Kd.R_below K5.out hb6, Kd.R_below H5.out hb6, F5.out.below hb6, below_step B5.out hb6⟩)
   have GB := Aside0.mk (show w.heap.size ≤ w5.heap.size from B5.out.size)
   have GZ := Aside0.mk (show gz ≠ w5.heap.size from Nat.ne_of_lt (blk_lt Z5.out))
   clear hb6 G6 K5 Z5 B5 H5 F5
   obtain ⟨g7, cap7, e7, _⟩ := Kd.R_form P6.out.hr (by rw [P6.out.len]; omega)
   injection e7 with e7 en_ ec_
   clear en_ ec_
   subst e7
   have hhl := P6.out.len
   obtain ⟨P, hP⟩ : ∃ P, hs[ai]? = some P := ⟨hs[ai]'(by omega), List.getElem?_eq_getElem (by omega)⟩
   obtain ⟨r, hr⟩ : ∃ r, rd_T87 l0_1 ai = r := ⟨_, rfl⟩
   have hrx : l0_1[ai]? = some r := by
    rw [List.getElem?_eq_getElem hai, ← hr, rd_fl, Int.toNat_natCast, List.getD_eq_getElem?_getD, List.getElem?_eq_getElem hai]
    rfl
   have HPK := Aside0.mk hP
   have HRX := Aside0.mk hrx
   have HRI := Aside0.mk hr
   have HRL := Aside0.mk (show r.f0.length ≤ 200 from HS.out.2.2 r (List.mem_of_getElem? hrx))
   obtain ⟨Ap, cp, eP, hcp, hCp⟩ := P6.out.fm.head hrx hP
   subst eP
   have m0 : W6.cell? ⟨w5.heap.size, 1, none⟩ = some (.slice (some ⟨g7, 0, none⟩) l0_1.length c7) := (blk_cell P6.out.b 1).trans rfl
   have m1 : W6.cell? ⟨g7, ai, none⟩ = some (.slice Ap r.f0.length cp) := h_at P6.out.hr hP
   have hql : ((ai : Int) < (l0_1.length : Int)) = True := eq_true (by omega)
   clear hCp hcp hrx hP hr hhl
   go_wp2
   clear m0 m1 hW6
   generalize hgb : w5.heap.size = gb at *
   clear hgb
   have hrl : r.f0.length ≤ 9223372036854775807 := by have := HRL.out; omega
   go_loopw [39] (fun vi wr => ∃ (q : Nat) (p : List KL), q ≤ r.f0.length ∧ vi = .int .i64 q ∧ Aside0 (D1 w wr gz gb A6 c6 p (some ⟨g7, 0, none⟩) c7 l0_1 hs) ∧ Aside0 (decK (r.f0.drop q) p = decK r.f0 l0_0) ∧ Aside0 (p.length = l0_0.length)) (fun vi _ => r.f0.length - (intOf vi).toNat)
   case atStart => exact ⟨0, l0_0, Nat.zero_le _, rfl, P6, ⟨rfl⟩, ⟨rfl⟩⟩
   case round =>
    clear P6
    obtain ⟨q, p, hq, rfl, Q, HD, HL⟩ := hrel
    by_cases hqr : q < r.f0.length
    ·have hqq : ((q : Int) < (r.f0.length : Int)) = True := eq_true (by omega)
     obtain ⟨k, hk⟩ : ∃ k, rd r.f0 (q : Int) = k := ⟨_, rfl⟩
     have hkg : k = r.f0[q] := by rw [← hk]; unfold rd; rw [Int.toNat_natCast, List.getD_eq_getElem?_getD, List.getElem?_eq_getElem hqr]; rfl
     have hkr : 0 ≤ k ∧ k < (p.length : Int) := by
      have h1 := HRG.out r (List.mem_of_getElem? HRX.out) k (by rw [hkg]; exact List.getElem_mem hqr)
      have h2 := HL.out
      omega
     obtain ⟨A_, c_, e_, _, hC_⟩ := Q.out.fm.head HRX.out HPK.out
     injection e_ with e1_ e2_
     subst e1_
     obtain ⟨ad, e9, x0⟩ := Kd.at_int hC_ (q : Int) (by omega) (by omega)
     subst e9
     rw [hk, Int.toNat_natCast] at x0
     obtain ⟨g6, w6, rfl, m1, m2, m3, Q6⟩ := Q.out.dec k hkr.1 hkr.2 (wrap64 ((rd_T89 p k).f1 - 1))
     have m0 : wr.cell? ⟨gb, 0, none⟩ = some (.slice (some ⟨g6, 0, none⟩) p.length c6) := (blk_cell Q.out.b 0).trans rfl
     have q1 : (0 ≤ k) = True := eq_true hkr.1
     have q2 : (k < (p.length : Int)) = True := eq_true hkr.2
     have Q6 := Aside0.mk Q6
     have HD2 := Aside0.mk (show decK (r.f0.drop (q + 1)) (p.set k.toNat ⟨(rd_T89 p k).f0, wrap64 ((rd_T89 p k).f1 - 1)⟩) = decK r.f0 l0_0 by
      have h1 := HD.out
      rw [List.drop_eq_getElem_cons hqr, ← hkg] at h1
      exact h1)
     have HQ := Aside0.mk hqr
     clear hC_ hkg hk hkr e2_
     go_wp2
     clear x0 m0 m1 m2 m3
     go_roundw
     case rel => exact ⟨q + 1, _, HQ.out, by go_num, Q6, HD2, ⟨by rw [List.length_set]; exact HL.out⟩⟩
     case measure => simp [intOf]; omega
    ·have hqq : ((q : Int) < (r.f0.length : Int)) = False := eq_false (by omega)
     have HP1 := Aside0.mk (show p = decK r.f0 l0_0 by
      have h1 := HD.out
      rw [List.drop_of_length_le (by omega)] at h1
      exact h1)
     have HPL := Aside0.mk (show p.length ≤ 100 by have := HL.out; have := HS.out.1; omega)
     clear HD hqr
     obtain ⟨W9, hW9⟩ : ∃ W, wr.alloc (.cells #[.slice none 0 0, .slice none 0 0] 51) = W := ⟨_, rfl⟩
     have hb9 : Below wr.heap.size wr W9 := by rw [← hW9]; exact below_alloc (Below.refl _ _) _
     have O9 : W9.heap[wr.heap.size]? = some (.cells #[.slice none 0 0, .slice none 0 0] 51 (0, 0)) := by rw [← hW9]; exact heap_alloc_new wr _
     have Q9 := Aside0.mk (Q.out.below hb9)
     have OO := Aside0.mk O9
     have G9 := Aside0.mk (show w.heap.size ≤ wr.heap.size from Q.out.bl.size)
     have G9Z := Aside0.mk (show gz ≠ wr.heap.size from Nat.ne_of_lt (blk_lt Q.out.z))
     have G9B := Aside0.mk (show gb ≠ wr.heap.size from Nat.ne_of_lt (blk_lt Q.out.b))
     have f0 : W9.cell? ⟨wr.heap.size, 0, none⟩ = some (.slice none 0 0) := (blk_cell O9 0).trans rfl
     have f1 : W9.cell? ⟨wr.heap.size, 1, none⟩ = some (.slice none 0 0) := (blk_cell O9 1).trans rfl
     have f2 : W9.frozen? ⟨wr.heap.size, 0, none⟩ = false := blk_frozen O9 0
     have f3 : W9.frozen? ⟨wr.heap.size, 1, none⟩ = false := blk_frozen O9 1
     have f4 : W9.setCell ⟨wr.heap.size, 0, none⟩ (.slice none 0 0) = W9 := by rw [← hW9, World.setCell_alloc_new]; rfl
     have f5 : W9.setCell ⟨wr.heap.size, 1, none⟩ (.slice none 0 0) = W9 := by rw [← hW9, World.setCell_alloc_new]; rfl
     have m0 : W9.cell? ⟨gb, 0, none⟩ = some (.slice A6 p.length c6) := (blk_cell Q9.out.b 0).trans rfl
     have hpl : p.length ≤ 9223372036854775807 := by have := HPL.out; omega
     clear hb9 O9 Q
     go_wp2_with ((with_reducible refine gate_dst (N := 57) rfl ?_); (try (refine gate_guard (by rfl) ?_; dsimp only)); refine Kd.R_make (Kd.int .i64) (w0 := w) w.heap.size 3 rfl (N := 57) rfl 22 _ _ rfl (p.length : Int) rfl rfl Try.underlying22 (.int .i64 0) 8 info3 rfl (by decide) (by omega) 0 (ok := fun _ => True) (okp := fun _ => True) rfl (fun _ hk => hk) trivial (by omega) (by have := HPL.out; omega) Q9.out.bl Q9.out.bl.size ?_; intro v10 w10 ho hb hg hnew; clear f0 f1 f2 f3 f4 f5 m0; have hbg := below_of_grown hg; obtain ⟨b10, hb10, hb11⟩ := hnew; rw [Int.toNat_natCast] at ho; obtain ⟨pl0, hpl0⟩ : ∃ pl0, List.replicate p.length (0 : Int) = pl0 := ⟨_, rfl⟩; have hpll : pl0.length = p.length := (by rw [← hpl0]; exact List.length_replicate); rw [hpl0] at ho; obtain ⟨A10, c10, rfl⟩ : ∃ A c, v10 = .slice A p.length c := (by obtain ⟨A, c, e_⟩ := Kd.R_slice ho; exact ⟨A, c, by rw [e_, hpll]⟩); rw [← hpll] at ho hb10; have P10 := Aside0.mk (D2.start Q9.out hbg ho (fun k hk => by rw [hb10] at hk; have := Option.some.inj hk; omega)); have O10 := Aside0.mk (blk_below OO.out hbg); have HPLL := Aside0.mk hpll; clear ho hb hg hb10 hb11 hbg hpl0 hpll; have m0 : w10.cell? ⟨gb, 0, none⟩ = some (.slice A6 p.length c6) := (blk_cell P10.out.b 0).trans rfl)
     clear m0 hW9 OO
     generalize hg9 : wr.heap.size = g9 at *
     clear hg9
     go_loopw [61] (fun vi wr => ∃ (q : Nat) (A8 : Option Addr) (c8 : Nat) (pc : List KL) (pl : List Int), q ≤ p.length ∧ vi = .int .i64 q ∧ Aside0 (D2 w wr gz gb A6 c6 p (some ⟨g7, 0, none⟩) c7 l0_1 hs A8 c8 pc A10 c10 pl) ∧ Aside0 (wr.heap[g9]? = some (.cells #[.slice A8 pc.length c8, .slice none 0 0] 51 (0, 0))) ∧ Aside0 (pl.length = p.length ∧ pc.length ≤ q) ∧ Aside0 (packK (p.drop q) (pl.take q) pc = packK p [] [])) (fun vi _ => p.length - (intOf vi).toNat)
     case atStart => exact ⟨0, none, 0, [], pl0, Nat.zero_le _, rfl, P10, O10, ⟨⟨HPLL.out, Nat.le_refl _⟩⟩, ⟨rfl⟩⟩
     case round =>
      clear P10 O10 HPLL
      obtain ⟨q, A8, c8, pc, pl, hq, rfl, P, O, HL, HX⟩ := hrel
      by_cases hql : q < p.length
      ·have hqq : ((q : Int) < (p.length : Int)) = True := eq_true (by omega)
       obtain ⟨ad, e4, x0, x1⟩ := at_T89 (Kd.R_reads' P.out.k0).2.2 (q : Int) (by omega) (by omega)
       obtain ⟨x, hx⟩ : ∃ x, rd_T89 p (q : Int) = x := ⟨_, rfl⟩
       have hxg : p[q] = x := by rw [← hx, rd_kl, Int.toNat_natCast, List.getD_eq_getElem?_getD, List.getElem?_eq_getElem hql]; rfl
       rw [hx] at x0 x1
       simp only [Int.toNat_natCast] at x0 x1
       obtain ⟨V, hV⟩ : ∃ V, wr.alloc (.cells #[.string x.f0, .int .i64 x.f1] 89) = V := ⟨_, rfl⟩
       have hb : Below wr.heap.size wr V := by rw [← hV]; exact below_alloc (Below.refl _ _) _
       have Y4 : V.heap[wr.heap.size]? = some (.cells #[.string x.f0, .int .i64 x.f1] 89 (0, 0)) := by rw [← hV]; exact heap_alloc_new wr _
       have P4 := P.out.below hb
       have O4 := blk_below O.out hb
       obtain ⟨g10, w5, e10, m1, m2, m3, hg, ⟨cells, hty⟩, P5⟩ := P4.ren (q := q) (by rw [HL.out.1]; exact hql) (pc.length : Int)
       have O5 := Aside0.mk (blk_grown O4 hg (fun e_ => absurd (blk_ne O4 hty (by decide)) (fun h_ => h_ (Option.some.inj e_))))
       have Y5 := blk_grown Y4 hg (fun e_ => absurd (blk_ne Y4 hty (by decide)) (fun h_ => h_ (Option.some.inj e_)))
       have P5 := Aside0.mk P5
       have HX2 := Aside0.mk (show packK (p.drop (q + 1)) ((pl.set q (pc.length : Int)).take (q + 1)) (if x.f1 > 0 then pc ++ [x] else pc) = packK p [] [] by
        have h1 := HX.out
        rw [List.drop_eq_getElem_cons hql, hxg] at h1
        rw [take_put pl q (by rw [HL.out.1]; exact hql)]
        exact h1)
       have HL2 := Aside0.mk (show (pl.set q (pc.length : Int)).length = p.length by rw [List.length_set]; exact HL.out.1)
       have m0 : V.cell? ⟨g9, 0, none⟩ = some (.slice A8 pc.length c8) := (blk_cell O4 0).trans rfl
       have n0 : w5.cell? ⟨g9, 0, none⟩ = some (.slice A8 pc.length c8) := (blk_cell O5.out 0).trans rfl
       have k0 : w5.cell? ⟨wr.heap.size, 0, none⟩ = some (.string x.f0) := (blk_cell Y5 0).trans rfl
       have k1 : w5.cell? ⟨wr.heap.size, 1, none⟩ = some (.int .i64 x.f1) := (blk_cell Y5 1).trans rfl
       have HQ := Aside0.mk hql
       subst e4 e10
       clear hb Y4 P4 O4 hg hty Y5 hx hxg HX
       by_cases hu : 0 < x.f1
       ·have HX3 := Aside0.mk (show packK (p.drop (q + 1)) ((pl.set q (pc.length : Int)).take (q + 1)) (pc ++ [x]) = packK p [] [] by have h1 := HX2.out; rw [if_pos hu] at h1; exact h1)
        clear HX2
        go_wp2_with ((with_reducible refine gate_builtin (b := .append) (xs := #[.tmp 76, .tmp 78]) rfl ?_); at_builtin; refine Kd.R_append k89 (w0 := w) (W := w5) w.heap.size rfl (.tmp 76) (.tmp 78) 48 89 (.agg #[(.string ⟨#[]⟩), (.int .i64 0)]) 24 rfl Try.underlying48 info89 rfl (by decide) (by omega) (.slice A8 pc.length c8) pc x [.string x.f0, .int .i64 x.f1] (fun _ => True) (fun _ => False) rfl rfl ?aP (fun _ h_ => h_.elim) (fun _ _ => trivial) P5.out.ks P5.out.bl P5.out.bl.size (by have := HL.out.2; have := HPL.out; have := HQ.out; omega) ?_; (case aP => exact kl_M.2 rfl); intro v6 w6 ho hb hg hat; obtain ⟨A9, c9, w7, rfl, j0, j1, j2, P7, O7⟩ := P5.out.push O5.out G9.out G9Z.out G9B.out ho hb hg hat; clear ho hb hg hat n0 k0 k1; have P7 := Aside0.mk P7; have O7 := Aside0.mk O7)
        go_roundw
        case rel => exact ⟨q + 1, A9, c9, pc ++ [x], _, HQ.out, by go_num, P7, O7, ⟨⟨HL2.out, by have := HL.out.2; simp; omega⟩⟩, HX3⟩
        case measure => simp [intOf]; omega
       ·have HX3 := Aside0.mk (show packK (p.drop (q + 1)) ((pl.set q (pc.length : Int)).take (q + 1)) pc = packK p [] [] by have h1 := HX2.out; rw [if_neg hu] at h1; exact h1)
        clear HX2
        go_wp2
        go_roundw
        case rel => exact ⟨q + 1, A8, c8, pc, _, HQ.out, by go_num, P5, O5, ⟨⟨HL2.out, by have := HL.out.2; omega⟩⟩, HX3⟩
        case measure => simp [intOf]; omega
      ·have hqq : ((q : Int) < (p.length : Int)) = False := eq_false (by omega)
       have HK2 := Aside0.mk (show packK p [] [] = (pl, pc) by
        have h1 := HX.out
        rw [List.drop_of_length_le (by omega), List.take_of_length_le (by have := HL.out.1; omega)] at h1
        exact h1.symm)
       clear HX hql
       have D0 := Aside0.mk (show D4 w wr gz g9 (.slice (some ⟨g7, 0, none⟩) l0_1.length c7) hs (upTo pl ai 0 l0_1) A8 c8 pc A10 c10 pl none 0 ((hs.take 0).eraseIdx ai) from
        ⟨⟨P.out.z, P.out.ks, P.out.hr, by rw [upTo_zero]; exact P.out.fm, P.out.ir, P.out.bl⟩, O.out, Kd.R_nil _ _ _ _ _, fun k hk => by simp [Value.ownBlock] at hk⟩)
       have m0 : wr.cell? ⟨gb, 1, none⟩ = some (.slice (some ⟨g7, 0, none⟩) l0_1.length c7) := (blk_cell P.out.b 1).trans rfl
       clear P O
       go_wp2
       clear m0
       have hln2 : l0_1.length ≤ 9223372036854775807 := hln
       go_loopw [85] (fun vi wr => ∃ (q : Nat) (A9 : Option Addr) (c9 : Nat), q ≤ l0_1.length ∧ vi = .int .i64 q ∧ Aside0 (D4 w wr gz g9 (.slice (some ⟨g7, 0, none⟩) l0_1.length c7) hs (upTo pl ai q l0_1) A8 c8 pc A10 c10 pl A9 c9 ((hs.take q).eraseIdx ai))) (fun vi _ => l0_1.length - (intOf vi).toNat)
       case atStart => exact ⟨0, none, 0, Nat.zero_le _, rfl, D0⟩
       case round =>
        clear D0
        obtain ⟨q, A9, c9, hq, rfl, D⟩ := hrel
        by_cases hql : q < l0_1.length
        ·have hqq : ((q : Int) < (l0_1.length : Int)) = True := eq_true (by omega)
         obtain ⟨x, hx⟩ : ∃ x, l0_1[q] = x := ⟨_, rfl⟩
         have hux : (upTo pl ai q l0_1)[q]? = some x := by rw [upTo_at pl ai hql, hx]
         have hqh : q < hs.length := by have := D.out.d.fm.len; rw [upTo_len] at this; omega
         obtain ⟨Pq, hPq⟩ : ∃ Pq, hs[q]? = some Pq := ⟨hs[q], List.getElem?_eq_getElem hqh⟩
         obtain ⟨Ax, cx, eP, hcx, hCx⟩ := D.out.d.fm.head hux hPq
         subst eP
         have m1 : wr.cell? ⟨g7, q, none⟩ = some (.slice Ax x.f0.length cx) := h_at D.out.d.hr hPq
         obtain ⟨V, hV⟩ : ∃ V, wr.alloc (.cells #[.slice Ax x.f0.length cx] 87) = V := ⟨_, rfl⟩
         have hb : Below wr.heap.size wr V := by rw [← hV]; exact below_alloc (Below.refl _ _) _
         have Y4 := Aside0.mk (show V.heap[wr.heap.size]? = some (.cells #[.slice Ax x.f0.length cx] 87 (0, 0)) by rw [← hV]; exact heap_alloc_new wr _)
         have D4 := Aside0.mk (D.out.below hb)
         have HPQ := Aside0.mk hPq
         have HUX := Aside0.mk hux
         have HXQ := Aside0.mk hx
         have HQ := Aside0.mk hql
         have HQH := Aside0.mk hqh
         clear hcx hCx hb hPq hux hx hqh
         by_cases hqa : q = ai
         ·subst hqa
          have D5 := Aside0.mk (show Go.Proofs.Ytjepecinpgjgdaa.PVau.D4 w V gz g9 (.slice (some ⟨g7, 0, none⟩) l0_1.length c7) hs (upTo pl q (q + 1) l0_1) A8 c8 pc A10 c10 pl A9 c9 ((hs.take (q + 1)).eraseIdx q) by rw [upTo_skip, keep_skip hs q HQH.out]; exact D4.out)
          clear D4
          go_wp2
          go_roundw
          case rel => exact ⟨q + 1, A9, c9, HQ.out, by go_num, D5⟩
          case measure => simp [intOf]; omega
         ·have hqe : (((q : Int)) == (ai : Int)) = false := beq_eq_false_iff_ne.2 (by omega)
          have hqe2 : ((q : Int) = (ai : Int)) = False := eq_false (by omega)
          have HQA := Aside0.mk hqa
          have y0 : V.cell? ⟨wr.heap.size, 0, none⟩ = some (.slice Ax x.f0.length cx) := (blk_cell Y4.out 0).trans rfl
          clear hqa D
          go_wp2
          clear y0 m1 hV
          have XT := Aside0.mk (set_same HUX.out)
          have D5 := Aside0.mk (show Go.Proofs.Ytjepecinpgjgdaa.PVau.D4 w V gz g9 (.slice (some ⟨g7, 0, none⟩) l0_1.length c7) hs ((upTo pl ai q l0_1).set q ⟨x.f0⟩) A8 c8 pc A10 c10 pl A9 c9 ((hs.take q).eraseIdx ai) by rw [XT.out]; exact D4.out)
          generalize hgy : wr.heap.size = gy at *
          clear hgy D4
          have hxl : x.f0.length ≤ 9223372036854775807 := by
           have h1 := HS.out.2.2 x (by rw [← HXQ.out]; exact List.getElem_mem HQ.out)
           omega
          go_loopw [96] (fun vi wr => ∃ (n : Nat) (r : List Int), n ≤ x.f0.length ∧ vi = .int .i64 n ∧ Aside0 (Go.Proofs.Ytjepecinpgjgdaa.PVau.D4 w wr gz g9 (.slice (some ⟨g7, 0, none⟩) l0_1.length c7) hs ((upTo pl ai q l0_1).set q ⟨r⟩) A8 c8 pc A10 c10 pl A9 c9 ((hs.take q).eraseIdx ai)) ∧ Aside0 (wr.heap[gy]? = some (.cells #[.slice Ax x.f0.length cx] 87 (0, 0))) ∧ Aside0 (Ren pl x.f0 r n)) (fun vi _ => x.f0.length - (intOf vi).toNat)
          case atStart => exact ⟨0, x.f0, Nat.zero_le _, rfl, D5, Y4, ⟨Ren.zero pl x.f0⟩⟩
          case round =>
           clear D5 Y4
           obtain ⟨n, r', hn, rfl, D, Y, HN⟩ := hrel
           by_cases hnl : n < x.f0.length
           ·have hnn : ((n : Int) < (x.f0.length : Int)) = True := eq_true (by omega)
            obtain ⟨k, hk⟩ : ∃ k, rd x.f0 (n : Int) = k := ⟨_, rfl⟩
            have hkm : k ∈ x.f0 := by
             rw [← hk]; unfold rd; rw [Int.toNat_natCast, List.getD_eq_getElem?_getD, List.getElem?_eq_getElem hnl]; exact List.getElem_mem hnl
            have hkr := HRG.out x (by rw [← HXQ.out]; exact List.getElem_mem HQ.out) k hkm
            have hplp : p.length = l0_0.length := by rw [HP1.out, decK_len]
            have hkl : k < (p.length : Int) := by omega
            have hkpl : k < (pl.length : Int) := by have := HL.out.1; omega
            have q1 : (0 ≤ k) = True := eq_true hkr.1
            have q2 : (k < (p.length : Int)) = True := eq_true hkl
            have hxs : ((upTo pl ai q l0_1).set q (⟨r'⟩ : FL))[q]? = some ⟨r'⟩ := List.getElem?_set_self (by rw [upTo_len]; exact HQ.out)
            have hrl' := HN.out.len
            obtain ⟨gp, cp', w6, hP, m1, m2, _⟩ := D.out.put HPQ.out hxs (q := n) (by omega) (rd pl k)
            injection hP with eAx eP2
            injection eP2 with eP3 eP4
            rw [HN.out.at_ hnl, hk] at m1
            have HK := Aside0.mk hk
            have HKR := Aside0.mk hkr.1
            have HKPL := Aside0.mk hkpl
            have HNL := Aside0.mk hnl
            have HXS := Aside0.mk hxs
            subst eAx
            clear m2 eP3 eP4 hrl' hxs hkpl hkl hplp hkr hkm hk
            go_wp2
            clear m1
            obtain ⟨g10, rfl, s1_⟩ := D.out.sub HKR.out HKPL.out
            refine start_ (n := 9) (S := fun w' => w'.cell? ⟨gy, 0, none⟩ = some (.slice (some ⟨gp, 0, none⟩) x.f0.length cx) ∧ w'.cell? ⟨g10, k.toNat, none⟩ = some (.int .i64 (rd pl k))) (ds := [8]) #[false, false, false, false, false, false, false, false, false] (by kernel_rfl) rfl rfl ⟨(blk_cell Y.out 0).trans rfl, s1_⟩ (fun hHeld => ?_)
            clear s1_
            have D5 := D.out.drew
            have Y5 := blk_drew Y.out
            obtain ⟨gp', cp', _, hP, m1, m2, rfl, hg, ⟨cells, hty⟩, D6⟩ := D5.put HPQ.out HXS.out (q := n) (by rw [HN.out.len]; exact HNL.out) (rd pl k)
            injection hP with eAx eP2
            injection eAx with eAx
            injection eAx with eAx
            subst eAx
            have Y6 := Aside0.mk (blk_grown Y5 hg (fun e_ => absurd (blk_ne Y5 hty (by decide)) (fun h_ => h_ (Option.some.inj e_))))
            rw [List.set_set] at D6
            have D6 := Aside0.mk D6
            clear D5 Y5 hg hty eP2
            generalize wr.drew = V5 at m1 m2 D6 Y6 hHeld ⊢
            refine take_ (i := 0) (N := some 101) (v := ?_) (a' := ?_) #[true, false, false, false, false, false, false, false, false] rfl rfl (by kernel_rfl) (fun _ _ _ h => h) (Or.inl ⟨by rfl, ?_⟩) hHeld ?_ ?_
            rotate_left
            ·rintro w' ⟨s0, s1⟩
             go_simp
             with_reducible rfl
            rotate_left
            ·simp only [Act.put, List.setIfInBounds_toArray, List.set_cons_zero, List.set_cons_succ, i64_w, i32_w]
             rfl
            refine take_ (i := 1) (N := some 102) (v := ?_) (a' := ?_) #[true, true, false, false, false, false, false, false, false] rfl rfl (by kernel_rfl) (fun _ _ _ h => h) (Or.inl ⟨by rfl, ?_⟩) hHeld ?_ ?_
            rotate_left
            ·rintro w' ⟨s0, s1⟩
             go_simp
             with_reducible rfl
            rotate_left
            ·simp only [Act.put, List.setIfInBounds_toArray, List.set_cons_zero, List.set_cons_succ, i64_w, i32_w]
             rfl
            refine take_ (i := 2) (N := some 103) (v := ?_) (a' := ?_) #[true, true, true, false, false, false, false, false, false] rfl rfl (by kernel_rfl) (fun _ _ _ h => h) (Or.inl ⟨by rfl, ?_⟩) hHeld ?_ ?_
            rotate_left
            ·rintro w' ⟨s0, s1⟩
             go_simp
             with_reducible rfl
            rotate_left
            ·simp only [Act.put, List.setIfInBounds_toArray, List.set_cons_zero, List.set_cons_succ, i64_w, i32_w]
             rfl
            refine take_ (i := 3) (N := some 104) (v := ?_) (a' := ?_) #[true, true, true, true, false, false, false, false, false] rfl rfl (by kernel_rfl) (fun _ _ _ h => h) (Or.inl ⟨by rfl, ?_⟩) hHeld ?_ ?_
            rotate_left
            ·rintro w' ⟨s0, s1⟩
             go_simp
             with_reducible rfl
            rotate_left
            ·simp only [Act.put, List.setIfInBounds_toArray, List.set_cons_zero, List.set_cons_succ, i64_w, i32_w]
             rfl
            refine take_ (i := 4) (N := some 105) (v := ?_) (a' := ?_) #[true, true, true, true, true, false, false, false, false] rfl rfl (by kernel_rfl) (fun _ _ _ h => h) (Or.inl ⟨by rfl, ?_⟩) hHeld ?_ ?_
            rotate_left
            ·rintro w' ⟨s0, s1⟩
             go_simp
             with_reducible rfl
            rotate_left
            ·simp only [Act.put, List.setIfInBounds_toArray, List.set_cons_zero, List.set_cons_succ, i64_w, i32_w]
             rfl
            refine take_ (i := 5) (N := some 106) (v := ?_) (a' := ?_) #[true, true, true, true, true, true, false, false, false] rfl rfl (by kernel_rfl) (fun _ _ _ h => h) (Or.inl ⟨by rfl, ?_⟩) hHeld ?_ ?_
            rotate_left
            ·rintro w' ⟨s0, s1⟩
             go_simp
             with_reducible rfl
            rotate_left
            ·simp only [Act.put, List.setIfInBounds_toArray, List.set_cons_zero, List.set_cons_succ, i64_w, i32_w]
             rfl
            refine take_ (i := 6) (N := some 107) (v := ?_) (a' := ?_) #[true, true, true, true, true, true, true, false, false] rfl rfl (by kernel_rfl) (fun _ _ _ h => h) (Or.inl ⟨by rfl, ?_⟩) hHeld ?_ ?_
            rotate_left
            ·rintro w' ⟨s0, s1⟩
             go_simp
             with_reducible rfl
            rotate_left
            ·simp only [Act.put, List.setIfInBounds_toArray, List.set_cons_zero, List.set_cons_succ, i64_w, i32_w]
             rfl
            refine take_ (i := 7) (N := some 108) (v := ?_) (a' := ?_) #[true, true, true, true, true, true, true, true, false] rfl rfl (by kernel_rfl) (fun _ _ _ h => h) (Or.inl ⟨by rfl, ?_⟩) hHeld ?_ ?_
            rotate_left
            ·rintro w' ⟨s0, s1⟩
             go_simp
             with_reducible rfl
            rotate_left
            ·simp only [Act.put, List.setIfInBounds_toArray, List.set_cons_zero, List.set_cons_succ, i64_w, i32_w]
             rfl
            refine last_ (i := 8) (N := none) #[true, true, true, true, true, true, true, true, true] rfl rfl (by kernel_rfl) (by decide) (fun K hK => ?_)
            refine skip_ (w1 := V5.setCell ⟨gp, n, none⟩ (.int .i64 (rd pl k))) (by rfl) rfl ?_ ?_
            ·first | (go_simp; done) | (go_simp; rfl)
            clear m1 m2
            refine hK.out _ _ ?_
            clear hK K
            refine done_ (by kernel_rfl) ?_
            clear hHeld
            generalize V5.setCell ⟨gp, n, none⟩ (.int .i64 (rd pl k)) = wE at D6 Y6 ⊢
            try go_wp2
            go_roundw
            case rel => exact ⟨n + 1, _, HNL.out, by go_num, D6, Y6, ⟨HN.out.step HNL.out HK.out⟩⟩
            case measure => simp [intOf]; omega
           ·have hnn : ((n : Int) < (x.f0.length : Int)) = False := eq_false (by omega)
            have hm : (⟨r'⟩ : FL) = mapP pl l0_1[q] := by rw [HXQ.out, HN.out.end_ (by omega)]; rfl
            obtain ⟨h2, hh2⟩ : ∃ h2, (hs.take q).eraseIdx ai = h2 := ⟨_, rfl⟩
            have D7 := D.out
            rw [hm, upTo_step pl HQ.out HQA.out, hh2] at D7
            have D7 := Aside0.mk D7
            have HH2 := Aside0.mk hh2
            have h2l : h2.length ≤ 20 := by
             have h1 := D7.out.d.fm.len
             rw [upTo_len] at h1
             have h3 := HS.out.2.1
             rw [← hh2]
             have h4 : ((hs.take q).eraseIdx ai).length ≤ (hs.take q).length := by rw [List.length_eraseIdx]; split <;> omega
             rw [List.length_take] at h4
             omega
            have H2L := Aside0.mk h2l
            have y0 : wr.cell? ⟨gy, 0, none⟩ = some (.slice Ax x.f0.length cx) := (blk_cell Y.out 0).trans rfl
            have n0 : wr.cell? ⟨g9, 1, none⟩ = some (.slice A9 h2.length c9) := (blk_cell D7.out.o 1).trans rfl
            clear hm D HN hh2 h2l hnl
            go_wp2_with ((with_reducible refine gate_builtin (b := .append) (xs := #[.tmp 111, .tmp 113]) rfl ?_); at_builtin; refine Kd.R_append (Kd.scalar encH encH_one) (w0 := w) (W := wr) w.heap.size rfl (.tmp 111) (.tmp 113) 49 87 (.agg #[(.slice none 0 0)]) 24 rfl Try.underlying49 info87 rfl (by decide) (by omega) (.slice A9 h2.length c9) h2 (Ax, x.f0.length, cx) [.slice Ax x.f0.length cx] (fun _ => True) (fun _ => False) rfl rfl ?aP (fun _ h_ => h_.elim) (fun _ _ => trivial) D7.out.ho D7.out.d.bl D7.out.d.bl.size (by have := H2L.out; omega) ?_; (case aP => rfl); intro v4 w4 ho hb hg hat; obtain ⟨A7', c7', w8, rfl, j0, j1, j2, D8⟩ := D7.out.more G9Z.out G9.out ho hb hg hat; have D8 := Aside0.mk (show Go.Proofs.Ytjepecinpgjgdaa.PVau.D4 w w8 gz g9 (.slice (some ⟨g7, 0, none⟩) l0_1.length c7) hs (upTo pl ai (q + 1) l0_1) A8 c8 pc A10 c10 pl A7' c7' ((hs.take (q + 1)).eraseIdx ai) by rw [keep_step hs HQH.out HQA.out, HH2.out, (List.getElem?_eq_some_iff.1 HPQ.out).2]; exact D8); clear ho hb hg hat n0 y0)
            go_roundw
            case rel => exact ⟨q + 1, A7', c7', HQ.out, by go_num, D8⟩
            case measure => simp [intOf]; omega
        ·have hqq : ((q : Int) < (l0_1.length : Int)) = False := eq_false (by omega)
         have hql2 : q = l0_1.length := by omega
         subst hql2
         have hhl : hs.length = l0_1.length := by have := D.out.d.fm.len; rw [upTo_len] at this; exact this
         have e1 : dropR l0_0 l0_1 ai = (pc, (l0_1.eraseIdx ai).map (mapP pl)) := by
          unfold dropR
          rw [HRI.out, ← HP1.out, HK2.out]
         have HF := Aside0.mk (show KS wr w.heap.size (fun _ => True) (.slice A8 pc.length c8) pc ∧ FS wr w.heap.size (fun _ => True) (.slice A9 ((hs.take l0_1.length).eraseIdx ai).length c9) ((l0_1.eraseIdx ai).map (mapP pl)) by
          refine ⟨D.out.d.ks, fam_S D.out.ho ?_⟩
          rw [← upTo_all, ← hhl, List.take_length]
          have h1 := (D.out.d.fm.pick ai).mono (ok' := fun _ => True) (fun _ _ => trivial)
          rw [← hhl] at h1
          exact h1)
         obtain ⟨h2, hh2⟩ : ∃ h2, (hs.take l0_1.length).eraseIdx ai = h2 := ⟨_, rfl⟩
         rw [hh2] at HF D
         have E1 := Aside0.mk e1
         have k0 : wr.cell? ⟨g9, 0, none⟩ = some (.slice A8 pc.length c8) := (blk_cell D.out.o 0).trans rfl
         have k1 : wr.cell? ⟨g9, 1, none⟩ = some (.slice A9 h2.length c9) := (blk_cell D.out.o 1).trans rfl
         have z0 : wr.cell? ⟨gz, 0, none⟩ = some (.slice none 0 0) := (blk_cell D.out.d.z 0).trans rfl
         have z1 : wr.cell? ⟨gz, 1, none⟩ = some (.slice none 0 0) := (blk_cell D.out.d.z 1).trans rfl
         have y0 := blk_frozen D.out.d.z 0
         have y1 := blk_frozen D.out.d.z 1
         clear e1 hh2 hhl hql
         go_wp2
         refine bodyPost_ret (results_ct rfl _ _ gz 51 #[.slice A8 pc.length c8, .slice A9 h2.length c9] (0, 0) _ rfl (put2 D.out.d.z _ _) Try.underlying51 rfl (by kernel_rfl)) rfl ?_
         obtain ⟨r1_, r2_, r3_⟩ := ret_vault (x := .slice A8 pc.length c8) (y := .slice A9 h2.length c9) D.out.d.z ZG.out HF.out.1 HF.out.2 D.out.d.bl
         rw [E1.out]
         exact ⟨_, _, rfl, r1_, r2_, r3_⟩
def impl_DropFile.f (k : Nat) (ps : List KL) (fs : List FL) (a : Int) : Option (List KL × List FL × Bool) := some (dropF ps fs a)
theorem impl_DropFile.calls (k_ : Nat) (A0_0 : Option Addr) (c0_0 : Nat) (l0_0 : List KL) (A0_1 : Option Addr) (c0_1 : Nat) (l0_1 : List FL) (a1 : Int) (r1 : List KL) (r2 : List FL) (r3 : Bool) (w : World) (hr0_0 : Kd.C k89 w A0_0 l0_0.length l0_0) (hc0_0 : l0_0.length ≤ c0_0) (hr0_1 : Kd.C k87 w A0_1 l0_1.length l0_1) (hc0_1 : l0_1.length ≤ c0_1) (h : impl_DropFile.f k_ l0_0 l0_1 a1 = some (r1, r2, r3)) :
  Calls Try.prog 43 #[.agg #[.slice A0_0 l0_0.length c0_0, .slice A0_1 l0_1.length c0_1], .int .i64 a1] w fun e w' => ∃ v0_ v1_ : Value, e = .returned (.tuple #[.agg #[v0_, v1_], .bool r3]) ∧ Kd.R k89 89 w' w.heap.size (fun _ => True) v0_ r1 ∧ Kd.S k87 87 w' w.heap.size (fun _ => True) v1_ r2 ∧ Below w.heap.size w w' :=
 drop_calls k_ A0_0 c0_0 l0_0 A0_1 c0_1 l0_1 a1 r1 r2 r3 w hr0_0 hc0_0 hr0_1 hc0_1 (Option.some.inj h)
end Go.Proofs.Ytjepecinpgjgdaa.PVau
