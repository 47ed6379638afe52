import Derived.Test.YtjepecinpgjgdaaXVauDropI
import Derived.Test.YtjepecinpgjgdaaXVauGoodS
import Derived.Test.YtjepecinpgjgdaaYVauspecl15Own
/-! DropFile of the reference: walked by hand (the drawn regions' steps told by wip/vaudrops.py). -/
namespace Go.Proofs.Ytjepecinpgjgdaa.PVau
open Go.RowKit Go.Proofs.YtjepecinpgjgdaaW.PrintWords Go.Proofs.YtjepecinpgjgdaaW.PrintLast Go.Proofs.YtjepecinpgjgdaaW.PrintMore Go.Proofs.Ytjepecinpgjgdaa.E
set_option linter.unusedSimpArgs false
set_option linter.unusedVariables false
theorem l1In_is (a b c : Int) : spec_l1In.f a b c = some (decide (b ≤ a ∧ a ≤ c)) := by
 unfold spec_l1In.f
 by_cases h : a ≥ b
 ·by_cases h2 : a ≤ c
  ·simp [h, h2] <;> omega
  ·simp [h, h2]
 ·simp [h] <;> omega
theorem head_drop {w : World} {g c m : Nat} {xs : List HV} (h : (Kd.scalar encH encH_one).C w (some ⟨g, 0, none⟩) xs.length xs) (hm : m ≤ xs.length) (hc : xs.length ≤ c) : (Kd.scalar encH encH_one).C w (if c = m then some ⟨g, 0, none⟩ else some ⟨g, m, none⟩) (xs.length - m) (xs.drop m) := by
 have h1 := Kd.C_drop (m := m) h hm hc
 rw [List.length_drop] at h1
 by_cases e : c = m
 ·rw [if_pos e] at h1 ⊢
  exact h1
 ·rw [if_neg e] at h1 ⊢
  have e2 : (some (⟨g, 0, none⟩ : Addr)).map (·.add (m * (Kd.scalar encH encH_one).sz)) = some ⟨g, m, none⟩ := by
   show some ((⟨g, 0, none⟩ : Addr).add (m * 1)) = _
   simp [Addr.add]
   exact fun h_ => h_.symm
  rw [e2] at h1
  exact h1
/-- A row of headers, which is not the old one, grows. -/
theorem D1.grown {w W W1 : World} {gz gb : Nat} {A6 : Option Addr} {c6 : Nat} {p : List KL} {A7 : Option Addr} {c7 : Nat} {l1 : List FL} {hs h2 : List HV} {v : Value} {ok : Nat → Prop} (h : D1 w W gz gb A6 c6 p A7 c7 l1 hs) (hv : HR W w.heap.size ok v h2) (hne : ∀ k, v.ownBlock = some k → some k ≠ (Value.slice A7 l1.length c7).ownBlock) (hg : W.grownBy W1 v.ownBlock) (hb : Below w.heap.size w W1) : D1 w W1 gz gb A6 c6 p A7 c7 l1 hs := by
 have ty := Kd.R_typed hv
 exact ⟨blk_grown h.z hg (Kd.R_ne hv h.z (by decide)), blk_grown h.b hg (Kd.R_ne hv h.b (by decide)), Kd.R_over' h.ks ty (by decide) hg, Kd.R_grown2 h.hr rfl hg hne, h.fm.over ty (by decide) hg, hb⟩
theorem D1.drew {w W : World} {gz gb : Nat} {A6 : Option Addr} {c6 : Nat} {p : List KL} {A7 : Option Addr} {c7 : Nat} {l1 : List FL} {hs : List HV} (h : D1 w W gz gb A6 c6 p A7 c7 l1 hs) : D1 w W.drew gz gb A6 c6 p A7 c7 l1 hs := h.below (below_drew1 (Below.refl _ _))
/-- Where the pieces go; the files that stay. -/
structure DS (w W : World) (gz gb : Nat) (A6 : Option Addr) (c6 : Nat) (p : List KL) (hv : Value) (hs : List HV) (xs : List FL) (A8 : Option Addr) (c8 : Nat) (pc : List KL) (A10 : Option Addr) (c10 : Nat) (pl : List Int) : Prop where
 z : W.heap[gz]? = some (.cells #[.slice none 0 0, .slice none 0 0] 51 (0, 0))
 b : ∃ y, W.heap[gb]? = some (.cells #[.slice A6 p.length c6, y] 51 (0, 0))
 k0 : KS W w.heap.size (fun k => True ∧ some k ≠ (Value.slice A8 pc.length c8).ownBlock) (.slice A6 p.length c6) p
 ks : KS W w.heap.size (fun _ => True) (.slice A8 pc.length c8) pc
 hr : HR W w.heap.size (fun _ => True) hv hs
 fm : Fam W w.heap.size (fun k => some k ≠ (Value.slice A10 pl.length c10).ownBlock) hs xs
 ir : IR W w.heap.size (fun _ => True) (.slice A10 pl.length c10) pl
 bl : Below w.heap.size w W
theorem DS.start {w W W1 : World} {gz gb : Nat} {A6 : Option Addr} {c6 : Nat} {p : List KL} {A7 : Option Addr} {c7 : Nat} {l1 : List FL} {hs h2 : List HV} {x2 : List FL} {v : Value} {ok : Nat → Prop} {A10 : Option Addr} {c10 : Nat} {pl : List Int} (Q : D1 w W gz gb A6 c6 p A7 c7 l1 hs) (hv : HR W w.heap.size ok v h2) (hf : Fam W w.heap.size (fun _ => True) h2 x2) (hb : Below W.heap.size W W1) (ho : IR W1 w.heap.size (fun _ => True) (.slice A10 pl.length c10) pl) (hn : ∀ k, (Value.slice A10 pl.length c10).ownBlock = some k → W.heap.size ≤ k) : DS w W1 gz gb A6 c6 p v h2 x2 none 0 [] A10 c10 pl :=
 ⟨blk_below Q.z hb, ⟨_, blk_below Q.b hb⟩, Kd.R_mono (Kd.R_below Q.ks hb) (fun k _ => ⟨trivial, by simp [Value.ownBlock]⟩), Kd.R_nil _ _ _ _ _, Kd.R_mono (Kd.R_below hv hb) (fun _ _ => trivial), (hf.bound.below hb).mono (fun k hk e_ => by have := hn k e_.symm; have := hk.2; omega), ho, below_step Q.bl hb⟩
section
variable {w W W1 : World} {gz gb : Nat} {A6 : Option Addr} {c6 : Nat} {p : List KL} {hv : Value} {xs : List FL} {hs : List HV} {A8 : Option Addr} {c8 : Nat} {pc : List KL} {A10 : Option Addr} {c10 : Nat} {pl : List Int}
theorem DS.below (h : DS w W gz gb A6 c6 p hv hs xs A8 c8 pc A10 c10 pl) (hb : Below W.heap.size W W1) : DS w W1 gz gb A6 c6 p hv hs xs A8 c8 pc A10 c10 pl := by
 obtain ⟨z, ⟨y, b⟩, k0, ks, hr, fm, ir, bl⟩ := h
 exact ⟨blk_below z hb, ⟨y, blk_below b hb⟩, Kd.R_below k0 hb, Kd.R_below ks hb, Kd.R_below hr hb, fm.below hb, Kd.R_below ir hb, below_step bl hb⟩
theorem DS.ren (h : DS w W gz gb A6 c6 p hv hs xs A8 c8 pc A10 c10 pl) {q : Nat} (hq : q < pl.length) (y : Int) :
  ∃ g10 w6, A10 = some ⟨g10, 0, none⟩ ∧ W.cell? ⟨g10, q, none⟩ = some (.int .i64 (rd pl (q : Int))) ∧ W.frozen? ⟨g10, q, none⟩ = false ∧ W.setCell ⟨g10, q, none⟩ (.int .i64 y) = w6 ∧ W.grownBy w6 (some g10) ∧ (∃ cells, W.heap[g10]? = some (.cells cells 3 (0, 0))) ∧
   DS w w6 gz gb A6 c6 p hv hs xs A8 c8 pc A10 c10 (pl.set q y) := by
 obtain ⟨z, ⟨y0, b⟩, k0, ks, hr, fm, ir, bl⟩ := h
 obtain ⟨g10, cap, e6, _, _, hty⟩ := Kd.R_form ir (by omega)
 injection e6 with eA en ec
 subst eA
 obtain ⟨e1, e2, hg, hir⟩ := ir_put ir hq y
 have hl : (pl.set q y).length = pl.length := List.length_set
 have hbase : w.heap.size ≤ g10 := Kd.R_base ir g10 rfl
 have ty := Kd.R_typed ir
 have hg' : W.grownBy (W.setCell ⟨g10, q, none⟩ (.int .i64 y)) (Value.slice (some ⟨g10, 0, none⟩) pl.length c10).ownBlock := hg
 refine ⟨g10, _, rfl, e1, e2, rfl, hg, hty, blk_grown z hg (Kd.R_ne ir z (by decide)), ⟨y0, blk_grown b hg (Kd.R_ne ir b (by decide))⟩, Kd.R_over' k0 ty (by decide) hg', Kd.R_over' ks ty (by decide) hg', Kd.R_over' hr ty (by decide) hg', ?_, ?_, below_set bl hbase⟩
 ·rw [hl]; exact fm.grown hg' (fun k hk => hk)
 ·rw [hl]; exact hir
theorem DS.more {v4 : Value} {x : KL} (h : DS w W gz gb A6 c6 p hv hs xs A8 c8 pc A10 c10 pl) (ho : KS W1 w.heap.size (fun _ => True) v4 (pc ++ [x])) (hb : Below w.heap.size w W1) (hg : W.grownBy W1 (Value.slice A8 pc.length c8).ownBlock) (hat : v4.ownBlock = (Value.slice A8 pc.length c8).ownBlock ∨ ∃ b, v4.ownBlock = some b ∧ W.heap.size ≤ b) :
  ∃ A9 c9, v4 = .slice A9 (pc ++ [x]).length c9 ∧ DS w W1 gz gb A6 c6 p hv hs xs A9 c9 (pc ++ [x]) A10 c10 pl := by
 obtain ⟨z, ⟨y0, b⟩, k0, ks, hr, fm, ir, bl⟩ := h
 obtain ⟨A9, c9, rfl⟩ := Kd.R_slice ho
 have ty := Kd.R_typed ks
 refine ⟨A9, c9, rfl, blk_grown z hg (Kd.R_ne ks z (by decide)), ⟨y0, blk_grown b hg (Kd.R_ne ks b (by decide))⟩, Kd.R_after (ok := fun _ => True) k0 hg hat, ho, Kd.R_over' hr ty (by decide) hg, fm.over ty (by decide) hg, Kd.R_over' ir ty (by decide) hg, hb⟩
theorem D3.drew {hv : Value} (h : D3 w W gz hv hs xs A8 c8 pc A10 c10 pl) : D3 w W.drew gz hv hs xs A8 c8 pc A10 c10 pl := h.below (below_drew1 (Below.refl _ _))
theorem D3.sub (h : D3 w W gz hv hs xs A8 c8 pc A10 c10 pl) {k : Int} (h0 : 0 ≤ k) (h1 : k < (pl.length : Int)) : ∃ g10, A10 = some ⟨g10, 0, none⟩ ∧ W.cell? ⟨g10, k.toNat, none⟩ = some (.int .i64 (rd pl k)) := by
 obtain ⟨g10, cap, e6, _⟩ := Kd.R_form h.ir (by omega)
 injection e6 with eA en ec
 subst eA
 have h2 := (ir_put h.ir (q := k.toNat) (by omega) 0).1
 rw [Int.toNat_of_nonneg h0] at h2
 exact ⟨g10, rfl, h2⟩
end
/-- The first q files are renamed. -/
def upAll (pl : List Int) (q : Nat) (l : List FL) : List FL := (l.take q).map (mapP pl) ++ l.drop q
theorem upAll_zero (pl : List Int) (l : List FL) : upAll pl 0 l = l := by unfold upAll; simp
theorem upAll_len (pl : List Int) (q : Nat) (l : List FL) : (upAll pl q l).length = l.length := by unfold upAll; simp; omega
theorem upAll_at (pl : List Int) {q : Nat} {l : List FL} (h : q < l.length) : (upAll pl q l)[q]? = some l[q] := by
 unfold upAll
 rw [List.getElem?_append_right (by simp; omega), List.length_map, List.length_take, Nat.min_eq_left (by omega), Nat.sub_self, List.getElem?_drop, Nat.add_zero, List.getElem?_eq_getElem h]
theorem upAll_step (pl : List Int) {q : Nat} {l : List FL} (h : q < l.length) : (upAll pl q l).set q (mapP pl l[q]) = upAll pl (q + 1) l := by
 unfold upAll
 rw [List.set_append_right _ _ (by simp; omega), List.length_map, List.length_take, Nat.min_eq_left (by omega), Nat.sub_self, List.drop_eq_getElem_cons h, List.set_cons_zero, List.take_succ_eq_append_getElem h, List.map_append, List.append_assoc]
 rfl
theorem upAll_all (pl : List Int) (l : List FL) : upAll pl l.length l = l.map (mapP pl) := by unfold upAll; simp
def spec_DropFile.f (k : Nat) (ps : List KL) (fs : List FL) (a : Int) : Option (List KL × List FL × Bool) :=
 (spec_GoodVault.f k ps fs).bind fun b => if b = true then (if 0 ≤ a ∧ a < (fs.length : Int) then ((spec_l15Own.f k ps fs).bind fun o => if good o.1 o.2 = true ∧ a < (o.2.length : Int) then some ((dropR o.1 o.2 a.toNat).1, (dropR o.1 o.2 a.toNat).2, true) else none) else some ([], [], false)) else some ([], [], false)
set_option maxHeartbeats 16000000 in
set_option maxRecDepth 100000 in
theorem spec_DropFile.calls (k_ : Nat) (A0_0 : Option Addr) (c0_0 : Nat) (l0_0 : List KL) (A0_1 : Option Addr) (c0_1 : Nat) (l0_1 : List FL) (a1 : Int) (r1 : List KL) (r2 : List FL) (r3 : Bool) (w : World) (hr0_0 : Kd.C k89 w A0_0 l0_0.length l0_0) (hc0_0 : l0_0.length ≤ c0_0) (hr0_1 : Kd.C k87 w A0_1 l0_1.length l0_1) (hc0_1 : l0_1.length ≤ c0_1) (h : spec_DropFile.f k_ l0_0 l0_1 a1 = some (r1, r2, r3)) :
  Calls Try.prog 42 #[.agg #[.slice A0_0 l0_0.length c0_0, .slice A0_1 l0_1.length c0_1], .int .i64 a1] w fun e w' => ∃ v0_ v1_ : Value, e = .returned (.tuple #[.agg #[v0_, v1_], .bool r3]) ∧ Kd.R k89 89 w' w.heap.size (fun _ => True) v0_ r1 ∧ Kd.S k87 87 w' w.heap.size (fun _ => True) v1_ r2 ∧ Below w.heap.size w w' := by
 have huV := Try.underlying51
 have huF := Try.underlying87
 have huK := Try.underlying89
 have huFS := Try.underlying49
 have huKS := Try.underlying48
 have huI := Try.underlying22
 have HR0 := Aside0.mk hr0_0
 have HR1 := Aside0.mk hr0_1
 have HC0 := Aside0.mk hc0_0
 have HC1 := Aside0.mk hc0_1
 have hlo : l0_1.length ≤ 9223372036854775807 := hr0_1.2.1
 clear hr0_0 hr0_1 hc0_0 hc0_1
 unfold spec_DropFile.f at h
 obtain ⟨b, hb, h2⟩ := Option.bind_eq_some_iff.1 h
 clear h
 have h := h2
 clear h2
 have HBB := Aside0.mk hb
 clear hb
 obtain ⟨W1, hW1⟩ : ∃ W, w.alloc (.cells #[.slice A0_0 l0_0.length c0_0, .slice A0_1 l0_1.length c0_1] 51) = W := ⟨_, rfl⟩
 obtain ⟨W2, hW2⟩ : ∃ W, W1.alloc (.cells #[.slice none 0 0, .slice none 0 0] 51) = W := ⟨_, rfl⟩
 have hb1 : Below w.heap.size w W1 := by rw [← hW1]; exact below_alloc (Below.refl _ _) _
 have hb2 : Below W1.heap.size W1 W2 := by rw [← hW2]; exact below_alloc (Below.refl _ _) _
 have X1 : W1.heap[w.heap.size]? = some (.cells #[.slice A0_0 l0_0.length c0_0, .slice A0_1 l0_1.length c0_1] 51 (0, 0)) := by rw [← hW1]; exact heap_alloc_new w _
 have Z1 : W2.heap[W1.heap.size]? = some (.cells #[.slice none 0 0, .slice none 0 0] 51 (0, 0)) := by rw [← hW2]; exact heap_alloc_new W1 _
 have B2 := Aside0.mk (below_step hb1 hb2)
 have X2 := Aside0.mk (blk_below X1 hb2)
 have Z2 := Aside0.mk Z1
 have ZG := Aside0.mk (show w.heap.size ≤ W1.heap.size from hb1.size)
 have ZN := Aside0.mk (show W1.heap.size ≠ w.heap.size by have := blk_lt X1; omega)
 clear hb1 hb2 X1 Z1
 have d0 : W2.cell? ⟨w.heap.size, 0, none⟩ = some (.slice A0_0 l0_0.length c0_0) := (blk_cell X2.out 0).trans rfl
 have d1 : W2.cell? ⟨w.heap.size, 1, none⟩ = some (.slice A0_1 l0_1.length c0_1) := (blk_cell X2.out 1).trans rfl
 have TG := Aside0.mk (spec_GoodVault.calls k_ A0_0 c0_0 l0_0 A0_1 c0_1 l0_1 b W2 (Kd.C_below HR0.out B2.out) HC0.out (Kd.C_below HR1.out B2.out) HC1.out HBB.out)
 have HH := Aside0.mk h
 clear h
 go_enter Try.func42, Try.ntmps42
 go_wp2_with (go_at_call 34; refine TG.out.mono ?_)
 (first | rintro e w3 rfl hb | rintro e w3 ⟨rfl, hb⟩)
 clear TG hW1 d0 d1
 generalize hgz : W1.heap.size = gz at *
 clear hgz hW2
 have B3 := Aside0.mk (below_step B2.out hb)
 have X3 := Aside0.mk (blk_below X2.out hb)
 have Z3 := Aside0.mk (blk_below Z2.out hb)
 clear hb B2 X2 Z2
 have d0 : w3.cell? ⟨w.heap.size, 0, none⟩ = some (.slice A0_0 l0_0.length c0_0) := (blk_cell X3.out 0).trans rfl
 have d1 : w3.cell? ⟨w.heap.size, 1, none⟩ = some (.slice A0_1 l0_1.length c0_1) := (blk_cell X3.out 1).trans rfl
 have z0 : w3.cell? ⟨gz, 0, none⟩ = some (.slice none 0 0) := (blk_cell Z3.out 0).trans rfl
 have z1 : w3.cell? ⟨gz, 1, none⟩ = some (.slice none 0 0) := (blk_cell Z3.out 1).trans rfl
 have y0 := blk_frozen Z3.out 0
 have y1 := blk_frozen Z3.out 1
 cases b with
 | false =>
  have h : some (([] : List KL), ([] : List FL), false) = some (r1, r2, r3) := HH.out
  simp only [Option.some.injEq, Prod.mk.injEq] at h
  obtain ⟨rfl, rfl, rfl⟩ := h
  clear HH
  go_wp2
  refine bodyPost_ret (results_ct rfl _ _ gz 51 #[.slice none 0 0, .slice none 0 0] (0, 0) _ rfl (put2 Z3.out _ _) Try.underlying51 rfl (by kernel_rfl)) rfl ?_
  exact ⟨_, _, rfl, Kd.R_nil _ _ _ _ _, Kd.S_nil _ _ _ _ _, below_set (below_set B3.out ZG.out) ZG.out⟩
 | true =>
  obtain ⟨t, ht⟩ : ∃ t, decide (0 ≤ a1 ∧ a1 ≤ (l0_1.length : Int) - 1) = t := ⟨_, rfl⟩
  have TT := Aside0.mk (spec_l1In.calls a1 0 ((l0_1.length : Int) - 1) t w3 (by rw [l1In_is, ht]))
  have HT := Aside0.mk ht
  clear ht
  go_wp2_with (go_at_call 65; refine TT.out.mono ?_)
  (first | rintro e w4 rfl hd | rintro e w4 ⟨rfl, hd⟩)
  have hb := hd.below
  have B4 := Aside0.mk (below_step B3.out hb)
  have X4 := Aside0.mk (blk_below X3.out hb)
  have Z4 := Aside0.mk (blk_below Z3.out hb)
  clear TT hd hb d0 d1 z0 z1 y0 y1 B3 X3 Z3
  have d0 : w4.cell? ⟨w.heap.size, 0, none⟩ = some (.slice A0_0 l0_0.length c0_0) := (blk_cell X4.out 0).trans rfl
  have d1 : w4.cell? ⟨w.heap.size, 1, none⟩ = some (.slice A0_1 l0_1.length c0_1) := (blk_cell X4.out 1).trans rfl
  have h : (if 0 ≤ a1 ∧ a1 < (l0_1.length : Int) then ((spec_l15Own.f k_ l0_0 l0_1).bind fun o => if good o.1 o.2 = true ∧ a1 < (o.2.length : Int) then some ((dropR o.1 o.2 a1.toNat).1, (dropR o.1 o.2 a1.toNat).2, true) else none) else some ([], [], false)) = some (r1, r2, r3) := HH.out
  clear HH
  cases t with
  | false =>
   rw [if_neg (fun h_ => by have h2 := of_decide_eq_false HT.out; omega)] at h
   simp only [Option.some.injEq, Prod.mk.injEq] at h
   obtain ⟨rfl, rfl, rfl⟩ := h
   have z0 : w4.cell? ⟨gz, 0, none⟩ = some (.slice none 0 0) := (blk_cell Z4.out 0).trans rfl
   have z1 : w4.cell? ⟨gz, 1, none⟩ = some (.slice none 0 0) := (blk_cell Z4.out 1).trans rfl
   have y0 := blk_frozen Z4.out 0
   have y1 := blk_frozen Z4.out 1
   go_wp2
   refine bodyPost_ret (results_ct rfl _ _ gz 51 #[.slice none 0 0, .slice none 0 0] (0, 0) _ rfl (put2 Z4.out _ _) Try.underlying51 rfl (by kernel_rfl)) rfl ?_
   exact ⟨_, _, rfl, Kd.R_nil _ _ _ _ _, Kd.S_nil _ _ _ _ _, below_set (below_set B4.out ZG.out) ZG.out⟩
  | true =>
   have ht := of_decide_eq_true HT.out
   rw [if_pos (by omega)] at h
   obtain ⟨⟨p0, l1⟩, ho, h⟩ := Option.bind_eq_some_iff.1 h
   simp only at h
   split at h
   ·rename_i hgo
    simp only [Option.some.injEq, Prod.mk.injEq] at h
    obtain ⟨rfl, rfl, rfl⟩ := h
    obtain ⟨ai, rfl⟩ : ∃ ai : Nat, a1 = (ai : Int) := ⟨a1.toNat, by omega⟩
    have hai : ai < l1.length := by omega
    have HAI := Aside0.mk hai
    have HS := Aside0.mk (good_small hgo.1)
    have HRG := Aside0.mk (good_rng hgo.1)
    have hln : l1.length ≤ 9223372036854775807 := by have := HS.out.2.1; omega
    have TO := Aside0.mk (spec_l15Own.calls k_ A0_0 c0_0 l0_0 A0_1 c0_1 l0_1 p0 l1 w4 (Kd.C_below HR0.out B4.out) HC0.out (Kd.C_below HR1.out B4.out) HC1.out ho)
    have y0 := blk_frozen X4.out 0
    have y1 := blk_frozen X4.out 1
    have y2 : ∀ W, Below w4.heap.size w4 W → W.frozen? ⟨w.heap.size, 0, none⟩ = false := fun W hW => blk_frozen (blk_below X4.out hW) 0
    have y3 : ∀ W, Below w4.heap.size w4 W → W.frozen? ⟨w.heap.size, 1, none⟩ = false := fun W hW => blk_frozen (blk_below X4.out hW) 1
    have Y2 := Aside0.mk y2
    have Y3 := Aside0.mk y3
    clear HT ht hgo ho y0 y1 y2 y3
    go_wp2_with (go_at_call 75; refine TO.out.mono ?_; (first | rintro e w5 v6 v7 rfl hr0 hr1 hb | rintro e w5 ⟨v6, v7, rfl, hr0, hr1, hb⟩); clear TO d0 d1; obtain ⟨A6, c6, rfl⟩ := Kd.R_slice hr0; obtain ⟨A7, c7, rfl⟩ := Kd.S_slice hr1; obtain ⟨hs, hh, hf⟩ := S_fam (Kd.S_lower hr1 B4.out.size); have y0 := Y2.out w5 hb; have y1 := Y3.out w5 hb; have K5 := Aside0.mk (Kd.R_lower hr0 B4.out.size); have X5 := Aside0.mk (blk_below X4.out hb); have Z5 := Aside0.mk (blk_below Z4.out hb); have B5 := Aside0.mk (below_step B4.out hb); have H5 := Aside0.mk hh; have F5 := Aside0.mk hf; clear hr0 hr1 hb hh hf B4 X4 Z4 Y2 Y3; have hhl := F5.out.len; obtain ⟨g7, cap7, e7, _⟩ := Kd.R_form H5.out (by omega); injection e7 with e7 en_ ec_; clear en_ ec_; subst e7; obtain ⟨P, hP⟩ : ∃ P, hs[ai]? = some P := ⟨hs[ai]'(by omega), List.getElem?_eq_getElem (by omega)⟩; obtain ⟨r, hr⟩ : ∃ r, rd_T87 l1 ai = r := ⟨_, rfl⟩; have hrx : l1[ai]? = some r := (by rw [List.getElem?_eq_getElem hai, ← hr, rd_fl, Int.toNat_natCast, List.getD_eq_getElem?_getD, List.getElem?_eq_getElem hai]; rfl); have X6 := put2 X5.out (.slice A6 p0.length c6) (.slice (some ⟨g7, 0, none⟩) l1.length c7); have X5' := blk_put (cs := #[.slice A0_0 l0_0.length c0_0, .slice A0_1 l0_1.length c0_1]) X5.out 0 (.slice A6 p0.length c6) rfl; have D6 := Aside0.mk (show D1 w ((w5.setCell ⟨w.heap.size, 0, none⟩ (.slice A6 p0.length c6)).setCell ⟨w.heap.size, 1, none⟩ (.slice (some ⟨g7, 0, none⟩) l1.length c7)) gz w.heap.size A6 c6 p0 (some ⟨g7, 0, none⟩) c7 l1 hs from ⟨blk_far (blk_far Z5.out ZN.out _) ZN.out _, X6, Kd.R_set (Kd.R_set K5.out X5.out (by decide) 0 _) X5' (by decide) 1 _, Kd.R_set (Kd.R_set H5.out X5.out (by decide) 0 _) X5' (by decide) 1 _, (F5.out.set_ X5.out (by decide) 0 _).set_ X5' (by decide) 1 _, below_set (below_set B5.out (Nat.le_refl _)) (Nat.le_refl _)⟩); obtain ⟨Ap, cp, eP, hcp, hCp⟩ := F5.out.head hrx hP; subst eP; have m1 := h_at D6.out.hr hP; replace m1 := (show _ = some (Value.slice Ap r.f0.length cp) from m1); have HPK := Aside0.mk hP; have HRX := Aside0.mk hrx; have HRI := Aside0.mk hr; have HRL := Aside0.mk (show r.f0.length ≤ 200 from HS.out.2.2 r (List.mem_of_getElem? hrx)); have hql : ((ai : Int) < (l1.length : Int)) = True := eq_true (by omega); have m0 := (blk_cell X6 1).trans (show _ = some (Value.slice (some ⟨g7, 0, none⟩) l1.length c7) from rfl); have d0 : w5.cell? ⟨w.heap.size, 0, none⟩ = some (.slice A0_0 l0_0.length c0_0) := (blk_cell X5.out 0).trans rfl; have d1 : w5.cell? ⟨w.heap.size, 1, none⟩ = some (.slice A0_1 l0_1.length c0_1) := (blk_cell X5.out 1).trans rfl; obtain ⟨w5a, hs1⟩ : ∃ W, w5.setCell ⟨w.heap.size, 0, none⟩ (.slice A6 p0.length c6) = W := ⟨_, rfl⟩; rw [hs1] at D6 m0 m1; have d2 : w5a.cell? ⟨w.heap.size, 1, none⟩ = some (.slice A0_1 l0_1.length c0_1) := (by rw [← hs1]; exact (blk_cell X5' 1).trans rfl); have y2 : w5a.frozen? ⟨w.heap.size, 1, none⟩ = false := (by rw [← hs1]; exact blk_frozen X5' 1); obtain ⟨W6, hs2⟩ : ∃ W, w5a.setCell ⟨w.heap.size, 1, none⟩ (.slice (some ⟨g7, 0, none⟩) l1.length c7) = W := ⟨_, rfl⟩; rw [hs2] at D6 m0 m1; clear X5 X5' X6 Z5 K5 H5 F5 B5 hCp hcp hP hrx hr hhl)
    clear d0 d1 d2 y0 y1 y2 hs1 hs2 m0 m1
    go_wp2
    have hrl : r.f0.length ≤ 9223372036854775807 := by have := HRL.out; omega
    go_loopw [39] (fun vi wr => ∃ (q : Nat) (p : List KL), q ≤ r.f0.length ∧ vi = .int .i64 q ∧ Aside0 (D1 w wr gz w.heap.size A6 c6 p (some ⟨g7, 0, none⟩) c7 l1 hs) ∧ Aside0 (decK (r.f0.drop q) p = decK r.f0 p0) ∧ Aside0 (p.length = p0.length)) (fun vi _ => r.f0.length - (intOf vi).toNat)
    case atStart => exact ⟨0, p0, Nat.zero_le _, rfl, D6, ⟨rfl⟩, ⟨rfl⟩⟩
    case round =>
     clear D6
     obtain ⟨q, p, hq, rfl, Q, HD, HL⟩ := hrel
     by_cases hqr : q < r.f0.length
     ·have hqq : ((q : Int) < (r.f0.length : Int)) = True := eq_true (by omega)
      obtain ⟨k, hk⟩ : ∃ k, rd r.f0 (q : Int) = k := ⟨_, rfl⟩
      have hkg : k = r.f0[q] := by rw [← hk]; unfold rd; rw [Int.toNat_natCast, List.getD_eq_getElem?_getD, List.getElem?_eq_getElem hqr]; rfl
      have hkr : 0 ≤ k ∧ k < (p.length : Int) := by
       have h1 := HRG.out r (List.mem_of_getElem? HRX.out) k (by rw [hkg]; exact List.getElem_mem hqr)
       have h2 := HL.out
       omega
      obtain ⟨A_, c_, e_, _, hC_⟩ := Q.out.fm.head HRX.out HPK.out
      injection e_ with e1_ e2_
      subst e1_
      obtain ⟨ad, e9, x0⟩ := Kd.at_int hC_ (q : Int) (by omega) (by omega)
      subst e9
      rw [hk, Int.toNat_natCast] at x0
      obtain ⟨g6, w6, rfl, m1, m2, m3, Q6⟩ := Q.out.dec k hkr.1 hkr.2 (wrap64 ((rd_T89 p k).f1 - 1))
      have m0 : wr.cell? ⟨w.heap.size, 0, none⟩ = some (.slice (some ⟨g6, 0, none⟩) p.length c6) := (blk_cell Q.out.b 0).trans rfl
      have q1 : (0 ≤ k) = True := eq_true hkr.1
      have q2 : (k < (p.length : Int)) = True := eq_true hkr.2
      have Q6 := Aside0.mk Q6
      have HD2 := Aside0.mk (show decK (r.f0.drop (q + 1)) (p.set k.toNat ⟨(rd_T89 p k).f0, wrap64 ((rd_T89 p k).f1 - 1)⟩) = decK r.f0 p0 by
       have h1 := HD.out
       rw [List.drop_eq_getElem_cons hqr, ← hkg] at h1
       exact h1)
      have HQ := Aside0.mk hqr
      clear hC_ hkg hk hkr e2_
      go_wp2
      clear x0 m0 m1 m2 m3
      go_roundw
      case rel => exact ⟨q + 1, _, HQ.out, by go_num, Q6, HD2, ⟨by rw [List.length_set]; exact HL.out⟩⟩
      case measure => simp [intOf]; omega
     ·have hqq : ((q : Int) < (r.f0.length : Int)) = False := eq_false (by omega)
      have HP1 := Aside0.mk (show p = decK r.f0 p0 by
       have h1 := HD.out
       rw [List.drop_of_length_le (by omega)] at h1
       exact h1)
      have HPL := Aside0.mk (show p.length ≤ 100 by have := HL.out; have := HS.out.1; omega)
      have hpl : p.length ≤ 9223372036854775807 := by have := HPL.out; omega
      clear HD hqr
      go_wp2
      refine start_ (n := 13) (S := fun w' => w'.cell? ⟨w.heap.size, 1, none⟩ = some (.slice (some ⟨g7, 0, none⟩) l1.length c7) ∧ w'.cell? ⟨w.heap.size, 1, none⟩ = some (.slice (some ⟨g7, 0, none⟩) l1.length c7)) (ds := []) #[false, false, false, false, false, false, false, false, false, false, false, false, false] (by kernel_rfl) rfl rfl ⟨(blk_cell Q.out.b 1).trans rfl, (blk_cell Q.out.b 1).trans rfl⟩ (fun hHeld => ?_)
      have Q9 := Aside0.mk Q.out.drew
      clear Q
      generalize wr.drew = w9 at Q9 hHeld ⊢
      have hai := HAI.out
      have hhl := Q9.out.len
      have u1 : (0 ≤ (ai : Int)) = True := eq_true (by omega)
      have u2 : ((ai : Int) ≤ (l1.length : Int)) = True := eq_true (by omega)
      have u4 : ((ai : Int) + 1 ≤ (l1.length : Int)) = True := eq_true (by omega)
      have hc7 : l1.length ≤ c7 := by have h_ := (Kd.R_reads' Q9.out.hr).2.1; omega
      have hls : l1.length ≤ 20 := HS.out.2.1
      have u5 : (ai ≤ c7) = True := eq_true (by omega)
      have u6 : (0 ≤ (ai : Int) + 1) = True := eq_true (by omega)
      have u7 : (ai + 1 ≤ l1.length) = True := eq_true (by omega)
      have HHL := Aside0.mk hhl
      clear hhl
      have u3 : wrap64 ((ai : Int) + 1) = (ai : Int) + 1 := w64 (by omega) (by omega)
      refine take_ (i := 1) (N := some 54) (v := ?_) (a' := ?_) #[false, true, false, false, false, false, false, false, false, false, false, false, false] rfl rfl (by kernel_rfl) (fun _ _ _ h => h) (Or.inl ⟨by rfl, ?_⟩) hHeld ?_ ?_
      rotate_left
      ·rintro w' ⟨s0, s1⟩
       go_simp
       with_reducible rfl
      rotate_left
      ·simp only [Act.put, List.setIfInBounds_toArray, List.set_cons_zero, List.set_cons_succ, i64_w, i32_w]
       rfl
      refine take_ (i := 2) (N := some 55) (v := ?_) (a' := ?_) #[false, true, true, false, false, false, false, false, false, false, false, false, false] rfl rfl (by kernel_rfl) (fun _ _ _ h => h) (Or.inl ⟨by rfl, ?_⟩) hHeld ?_ ?_
      rotate_left
      ·rintro w' ⟨s0, s1⟩
       go_simp
       with_reducible rfl
      rotate_left
      ·simp only [Act.put, List.setIfInBounds_toArray, List.set_cons_zero, List.set_cons_succ, i64_w, i32_w]
       rfl
      refine take_ (i := 3) (N := some 56) (v := ?_) (a' := ?_) #[false, true, true, true, false, false, false, false, false, false, false, false, false] rfl rfl (by kernel_rfl) (fun _ _ _ h => h) (Or.inl ⟨by rfl, ?_⟩) hHeld ?_ ?_
      rotate_left
      ·rintro w' ⟨s0, s1⟩
       go_simp
       with_reducible rfl
      rotate_left
      ·simp only [Act.put, List.setIfInBounds_toArray, List.set_cons_zero, List.set_cons_succ, i64_w, i32_w]
       rfl
      refine take_ (i := 4) (N := some 57) (v := ?_) (a' := ?_) #[false, true, true, true, true, false, false, false, false, false, false, false, false] rfl rfl (by kernel_rfl) (fun _ _ _ h => h) (Or.inl ⟨by rfl, ?_⟩) hHeld ?_ ?_
      rotate_left
      ·rintro w' ⟨s0, s1⟩
       go_simp
       with_reducible rfl
      rotate_left
      ·simp only [Act.put, List.setIfInBounds_toArray, List.set_cons_zero, List.set_cons_succ, i64_w, i32_w]
       rfl
      refine take_ (i := 6) (N := some 59) (v := ?_) (a' := ?_) #[false, true, true, true, true, false, true, false, false, false, false, false, false] rfl rfl (by kernel_rfl) (fun _ _ _ h => h) (Or.inl ⟨by rfl, ?_⟩) hHeld ?_ ?_
      rotate_left
      ·rintro w' ⟨s0, s1⟩
       go_simp
       with_reducible rfl
      rotate_left
      ·simp only [Act.put, List.setIfInBounds_toArray, List.set_cons_zero, List.set_cons_succ, i64_w, i32_w]
       rfl
      refine take_ (i := 7) (N := some 60) (v := ?_) (a' := ?_) #[false, true, true, true, true, false, true, true, false, false, false, false, false] rfl rfl (by kernel_rfl) (fun _ _ _ h => h) (Or.inl ⟨by rfl, ?_⟩) hHeld ?_ ?_
      rotate_left
      ·rintro w' ⟨s0, s1⟩
       go_simp
       with_reducible rfl
      rotate_left
      ·simp only [Act.put, List.setIfInBounds_toArray, List.set_cons_zero, List.set_cons_succ, i64_w, i32_w]
       rfl
      refine take_ (i := 8) (N := some 61) (v := ?_) (a' := ?_) #[false, true, true, true, true, false, true, true, true, false, false, false, false] rfl rfl (by kernel_rfl) (fun _ _ _ h => h) (Or.inl ⟨by rfl, ?_⟩) hHeld ?_ ?_
      rotate_left
      ·rintro w' ⟨s0, s1⟩
       go_simp
       with_reducible rfl
      rotate_left
      ·simp only [Act.put, List.setIfInBounds_toArray, List.set_cons_zero, List.set_cons_succ, i64_w, i32_w]
       rfl
      refine take_ (i := 9) (N := some 62) (v := ?_) (a' := ?_) #[false, true, true, true, true, false, true, true, true, true, false, false, false] rfl rfl (by kernel_rfl) (fun _ _ _ h => h) (Or.inl ⟨by rfl, ?_⟩) hHeld ?_ ?_
      rotate_left
      ·rintro w' ⟨s0, s1⟩
       go_simp
       with_reducible rfl
      rotate_left
      ·simp only [Act.put, List.setIfInBounds_toArray, List.set_cons_zero, List.set_cons_succ, i64_w, i32_w]
       rfl
      refine take_ (i := 10) (N := some 63) (v := ?_) (a' := ?_) #[false, true, true, true, true, false, true, true, true, true, true, false, false] rfl rfl (by kernel_rfl) (fun _ _ _ h => h) (Or.inl ⟨by rfl, ?_⟩) hHeld ?_ ?_
      rotate_left
      ·rintro w' ⟨s0, s1⟩
       go_simp
       with_reducible rfl
      rotate_left
      ·simp only [Act.put, List.setIfInBounds_toArray, List.set_cons_zero, List.set_cons_succ, i64_w, i32_w]
       rfl
      clear u3
      refine one_ (i := 0) (N := some 53) #[true, true, true, true, true, false, true, true, true, true, true, false, false] rfl rfl (by kernel_rfl) (by decide) (fun K hK => ?_)
      refine Kd.R_lit_step (Kd.scalar encH encH_one) (w0 := w) w.heap.size 87 (by rfl) (N := 53) rfl (xs := ([] : List HV)) (inner := []) (ok := fun _ => True) (okp := fun _ => True) (by first | (go_simp; done) | (go_simp; rfl)) (Reps.none _ _) (fun _ hk => hk) trivial Q9.out.bl Q9.out.bl.size (by simp) ?_
      intro v53 w10 ho hb hg hnew
      have Q10 := Aside0.mk (Q9.out.below (below_of_grown hg))
      have O10 := Aside0.mk ho
      have N10 := Aside0.mk (show ∀ j, v53.ownBlock = some j → w9.heap.size ≤ j from fun j hj => by obtain ⟨b_, e_, h_⟩ := hnew; rw [e_] at hj; injection hj with hj; omega)
      have P10 := Aside0.mk (show g7 < w9.heap.size from Kd.R_lt Q9.out.hr g7 rfl)
      have LW := Aside0.mk (show w9.heap.size ≤ w10.heap.size from hg.size)
      clear ho hb hg hnew Q9
      refine hK.out _ _ ⟨(blk_cell Q10.out.b 1).trans rfl, (blk_cell Q10.out.b 1).trans rfl⟩ (fun hHeld => ?_)
      clear hK K
      refine norm_ (a' := ?_) ?_ ?_
      rotate_left
      ·show Act.put _ (some 53) _ = _
       simp only [Act.put, List.setIfInBounds_toArray, List.set_cons_zero, List.set_cons_succ, i64_w, i32_w]
       rfl
      refine one_ (i := 5) (N := some 58) #[true, true, true, true, true, true, true, true, true, true, true, false, false] rfl rfl (by kernel_rfl) (by decide) (fun K hK => ?_)
      have hlt : (hs.take ai).length = ai := by rw [List.length_take]; have := HHL.out; omega
      refine Kd.R_append_rows_step (Kd.scalar encH encH_one) (w0 := w) w.heap.size (by rfl) (.tmp 53) (.tmp 57) 49 87 (.agg #[(.slice none 0 0)]) 24 rfl Try.underlying49 info87 rfl (by decide) (by omega) v53 [] (hs.take ai) _ _ _ (fun _ => True) (fun _ => False) rfl rfl O10.out ?aR (fun _ _ h => h) (fun _ h => h.elim) (fun _ _ => trivial) Q10.out.bl Q10.out.bl.size (by simp; omega) ?_
      case aR => have h_ := (Kd.R_reads' Q10.out.hr).2.2; (try rw [← HHL.out] at h_); replace h_ := Kd.C_take (m := ai) h_ (by have := HHL.out; omega); rw [hlt] at h_; exact h_
      intro v58 w11 ho hb hg hat
      clear hlt
      have Q11 := Aside0.mk (Q10.out.grown O10.out (fun k_ h_ e_ => by have := N10.out k_ h_; have := P10.out; have e2_ : k_ = g7 := Option.some.inj e_; omega) hg hb)
      have O11 := Aside0.mk ho
      have N11 := Aside0.mk (show ∀ j, v58.ownBlock = some j → w9.heap.size ≤ j from fun j hj => by
       rcases hat with e_ | ⟨b_, e_, h_⟩
       ·exact N10.out j (e_.symm.trans hj)
       ·rw [e_] at hj; injection hj with hj; have := LW.out; omega)
      clear ho hb hg hat Q10 O10 N10
      refine hK.out _ _ ⟨(blk_cell Q11.out.b 1).trans rfl, (blk_cell Q11.out.b 1).trans rfl⟩ (fun hHeld => ?_)
      clear hK K
      refine norm_ (a' := ?_) ?_ ?_
      rotate_left
      ·show Act.put _ (some 58) _ = _
       simp only [Act.put, List.setIfInBounds_toArray, List.set_cons_zero, List.set_cons_succ, i64_w, i32_w]
       rfl
      refine one_ (i := 11) (N := some 64) #[true, true, true, true, true, true, true, true, true, true, true, true, false] rfl rfl (by kernel_rfl) (by decide) (fun K hK => ?_)
      refine Kd.R_append_rows_step (Kd.scalar encH encH_one) (w0 := w) w.heap.size (by rfl) (.tmp 58) (.tmp 63) 49 87 (.agg #[(.slice none 0 0)]) 24 rfl Try.underlying49 info87 rfl (by decide) (by omega) v58 ([] ++ hs.take ai) (hs.drop (ai + 1)) _ _ _ (fun _ => True) (fun _ => False) rfl rfl O11.out ?aR (fun _ _ h => h) (fun _ h => h.elim) (fun _ _ => trivial) Q11.out.bl Q11.out.bl.size (by have := HHL.out; rw [List.nil_append, List.length_take]; omega) ?_
      case aR => have h_ := (Kd.R_reads' Q11.out.hr).2.2; (try rw [← HHL.out] at h_); replace h_ := head_drop (m := ai + 1) (c := c7) h_ (by have := HHL.out; omega) (by have := HHL.out; omega); rw [HHL.out] at h_; exact h_
      intro v64 w12 ho hb hg hat
      have Q12 := Aside0.mk (Q11.out.grown O11.out (fun k_ h_ e_ => by have := N11.out k_ h_; have := P10.out; have e2_ : k_ = g7 := Option.some.inj e_; omega) hg hb)
      have eh : ([] ++ hs.take ai) ++ hs.drop (ai + 1) = hs.eraseIdx ai := by rw [List.nil_append, List.eraseIdx_eq_take_drop_succ]
      rw [eh] at ho
      obtain ⟨h2, hh2⟩ : ∃ h2, hs.eraseIdx ai = h2 := ⟨_, rfl⟩
      rw [hh2] at ho
      have FM := Aside0.mk (show Fam w12 w.heap.size (fun _ => True) h2 (l1.eraseIdx ai) by rw [← hh2]; exact Q12.out.fm.pick ai)
      obtain ⟨AF, cF, rfl⟩ := Kd.R_slice ho
      have O12 := Aside0.mk ho
      clear ho hb hg hat eh hh2 Q11 O11 N11 P10 LW
      refine hK.out _ _ ⟨(blk_cell Q12.out.b 1).trans rfl, (blk_cell Q12.out.b 1).trans rfl⟩ (fun hHeld => ?_)
      clear hK K
      refine norm_ (a' := ?_) ?_ ?_
      rotate_left
      ·show Act.put _ (some 64) _ = _
       simp only [Act.put, List.setIfInBounds_toArray, List.set_cons_zero, List.set_cons_succ, i64_w, i32_w]
       rfl
      refine pure_ (i := 12) (N := some 8) (v := ?_) (a' := ?_) #[true, true, true, true, true, true, true, true, true, true, true, true, true] rfl rfl (by kernel_rfl) (fun _ _ _ h => h) (Or.inl ⟨by rfl, ?_⟩) ?_ ?_
      rotate_left
      ·intro w'
       go_simp
       with_reducible rfl
      rotate_left
      ·simp only [Act.put, List.setIfInBounds_toArray, List.set_cons_zero, List.set_cons_succ, i64_w, i32_w]
       rfl
      refine done_ (by kernel_rfl) ?_
      generalize hA63 : (if c7 = ai + 1 then (some (⟨g7, 0, none⟩ : Addr)) else some ⟨g7, ai + 1, none⟩) = A63
      clear hA63
      clear hHeld u1 u2 u4 u5 u6 u7 hc7 hls hai HHL
      obtain ⟨l2, hl2⟩ : ∃ l2, l1.eraseIdx ai = l2 := ⟨_, rfl⟩
      rw [hl2] at FM
      have HL2 := Aside0.mk hl2
      have h2l := FM.out.len
      have HM := Aside0.mk (show ∀ x ∈ l2, x ∈ l1 from fun x hx => by rw [← hl2] at hx; exact List.mem_of_mem_eraseIdx hx)
      have H2L := Aside0.mk h2l
      have H2N := Aside0.mk (show h2.length ≤ 20 by
       have h1 := HS.out.2.1
       rw [h2l, ← hl2, List.length_eraseIdx]
       split <;> omega)
      have h2n : h2.length ≤ 9223372036854775807 := by have := H2N.out; omega
      clear hl2 h2l
      have m0 : w12.cell? ⟨w.heap.size, 0, none⟩ = some (.slice A6 p.length c6) := (blk_cell Q12.out.b 0).trans rfl
      go_wp2_with ((with_reducible refine gate_dst (N := 68) rfl ?_); (try (refine gate_guard (by rfl) ?_; dsimp only)); refine Kd.R_make (Kd.int .i64) (w0 := w) w.heap.size 3 rfl (N := 68) rfl 22 _ _ rfl (p.length : Int) rfl rfl Try.underlying22 (.int .i64 0) 8 info3 rfl (by decide) (by omega) 0 (ok := fun _ => True) (okp := fun _ => True) rfl (fun _ hk => hk) trivial (by omega) (by have := HPL.out; omega) Q12.out.bl Q12.out.bl.size ?_; intro v10 w10 ho hb hg hnew; clear m0; have hbg := below_of_grown hg; obtain ⟨b10, hb10, hb11⟩ := hnew; rw [Int.toNat_natCast] at ho; obtain ⟨pl0, hpl0⟩ : ∃ pl0, List.replicate p.length (0 : Int) = pl0 := ⟨_, rfl⟩; have hpll : pl0.length = p.length := (by rw [← hpl0]; exact List.length_replicate); rw [hpl0] at ho; obtain ⟨A10, c10, rfl⟩ : ∃ A c, v10 = .slice A p.length c := (by obtain ⟨A, c, e_⟩ := Kd.R_slice ho; exact ⟨A, c, by rw [e_, hpll]⟩); rw [← hpll] at ho hb10; have P10 := Aside0.mk (DS.start Q12.out O12.out FM.out hbg ho (fun k hk => by rw [hb10] at hk; have := Option.some.inj hk; omega)); have HPLL := Aside0.mk hpll; clear ho hb hg hb10 hb11 hbg hpl0 hpll; obtain ⟨y_, hy_⟩ := P10.out.b; have m0 : w10.cell? ⟨w.heap.size, 0, none⟩ = some (.slice A6 p.length c6) := (blk_cell hy_ 0).trans rfl; clear hy_)
      clear m0 Q12 O12 FM
      go_loopw [10, 72] (fun vp vi wr => ∃ (q : Nat) (A8 : Option Addr) (c8 : Nat) (pc : List KL) (pl : List Int), q ≤ p.length ∧ vp = .slice A8 pc.length c8 ∧ vi = .int .i64 q ∧ Aside0 (DS w wr gz w.heap.size A6 c6 p (.slice AF h2.length cF) h2 l2 A8 c8 pc A10 c10 pl) ∧ Aside0 (pl.length = p.length ∧ pc.length ≤ q) ∧ Aside0 (packK (p.drop q) (pl.take q) pc = packK p [] [])) (fun _ vi _ => p.length - (intOf vi).toNat)
      case atStart => exact ⟨0, none, 0, [], pl0, Nat.zero_le _, rfl, rfl, P10, ⟨⟨HPLL.out, Nat.le_refl _⟩⟩, ⟨rfl⟩⟩
      case round =>
       clear P10 HPLL
       obtain ⟨q, A8, c8, pc, pl, hq, rfl, rfl, P, HLL, HX⟩ := hrel
       by_cases hql : q < p.length
       ·have hqq : ((q : Int) < (p.length : Int)) = True := eq_true (by omega)
        obtain ⟨ad, e4, x0, x1⟩ := at_T89 (Kd.R_reads' P.out.k0).2.2 (q : Int) (by omega) (by omega)
        obtain ⟨x, hx⟩ : ∃ x, rd_T89 p (q : Int) = x := ⟨_, rfl⟩
        have hxg : p[q] = x := by rw [← hx, rd_kl, Int.toNat_natCast, List.getD_eq_getElem?_getD, List.getElem?_eq_getElem hql]; rfl
        rw [hx] at x0 x1
        simp only [Int.toNat_natCast] at x0 x1
        obtain ⟨V, hV⟩ : ∃ V, wr.alloc (.cells #[.string x.f0, .int .i64 x.f1] 89) = V := ⟨_, rfl⟩
        have hb : Below wr.heap.size wr V := by rw [← hV]; exact below_alloc (Below.refl _ _) _
        have Y4 : V.heap[wr.heap.size]? = some (.cells #[.string x.f0, .int .i64 x.f1] 89 (0, 0)) := by rw [← hV]; exact heap_alloc_new wr _
        have P4 := P.out.below hb
        obtain ⟨g10, w5, e10, m1, m2, m3, hg, ⟨cells, hty⟩, P5⟩ := P4.ren (q := q) (by rw [HLL.out.1]; exact hql) (pc.length : Int)
        have Y5 := blk_grown Y4 hg (fun e_ => absurd (blk_ne Y4 hty (by decide)) (fun h_ => h_ (Option.some.inj e_)))
        have P5 := Aside0.mk P5
        have HX2 := Aside0.mk (show packK (p.drop (q + 1)) ((pl.set q (pc.length : Int)).take (q + 1)) (if x.f1 > 0 then pc ++ [x] else pc) = packK p [] [] by
         have h1 := HX.out
         rw [List.drop_eq_getElem_cons hql, hxg] at h1
         rw [take_put pl q (by rw [HLL.out.1]; exact hql)]
         exact h1)
        have HL3 := Aside0.mk (show (pl.set q (pc.length : Int)).length = p.length by rw [List.length_set]; exact HLL.out.1)
        have k0 : w5.cell? ⟨wr.heap.size, 0, none⟩ = some (.string x.f0) := (blk_cell Y5 0).trans rfl
        have k1 : w5.cell? ⟨wr.heap.size, 1, none⟩ = some (.int .i64 x.f1) := (blk_cell Y5 1).trans rfl
        have HQ := Aside0.mk hql
        have hpcl : pc.length ≤ 9223372036854775807 := by have := HLL.out.2; omega
        subst e4 e10
        clear hb Y4 P4 hg hty Y5 hx hxg HX
        by_cases hu : 0 < x.f1
        ·have HX3 := Aside0.mk (show packK (p.drop (q + 1)) ((pl.set q (pc.length : Int)).take (q + 1)) (pc ++ [x]) = packK p [] [] by have h1 := HX2.out; rw [if_pos hu] at h1; exact h1)
         clear HX2
         go_wp2_with ((with_reducible refine gate_builtin (b := .append) (xs := #[.tmp 85, .tmp 87]) rfl ?_); at_builtin; refine Kd.R_append k89 (w0 := w) (W := w5) w.heap.size rfl (.tmp 85) (.tmp 87) 48 89 (.agg #[(.string ⟨#[]⟩), (.int .i64 0)]) 24 rfl Try.underlying48 info89 rfl (by decide) (by omega) (.slice A8 pc.length c8) pc x [.string x.f0, .int .i64 x.f1] (fun _ => True) (fun _ => False) rfl rfl ?aP (fun _ h_ => h_.elim) (fun _ _ => trivial) P5.out.ks P5.out.bl P5.out.bl.size (by have := HLL.out.2; have := HPL.out; have := HQ.out; omega) ?_; (case aP => exact kl_M.2 rfl); intro v6 w6 ho hb hg hat; obtain ⟨A9, c9, rfl, P7⟩ := P5.out.more ho hb hg hat; clear ho hb hg hat k0 k1; have P7 := Aside0.mk P7)
         go_roundw
         case rel => exact ⟨q + 1, A9, c9, pc ++ [x], _, HQ.out, by first | rfl | simp, by go_num, P7, ⟨⟨HL3.out, by have := HLL.out.2; simp; omega⟩⟩, HX3⟩
         case measure => simp [intOf]; omega
        ·have HX3 := Aside0.mk (show packK (p.drop (q + 1)) ((pl.set q (pc.length : Int)).take (q + 1)) pc = packK p [] [] by have h1 := HX2.out; rw [if_neg hu] at h1; exact h1)
         clear HX2
         go_wp2
         go_roundw
         case rel => exact ⟨q + 1, A8, c8, pc, _, HQ.out, rfl, by go_num, P5, ⟨⟨HL3.out, by have := HLL.out.2; omega⟩⟩, HX3⟩
         case measure => simp [intOf]; omega
       ·have hqq : ((q : Int) < (p.length : Int)) = False := eq_false (by omega)
        have HK2 := Aside0.mk (show packK p [] [] = (pl, pc) by
         have h1 := HX.out
         rw [List.drop_of_length_le (by omega), List.take_of_length_le (by have := HLL.out.1; omega)] at h1
         exact h1.symm)
        clear HX hql
        have D0 := Aside0.mk (show D3 w wr gz (.slice AF h2.length cF) h2 (upAll pl 0 l2) A8 c8 pc A10 c10 pl from ⟨P.out.z, P.out.ks, P.out.hr, by rw [upAll_zero]; exact P.out.fm, P.out.ir, P.out.bl⟩)
        clear P
        go_wp2
        go_loopw [92] (fun vi wr => ∃ (q : Nat), q ≤ h2.length ∧ vi = .int .i64 q ∧ Aside0 (D3 w wr gz (.slice AF h2.length cF) h2 (upAll pl q l2) A8 c8 pc A10 c10 pl)) (fun vi _ => h2.length - (intOf vi).toNat)
        case atStart => exact ⟨0, Nat.zero_le _, rfl, D0⟩
        case round =>
         clear D0
         obtain ⟨q, hq, rfl, D⟩ := hrel
         by_cases hqh : q < h2.length
         ·have hqq : ((q : Int) < (h2.length : Int)) = True := eq_true (by omega)
          have hql : q < l2.length := by have := H2L.out; omega
          obtain ⟨x, hx⟩ : ∃ x, l2[q] = x := ⟨_, rfl⟩
          have hux : (upAll pl q l2)[q]? = some x := by rw [upAll_at pl hql, hx]
          obtain ⟨Pq, hPq⟩ : ∃ Pq, h2[q]? = some Pq := ⟨h2[q], List.getElem?_eq_getElem hqh⟩
          obtain ⟨Ax, cx, eP, hcx, hCx⟩ := D.out.fm.head hux hPq
          subst eP
          obtain ⟨gF, capF, eF, _⟩ := Kd.R_form D.out.hr (by omega)
          injection eF with eF en_ ec_
          clear en_ ec_
          subst eF
          have m1 : wr.cell? ⟨gF, q, none⟩ = some (.slice Ax x.f0.length cx) := h_at D.out.hr hPq
          obtain ⟨V, hV⟩ : ∃ V, wr.alloc (.cells #[.slice Ax x.f0.length cx] 87) = V := ⟨_, rfl⟩
          have hb : Below wr.heap.size wr V := by rw [← hV]; exact below_alloc (Below.refl _ _) _
          have Y4 := Aside0.mk (show V.heap[wr.heap.size]? = some (.cells #[.slice Ax x.f0.length cx] 87 (0, 0)) by rw [← hV]; exact heap_alloc_new wr _)
          have D4 := Aside0.mk (D.out.below hb)
          have HPQ := Aside0.mk hPq
          have HUX := Aside0.mk hux
          have HXQ := Aside0.mk hx
          have HQ := Aside0.mk hql
          have HQH := Aside0.mk hqh
          have HXM := Aside0.mk (show x ∈ l1 from HM.out x (by rw [← hx]; exact List.getElem_mem hql))
          have y0 : V.cell? ⟨wr.heap.size, 0, none⟩ = some (.slice Ax x.f0.length cx) := (blk_cell Y4.out 0).trans rfl
          clear hcx hCx hb hPq hux hqh D
          go_wp2
          clear y0 m1 hV
          have XT := Aside0.mk (set_same HUX.out)
          have D5 := Aside0.mk (show D3 w V gz (.slice (some ⟨gF, 0, none⟩) h2.length cF) h2 ((upAll pl q l2).set q ⟨x.f0⟩) A8 c8 pc A10 c10 pl by rw [XT.out]; exact D4.out)
          generalize hgy : wr.heap.size = gy at *
          clear hgy D4
          have hxl : x.f0.length ≤ 9223372036854775807 := by
           have h1 := HS.out.2.2 x HXM.out
           omega
          go_loopw [99] (fun vi wr => ∃ (n : Nat) (r : List Int), n ≤ x.f0.length ∧ vi = .int .i64 n ∧ Aside0 (D3 w wr gz (.slice (some ⟨gF, 0, none⟩) h2.length cF) h2 ((upAll pl q l2).set q ⟨r⟩) A8 c8 pc A10 c10 pl) ∧ Aside0 (wr.heap[gy]? = some (.cells #[.slice Ax x.f0.length cx] 87 (0, 0))) ∧ Aside0 (Ren pl x.f0 r n)) (fun vi _ => x.f0.length - (intOf vi).toNat)
          case atStart => exact ⟨0, x.f0, Nat.zero_le _, rfl, D5, Y4, ⟨Ren.zero pl x.f0⟩⟩
          case round =>
           clear D5 Y4
           obtain ⟨n, r', hn, rfl, D, Y, HN⟩ := hrel
           by_cases hnl : n < x.f0.length
           ·have hnn : ((n : Int) < (x.f0.length : Int)) = True := eq_true (by omega)
            obtain ⟨k, hk⟩ : ∃ k, rd x.f0 (n : Int) = k := ⟨_, rfl⟩
            have hkm : k ∈ x.f0 := by
             rw [← hk]; unfold rd; rw [Int.toNat_natCast, List.getD_eq_getElem?_getD, List.getElem?_eq_getElem hnl]; exact List.getElem_mem hnl
            have hkr := HRG.out x HXM.out k hkm
            have hplp : p.length = p0.length := HL.out
            have hkl : k < (p.length : Int) := by omega
            have hkpl : k < (pl.length : Int) := by have := HLL.out.1; omega
            have q1 : (0 ≤ k) = True := eq_true hkr.1
            have q2 : (k < (p.length : Int)) = True := eq_true hkl
            have hxs : ((upAll pl q l2).set q (⟨r'⟩ : FL))[q]? = some ⟨r'⟩ := List.getElem?_set_self (by rw [upAll_len]; exact HQ.out)
            have hrl' := HN.out.len
            obtain ⟨gp, cp', w6, hP, m1, m2, _⟩ := D.out.put HPQ.out hxs (q := n) (by omega) (rd pl k)
            injection hP with eAx eP2
            injection eP2 with eP3 eP4
            rw [HN.out.at_ hnl, hk] at m1
            have HK := Aside0.mk hk
            have HKR := Aside0.mk hkr.1
            have HKPL := Aside0.mk hkpl
            have HNL := Aside0.mk hnl
            have HXS := Aside0.mk hxs
            subst eAx
            clear m2 eP3 eP4 hrl' hxs hkpl hkl hplp hkr hkm hk
            go_wp2
            clear m1
            obtain ⟨g10, rfl, s1_⟩ := D.out.sub HKR.out HKPL.out
            refine start_ (n := 9) (S := fun w' => w'.cell? ⟨gy, 0, none⟩ = some (.slice (some ⟨gp, 0, none⟩) x.f0.length cx) ∧ w'.cell? ⟨g10, k.toNat, none⟩ = some (.int .i64 (rd pl k))) (ds := [8]) #[false, false, false, false, false, false, false, false, false] (by kernel_rfl) rfl rfl ⟨(blk_cell Y.out 0).trans rfl, s1_⟩ (fun hHeld => ?_)
            clear s1_
            have D5 := D.out.drew
            have Y5 := blk_drew Y.out
            obtain ⟨gp', cp', _, hP, m1, m2, rfl, hg, ⟨cells, hty⟩, D6⟩ := D5.put HPQ.out HXS.out (q := n) (by rw [HN.out.len]; exact HNL.out) (rd pl k)
            injection hP with eAx eP2
            injection eAx with eAx
            injection eAx with eAx
            subst eAx
            have Y6 := Aside0.mk (blk_grown Y5 hg (fun e_ => absurd (blk_ne Y5 hty (by decide)) (fun h_ => h_ (Option.some.inj e_))))
            rw [List.set_set] at D6
            have D6 := Aside0.mk D6
            clear D5 Y5 hg hty eP2
            generalize wr.drew = V5 at m1 m2 D6 Y6 hHeld ⊢
            refine take_ (i := 0) (N := some 104) (v := ?_) (a' := ?_) #[true, false, false, false, false, false, false, false, false] rfl rfl (by kernel_rfl) (fun _ _ _ h => h) (Or.inl ⟨by rfl, ?_⟩) hHeld ?_ ?_
            rotate_left
            ·rintro w' ⟨s0, s1⟩
             go_simp
             with_reducible rfl
            rotate_left
            ·simp only [Act.put, List.setIfInBounds_toArray, List.set_cons_zero, List.set_cons_succ, i64_w, i32_w]
             rfl
            refine take_ (i := 1) (N := some 105) (v := ?_) (a' := ?_) #[true, true, false, false, false, false, false, false, false] rfl rfl (by kernel_rfl) (fun _ _ _ h => h) (Or.inl ⟨by rfl, ?_⟩) hHeld ?_ ?_
            rotate_left
            ·rintro w' ⟨s0, s1⟩
             go_simp
             with_reducible rfl
            rotate_left
            ·simp only [Act.put, List.setIfInBounds_toArray, List.set_cons_zero, List.set_cons_succ, i64_w, i32_w]
             rfl
            refine take_ (i := 2) (N := some 106) (v := ?_) (a' := ?_) #[true, true, true, false, false, false, false, false, false] rfl rfl (by kernel_rfl) (fun _ _ _ h => h) (Or.inl ⟨by rfl, ?_⟩) hHeld ?_ ?_
            rotate_left
            ·rintro w' ⟨s0, s1⟩
             go_simp
             with_reducible rfl
            rotate_left
            ·simp only [Act.put, List.setIfInBounds_toArray, List.set_cons_zero, List.set_cons_succ, i64_w, i32_w]
             rfl
            refine take_ (i := 3) (N := some 107) (v := ?_) (a' := ?_) #[true, true, true, true, false, false, false, false, false] rfl rfl (by kernel_rfl) (fun _ _ _ h => h) (Or.inl ⟨by rfl, ?_⟩) hHeld ?_ ?_
            rotate_left
            ·rintro w' ⟨s0, s1⟩
             go_simp
             with_reducible rfl
            rotate_left
            ·simp only [Act.put, List.setIfInBounds_toArray, List.set_cons_zero, List.set_cons_succ, i64_w, i32_w]
             rfl
            refine take_ (i := 4) (N := some 108) (v := ?_) (a' := ?_) #[true, true, true, true, true, false, false, false, false] rfl rfl (by kernel_rfl) (fun _ _ _ h => h) (Or.inl ⟨by rfl, ?_⟩) hHeld ?_ ?_
            rotate_left
            ·rintro w' ⟨s0, s1⟩
             go_simp
             with_reducible rfl
            rotate_left
            ·simp only [Act.put, List.setIfInBounds_toArray, List.set_cons_zero, List.set_cons_succ, i64_w, i32_w]
             rfl
            refine take_ (i := 5) (N := some 109) (v := ?_) (a' := ?_) #[true, true, true, true, true, true, false, false, false] rfl rfl (by kernel_rfl) (fun _ _ _ h => h) (Or.inl ⟨by rfl, ?_⟩) hHeld ?_ ?_
            rotate_left
            ·rintro w' ⟨s0, s1⟩
             go_simp
             with_reducible rfl
            rotate_left
            ·simp only [Act.put, List.setIfInBounds_toArray, List.set_cons_zero, List.set_cons_succ, i64_w, i32_w]
             rfl
            refine take_ (i := 6) (N := some 110) (v := ?_) (a' := ?_) #[true, true, true, true, true, true, true, false, false] rfl rfl (by kernel_rfl) (fun _ _ _ h => h) (Or.inl ⟨by rfl, ?_⟩) hHeld ?_ ?_
            rotate_left
            ·rintro w' ⟨s0, s1⟩
             go_simp
             with_reducible rfl
            rotate_left
            ·simp only [Act.put, List.setIfInBounds_toArray, List.set_cons_zero, List.set_cons_succ, i64_w, i32_w]
             rfl
            refine take_ (i := 7) (N := some 111) (v := ?_) (a' := ?_) #[true, true, true, true, true, true, true, true, false] rfl rfl (by kernel_rfl) (fun _ _ _ h => h) (Or.inl ⟨by rfl, ?_⟩) hHeld ?_ ?_
            rotate_left
            ·rintro w' ⟨s0, s1⟩
             go_simp
             with_reducible rfl
            rotate_left
            ·simp only [Act.put, List.setIfInBounds_toArray, List.set_cons_zero, List.set_cons_succ, i64_w, i32_w]
             rfl
            refine last_ (i := 8) (N := none) #[true, true, true, true, true, true, true, true, true] rfl rfl (by kernel_rfl) (by decide) (fun K hK => ?_)
            refine skip_ (w1 := V5.setCell ⟨gp, n, none⟩ (.int .i64 (rd pl k))) (by rfl) rfl ?_ ?_
            ·first | (go_simp; done) | (go_simp; rfl)
            clear m1 m2
            refine hK.out _ _ ?_
            clear hK K
            refine done_ (by kernel_rfl) ?_
            clear hHeld
            generalize V5.setCell ⟨gp, n, none⟩ (.int .i64 (rd pl k)) = wE at D6 Y6 ⊢
            try go_wp2
            go_roundw
            case rel => exact ⟨n + 1, _, HNL.out, by go_num, D6, Y6, ⟨HN.out.step HNL.out HK.out⟩⟩
            case measure => simp [intOf]; omega
           ·have hnn : ((n : Int) < (x.f0.length : Int)) = False := eq_false (by omega)
            have hm : (⟨r'⟩ : FL) = mapP pl l2[q] := by rw [HXQ.out, HN.out.end_ (by omega)]; rfl
            have D7 := D.out
            rw [hm, upAll_step pl HQ.out] at D7
            have D7 := Aside0.mk D7
            clear hm D HN hnl
            have hqh := HQH.out
            go_wp2
            go_roundw
            case rel => exact ⟨q + 1, HQH.out, by go_num, D7⟩
            case measure => simp [intOf]; omega
         ·have hqq : ((q : Int) < (h2.length : Int)) = False := eq_false (by omega)
          have hq2 : q = l2.length := by have := H2L.out; omega
          have D7 := D.out
          rw [hq2, upAll_all] at D7
          have D7 := Aside0.mk D7
          have e1 : dropR p0 l1 (ai : Int).toNat = (pc, l2.map (mapP pl)) := by
           unfold dropR
           rw [Int.toNat_natCast, HRI.out, ← HP1.out, HK2.out, HL2.out]
          have HF := Aside0.mk (show KS wr w.heap.size (fun _ => True) (.slice A8 pc.length c8) pc ∧ FS wr w.heap.size (fun _ => True) (.slice AF h2.length cF) (l2.map (mapP pl)) from
           ⟨D7.out.ks, fam_S D7.out.hr (D7.out.fm.mono (fun _ _ => trivial))⟩)
          have E1 := Aside0.mk e1
          have z0 : wr.cell? ⟨gz, 0, none⟩ = some (.slice none 0 0) := (blk_cell D7.out.z 0).trans rfl
          have z1 : wr.cell? ⟨gz, 1, none⟩ = some (.slice none 0 0) := (blk_cell D7.out.z 1).trans rfl
          have y0 := blk_frozen D7.out.z 0
          have y1 := blk_frozen D7.out.z 1
          clear e1 hq2 D hqh
          go_wp2
          refine bodyPost_ret (results_ct rfl _ _ gz 51 #[.slice A8 pc.length c8, .slice AF h2.length cF] (0, 0) _ rfl (put2 D7.out.z _ _) Try.underlying51 rfl (by kernel_rfl)) rfl ?_
          obtain ⟨r1_, r2_, r3_⟩ := ret_vault (x := .slice A8 pc.length c8) (y := .slice AF h2.length cF) D7.out.z ZG.out HF.out.1 HF.out.2 D7.out.bl
          first | rw [E1.out] | rw [show dropR p0 l1 ai = (pc, l2.map (mapP pl)) from E1.out]
          exact ⟨_, _, rfl, r1_, r2_, r3_⟩
   ·cases h
theorem spec_DropFile.mono : ∀ a0 a1 a2 k, LeO (spec_DropFile.f k a0 a1 a2) (spec_DropFile.f (k + 1) a0 a1 a2) := by
 intro a0 a1 a2 k
 unfold spec_DropFile.f
 refine LeO.bind (spec_GoodVault.mono _ _ _) (fun b => ?_)
 split
 ·split
  ·exact LeO.bind (spec_l15Own.mono _ _ _) (fun _ => LeO.refl _)
  ·exact LeO.refl _
 ·exact LeO.refl _
end Go.Proofs.Ytjepecinpgjgdaa.PVau
