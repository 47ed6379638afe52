import Derived.Test.YtacfalpgmibfnaaXFnExactGoodCowRefer
/-! GoodCow's third region: two rows and two cells are made in any order; walked by hand. -/
namespace Go.Proofs.Ytacfalpgmibfnaa.PFnExactGoodCow
open Go.RowKit Go.Proofs.YtacfalpgmibfnaaW.PrintWords Go.Proofs.YtacfalpgmibfnaaW.PrintLast Go.Proofs.YtacfalpgmibfnaaW.PrintMore Go.Proofs.Ytacfalpgmibfnaa.E
set_option linter.unusedSimpArgs false
set_option linter.unusedVariables false
structure JS (w0 : World) (gb n : Nat) (box : Array Value) (b3 b7 b8 b9 b10 b11 : Bool) (v34 v38 v3 v4 : Value) (w : World) : Prop where
  below : Below w0.heap.size w0 w
  box_ : w.heap[gb]? = some (.cells box 25 (0, 0))
  r34 : b3 = true → RI w0 w v34 (List.replicate n 0) ∧ ∃ g, v34 = .slice (some ⟨g, 0, none⟩) n n
  r38 : b7 = true → RI w0 w v38 (List.replicate n 0) ∧ ∃ g, v38 = .slice (some ⟨g, 0, none⟩) n n
  ne : b3 = true → b7 = true → NeRow v34 v38
  c3 : b8 = true → ∃ b u, v3 = .pointer (some ⟨b, 0, none⟩) ∧ w0.heap.size ≤ b ∧ w.heap[b]? = some (.cells #[u] 23 (0, 0)) ∧ (b10 = true → u = v34)
  c4 : b9 = true → ∃ b u, v4 = .pointer (some ⟨b, 0, none⟩) ∧ w0.heap.size ≤ b ∧ w.heap[b]? = some (.cells #[u] 23 (0, 0)) ∧ (b11 = true → u = v38)
  ne34 : b8 = true → b9 = true → v3 ≠ v4
  k10 : b10 = true → b3 = true ∧ b8 = true ∧ b9 = true
  k11 : b11 = true → b7 = true ∧ b10 = true
section
variable {w0 : World} {gb n : Nat} {box : Array Value} {b3 b7 b8 b9 b10 b11 : Bool} {v34 v38 v3 v4 : Value} {w w1 : World} {v : Value}
theorem JS.s3 (h : JS w0 gb n box false b7 b8 b9 b10 b11 v34 v38 v3 v4 w) (hr : RI w0 w1 v (List.replicate n 0)) (hg : ∃ g, v = .slice (some ⟨g, 0, none⟩) n n ∧ w.heap.size ≤ g) (hb : Below w.heap.size w w1) : JS w0 gb n box true b7 b8 b9 b10 b11 v v38 v3 v4 w1 := by
  obtain ⟨g, hv, hle⟩ := hg
  have hk10 : b10 = true → False := fun e => by have := (h.k10 e).1; simp at this
  refine ⟨below_then h.below h.below.size hb, blk_below h.box_ hb, fun _ => ⟨hr, g, hv⟩, fun e => ⟨Kd.R_below (h.r38 e).1 hb, (h.r38 e).2⟩, fun _ e k hk hk2 => ?_, fun e => ?_, fun e => ?_, h.ne34, fun e => ((hk10 e).elim), h.k11⟩
  · rw [hv] at hk
    have h2 := Kd.R_lt (h.r38 e).1 k hk2
    simp [Value.ownBlock] at hk
    omega
  · obtain ⟨b, u, e1, e2, e3, e4⟩ := h.c3 e
    exact ⟨b, u, e1, e2, blk_below e3 hb, fun e5 => (hk10 e5).elim⟩
  · obtain ⟨b, u, e1, e2, e3, e4⟩ := h.c4 e
    exact ⟨b, u, e1, e2, blk_below e3 hb, e4⟩
theorem JS.s7 (h : JS w0 gb n box b3 false b8 b9 b10 b11 v34 v38 v3 v4 w) (hr : RI w0 w1 v (List.replicate n 0)) (hg : ∃ g, v = .slice (some ⟨g, 0, none⟩) n n ∧ w.heap.size ≤ g) (hb : Below w.heap.size w w1) : JS w0 gb n box b3 true b8 b9 b10 b11 v34 v v3 v4 w1 := by
  obtain ⟨g, hv, hle⟩ := hg
  have hk11 : b11 = true → False := fun e => by have := (h.k11 e).1; simp at this
  refine ⟨below_then h.below h.below.size hb, blk_below h.box_ hb, fun e => ⟨Kd.R_below (h.r34 e).1 hb, (h.r34 e).2⟩, fun _ => ⟨hr, g, hv⟩, fun e _ k hk hk2 => ?_, fun e => ?_, fun e => ?_, h.ne34, h.k10, fun e => ((hk11 e).elim)⟩
  · rw [hv] at hk2
    have h2 := Kd.R_lt (h.r34 e).1 k hk
    simp [Value.ownBlock] at hk2
    omega
  · obtain ⟨b, u, e1, e2, e3, e4⟩ := h.c3 e
    exact ⟨b, u, e1, e2, blk_below e3 hb, e4⟩
  · obtain ⟨b, u, e1, e2, e3, e4⟩ := h.c4 e
    exact ⟨b, u, e1, e2, blk_below e3 hb, fun e5 => (hk11 e5).elim⟩
theorem JS.s8 (h : JS w0 gb n box b3 b7 false b9 b10 b11 v34 v38 v3 v4 w) (u : Value) : JS w0 gb n box b3 b7 true b9 b10 b11 v34 v38 (.pointer (some ⟨w.heap.size, 0, none⟩)) v4 (w.alloc (.cells #[u] 23)) := by
  have hk10 : b10 = true → False := fun e => by have := (h.k10 e).2.1; simp at this
  have hb : Below w.heap.size w (w.alloc (.cells #[u] 23)) := below_alloc (Below.refl _ _) _
  refine ⟨below_then h.below h.below.size hb, blk_below h.box_ hb, fun e => ⟨Kd.R_below (h.r34 e).1 hb, (h.r34 e).2⟩, fun e => ⟨Kd.R_below (h.r38 e).1 hb, (h.r38 e).2⟩, h.ne, fun _ => ⟨_, u, rfl, h.below.size, blk_new _ _, fun e5 => (hk10 e5).elim⟩, fun e => ?_, fun _ e he => ?_, fun e => ((hk10 e).elim), h.k11⟩
  · obtain ⟨b, u, e1, e2, e3, e4⟩ := h.c4 e
    exact ⟨b, u, e1, e2, blk_below e3 hb, e4⟩
  · obtain ⟨b, u, e1, e2, e3, e4⟩ := h.c4 e
    rw [e1] at he
    have := blk_lt e3
    simp at he <;> omega
theorem JS.s9 (h : JS w0 gb n box b3 b7 b8 false b10 b11 v34 v38 v3 v4 w) (u : Value) : JS w0 gb n box b3 b7 b8 true b10 b11 v34 v38 v3 (.pointer (some ⟨w.heap.size, 0, none⟩)) (w.alloc (.cells #[u] 23)) := by
  have hk10 : b10 = true → False := fun e => by have := (h.k10 e).2.2; simp at this
  have hk11 : b11 = true → False := fun e => hk10 (h.k11 e).2
  have hb : Below w.heap.size w (w.alloc (.cells #[u] 23)) := below_alloc (Below.refl _ _) _
  refine ⟨below_then h.below h.below.size hb, blk_below h.box_ hb, fun e => ⟨Kd.R_below (h.r34 e).1 hb, (h.r34 e).2⟩, fun e => ⟨Kd.R_below (h.r38 e).1 hb, (h.r38 e).2⟩, h.ne, fun e => ?_, fun _ => ⟨_, u, rfl, h.below.size, blk_new _ _, fun e5 => (hk11 e5).elim⟩, fun e _ he => ?_, fun e => ((hk10 e).elim), fun e => (hk11 e).elim⟩
  · obtain ⟨b, u, e1, e2, e3, e4⟩ := h.c3 e
    exact ⟨b, u, e1, e2, blk_below e3 hb, e4⟩
  · obtain ⟨b, u, e1, e2, e3, e4⟩ := h.c3 e
    rw [e1] at he
    have := blk_lt e3
    simp at he <;> omega
theorem JS.s10 {bl : Nat} (h : JS w0 gb n box true b7 true true false b11 v34 v38 (.pointer (some ⟨bl, 0, none⟩)) v4 w) : JS w0 gb n box true b7 true true true b11 v34 v38 (.pointer (some ⟨bl, 0, none⟩)) v4 (w.setCell ⟨bl, 0, none⟩ v34) := by
  have hk11 : b11 = true → False := fun e => by have := (h.k11 e).2; simp at this
  obtain ⟨b, u, e1, e2, e3, e4⟩ := h.c3 rfl
  simp at e1
  subst e1
  refine ⟨below_set h.below e2, blk_far h.box_ (fun q => ?_) _, fun e => ⟨RI_far (h.r34 e).1 (RI_blk (h.r34 e).1 e3 (by decide)) _, (h.r34 e).2⟩, fun e => ⟨RI_far (h.r38 e).1 (RI_blk (h.r38 e).1 e3 (by decide)) _, (h.r38 e).2⟩, h.ne, fun _ => ⟨_, _, rfl, e2, blk_set e3 _ _, fun _ => rfl⟩, fun e => ?_, h.ne34, fun _ => ⟨rfl, rfl, rfl⟩, fun e => (hk11 e).elim⟩
  · have := h.box_
    rw [q, show (⟨bl, 0, none⟩ : Addr).block = bl from rfl, e3] at this
    simp at this
  · obtain ⟨b, u, f1, f2, f3, f4⟩ := h.c4 e
    refine ⟨b, u, f1, f2, blk_far f3 (fun q => ?_) _, f4⟩
    exact h.ne34 rfl rfl (by rw [f1, q])
theorem JS.s11 {bc : Nat} (h : JS w0 gb n box true true true true true false v34 v38 v3 (.pointer (some ⟨bc, 0, none⟩)) w) : JS w0 gb n box true true true true true true v34 v38 v3 (.pointer (some ⟨bc, 0, none⟩)) (w.setCell ⟨bc, 0, none⟩ v38) := by
  obtain ⟨b, u, e1, e2, e3, e4⟩ := h.c4 rfl
  simp at e1
  subst e1
  refine ⟨below_set h.below e2, blk_far h.box_ (fun q => ?_) _, fun e => ⟨RI_far (h.r34 e).1 (RI_blk (h.r34 e).1 e3 (by decide)) _, (h.r34 e).2⟩, fun e => ⟨RI_far (h.r38 e).1 (RI_blk (h.r38 e).1 e3 (by decide)) _, (h.r38 e).2⟩, h.ne, fun e => ?_, fun _ => ⟨_, _, rfl, e2, blk_set e3 _ _, fun _ => rfl⟩, h.ne34, h.k10, fun _ => ⟨rfl, rfl⟩⟩
  · have := h.box_
    rw [q, show (⟨bc, 0, none⟩ : Addr).block = bc from rfl, e3] at this
    simp at this
  · obtain ⟨b, u, f1, f2, f3, f4⟩ := h.c3 e
    refine ⟨b, u, f1, f2, blk_far f3 (fun q => ?_) _, f4⟩
    exact h.ne34 rfl rfl (by rw [f1, q])
end
def act4 (t0 : Array Value) (d : List Deferred) (x34 x38 x3 x4 : Value) : Act := ⟨(((t0.setIfInBounds 34 x34).setIfInBounds 38 x38).setIfInBounds 3 x3).setIfInBounds 4 x4, d⟩
section
variable {t0 : Array Value} {d : List Deferred} {x34 x38 x3 x4 : Value} (v : Value)
theorem act4_34 : (act4 t0 d x34 x38 x3 x4).put (some 34) v = act4 t0 d v x38 x3 x4 := by
  simp only [act4, Act.put, Act.mk.injEq, and_true]
  refine Array.ext_getElem? (fun i => ?_)
  simp only [Array.getElem?_setIfInBounds, Array.size_setIfInBounds]
  (repeat' split) <;> first | rfl | omega
theorem act4_38 : (act4 t0 d x34 x38 x3 x4).put (some 38) v = act4 t0 d x34 v x3 x4 := by
  simp only [act4, Act.put, Act.mk.injEq, and_true]
  refine Array.ext_getElem? (fun i => ?_)
  simp only [Array.getElem?_setIfInBounds, Array.size_setIfInBounds]
  (repeat' split) <;> first | rfl | omega
theorem act4_3 : (act4 t0 d x34 x38 x3 x4).put (some 3) v = act4 t0 d x34 x38 v x4 := by
  simp only [act4, Act.put, Act.mk.injEq, and_true]
  refine Array.ext_getElem? (fun i => ?_)
  simp only [Array.getElem?_setIfInBounds, Array.size_setIfInBounds]
  (repeat' split) <;> first | rfl | omega
theorem act4_4 : (act4 t0 d x34 x38 x3 x4).put (some 4) v = act4 t0 d x34 x38 x3 v := by
  simp only [act4, Act.put, Act.mk.injEq, and_true]
  refine Array.ext_getElem? (fun i => ?_)
  simp only [Array.getElem?_setIfInBounds, Array.size_setIfInBounds]
  (repeat' split) <;> first | rfl | omega
theorem act4_e (h : 38 < t0.size) : (act4 t0 d x34 x38 x3 x4).eval (.tmp 34) = x34 ∧ (act4 t0 d x34 x38 x3 x4).eval (.tmp 38) = x38 ∧ (act4 t0 d x34 x38 x3 x4).eval (.tmp 3) = x3 ∧ (act4 t0 d x34 x38 x3 x4).eval (.tmp 4) = x4 := by
  refine ⟨?_, ?_, ?_, ?_⟩ <;> · simp [act4, Act.eval, Array.getElem?_setIfInBounds]; grind
theorem act4_f : (act4 t0 d x34 x38 x3 x4).eval (.tmp 33) = (Act.mk t0 d).eval (.tmp 33) ∧ (act4 t0 d x34 x38 x3 x4).eval (.tmp 37) = (Act.mk t0 d).eval (.tmp 37) := by
  refine ⟨?_, ?_⟩ <;> simp [act4, Act.eval, Array.getElem?_setIfInBounds]
end
def RD (b3 b7 b8 b9 b10 b11 : Bool) : List Nat :=
  (if b3 then [] else [3]) ++ (if b7 then [] else [7]) ++ (if b8 then [] else [8]) ++ (if b9 then [] else [9]) ++ (if b10 = false ∧ b3 = true ∧ b8 = true ∧ b9 = true then [10] else []) ++ (if b11 = false ∧ b10 = true ∧ b3 = true ∧ b7 = true ∧ b8 = true ∧ b9 = true then [11] else [])
def cntF (b3 b7 b8 b9 b10 b11 : Bool) : Nat := (!b3).toNat + (!b7).toNat + (!b8).toNat + (!b9).toNat + (!b10).toNat + (!b11).toNat
theorem is_make (a : Act) (o : Oper) (n : Nat) (hn : n ≤ 80) (x y : Operand) (ho : o.op = .makeSlice 23 x y) (hx : a.eval x = .int .i64 (n : Int)) (hy : a.eval y = .int .i64 (n : Int)) (w0 w : World) (hw : w0.heap.size ≤ w.heap.size) :
    ∃ w1 v, (execOp a.eval o).run Try.prog w = .ok (.value v) w1 ∧ RI w0 w1 v (List.replicate n 0) ∧ (∃ g, v = .slice (some ⟨g, 0, none⟩) n n ∧ w.heap.size ≤ g) ∧ Below w.heap.size w w1 := by
  have hr := print_make (P := Try.prog) 23 3 .i64 8 (by kernel_rfl) (by kernel_rfl) (by decide) n (by omega) w
  refine ⟨w.alloc (.cells (madeCells #[.int .i64 0] n) 3), .slice (some ⟨w.heap.size, 0, none⟩) n n, by simp [execOp, ho, hx, hy, hr], ?_, ⟨_, rfl, Nat.le_refl _⟩, below_alloc (Below.refl _ _) _⟩
  exact Kd.R_of_own (own_made' w w0.heap.size 3 .i64 n hw (by omega)) (fun _ _ => trivial)
theorem is_alloc (a : Act) (o : Oper) (ho : o.op = .alloc 23) (w : World) :
    ∃ u, (execOp a.eval o).run Try.prog w = .ok (.value (.pointer (some ⟨w.heap.size, 0, none⟩))) (w.alloc (.cells #[u] 23)) := by
  have hu := Try.underlying23
  refine ⟨.slice none 0 0, ?_⟩
  simp only [execOp, ho]
  go_simp
theorem is_store (a : Act) (o : Oper) (x y : Operand) (ho : o.op = .store 23 x y) (w : World) (b : Nat) (u : Value) (g n : Nat) (hx : a.eval x = .pointer (some ⟨b, 0, none⟩)) (hy : a.eval y = .slice (some ⟨g, 0, none⟩) n n) (hb : w.heap[b]? = some (.cells #[u] 23 (0, 0))) :
    (execOp a.eval o).run Try.prog w = .ok .skip (w.setCell ⟨b, 0, none⟩ (.slice (some ⟨g, 0, none⟩) n n)) := by
  have h1 : w.cell? ⟨b, 0, none⟩ = some u := (blk_cell hb 0).trans rfl
  have h2 : w.frozen? ⟨b, 0, none⟩ = false := blk_frozen hb 0
  simp only [execOp, ho, hx, hy]
  go_simp
theorem reg_any {ops : Array Oper} {Q : Exit → Act → World → Prop} {S : World → Prop} {w0 : World} {gb n : Nat} {box : Array Value} {t0 : Array Value} {d : List Deferred} (hn : n ≤ 80) (hsz : 38 < t0.size)
    (hrd : ∀ b3 b7 b8 b9 b10 b11, Region.ready .any ops #[true, true, true, b3, true, true, true, b7, b8, b9, b10, b11] = RD b3 b7 b8 b9 b10 b11)
    (h3 : ∃ o, ops[3]? = some o ∧ o.op = .makeSlice 23 (.tmp 33) (.tmp 33) ∧ o.dst = some 34 ∧ o.guard = none) (h7 : ∃ o, ops[7]? = some o ∧ o.op = .makeSlice 23 (.tmp 37) (.tmp 37) ∧ o.dst = some 38 ∧ o.guard = none)
    (h8 : ∃ o, ops[8]? = some o ∧ o.op = .alloc 23 ∧ o.dst = some 3 ∧ o.guard = none) (h9 : ∃ o, ops[9]? = some o ∧ o.op = .alloc 23 ∧ o.dst = some 4 ∧ o.guard = none)
    (h10 : ∃ o, ops[10]? = some o ∧ o.op = .store 23 (.tmp 3) (.tmp 34) ∧ o.dst = none ∧ o.guard = none) (h11 : ∃ o, ops[11]? = some o ∧ o.op = .store 23 (.tmp 4) (.tmp 38) ∧ o.dst = none ∧ o.guard = none)
    (he33 : (Act.mk t0 d).eval (.tmp 33) = .int .i64 (n : Int)) (he37 : (Act.mk t0 d).eval (.tmp 37) = .int .i64 (n : Int))
    (hS : ∀ w', w'.heap[gb]? = some (.cells box 25 (0, 0)) → S w')
    (hQ : ∀ x34 x38 x3 x4 w', JS w0 gb n box true true true true true true x34 x38 x3 x4 w' → Q .normal (act4 t0 d x34 x38 x3 x4) w') :
    ∀ (fuel : Nat) (b3 b7 b8 b9 b10 b11 : Bool) (x34 x38 x3 x4 : Value) (w : World), cntF b3 b7 b8 b9 b10 b11 = fuel → JS w0 gb n box b3 b7 b8 b9 b10 b11 x34 x38 x3 x4 w →
      wpAnyLast Try.prog .any ops Q S [] fuel #[true, true, true, b3, true, true, true, b7, b8, b9, b10, b11] (act4 t0 d x34 x38 x3 x4) w := by
  have hnil : ∀ b3 b7 b8 b9 b10 b11 : Bool, RD b3 b7 b8 b9 b10 b11 = [] → b3 = true ∧ b7 = true ∧ b8 = true ∧ b9 = true ∧ b10 = true ∧ b11 = true := by decide
  have h0 : ∀ b3 b7 b8 b9 b10 b11 : Bool, cntF b3 b7 b8 b9 b10 b11 = 0 → b3 = true ∧ b7 = true ∧ b8 = true ∧ b9 = true ∧ b10 = true ∧ b11 = true := by decide
  have hmem0 : ∀ b3 b7 b8 b9 b10 b11 : Bool, (RD b3 b7 b8 b9 b10 b11).all (fun i => decide ((i = 3 ∧ b3 = false) ∨ (i = 7 ∧ b7 = false) ∨ (i = 8 ∧ b8 = false) ∨ (i = 9 ∧ b9 = false) ∨ (i = 10 ∧ b10 = false ∧ b3 = true ∧ b8 = true ∧ b9 = true) ∨ (i = 11 ∧ b11 = false ∧ b10 = true ∧ b3 = true ∧ b7 = true ∧ b8 = true ∧ b9 = true))) = true := by decide
  have hmem : ∀ b3 b7 b8 b9 b10 b11 : Bool, ∀ i ∈ RD b3 b7 b8 b9 b10 b11, (i = 3 ∧ b3 = false) ∨ (i = 7 ∧ b7 = false) ∨ (i = 8 ∧ b8 = false) ∨ (i = 9 ∧ b9 = false) ∨ (i = 10 ∧ b10 = false ∧ b3 = true ∧ b8 = true ∧ b9 = true) ∨ (i = 11 ∧ b11 = false ∧ b10 = true ∧ b3 = true ∧ b7 = true ∧ b8 = true ∧ b9 = true) := fun b3 b7 b8 b9 b10 b11 i hi => of_decide_eq_true (List.all_eq_true.1 (hmem0 b3 b7 b8 b9 b10 b11) i hi)
  intro fuel
  induction fuel with
  | zero =>
    intro b3 b7 b8 b9 b10 b11 x34 x38 x3 x4 w hc hj
    obtain ⟨rfl, rfl, rfl, rfl, rfl, rfl⟩ := h0 _ _ _ _ _ _ hc
    exact ⟨by rw [hrd]; rfl, hQ _ _ _ _ _ hj⟩
  | succ fuel ih =>
    intro b3 b7 b8 b9 b10 b11 x34 x38 x3 x4 w hc hj
    refine ⟨fun hr => ?_, fun i hi => ?_⟩
    · rw [hrd] at hr
      obtain ⟨rfl, rfl, rfl, rfl, rfl, rfl⟩ := hnil _ _ _ _ _ _ hr
      exact hQ _ _ _ _ _ hj
    · rw [hrd] at hi
      obtain ⟨e34, e38, e3, e4⟩ := act4_e (d := d) (x34 := x34) (x38 := x38) (x3 := x3) (x4 := x4) hsz
      obtain ⟨f33, f37⟩ := act4_f (t0 := t0) (d := d) (x34 := x34) (x38 := x38) (x3 := x3) (x4 := x4)
      rcases hmem _ _ _ _ _ _ i hi with ⟨rfl, rfl⟩ | ⟨rfl, rfl⟩ | ⟨rfl, rfl⟩ | ⟨rfl, rfl⟩ | ⟨rfl, rfl, rfl, rfl, rfl⟩ | ⟨rfl, rfl, rfl, rfl, rfl, rfl, rfl⟩
      · obtain ⟨o, ho, hop, hd, hg⟩ := h3
        obtain ⟨w1, v, hrun, hri, hgv, hb⟩ := is_make (act4 t0 d x34 x38 x3 x4) o n hn _ _ hop (f33.trans he33) (f33.trans he33) w0 w hj.below.size
        have hj' := hj.s3 hri hgv hb
        simp only [wpOp, ho, Region.wanted, hg, if_true]
        refine Or.inl ?_
        rw [Oper.wp, hrun, Oper.upon_value, hd, act4_34]
        exact ⟨fun _ _ => hS _ hj'.box_, ih _ _ _ _ _ _ _ _ _ _ _ (by simp [cntF] at hc ⊢; omega) hj'⟩
      · obtain ⟨o, ho, hop, hd, hg⟩ := h7
        obtain ⟨w1, v, hrun, hri, hgv, hb⟩ := is_make (act4 t0 d x34 x38 x3 x4) o n hn _ _ hop (f37.trans he37) (f37.trans he37) w0 w hj.below.size
        have hj' := hj.s7 hri hgv hb
        simp only [wpOp, ho, Region.wanted, hg, if_true]
        refine Or.inl ?_
        rw [Oper.wp, hrun, Oper.upon_value, hd, act4_38]
        exact ⟨fun _ _ => hS _ hj'.box_, ih _ _ _ _ _ _ _ _ _ _ _ (by simp [cntF] at hc ⊢; omega) hj'⟩
      · obtain ⟨o, ho, hop, hd, hg⟩ := h8
        obtain ⟨u, hrun⟩ := is_alloc (act4 t0 d x34 x38 x3 x4) o hop w
        have hj' := hj.s8 u
        simp only [wpOp, ho, Region.wanted, hg, if_true]
        refine Or.inl ?_
        rw [Oper.wp, hrun, Oper.upon_value, hd, act4_3]
        exact ⟨fun _ _ => hS _ hj'.box_, ih _ _ _ _ _ _ _ _ _ _ _ (by simp [cntF] at hc ⊢; omega) hj'⟩
      · obtain ⟨o, ho, hop, hd, hg⟩ := h9
        obtain ⟨u, hrun⟩ := is_alloc (act4 t0 d x34 x38 x3 x4) o hop w
        have hj' := hj.s9 u
        simp only [wpOp, ho, Region.wanted, hg, if_true]
        refine Or.inl ?_
        rw [Oper.wp, hrun, Oper.upon_value, hd, act4_4]
        exact ⟨fun _ _ => hS _ hj'.box_, ih _ _ _ _ _ _ _ _ _ _ _ (by simp [cntF] at hc ⊢; omega) hj'⟩
      · obtain ⟨o, ho, hop, hd, hg⟩ := h10
        obtain ⟨bl, u, rfl, g1, g2, g3⟩ := hj.c3 rfl
        obtain ⟨_, g, rfl⟩ := hj.r34 rfl
        have hrun := is_store (act4 t0 d (.slice (some ⟨g, 0, none⟩) n n) x38 (.pointer (some ⟨bl, 0, none⟩)) x4) o _ _ hop w bl u g n e3 e34 g2
        have hj' := hj.s10
        simp only [wpOp, ho, Region.wanted, hg, if_true]
        refine Or.inl ?_
        rw [Oper.wp, hrun, Oper.upon_skip, hd]
        exact ⟨fun _ _ => hS _ hj'.box_, ih _ _ _ _ _ _ _ _ _ _ _ (by simp [cntF] at hc ⊢; omega) hj'⟩
      · obtain ⟨o, ho, hop, hd, hg⟩ := h11
        obtain ⟨bl, u, rfl, g1, g2, g3⟩ := hj.c4 rfl
        obtain ⟨_, g, rfl⟩ := hj.r38 rfl
        have hrun := is_store (act4 t0 d x34 (.slice (some ⟨g, 0, none⟩) n n) x3 (.pointer (some ⟨bl, 0, none⟩))) o _ _ hop w bl u g n e4 e38 g2
        have hj' := hj.s11
        simp only [wpOp, ho, Region.wanted, hg, if_true]
        refine Or.inl ?_
        rw [Oper.wp, hrun, Oper.upon_skip, hd]
        exact ⟨fun _ _ => hS _ hj'.box_, ih _ _ _ _ _ _ _ _ _ _ _ (by simp [cntF] at hc ⊢; omega) hj'⟩
end Go.Proofs.Ytacfalpgmibfnaa.PFnExactGoodCow
