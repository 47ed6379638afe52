import Derived.Test.YtjepecinpgjgdaaXVauOwn
import Derived.Test.YtjepecinpgjgdaaXVauSmall
/-! Files' rows as headers and what they stand for: rows of headers may be shared. -/
namespace Go.Proofs.Ytjepecinpgjgdaa.PVau
open Go.RowKit Go.Proofs.YtjepecinpgjgdaaW.PrintWords Go.Proofs.YtjepecinpgjgdaaW.PrintLast Go.Proofs.YtjepecinpgjgdaaW.PrintMore Go.Proofs.Ytjepecinpgjgdaa.E
set_option linter.unusedSimpArgs false
set_option linter.unusedVariables false
abbrev HV := Option Addr × Nat × Nat
/-- A slice by its header. -/
def encH (p : HV) : Value := .slice p.1 p.2.1 p.2.2
theorem encH_one : ∀ x, (encH x).oneCell' = true := fun _ => rfl
abbrev HR (W : World) (base : Nat) (ok : Nat → Prop) (v : Value) (hs : List HV) : Prop := (Kd.scalar encH encH_one).R 87 W base ok v hs
/-- Headers, each of a row of its own. -/
structure Fam (W : World) (base : Nat) (ok : Nat → Prop) (hs : List HV) (xs : List FL) : Prop where
 len : hs.length = xs.length
 in_ : ∃ f : Nat → Nat, ∀ (i : Nat) (p : HV) (x : FL), hs[i]? = some p → xs[i]? = some x → IR W base (fun k => ok k ∧ f k = i) (encH p) x.f0
section
variable {W W1 : World} {base : Nat} {ok ok' : Nat → Prop} {hs : List HV} {xs : List FL} {v : Value}
theorem Fam.step (h : Fam W base ok hs xs) (hm : ∀ (i : Nat) (p : HV) (x : FL) (g : Nat → Prop), (∀ k, g k → ok k) → IR W base g (encH p) x.f0 → IR W1 base g (encH p) x.f0) : Fam W1 base ok hs xs := by
 obtain ⟨l, f, h⟩ := h
 exact ⟨l, f, fun i p x hp hx => hm i p x _ (fun _ hk => hk.1) (h i p x hp hx)⟩
theorem Fam.below (h : Fam W base ok hs xs) (hb : Below W.heap.size W W1) : Fam W1 base ok hs xs := h.step (fun _ _ _ _ _ h => Kd.R_below h hb)
theorem Fam.mono (h : Fam W base ok hs xs) (hk : ∀ k, ok k → ok' k) : Fam W base ok' hs xs := by
 obtain ⟨l, f, h⟩ := h
 exact ⟨l, f, fun i p x hp hx => Kd.R_mono (h i p x hp hx) (fun k h_ => ⟨hk k h_.1, h_.2⟩)⟩
theorem Fam.grown (h : Fam W base ok hs xs) {row : Option Nat} (hg : W.grownBy W1 row) (hok : ∀ k, ok k → some k ≠ row) : Fam W1 base ok hs xs := h.step (fun _ _ _ _ ho h => Kd.R_grown h hg (fun k hk => hok k (ho k hk)))
theorem Fam.over (h : Fam W base ok hs xs) {u : Value} {e' : TypeId} (hty : ∀ k, u.ownBlock = some k → ∃ cells, W.heap[k]? = some (.cells cells e' (0, 0))) (ht : (3 : Nat) ≠ e') (hg : W.grownBy W1 u.ownBlock) : Fam W1 base ok hs xs :=
 h.step (fun _ _ _ _ _ h => Kd.R_over' h hty (fun q hq => by rcases List.mem_cons.1 hq with rfl | hq; exact ht; cases hq) hg)
theorem Fam.set_ (h : Fam W base ok hs xs) {g t : Nat} {cells : Array Value} (hb : W.heap[g]? = some (.cells cells t (0, 0))) (ht : (3 : Nat) ≠ t) (j : Nat) (u : Value) : Fam (W.setCell ⟨g, j, none⟩ u) base ok hs xs :=
 h.step (fun _ _ _ _ _ h => Kd.R_set h hb (fun q hq => by rcases List.mem_cons.1 hq with rfl | hq; exact ht; cases hq) j u)
theorem Fam.at_ (h : Fam W base ok hs xs) {i : Nat} {p : HV} {x : FL} (hp : hs[i]? = some p) (hx : xs[i]? = some x) : IR W base ok (encH p) x.f0 := by
 obtain ⟨l, f, h⟩ := h
 exact Kd.R_mono (h i p x hp hx) (fun _ hk => hk.1)
/-- One of the rows is written. -/
theorem Fam.put (h : Fam W base ok hs xs) {i : Nat} {p : HV} {x : FL} {r : List Int} (hp : hs[i]? = some p) (hx : xs[i]? = some x) (hg : W.grownBy W1 (encH p).ownBlock) (hR : IR W1 base (fun _ => True) (encH p) r) : Fam W1 base ok hs (xs.set i ⟨r⟩) := by
 obtain ⟨l, f, h⟩ := h
 have h0 := h i p x hp hx
 refine ⟨by rw [List.length_set]; exact l, f, fun j q y hq hy => ?_⟩
 by_cases e : i = j
 ·subst e
  rw [hp] at hq
  obtain rfl := Option.some.inj hq
  rw [List.getElem?_set_self (by rw [← l]; exact (List.getElem?_eq_some_iff.1 hp).1)] at hy
  obtain rfl := Option.some.inj hy
  exact Kd.R_of_own (Kd.own_of_R hR) (fun k hk => h0.1 k hk)
 ·rw [List.getElem?_set_ne e] at hy
  exact Kd.R_grown (h j q y hq hy) hg (fun k hk e_ => e ((h0.1 k e_.symm).2.symm.trans hk.2))
/-- One of the rows is left out. -/
theorem Fam.pick (h : Fam W base ok hs xs) (a : Nat) : Fam W base ok (hs.eraseIdx a) (xs.eraseIdx a) := by
 obtain ⟨l, f, h⟩ := h
 refine ⟨by rw [List.length_eraseIdx, List.length_eraseIdx, l], fun k => if f k < a then f k else f k - 1, fun i p x hp hx => ?_⟩
 rw [List.getElem?_eraseIdx] at hp hx
 by_cases e : i < a
 ·rw [if_pos e] at hp hx
  exact Kd.R_mono (h i p x hp hx) (fun k hk => ⟨hk.1, by show (if f k < a then f k else f k - 1) = i; rw [hk.2, if_pos e]⟩)
 ·rw [if_neg e] at hp hx
  exact Kd.R_mono (h (i + 1) p x hp hx) (fun k hk => ⟨hk.1, by show (if f k < a then f k else f k - 1) = i; rw [hk.2, if_neg (by omega)]; omega⟩)
def decH : Value → HV
 | .slice a n c => (a, n, c)
 | _ => (none, 0, 0)
/-- A row of files: its headers, and their rows. -/
theorem S_fam (h : FS W base ok v xs) : ∃ hs, HR W base ok v hs ∧ Fam W base ok hs xs := by
 obtain ⟨f, h0, inner, ho, hr⟩ := h
 rw [List.length_zipIdx] at ho
 have hl : inner.length = xs.length := by have := hr.1; rw [List.length_zipIdx] at this; rw [this]; exact Nat.mul_one _
 have hcell : ∀ (i : Nat) (x : FL), xs[i]? = some x → ∃ u, inner[i]? = some u ∧ IR W base (fun k => ok k ∧ f k = i) u x.f0 := fun i x hx => by
  have h1 := hr.2 i (x, i) (Kd.zip_at hx)
  have hi : i < inner.length := by rw [hl]; exact (List.getElem?_eq_some_iff.1 hx).1
  have h2 : k87.M W base (fun k => (ok k ∧ some k ≠ v.ownBlock) ∧ f k = i) x ((inner.drop (i * 1)).take 1) := h1
  obtain ⟨u, hu, hR⟩ := fl_M.1 h2
  rw [Nat.mul_one, List.drop_eq_getElem_cons hi] at hu
  have h4 : inner[i] = u := by
   have h5 := congrArg List.head? hu
   rw [List.take_succ_cons] at h5
   exact Option.some.inj h5
  exact ⟨u, by rw [List.getElem?_eq_getElem hi, h4], Kd.R_mono hR (fun k hk => ⟨hk.1.1, hk.2⟩)⟩
 have hdec : ∀ (i : Nat) (u : Value), inner[i]? = some u → encH (decH u) = u := fun i u hu => by
  have hi : i < xs.length := by rw [← hl]; exact (List.getElem?_eq_some_iff.1 hu).1
  obtain ⟨u', hu', hR⟩ := hcell i xs[i] (List.getElem?_eq_getElem hi)
  rw [hu] at hu'
  obtain rfl := Option.some.inj hu'
  obtain ⟨A, c, rfl⟩ := Kd.R_slice hR
  rfl
 have henc : encs encH (inner.map decH) = inner := by
  apply List.ext_getElem?
  intro i
  unfold encs
  rw [List.map_map, List.getElem?_map]
  cases hu : inner[i]? with
  | none => rfl
  | some u => exact congrArg some (hdec i u hu)
 refine ⟨inner.map decH, Kd.R_of_own (by rw [henc, List.length_map, hl]; exact ho) (fun k hk => h0 k hk), ⟨by rw [List.length_map, hl], f, fun i p x hp hx => ?_⟩⟩
 obtain ⟨u, hu, hR⟩ := hcell i x hx
 rw [List.getElem?_map, hu] at hp
 obtain rfl := Option.some.inj hp
 rw [hdec i u hu]
 exact hR
theorem fam_S (hv : HR W base ok v hs) (h : Fam W base ok hs xs) : FS W base ok v xs := by
 obtain ⟨l, f, h⟩ := h
 have ho := Kd.own_of_R hv
 refine ⟨f, fun k hk => hv.1 k hk, encs encH hs, by rw [List.length_zipIdx, ← l]; exact ho, ⟨by rw [List.length_zipIdx, encs_length, l]; exact (Nat.mul_one _).symm, fun j q hq => ?_⟩⟩
 rw [List.getElem?_zipIdx, Nat.zero_add] at hq
 obtain ⟨x, hx, rfl⟩ := Option.map_eq_some_iff.1 hq
 have hj : j < hs.length := by rw [l]; exact (List.getElem?_eq_some_iff.1 hx).1
 have h0 := h j hs[j] x (List.getElem?_eq_getElem hj) hx
 show k87.M W base (fun k => (ok k ∧ some k ≠ v.ownBlock) ∧ f k = j) x (((encs encH hs).drop (j * 1)).take 1)
 have hj2 : j < (encs encH hs).length := by rw [encs_length]; exact hj
 rw [Nat.mul_one, List.drop_eq_getElem_cons hj2]
 refine fl_M.2 ⟨encH hs[j], by simp [encs], Kd.R_mono (Kd.R_bound h0) (fun k hk => ⟨⟨hk.1.1, fun e_ => ?_⟩, hk.1.2⟩)⟩
 obtain ⟨_, _, _, q, hq, cells, hc⟩ := hk
 obtain ⟨cells', hc'⟩ := Kd.R_typed hv k e_.symm
 rw [hc] at hc'
 injection hc' with hc'
 injection hc' with _ h1 _
 rcases List.mem_cons.1 hq with rfl | hq
 ·exact absurd h1 (by decide)
 ·cases hq
theorem h_at {g n cap : Nat} (h : HR W base ok (.slice (some ⟨g, 0, none⟩) n cap) hs) {i : Nat} {p : HV} (hp : hs[i]? = some p) : W.cell? ⟨g, i, none⟩ = some (encH p) := by
 have hi := (List.getElem?_eq_some_iff.1 hp).1
 have hn := (Kd.R_reads' h).1
 obtain ⟨c, hcl, hM, hcc, hfr⟩ := Kd.R_elem h (none, 0, 0) (i : Int) (by omega) (by omega)
 have hM2 : c = [encH (hs.getD (i : Int).toNat (none, 0, 0))] := hM
 subst hM2
 have h1 := hcc 0 _ rfl
 rw [Int.toNat_natCast, List.getD_eq_getElem?_getD, hp] at h1
 have e : i * (Kd.scalar encH encH_one).sz + 0 = i := by show i * 1 + 0 = i; omega
 rw [e] at h1
 exact h1
/-- A row of numbers: one of them. -/
theorem ir_put {g n cap : Nat} {r : List Int} (h : IR W base ok (.slice (some ⟨g, 0, none⟩) n cap) r) {q : Nat} (hq : q < r.length) (y : Int) :
  W.cell? ⟨g, q, none⟩ = some (.int .i64 (rd r (q : Int))) ∧ W.frozen? ⟨g, q, none⟩ = false ∧ W.grownBy (W.setCell ⟨g, q, none⟩ (.int .i64 y)) (some g) ∧ IR (W.setCell ⟨g, q, none⟩ (.int .i64 y)) base ok (.slice (some ⟨g, 0, none⟩) n cap) (r.set q y) := by
 have hn := (Kd.R_reads' h).1
 subst hn
 obtain ⟨c, hcl, hM, hcc, hfr⟩ := Kd.R_elem h (0 : Int) (q : Int) (by omega) (by omega)
 have hM2 : c = [.int .i64 (rd r (q : Int))] := hM
 subst hM2
 have h1 := hcc 0 _ rfl
 have h2 := hfr 0
 have e : (q : Int).toNat * (Kd.int .i64).sz + 0 = q := by rw [Int.toNat_natCast]; show q * 1 + 0 = q; omega
 rw [e] at h1 h2
 obtain ⟨h3, h4⟩ := Kd.R_put (enc := Value.int .i64) (h1 := fun _ => rfl) h (q : Int) y
 rw [Int.toNat_natCast] at h3 h4
 exact ⟨h1, h2, h4, h3⟩
end
end Go.Proofs.Ytjepecinpgjgdaa.PVau
