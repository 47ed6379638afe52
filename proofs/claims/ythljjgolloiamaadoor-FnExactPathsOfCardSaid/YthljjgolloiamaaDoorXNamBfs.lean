import Derived.Test.YthljjgolloiamaaDoorXNamGraph
/-! A search in breadth: what is open, and what it comes to. -/
namespace Go.Proofs.YthljjgolloiamaaDoor.PNam
open Go.RowKit Go.Proofs.YthljjgolloiamaaDoorW.PrintWords Go.Proofs.YthljjgolloiamaaDoor.E Go.Proofs.YthljjgolloiamaaDoor.ZNam
set_option linter.unusedVariables false
abbrev VL := S148
def opens (l : List IN) (L : List VL) : List (Nat × Nat) := L.flatMap fun v => openAt l v.f0.toNat v.f1.toNat
theorem opens_snoc (l : List IN) (L : List VL) (v : VL) : opens l (L ++ [v]) = opens l L ++ openAt l v.f0.toNat v.f1.toNat := by unfold opens; rw [List.flatMap_append]; simp
/-- So far: what is open (O), and the counts. -/
structure BI (l : List IN) (m : Int) (O : List (Nat × Nat)) (S : Nat → Int) : Prop where
  a : m ≤ 8 → ∀ R, G l O S R → G l (openAt l 0 0) (fun _ => 0) R
  b : ∀ R, G l (openAt l 0 0) (fun _ => 0) R → m ≤ 8 ∧ G l O S R
variable {l : List IN} {m : Int} {O : List (Nat × Nat)} {S : Nat → Int} {f e : Nat}
theorem bi_start : BI l 0 (openAt l 0 0) (fun _ => 0) := ⟨fun _ _ h => h, fun _ h => ⟨by omega, h⟩⟩
theorem bi_no (H : BI l m ((f, e) :: O) S) (hS : ∀ k, 0 ≤ S k) (h : ¬ (1 ≤ f ∧ f < l.length) ∨ (dirOf l f = true ∧ 0 < S f)) : ∀ R, ¬ G l (openAt l 0 0) (fun _ => 0) R := fun R hr => by
  obtain ⟨h1, h2, _⟩ := (Run.first hS).1 (H.b R hr).2
  rcases h with h | ⟨hd, h3⟩
  · exact h ⟨h1.2.1, h1.2.2⟩
  · have := h2 hd; omega
theorem bi_step (H : BI l m ((f, e) :: O) S) (hS : ∀ k, 0 ≤ S k) (hr : 1 ≤ f ∧ f < l.length) (hd : dirOf l f = true → S f ≤ 0) : BI l (max m (e : Int)) (O ++ openAt l f e) (up S f) := by
  refine ⟨fun hm R h => H.a (by omega) R ((Run.first hS).2 ⟨⟨by omega, hr.1, hr.2⟩, hd, h⟩), fun R h => ?_⟩
  obtain ⟨h0, h⟩ := H.b R h
  obtain ⟨h1, _, h3⟩ := (Run.first hS).1 h
  exact ⟨by have := h1.1; omega, h3⟩
/-- The names that are left of a directory, and what is open behind them. -/
theorem open_at {k d j : Nat} (hj : j < (inoAt l k).f2.length) (V : List (Nat × Nat)) : (openAt l k d).drop j ++ V = ((rd_T60 (inoAt l k).f2 (j : Int)).f1.toNat, d + 1) :: ((openAt l k d).drop (j + 1) ++ V) := by
  have hx : rd_T60 (inoAt l k).f2 (j : Int) = (inoAt l k).f2[j] := by
    unfold rd_T60
    rw [Int.toNat_natCast, List.getD_eq_getElem?_getD, List.getElem?_eq_getElem hj]; rfl
  have hl : j < (openAt l k d).length := by rw [openAt_len]; exact hj
  rw [List.drop_eq_getElem_cons hl, List.cons_append, hx]
  congr 1
  unfold openAt kidsOf
  simp
theorem open_end {k d j : Nat} (hj : (inoAt l k).f2.length ≤ j) (V : List (Nat × Nat)) : (openAt l k d).drop j ++ V = V := by
  rw [List.drop_of_length_le (by rw [openAt_len]; exact hj), List.nil_append]
/-- The queue: each entry is an inode, not deeper than its place; it is no longer than directories are counted. -/
structure QI (l : List IN) (L : List VL) (S : List Int) (b : Nat) : Prop where
  len : S.length = l.length
  at_ : ∀ i : Nat, i < L.length → ∃ k d : Nat, rd_T148 L (i : Int) = ⟨(k : Int), (d : Int)⟩ ∧ k < l.length ∧ d ≤ i
  few : L.length ≤ 1 + S.countP (fun x => decide (0 < x))
  bd : ∀ k, 0 ≤ cf S k ∧ cf S k ≤ b
theorem QI.short {L : List VL} {S : List Int} {b : Nat} (h : QI l L S b) : L.length ≤ 1 + l.length := by
  have h1 := h.few
  have h2 := List.countP_le_length (p := fun x => decide (0 < x)) (l := S)
  have := h.len
  omega
theorem QI.put {L : List VL} {T : List Int} {b : Nat} (h : QI l L T b) (hf : f < l.length) : QI l L (T.set f (cf T f + 1)) (b + 1) := by
  have hfl : f < T.length := by rw [h.len]; exact hf
  refine ⟨by rw [List.length_set]; exact h.len, h.at_, ?_, fun k => ?_⟩
  · have h1 := h.few
    have h0 := (h.bd f).1
    rw [List.countP_set hfl]
    have h3 : decide (0 < cf T f + 1) = true := decide_eq_true (by omega)
    rw [h3, if_pos rfl]
    split <;> omega
  · rw [cf_set hfl]
    have := h.bd k
    unfold up
    split <;> omega
theorem QI.push {L : List VL} {T : List Int} {b d : Nat} (h : QI l L T b) (hf : f < l.length) (h0 : cf T f ≤ 0) (hd : d ≤ L.length) : QI l (L ++ [⟨(f : Int), (d : Int)⟩]) (T.set f (cf T f + 1)) (b + 1) := by
  have h1 := h.put hf
  have hfl : f < T.length := by rw [h.len]; exact hf
  refine ⟨h1.len, fun i hi => ?_, ?_, h1.bd⟩
  · rw [List.length_append, List.length_singleton] at hi
    by_cases hil : i < L.length
    · obtain ⟨k, d', e1, e2, e3⟩ := h.at_ i hil
      refine ⟨k, d', ?_, e2, e3⟩
      rw [← e1]
      unfold rd_T148
      rw [Int.toNat_natCast, List.getD_eq_getElem?_getD, List.getD_eq_getElem?_getD, List.getElem?_append_left hil]
    · have hie : i = L.length := by omega
      subst hie
      refine ⟨f, d, ?_, hf, hd⟩
      unfold rd_T148
      rw [Int.toNat_natCast, List.getD_eq_getElem?_getD, List.getElem?_append_right (Nat.le_refl _), Nat.sub_self]
      rfl
  · have h2 := h.few
    rw [List.length_append, List.length_singleton, List.countP_set hfl]
    have h3 : decide (0 < cf T f + 1) = true := decide_eq_true (by have := (h.bd f).1; omega)
    have h4 : T[f] = cf T f := by unfold cf; rw [List.getD_eq_getElem?_getD, List.getElem?_eq_getElem hfl]; rfl
    have h5 : decide (0 < T[f]) = false := by rw [h4]; exact decide_eq_false (by omega)
    rw [h3, if_pos rfl, h5]
    simp
    omega
theorem QI.more {L : List VL} {T : List Int} {b b' : Nat} (h : QI l L T b) (hb : b ≤ b') : QI l L T b' := ⟨h.len, h.at_, h.few, fun k => by have := h.bd k; omega⟩
theorem drop_snoc {L : List VL} {v : VL} {i : Nat} (hi : i ≤ L.length) : opens l ((L ++ [v]).drop i) = opens l (L.drop i) ++ openAt l v.f0.toNat v.f1.toNat := by
  rw [List.drop_append_of_le_length hi, opens_snoc]
theorem drop_here {L : List VL} {i : Nat} (hi : i < L.length) : opens l (L.drop i) = openAt l (rd_T148 L (i : Int)).f0.toNat (rd_T148 L (i : Int)).f1.toNat ++ opens l (L.drop (i + 1)) := by
  have hx : rd_T148 L (i : Int) = L[i] := by
    unfold rd_T148
    rw [Int.toNat_natCast, List.getD_eq_getElem?_getD, List.getElem?_eq_getElem hi]; rfl
  rw [hx, List.drop_eq_getElem_cons hi]
  unfold opens
  rw [List.flatMap_cons]
end Go.Proofs.YthljjgolloiamaaDoor.PNam
