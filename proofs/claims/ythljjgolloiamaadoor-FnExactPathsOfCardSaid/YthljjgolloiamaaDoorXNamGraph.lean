import Derived.Test.YthljjgolloiamaaDoorYNamx0
import Derived.Test.YthljjgolloiamaaDoorZNamRun
/-! The directories of a name space as a graph; a search of it, name by name. -/
namespace Go.Proofs.YthljjgolloiamaaDoor.PNam
open Go.RowKit Go.Proofs.YthljjgolloiamaaDoorW.PrintWords Go.Proofs.YthljjgolloiamaaDoor.E Go.Proofs.YthljjgolloiamaaDoor.ZNam
set_option linter.unusedVariables false
abbrev NL := S60
abbrev IN := S76
def inoAt (l : List IN) (k : Nat) : IN := rd_T76 l (k : Int)
def kidsOf (l : List IN) (k : Nat) : List Nat := (inoAt l k).f2.map fun x => x.f1.toNat
def dirOf (l : List IN) (k : Nat) : Bool := (inoAt l k).f0
/-- What both sides look at ahead of the search. -/
structure Bas (l : List IN) : Prop where
  n1 : 1 ≤ l.length
  n2 : l.length ≤ 60
  rng : ∀ k : Nat, ∀ x ∈ (inoAt l k).f2, 1 ≤ x.f1 ∧ x.f1 < (l.length : Int)
  few : ∀ k : Nat, (inoAt l k).f2.length ≤ 20
  fil : ∀ k : Nat, dirOf l k = false → (inoAt l k).f2 = []
def cf (S : List Int) : Nat → Int := fun k => S.getD k 0
theorem cf_set {S : List Int} {f : Nat} (h : f < S.length) : cf (S.set f (cf S f + 1)) = up (cf S) f := by
  funext k
  unfold cf up
  rw [List.getD_eq_getElem?_getD, List.getElem?_set]
  by_cases hk : f = k
  · subst hk
    rw [if_pos rfl, if_pos h, if_pos rfl]
    rfl
  · rw [if_neg hk, if_neg (fun e => hk e.symm)]
    exact (List.getD_eq_getElem?_getD ..).symm
def openAt (l : List IN) (k d : Nat) : List (Nat × Nat) := (kidsOf l k).map fun y => (y, d + 1)
abbrev G (l : List IN) := Run (kidsOf l) (dirOf l) (fun f d => d ≤ 8 ∧ 1 ≤ f ∧ f < l.length)
/-- So many names of a list are searched through. -/
structure DI (l : List IN) (O : List (Nat × Nat)) (i : Nat) (S0 S : Nat → Int) : Prop where
  a : ∀ V R, G l V S R → G l (O.take i ++ V) S0 R
  b : ∀ V R, G l (O ++ V) S0 R → G l (O.drop i ++ V) S R
variable {l : List IN} {O : List (Nat × Nat)} {i f e : Nat} {S0 S S' : Nat → Int}
theorem di_start : DI l O 0 S S := ⟨fun _ _ h => h, fun _ _ h => h⟩
theorem drop_at (h : O[i]? = some (f, e)) : O.drop i = (f, e) :: O.drop (i + 1) := by
  obtain ⟨hi, hx⟩ := List.getElem?_eq_some_iff.1 h
  rw [List.drop_eq_getElem_cons hi, hx]
theorem take_at (h : O[i]? = some (f, e)) : O.take (i + 1) = O.take i ++ [(f, e)] := by
  obtain ⟨hi, hx⟩ := List.getElem?_eq_some_iff.1 h
  rw [List.take_add_one, h]; rfl
theorem di_deep (H : DI l O i S0 S) (hS : ∀ k, 0 ≤ S k) (h : O[i]? = some (f, e)) (he : 8 < e) : ∀ V R, ¬ G l (O ++ V) S0 R := fun V R hr => by
  have h1 := H.b V R hr
  rw [drop_at h, List.cons_append] at h1
  have := ((Run.first hS).1 h1).1.1
  omega
theorem di_twice (H : DI l O i S0 S) (hS : ∀ k, 0 ≤ S k) (h : O[i]? = some (f, e)) (hd : dirOf l f = true) (h2 : 0 < S f) : ∀ V R, ¬ G l (O ++ V) S0 R := fun V R hr => by
  have h1 := H.b V R hr
  rw [drop_at h, List.cons_append] at h1
  have := ((Run.first hS).1 h1).2.1 hd
  omega
theorem di_file (H : DI l O i S0 S) (hS : ∀ k, 0 ≤ S k) (h : O[i]? = some (f, e)) (he : e ≤ 8 ∧ 1 ≤ f ∧ f < l.length) (hd : dirOf l f = false) (hk : kidsOf l f = []) : DI l O (i + 1) S0 (up S f) := by
  refine ⟨fun V R hr => ?_, fun V R hr => ?_⟩
  · rw [take_at h, List.append_assoc, List.singleton_append]
    refine H.a _ _ ((Run.first hS).2 ⟨he, (fun h_ => by rw [hd] at h_; cases h_), ?_⟩)
    rw [hk, List.map_nil, List.append_nil]
    exact hr
  · have h1 := H.b V R hr
    rw [drop_at h, List.cons_append] at h1
    have h2 := ((Run.first hS).1 h1).2.2
    rw [hk, List.map_nil, List.append_nil] at h2
    exact h2
theorem di_dir (H : DI l O i S0 S) (hS : ∀ k, 0 ≤ S k) (h : O[i]? = some (f, e)) (he : e ≤ 8 ∧ 1 ≤ f ∧ f < l.length) (h2 : S f ≤ 0) (ra : ∀ V R, G l V S' R → G l (openAt l f e ++ V) (up S f) R) (rb : ∀ V R, G l (openAt l f e ++ V) (up S f) R → G l V S' R) : DI l O (i + 1) S0 S' := by
  refine ⟨fun V R hr => ?_, fun V R hr => ?_⟩
  · rw [take_at h, List.append_assoc, List.singleton_append]
    exact H.a _ _ ((Run.first hS).2 ⟨he, fun _ => h2, (ra V R hr).perm List.perm_append_comm⟩)
  · have h1 := H.b V R hr
    rw [drop_at h, List.cons_append] at h1
    exact rb _ _ (((Run.first hS).1 h1).2.2.perm List.perm_append_comm)
theorem di_dirno (H : DI l O i S0 S) (hS : ∀ k, 0 ≤ S k) (h : O[i]? = some (f, e)) (rb : ∀ V R, ¬ G l (openAt l f e ++ V) (up S f) R) : ∀ V R, ¬ G l (O ++ V) S0 R := fun V R hr => by
  have h1 := H.b V R hr
  rw [drop_at h, List.cons_append] at h1
  exact rb _ _ (((Run.first hS).1 h1).2.2.perm List.perm_append_comm)
theorem di_end (H : DI l O i S0 S) (h : O.length ≤ i) : (∀ V R, G l V S R → G l (O ++ V) S0 R) ∧ (∀ V R, G l (O ++ V) S0 R → G l V S R) := by
  refine ⟨fun V R hr => ?_, fun V R hr => ?_⟩
  · have := H.a V R hr
    rw [List.take_of_length_le h] at this
    exact this
  · have := H.b V R hr
    rw [List.drop_of_length_le h] at this
    exact this
theorem Bas.nokids (hB : Bas l) (hd : dirOf l f = false) : kidsOf l f = [] := by unfold kidsOf; rw [hB.fil f hd]; rfl
/-- A name of an inode. -/
theorem kid_at (hB : Bas l) {k : Nat} (hi : i < (inoAt l k).f2.length) : ∃ f : Nat, (rd_T60 (inoAt l k).f2 (i : Int)).f1 = (f : Int) ∧ 1 ≤ f ∧ f < l.length ∧ ∀ d, (openAt l k d)[i]? = some (f, d + 1) := by
  have hx : rd_T60 (inoAt l k).f2 (i : Int) = (inoAt l k).f2[i] := by
    unfold rd_T60
    rw [Int.toNat_natCast, List.getD_eq_getElem?_getD, List.getElem?_eq_getElem hi]; rfl
  have h1 := hB.rng k _ (List.getElem_mem hi)
  refine ⟨(inoAt l k).f2[i].f1.toNat, by rw [hx]; omega, by omega, by omega, fun d => ?_⟩
  unfold openAt kidsOf
  rw [List.map_map, List.getElem?_map, List.getElem?_eq_getElem hi]
  rfl
theorem openAt_len (k d : Nat) : (openAt l k d).length = (inoAt l k).f2.length := by unfold openAt kidsOf; simp
end Go.Proofs.YthljjgolloiamaaDoor.PNam
