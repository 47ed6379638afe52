import Derived.Test.YthljjgolloiamaaDoorXNamBfs
import Derived.Test.YthljjgolloiamaaDoorYNamimplareNames
/-! When a name space is right. -/
namespace Go.Proofs.YthljjgolloiamaaDoor.PNam
open Go.RowKit Go.Proofs.YthljjgolloiamaaDoorW.PrintWords Go.Proofs.YthljjgolloiamaaDoorW.PrintLast Go.Proofs.YthljjgolloiamaaDoorW.PrintMore Go.Proofs.YthljjgolloiamaaDoor.E Go.Proofs.YthljjgolloiamaaDoor.ZNam
set_option linter.unusedVariables false
set_option linter.unusedSimpArgs false
def afterN : Option ByteArray → ByteArray → Bool
  | none, _ => true
  | some q, x => Op.bytesLess q.toList x.toList
def okL : Option ByteArray → List NL → Bool
  | _, [] => true
  | p, x :: r => okName x.f0 && (afterN p x.f0 && okL (some x.f0) r)
def namesOk (l : List NL) : Bool := okL none l && decide (l.length ≤ 20)
theorem rd_name {l : List NL} {i : Nat} (h : i < l.length) : rd_T60 l (i : Int) = l[i] := by
  unfold rd_T60
  rw [Int.toNat_natCast, List.getD_eq_getElem?_getD, List.getElem?_eq_getElem h]; rfl
/-- The name ahead of place i. -/
def prevN (l : List NL) : Nat → Option ByteArray
  | 0 => none
  | i + 1 => some (rd_T60 l (i : Int)).f0
theorem areNames_l {l : List NL} (hl : l.length ≤ 9223372036854775807) : ∀ (f i : Nat), i + f = l.length → Ev (fun k => impl_areNames.l0 k l l (l.length : Int) (i : Int)) (okL (prevN l i) (l.drop i) && decide (l.length ≤ 20)) := by
  intro f
  induction f with
  | zero =>
    intro i hi
    refine Ev.step (fun _ => impl_areNames.l0.eq_2 ..) (ev_neg (by omega) (ev_ret ?_))
    rw [List.drop_of_length_le (by omega), okL, Bool.true_and]
    exact decide_eq_decide.2 (by omega)
  | succ f ih =>
    intro i hi
    have hil : i < l.length := by omega
    have hd : l.drop i = rd_T60 l (i : Int) :: l.drop (i + 1) := by rw [rd_name hil]; exact List.drop_eq_getElem_cons hil
    have ei : wrap64 ((i : Int) + 1) = ((i + 1 : Nat) : Int) := by rw [w64 (by omega) (by omega)]; omega
    refine Ev.step (fun _ => impl_areNames.l0.eq_2 ..) (ev_pos (by omega) (ev_pos (by omega) (ev_pos (by omega) (ev_some ?_))))
    rw [hd, okL, ei]
    cases hx : okName (rd_T60 l (i : Int)).f0 with
    | false => rw [Bool.false_and, Bool.false_and]; exact ev_neg (by simp) (ev_ret rfl)
    | true =>
      rw [Bool.true_and]
      refine ev_pos rfl ?_
      cases i with
      | zero =>
        refine ev_neg (by simp) ?_
        have h := ih 1 (by omega)
        exact h
      | succ j =>
        have ej : wrap64 (((j + 1 : Nat) : Int) - 1) = (j : Int) := by rw [w64 (by omega) (by omega)]; omega
        refine ev_pos (by omega) ?_
        rw [ej]
        refine ev_pos (by omega) (ev_pos (by omega) ?_)
        show Ev _ (Op.bytesLess _ _ && _ && _)
        cases hb : Op.bytesLess (rd_T60 l (j : Int)).f0.toList (rd_T60 l ((j + 1 : Nat) : Int)).f0.toList with
        | false => exact ev_neg (by simp) (ev_ret (by simp [afterN, prevN, hb]))
        | true =>
          refine ev_pos rfl ?_
          have h := ih (j + 1 + 1) (by omega)
          have e : (okL (some (rd_T60 l ((j + 1 : Nat) : Int)).f0) (l.drop (j + 1 + 1)) && decide (l.length ≤ 20)) = (true && okL (some (rd_T60 l ((j + 1 : Nat) : Int)).f0) (l.drop (j + 1 + 1)) && decide (l.length ≤ 20)) := by rw [Bool.true_and]
          rw [← e]
          exact h
theorem areNames_is (l : List NL) (hl : l.length ≤ 9223372036854775807) : Ev (fun k => impl_areNames.f k l) (namesOk l) := areNames_l hl l.length 0 (by omega)
/-- A name space that is right. -/
structure GoodP (l : List IN) : Prop where
  n1 : 1 ≤ l.length
  n2 : l.length ≤ 60
  d0 : dirOf l 0 = true
  l0 : (inoAt l 0).f1 = 1
  nm : ∀ k : Nat, k < l.length → namesOk (inoAt l k).f2 = true ∧ (dirOf l k = false → (inoAt l k).f2 = [])
  run : ∃ R, G l (openAt l 0 0) (fun _ => 0) R ∧ ∀ k : Nat, 1 ≤ k → k < l.length → (inoAt l k).f1 = R k ∧ (dirOf l k = true → 0 < R k)
noncomputable def goodN (l : List IN) : Bool := @decide (GoodP l) (Classical.propDecidable _)
theorem goodN_iff {l : List IN} : goodN l = true ↔ GoodP l := by unfold goodN; exact @decide_eq_true_iff _ (Classical.propDecidable _)
theorem goodN_no {l : List IN} (h : ¬ GoodP l) : goodN l = false := by
  cases hg : goodN l with
  | false => rfl
  | true => exact absurd (goodN_iff.1 hg) h
theorem inoAt_out {l : List IN} {k : Nat} (h : l.length ≤ k) : inoAt l k = z76 := by
  unfold inoAt rd_T76
  rw [Int.toNat_natCast, List.getD_eq_getElem?_getD, List.getElem?_eq_none h]; rfl
theorem few_of {l : List IN} (h : ∀ k : Nat, k < l.length → namesOk (inoAt l k).f2 = true ∧ (dirOf l k = false → (inoAt l k).f2 = [])) : (∀ k : Nat, (inoAt l k).f2.length ≤ 20) ∧ ∀ k : Nat, dirOf l k = false → (inoAt l k).f2 = [] := by
  refine ⟨fun k => ?_, fun k hd => ?_⟩
  · by_cases hk : k < l.length
    · exact of_decide_eq_true (Bool.and_eq_true_iff.1 (h k hk).1).2
    · rw [inoAt_out (by omega)]; exact Nat.zero_le _
  · by_cases hk : k < l.length
    · exact (h k hk).2 hd
    · rw [inoAt_out (by omega)]; rfl
end Go.Proofs.YthljjgolloiamaaDoor.PNam
