import Derived.Test.YtgglcpcfmhpcmaaZFnSqueezedPacked
/-! What the reference packs is what the program packs. -/
namespace Go.Proofs.Ytgglcpcfmhpcmaa.PFnSqueezed
open Go.RowKit Go.Proofs.YtgglcpcfmhpcmaaW.PrintWords Go.Proofs.YtgglcpcfmhpcmaaW.PrintLast Go.Proofs.YtgglcpcfmhpcmaaW.PrintMore Go.Proofs.Ytgglcpcfmhpcmaa.E
set_option linter.unusedSimpArgs false
set_option linter.unusedVariables false

theorem mkB_append (a b : List UInt8) : (⟨(a ++ b).toArray⟩ : ByteArray) = ⟨a.toArray⟩ ++ ⟨b.toArray⟩ := by
  apply ByteArray.ext
  simp
theorem mkB_data (s : ByteArray) : (⟨s.data.toList.toArray⟩ : ByteArray) = s := by
  apply ByteArray.ext
  simp
theorem str_one (a : Int) : strOfNums [a] = ⟨#[UInt8.ofNat a.toNat]⟩ := rfl
theorem str_two (a b : Int) : strOfNums [a, b] = ⟨#[UInt8.ofNat a.toNat, UInt8.ofNat b.toNat]⟩ := rfl
theorem pk_len (t : S56) : (pk t).length = if t.f0.size = 0 then 2 else t.f0.size + 1 := by
  unfold pk
  split
  · rfl
  · rw [List.length_cons, Array.length_toList]
    rfl
theorem mkB_size (l : List UInt8) : (⟨l.toArray⟩ : ByteArray).size = l.length := by
  show l.toArray.size = _
  simp
theorem packL_cons (t : S56) (l : List S56) : packL (t :: l) = pk t ++ packL l := by simp [packL]
theorem packL_append (a b : List S56) : packL (a ++ b) = packL a ++ packL b := by simp [packL]
theorem spec_pack_l (l : List S56) (hl : (l.length : Int) ≤ 100000000000) : ∀ (f : Nat) (x : ByteArray) (i : Int), 0 ≤ i → i + f = l.length → x.size + (packL (l.drop i.toNat)).length ≤ 1000000000000 →
    Ev (fun k => spec_l16Pack.l0 k x l (l.length : Int) i) (x ++ ⟨(packL (l.drop i.toNat)).toArray⟩) := by
  intro f
  induction f with
  | zero =>
    intro x i h0 h1 h2
    refine Ev.step (fun _ => spec_l16Pack.l0.eq_2 ..) (ev_neg (by omega) (ev_ret ?_))
    rw [List.drop_of_length_le (by omega)]
    apply ByteArray.ext
    simp [packL]
  | succ f ih =>
    intro x i h0 h1 h2
    have hi : i.toNat < l.length := by omega
    have er : rd_T56 l i = l[i.toNat] := by
      unfold rd_T56
      rw [List.getD_eq_getElem?_getD, List.getElem?_eq_getElem hi]
      rfl
    have ed : packL (l.drop i.toNat) = pk (rd_T56 l i) ++ packL (l.drop (i + 1).toNat) := by
      rw [List.drop_eq_getElem_cons hi, packL_cons, er, show (i + 1).toNat = i.toNat + 1 by omega]
    have hp := pk_len (rd_T56 l i)
    rw [ed, List.length_append] at h2
    rw [ed, mkB_append]
    refine Ev.step (fun _ => spec_l16Pack.l0.eq_2 ..) (ev_pos (by omega) (ev_pos h0 (ev_pos (by omega) ?_)))
    rw [w64 (x := i + 1) (by omega) (by omega)]
    have fin : ∀ y : ByteArray, y = ⟨(pk (rd_T56 l i)).toArray⟩ → Ev (fun k => if x.size + y.size ≤ 9223372036854775807 then (spec_l16Pack.l0 k (x ++ y) l (l.length : Int) (i + 1)) else none) (x ++ (⟨(pk (rd_T56 l i)).toArray⟩ ++ ⟨(packL (l.drop (i + 1).toNat)).toArray⟩)) := by
      intro y hy
      have hz : y.size = (pk (rd_T56 l i)).length := by rw [hy, mkB_size]
      refine ev_pos (by omega) ?_
      have := ih (x ++ y) (i + 1) (by omega) (by omega) (by rw [ByteArray.size_append]; omega)
      rw [ByteArray.append_assoc] at this
      rw [← hy]
      exact this
    by_cases hz : (rd_T56 l i).f0.size = 0
    · refine ev_pos (ba_nil.2 hz) (ev_some (fin _ ?_))
      unfold pk
      rw [if_pos hz]
      rfl
    · rw [if_neg hz] at hp
      refine ev_neg (fun h => hz (ba_nil.1 h)) (ev_some (ev_pos ?_ (fin _ ?_)))
      · rw [str_one]
        have : (⟨#[UInt8.ofNat (((rd_T56 l i).f0.size - 1 : Int) % 256).toNat]⟩ : ByteArray).size = 1 := rfl
        omega
      · unfold pk
        rw [if_neg hz, str_one]
        apply ByteArray.ext
        simp
theorem spec_pack (l : List S56) (hl : (l.length : Int) ≤ 100000000000) (hp : (packL l).length ≤ 1000000000000) : Ev (fun k => spec_l16Pack.f k l) ⟨(packL l).toArray⟩ := by
  unfold spec_l16Pack.f
  have := spec_pack_l l hl l.length ⟨#[]⟩ 0 (by omega) (by omega) (by have : (⟨#[]⟩ : ByteArray).size = 0 := rfl; simpa [this] using hp)
  have e : (⟨#[]⟩ : ByteArray) ++ ⟨(packL (l.drop (0 : Int).toNat)).toArray⟩ = ⟨(packL l).toArray⟩ := by
    apply ByteArray.ext
    simp
  rw [e] at this
  exact this
end Go.Proofs.Ytgglcpcfmhpcmaa.PFnSqueezed
