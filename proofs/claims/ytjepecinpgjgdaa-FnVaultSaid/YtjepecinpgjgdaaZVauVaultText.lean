import Derived.Test.YtjepecinpgjgdaaZVauGoodEv
import Derived.Test.YtjepecinpgjgdaaYVautextIn
import Derived.Test.YtjepecinpgjgdaaYVautextS
import Derived.Test.YtjepecinpgjgdaaLoops
import Derived.Test.YtjepecinpgjgdaaOpens
/-! The text of a file: the program's and the reference's. -/
namespace Go.Proofs.Ytjepecinpgjgdaa.ZVau
open Go.RowKit Go.Proofs.Ytjepecinpgjgdaa.PVau Go.Proofs.YtjepecinpgjgdaaW.PrintWords Go.Proofs.YtjepecinpgjgdaaW.PrintLast Go.Proofs.YtjepecinpgjgdaaW.PrintMore Go.Proofs.Ytjepecinpgjgdaa.E
set_option linter.unusedSimpArgs false
set_option linter.unusedVariables false
theorem incs_in (n : Nat) : ∀ (ks U V : List Int), incs n U ks = some V → ∀ k ∈ ks, 0 ≤ k ∧ k < n := by
 intro ks
 induction ks with
 | nil => intro U V h k hk; cases hk
 | cons q r ih =>
  intro U V h k hk
  simp only [incs] at h
  split at h
  ·rcases List.mem_cons.1 hk with rfl | hk
   ·omega
   ·exact ih _ _ h k hk
  ·cases h
theorem gV_in (n : Nat) : ∀ (fs : List IF) (U V : List Int), gV n U fs = some V → ∀ f ∈ fs, f.f0.length ≤ 200 ∧ ∀ k ∈ f.f0, 0 ≤ k ∧ k < n := by
 intro fs
 induction fs with
 | nil => intro U V h f hf; cases hf
 | cons g r ih =>
  intro U V h f hf
  simp only [gV] at h
  split at h
  ·cases h
  ·obtain ⟨W, h1, h2⟩ := Option.bind_eq_some_iff.1 h
   rcases List.mem_cons.1 hf with rfl | hf
   ·exact ⟨by omega, incs_in n _ _ _ h1⟩
   ·exact ih _ _ h2 f hf
theorem goodP_in (ps : List IK) (U : List Int) : ∀ (f i : Nat), goodP ps U f i = true → ∀ j, i ≤ j → j < i + f → okP ps U j = true := by
 intro f
 induction f with
 | zero => intro i h j h1 h2; omega
 | succ f ih =>
  intro i h j h1 h2
  simp only [goodP] at h
  split at h
  ·by_cases e : j = i
   ·subst e; assumption
   ·exact ih (i + 1) h j (by omega) (by omega)
  ·cases h
structure Fine (ps : List IK) (fs : List IF) : Prop where
 np : ps.length ≤ 100
 nf : fs.length ≤ 20
 parts : ∀ f ∈ fs, f.f0.length ≤ 200 ∧ ∀ k ∈ f.f0, 0 ≤ k ∧ k < ps.length
 size : ∀ k : Int, (rd_T89 ps k).f0.size ≤ 24
theorem good_fine {ps : List IK} {fs : List IF} (h : good ps fs = true) : Fine ps fs := by
 unfold good at h
 split at h
 ·cases h
 ·rename_i h0
  cases hg : gV ps.length (List.replicate ps.length 0) fs with
  | none => rw [hg] at h; cases h
  | some U =>
   rw [hg] at h
   refine ⟨by omega, by omega, gV_in _ _ _ _ hg, fun k => ?_⟩
   by_cases hk : k.toNat < ps.length
   ·have h1 := goodP_in ps U ps.length 0 h k.toNat (by omega) (by omega)
    have e : rd_T89 ps k = rd_T89 ps (k.toNat : Int) := by unfold rd_T89; rw [Int.toNat_natCast]
    rw [e]
    unfold okP at h1
    split at h1
    ·rename_i h2; exact h2.2
    ·cases h1
   ·have : rd_T89 ps k = z89 := by
     unfold rd_T89
     rw [List.getD_eq_getElem?_getD, List.getElem?_eq_none (by omega)]
     rfl
    rw [this]
    show (⟨#[]⟩ : ByteArray).size ≤ 24
    decide
def textOf (ps : List IK) (ks : List Int) : List UInt8 := ks.flatMap fun k => (rd_T89 ps k).f0.data.toList
theorem textOf_take (ps : List IK) (ks : List Int) (i : Int) (h0 : 0 ≤ i) (h : i.toNat < ks.length) : textOf ps (ks.take (i + 1).toNat) = textOf ps (ks.take i.toNat) ++ (rd_T89 ps (rd ks i)).f0.data.toList := by
 unfold textOf
 rw [show (i + 1).toNat = i.toNat + 1 by omega, List.take_succ_eq_append_getElem h, List.flatMap_append]
 have er : rd ks i = ks[i.toNat] := getD_at ks _ i h
 rw [er]
 simp
theorem textOf_len (ps : List IK) (hz : ∀ k : Int, (rd_T89 ps k).f0.size ≤ 24) : ∀ ks : List Int, (textOf ps ks).length ≤ 24 * ks.length := by
 intro ks
 induction ks with
 | nil => exact Nat.le_refl _
 | cons k r ih =>
  have e : textOf ps (k :: r) = (rd_T89 ps k).f0.data.toList ++ textOf ps r := rfl
  rw [e, List.length_append, Array.length_toList, List.length_cons]
  have h1 := hz k
  have h2 : (rd_T89 ps k).f0.data.size = (rd_T89 ps k).f0.size := rfl
  omega
theorem ba_app (l : List UInt8) (s : ByteArray) : (⟨l.toArray⟩ : ByteArray) ++ s = ⟨(l ++ s.data.toList).toArray⟩ := by
 refine ByteArray.ext ?_
 rw [ByteArray.data_append]
 simp
theorem ba_size (l : List UInt8) : (⟨l.toArray⟩ : ByteArray).size = l.length := by simp [ByteArray.size]
theorem spec_text (ps : List IK) (fs : List IF) (ks : List Int) (hz : ∀ k : Int, (rd_T89 ps k).f0.size ≤ 24) (hl : ks.length ≤ 200) (hk : ∀ k ∈ ks, 0 ≤ k ∧ k < ps.length) :
  Ev (fun k => spec_l15Text.f k ps fs ks) (⟨(textOf ps ks).toArray⟩ : ByteArray) := by
 unfold spec_l15Text.f
 obtain ⟨s, hs, h⟩ := st_loop (fun k (x : ByteArray) i => spec_l15Text.l0 k x ks (ks.length : Int) i ps fs) ks.length (fun i x => x = ⟨(textOf ps (ks.take i.toNat)).toArray⟩)
  (fun s i h0 h1 hs => by
   subst hs
   have hi : i.toNat < ks.length := by omega
   have er : rd ks i = ks[i.toNat] := getD_at ks _ i hi
   have hin := hk _ (List.getElem_mem hi)
   rw [← er] at hin
   refine ⟨_, rfl, fun r hr => Ev.step (fun _ => spec_l15Text.l0.eq_2 ..) (ev_pos h1 (ev_pos h0 (ev_pos h1 (ev_pos hin.1 (ev_pos hin.2 (ev_pos ?_ ?_))))))⟩
   ·have h2 := textOf_len ps hz (ks.take i.toNat)
    have h3 := hz (rd ks i)
    rw [ba_size]
    rw [List.length_take] at h2
    omega
   ·rw [w64 (x := i + 1) (by omega) (by omega), ba_app, ← textOf_take ps ks i h0 hi]
    exact hr) ⟨#[]⟩ rfl
 subst hs
 refine h _ (Ev.step (fun _ => spec_l15Text.l0.eq_2 ..) (ev_neg (by omega) (ev_ret ?_)))
 rw [Int.toNat_natCast, List.take_length]
theorem joinB_map (ps : List IK) (ks : List Int) : joinB (ks.map fun k => (rd_T89 ps k).f0) = textOf ps ks := by
 unfold joinB textOf
 rw [List.flatMap_map]
theorem impl_text (ps : List IK) (fs : List IF) (a : Int) (h0 : 0 ≤ a) (h1 : a < fs.length) (hz : ∀ k : Int, (rd_T89 ps k).f0.size ≤ 24) (hf : ∀ f ∈ fs, f.f0.length ≤ 200 ∧ ∀ k ∈ f.f0, 0 ≤ k ∧ k < ps.length) :
  Ev (fun k => impl_textIn.f k ps fs a) (⟨(textOf ps (rd_T87 fs a).f0).toArray⟩ : ByteArray) := by
 unfold impl_textIn.f
 have ha : a.toNat < fs.length := by omega
 have ea : rd_T87 fs a = fs[a.toNat] := getD_at fs _ a ha
 have hfa := hf _ (List.getElem_mem ha)
 rw [← ea] at hfa
 obtain ⟨ks, hks⟩ : ∃ ks, (rd_T87 fs a).f0 = ks := ⟨_, rfl⟩
 rw [hks] at hfa ⊢
 obtain ⟨hl, hk⟩ := hfa
 refine ev_pos h0 (ev_pos h1 ?_)
 obtain ⟨s, hs, h⟩ := st_loop (fun k (x : List ByteArray) i => impl_textIn.l0 k x ks (ks.length : Int) i ps fs) ks.length (fun i x => x = (ks.take i.toNat).map fun k => (rd_T89 ps k).f0)
  (fun s i h0 h1 hs => by
   subst hs
   have hi : i.toNat < ks.length := by omega
   have er : rd ks i = ks[i.toNat] := getD_at ks _ i hi
   have hin := hk _ (List.getElem_mem hi)
   rw [← er] at hin
   refine ⟨_, rfl, fun r hr => Ev.step (fun _ => impl_textIn.l0.eq_2 ..) (ev_pos h1 (ev_pos h0 (ev_pos h1 (ev_pos hin.1 (ev_pos hin.2 (ev_pos ?_ ?_))))))⟩
   ·rw [List.length_map, List.length_take]
    omega
   ·rw [w64 (x := i + 1) (by omega) (by omega)]
    rw [show (i + 1).toNat = i.toNat + 1 by omega, List.take_succ_eq_append_getElem hi, List.map_append, ← er] at hr
    exact hr) [] rfl
 subst hs
 rw [Int.toNat_natCast, List.take_length] at h
 refine h _ (Ev.step (fun _ => impl_textIn.l0.eq_2 ..) (ev_neg (by omega) (ev_bindc (a := (⟨(textOf ps ks).toArray⟩ : ByteArray)) ?_ (ev_ret rfl))))
 unfold strings_Join.f
 have h2 := textOf_len ps hz ks
 rw [joinB_map, if_pos ⟨rfl, by omega⟩]
theorem l1In_eq (a b c : Int) : spec_l1In.f a b c = some (decide (b ≤ a ∧ a ≤ c)) := by
 unfold spec_l1In.f
 by_cases h : a ≥ b
 ·by_cases h2 : a ≤ c
  ·simp [h, h2] <;> omega
  ·simp [h, h2]
 ·simp [h] <;> omega
theorem within_eq (a b c : Int) : impl_within.f a b c = some (decide (b ≤ a ∧ a ≤ c)) := by
 unfold impl_within.f
 by_cases h : a ≥ b
 ·by_cases h2 : a ≤ c
  ·simp [h, h2] <;> omega
  ·simp [h, h2]
 ·simp [h] <;> omega
end Go.Proofs.Ytjepecinpgjgdaa.ZVau
