import Derived.Test.YtacfalpgmibfnaaZFnExactGoodCowDfs
/-! GoodCow, plain law: the specification's two searches in step. -/
namespace Go.Proofs.Ytacfalpgmibfnaa.PFnExactGoodCow
open Go.RowKit Go.Proofs.YtacfalpgmibfnaaW.PrintWords Go.Proofs.YtacfalpgmibfnaaW.PrintLast Go.Proofs.YtacfalpgmibfnaaW.PrintMore Go.Proofs.Ytacfalpgmibfnaa.E
set_option linter.unusedSimpArgs false
set_option linter.unusedVariables false
section
variable {C : List S68} {roots : List Int} {L : Int}
def LockAt (C : List S68) (roots : List Int) (L : Int) (m : Nat) : Prop := ∀ (k : Int) (seen at_ : List Int) (P : List (Int × Int)) (V : List Int) (seen' : List Int), Inv C roots L V ((k, (m : Int) + 1) :: P) seen at_ → deepM C (m + 1) k seen = some (true, seen') →
  ∃ b at', levM C (m + 1) k at_ = some (b, at') ∧ (b = true → ∃ V', Inv C roots L V' P seen' at') ∧ (b = false → Bad C roots L)
theorem lock_loop {m : Nat} (ih : LockAt C roots L m) : ∀ (ks seen at_ : List Int) (P : List (Int × Int)) (V : List Int) (seen' : List Int), Inv C roots L V (ks.map (fun z => (z, (m : Int) + 1)) ++ P) seen at_ → loopK (deepM C (m + 1)) ks seen = some (true, seen') →
    ∃ b at', loopK (levM C (m + 1)) ks at_ = some (b, at') ∧ (b = true → ∃ V', Inv C roots L V' P seen' at') ∧ (b = false → Bad C roots L)
  | [], seen, at_, P, V, seen', hI, h => by
    simp only [loopK, Option.some.injEq, Prod.mk.injEq, true_and] at h
    subst h
    exact ⟨true, at_, rfl, fun _ => ⟨V, hI⟩, by simp⟩
  | z :: r, seen, at_, P, V, seen', hI, h => by
    simp only [loopK] at h
    obtain ⟨⟨b, s1⟩, e1, e2⟩ := Option.bind_eq_some_iff.1 h
    cases b with
    | false => simp at e2
    | true =>
      obtain ⟨b, a1, f1, f2, f3⟩ := ih z seen at_ (r.map (fun z => (z, (m : Int) + 1)) ++ P) V s1 hI e1
      cases b with
      | false => exact ⟨false, a1, by simp [loopK, f1], by simp, f3⟩
      | true =>
        obtain ⟨V1, hI1⟩ := f2 rfl
        obtain ⟨b, a2, g1, g2, g3⟩ := lock_loop ih r s1 a1 P V1 seen' hI1 (by simpa using e2)
        exact ⟨b, a2, by simp only [loopK, f1, Option.bind_some, if_true]; exact g1, g2, g3⟩
theorem lock (hL : 1 ≤ L) (hr : roots.length ≤ 1000) (hn : C.length ≤ 1000) : ∀ m : Nat, LockAt C roots L m := by
  intro m
  induction m with
  | zero =>
    intro k seen at_ P V seen' hI h
    rw [deepM] at h
    rw [levM]
    have hls := hI.lc
    have hla := hI.ll
    by_cases hk : k = -1
    · subst hk
      rw [if_pos rfl] at h ⊢
      simp only [Option.some.injEq, Prod.mk.injEq, true_and] at h
      subst h
      exact ⟨true, at_, rfl, fun _ => ⟨V, hI.skip⟩, by simp⟩
    by_cases hin : 0 ≤ k ∧ k ≤ (C.length : Int) - 1
    · have h0 : 0 ≤ k := hin.1
      have h1 : k < (C.length : Int) := by omega
      have hb := hI.bound k h0 h1
      rw [if_neg hk, if_pos hin, if_pos (by omega), w64 (by omega) (by omega)] at h
      dsimp only at h
      rw [if_neg hk, if_pos (by omega)]
      by_cases hV : k ∈ V
      · have p := (hI.pos k h0 h1).1 hV
        have p2 := (hI.vl k h0 h1).2 hV
        rw [if_pos (by omega)] at h
        simp only [Option.some.injEq, Prod.mk.injEq, true_and] at h
        subst h
        rw [if_neg p2]
        by_cases he : rd at_ k = ((0 : Nat) : Int) + 1
        · rw [if_pos he]
          exact ⟨true, at_, rfl, fun _ => ⟨V, hI.old h0 h1 he (by omega) rfl⟩, by simp⟩
        · rw [if_neg he]
          refine ⟨false, at_, rfl, by simp, fun _ V' c' v hv => ?_⟩
          rcases hI.refs hv (k, ((0 : Nat) : Int) + 1) (by simp) with e | ⟨_, _, e, _⟩
          · exact hk e
          · exact he ((hI.cons hv k hV).1.symm.trans e)
      · have p := (hI.pos k h0 h1).2 hV
        have p2 : rd at_ k = 0 := by
          by_cases e : rd at_ k = 0
          · exact e
          · exact absurd ((hI.vl k h0 h1).1 e) hV
        rw [if_neg (by omega), if_pos rfl] at h
        simp only [Option.some.injEq, Prod.mk.injEq] at h
        obtain ⟨hg, rfl⟩ := h
        rw [← good_leaf (n := C.length)] at hg
        have hk2 := (goodB_kids hg).2.1 rfl
        rw [if_pos p2, if_pos h1, hk2]
        refine ⟨true, _, rfl, fun _ => ⟨V ++ [k], ?_⟩, by simp⟩
        have := hI.new hL h0 h1 p2 (by simpa using hg) rfl
        unfold kidsOf at this
        rw [hk2] at this
        exact this
    · rw [if_neg hk, if_neg hin] at h
      simp at h
  | succ m ih =>
    intro k seen at_ P V seen' hI h
    rw [deepM] at h
    rw [levM]
    have hls := hI.lc
    have hla := hI.ll
    by_cases hk : k = -1
    · subst hk
      rw [if_pos rfl] at h ⊢
      simp only [Option.some.injEq, Prod.mk.injEq, true_and] at h
      subst h
      exact ⟨true, at_, rfl, fun _ => ⟨V, hI.skip⟩, by simp⟩
    by_cases hin : 0 ≤ k ∧ k ≤ (C.length : Int) - 1
    · have h0 : 0 ≤ k := hin.1
      have h1 : k < (C.length : Int) := by omega
      have hb := hI.bound k h0 h1
      rw [if_neg hk, if_pos hin, if_pos (by omega), w64 (by omega) (by omega)] at h
      dsimp only at h
      rw [if_neg hk, if_pos (by omega)]
      by_cases hV : k ∈ V
      · have p := (hI.pos k h0 h1).1 hV
        have p2 := (hI.vl k h0 h1).2 hV
        rw [if_pos (by omega)] at h
        simp only [Option.some.injEq, Prod.mk.injEq, true_and] at h
        subst h
        rw [if_neg p2]
        by_cases he : rd at_ k = ((m + 1 : Nat) : Int) + 1
        · rw [if_pos he]
          exact ⟨true, at_, rfl, fun _ => ⟨V, hI.old h0 h1 he (by omega) rfl⟩, by simp⟩
        · rw [if_neg he]
          refine ⟨false, at_, rfl, by simp, fun _ V' c' v hv => ?_⟩
          rcases hI.refs hv (k, ((m + 1 : Nat) : Int) + 1) (by simp) with e | ⟨_, _, e, _⟩
          · exact hk e
          · exact he ((hI.cons hv k hV).1.symm.trans e)
      · have p := (hI.pos k h0 h1).2 hV
        have p2 : rd at_ k = 0 := by
          by_cases e : rd at_ k = 0
          · exact e
          · exact absurd ((hI.vl k h0 h1).1 e) hV
        rw [if_neg (by omega), if_neg (by omega)] at h
        obtain ⟨⟨b1, s2⟩, e1, e2⟩ := Option.bind_eq_some_iff.1 h
        cases b1 with
        | false => simp at e2
        | true =>
          simp only [if_true, Option.some.injEq, Prod.mk.injEq] at e2
          obtain ⟨hnode, rfl⟩ := e2
          have hg := node_good (lev := ((m + 1 : Nat) : Int) + 1) hnode (by omega) (deep_num _ _ _ e1)
          rw [if_pos p2, if_pos h1]
          have hI2 := hI.new hL h0 h1 p2 hg rfl
          rw [show ((m + 1 : Nat) : Int) + 1 - 1 = (m : Int) + 1 by omega] at hI2
          exact lock_loop ih _ _ _ P _ _ hI2 e1
    · rw [if_neg hk, if_neg hin] at h
      simp at h
end
end Go.Proofs.Ytacfalpgmibfnaa.PFnExactGoodCow
