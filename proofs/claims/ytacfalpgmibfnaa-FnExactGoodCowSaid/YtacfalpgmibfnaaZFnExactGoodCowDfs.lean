import Derived.Test.YtacfalpgmibfnaaZFnExactGoodCowInv
import Derived.Test.YtacfalpgmibfnaaXFnExactGoodCowLev
/-! GoodCow, plain law: the specification's two searches, depth first, against Inv. -/
namespace Go.Proofs.Ytacfalpgmibfnaa.PFnExactGoodCow
open Go.RowKit Go.Proofs.YtacfalpgmibfnaaW.PrintWords Go.Proofs.YtacfalpgmibfnaaW.PrintLast Go.Proofs.YtacfalpgmibfnaaW.PrintMore Go.Proofs.Ytacfalpgmibfnaa.E
set_option linter.unusedSimpArgs false
set_option linter.unusedVariables false
def Bad (C : List S68) (roots : List Int) (L : Int) : Prop := ∀ V c v, ¬ Inv C roots L V [] c v
theorem loopK_ok {F : Int → List Int → Option (Bool × List Int)} {ok : Int → Prop} {n : Nat} (hF : ∀ z, ok z → ∀ s : List Int, s.length = n → ∃ s', F z s = some (true, s') ∧ s'.length = n) :
    ∀ (ks : List Int) (s : List Int), (∀ z ∈ ks, ok z) → s.length = n → ∃ s', loopK F ks s = some (true, s') ∧ s'.length = n
  | [], s, _, hs => ⟨s, rfl, hs⟩
  | z :: r, s, h, hs => by
    obtain ⟨s1, e1, h1⟩ := hF z (h z (by simp)) s hs
    obtain ⟨s2, e2, h2⟩ := loopK_ok hF r s1 (fun y hy => h y (by simp [hy])) h1
    exact ⟨s2, by simp only [loopK, e1, Option.bind_some, if_true]; exact e2, h2⟩
theorem loopK_tot {F : Int → List Int → Option (Bool × List Int)} {n : Nat} (hF : ∀ z, ∀ s : List Int, s.length = n → ∃ b s', F z s = some (b, s') ∧ s'.length = n) :
    ∀ (ks : List Int) (s : List Int), s.length = n → ∃ b s', loopK F ks s = some (b, s') ∧ s'.length = n
  | [], s, hs => ⟨true, s, rfl, hs⟩
  | z :: r, s, hs => by
    obtain ⟨b, s1, e1, h1⟩ := hF z s hs
    cases b with
    | true =>
      obtain ⟨b2, s2, e2, h2⟩ := loopK_tot hF r s1 h1
      exact ⟨b2, s2, by simp only [loopK, e1, Option.bind_some, if_true]; exact e2, h2⟩
    | false => exact ⟨false, s1, by simp [loopK, e1], h1⟩
theorem deep_tot (C : List S68) : ∀ (lev : Nat) (k : Int) (seen : List Int), seen.length = C.length → ∃ b s', deepM C (lev + 1) k seen = some (b, s') ∧ s'.length = C.length := by
  intro lev
  induction lev with
  | zero =>
    intro k seen hs
    simp only [deepM]
    by_cases hk : k = -1
    · rw [if_pos hk]; exact ⟨_, _, rfl, hs⟩
    rw [if_neg hk]
    by_cases hin : 0 ≤ k ∧ k ≤ (C.length : Int) - 1
    · rw [if_pos hin, if_pos (by omega)]
      split
      · exact ⟨_, _, rfl, by simp [hs]⟩
      · exact ⟨_, _, rfl, by simp [hs]⟩
    · rw [if_neg hin]; exact ⟨_, _, rfl, hs⟩
  | succ m ih =>
    intro k seen hs
    rw [deepM]
    by_cases hk : k = -1
    · rw [if_pos hk]; exact ⟨_, _, rfl, hs⟩
    rw [if_neg hk]
    by_cases hin : 0 ≤ k ∧ k ≤ (C.length : Int) - 1
    · rw [if_pos hin, if_pos (by omega)]
      dsimp only
      split
      · exact ⟨_, _, rfl, by simp [hs]⟩
      · rw [if_neg (by omega)]
        obtain ⟨b, s2, e2, h2⟩ := loopK_tot (F := deepM C (m + 1)) ih (rd_T68 C k).f2 (seen.set k.toNat (wrap64 (rd seen k + 1))) (by simp [hs])
        rw [e2, Option.bind_some]
        cases b with
        | true => exact ⟨_, _, rfl, h2⟩
        | false => exact ⟨_, _, rfl, h2⟩
    · rw [if_neg hin]; exact ⟨_, _, rfl, hs⟩
section
variable {C : List S68} {roots : List Int} {L : Int}
theorem good_leaf {n : Nat} {x : S68} : goodB n x 1 = okLeaf x := by
  unfold goodB okLeaf
  rw [if_pos rfl]
  by_cases h : x.f2.length = 0 <;> by_cases h2 : 1 ≤ (x.f1.size : Int) ∧ (x.f1.size : Int) ≤ 8 <;> simp [h, h2]
theorem good_node {n : Nat} {x : S68} {lev : Int} (h : goodB n x lev = true) (hl : lev ≠ 1) : okNode x = true := by
  unfold goodB at h
  rw [if_neg hl] at h
  unfold okNode
  by_cases h0 : x.f1.size = 0
  · rw [if_pos h0] at h
    by_cases h4 : (x.f2.length : Int) = 4
    · rw [if_pos h4] at h
      cases hb : badKid n x.f2 with
      | true => rw [hb, if_pos rfl] at h; cases h
      | false => rw [hb, if_neg (by simp)] at h; rw [h, if_pos rfl, if_pos h4, decide_eq_true h0]
    · rw [if_neg h4] at h; cases h
  · rw [if_neg h0] at h; cases h
theorem node_good {n : Nat} {x : S68} {lev : Int} (h : okNode x = true) (hl : lev ≠ 1) (hb : ∀ z ∈ x.f2, isNum n z = true) : goodB n x lev = true := by
  unfold okNode at h
  cases hs : someKid x.f2 with
  | false => rw [hs, if_neg (by simp)] at h; cases h
  | true =>
    rw [hs, if_pos rfl] at h
    by_cases h4 : (x.f2.length : Int) = 4
    · rw [if_pos h4] at h
      unfold goodB
      have hbk : badKid n x.f2 = false := by
        cases hbb : badKid n x.f2 with
        | false => rfl
        | true =>
          obtain ⟨z, hz, e⟩ := List.any_eq_true.1 hbb
          rw [hb z hz] at e
          cases e
      rw [if_neg hl, if_pos (of_decide_eq_true h), if_pos h4, hbk, if_neg (by simp), hs]
    · rw [if_neg h4] at h; cases h
theorem deep_ok {V : List Int} {c v : List Int} (hv : Inv C roots L V [] c v) : ∀ (lev : Nat) (k : Int), RefOK C v (k, (lev : Int) + 1) → ∀ (seen : List Int), seen.length = C.length → ∃ s', deepM C (lev + 1) k seen = some (true, s') ∧ s'.length = C.length := by
  intro lev
  induction lev with
  | zero =>
    intro k hk seen hs
    rw [deepM]
    rcases hk with hk | ⟨h0, h1, h2, h3⟩
    · simp only at hk; rw [if_pos hk]; exact ⟨_, rfl, hs⟩
    simp only at h0 h1 h2 h3
    rw [if_neg (by omega), if_pos (by omega), if_pos (by omega)]
    dsimp only
    split
    · exact ⟨_, rfl, by simp [hs]⟩
    · have hg := (hv.good k ((hv.vl k h0 h1).1 (by rw [h2]; exact h3))).1
      rw [h2, show ((0 : Nat) : Int) + 1 = 1 by omega, good_leaf] at hg
      rw [if_pos rfl, hg]
      exact ⟨_, rfl, by simp [hs]⟩
  | succ m ih =>
    intro k hk seen hs
    rw [deepM]
    rcases hk with hk | ⟨h0, h1, h2, h3⟩
    · simp only at hk; rw [if_pos hk]; exact ⟨_, rfl, hs⟩
    simp only at h0 h1 h2 h3
    rw [if_neg (by omega), if_pos (by omega), if_pos (by omega)]
    dsimp only
    split
    · exact ⟨_, rfl, by simp [hs]⟩
    · rw [if_neg (by omega)]
      have hkV := (hv.vl k h0 h1).1 (by rw [h2]; exact h3)
      have hg := (hv.good k hkV).1
      obtain ⟨s2, e2, hl2⟩ := loopK_ok (F := deepM C (m + 1)) (ok := fun z => RefOK C v (z, (m : Int) + 1)) (fun z hz s hs => ih z hz s hs) (rd_T68 C k).f2 (seen.set k.toNat (wrap64 (rd seen k + 1))) (fun z hz => by
        rcases hv.kid k hkV z hz with e | e
        · rw [h2, show ((m + 1 : Nat) : Int) + 1 - 1 = (m : Int) + 1 by omega] at e
          exact e
        · cases e) (by simp [hs])
      rw [e2, Option.bind_some]
      simp only [if_true]
      rw [good_node hg (by rw [h2]; omega)]
      exact ⟨_, rfl, hl2⟩
theorem deep_num {m : Nat} : ∀ (ks seen s' : List Int), loopK (deepM C (m + 1)) ks seen = some (true, s') → ∀ z ∈ ks, isNum C.length z = true
  | [], _, _, _ => by simp
  | y :: r, seen, s', h => by
    simp only [loopK] at h
    obtain ⟨⟨b, s1⟩, e1, e2⟩ := Option.bind_eq_some_iff.1 h
    cases b with
    | false => simp at e2
    | true =>
      intro z hz
      rcases List.mem_cons.1 hz with rfl | hz
      · rw [deepM] at e1
        unfold isNum
        by_cases hk : z = -1
        · exact decide_eq_true (by omega)
        · rw [if_neg hk] at e1
          by_cases hin : 0 ≤ z ∧ z ≤ (C.length : Int) - 1
          · exact decide_eq_true (by omega)
          · rw [if_neg hin] at e1
            simp at e1
      · exact deep_num r s1 s' (by simpa using e2) z hz
end
end Go.Proofs.Ytacfalpgmibfnaa.PFnExactGoodCow
