import Derived.Test.YtacfalpgmibfnaaZCowOwnPure
import Derived.Test.YtacfalpgmibfnaaXCowSpecDrop
import Derived.Test.YtacfalpgmibfnaaXCowDropI
/-! DropPicture, plain law. -/
namespace Go.Proofs.Ytacfalpgmibfnaa.PCow
open Go.RowKit Go.Proofs.YtacfalpgmibfnaaW.PrintWords Go.Proofs.YtacfalpgmibfnaaW.PrintLast Go.Proofs.YtacfalpgmibfnaaW.PrintMore Go.Proofs.Ytacfalpgmibfnaa.E
set_option linter.unusedSimpArgs false
set_option linter.unusedVariables false
section
variable {C : List CL} {roots : List Int} {L : Int}
def KidsOf (C D : List CL) : Prop := D.length = C.length ∧ ∀ j : Int, 0 ≤ j → j < (C.length : Int) → (rd_T68 D j).f2 = (rd_T68 C j).f2 ∨ (rd_T68 D j).f2 = []
theorem rd_cl_at {xs : List CL} {j : Int} (h0 : 0 ≤ j) (h : j < (xs.length : Int)) : ∃ (hl : j.toNat < xs.length), rd_T68 xs j = xs[j.toNat] := by
  have hl : j.toNat < xs.length := by omega
  exact ⟨hl, by rw [rd_cl, List.getD_eq_getElem?_getD, List.getElem?_eq_getElem hl]; rfl⟩
theorem rd_cl_set_self {xs : List CL} {j : Int} (h0 : 0 ≤ j) (h : j < (xs.length : Int)) (x : CL) : rd_T68 (xs.set j.toNat x) j = x := by
  have := rd_cl_set (xs := xs) (q := j.toNat) (by omega) x
  rwa [show ((j.toNat : Nat) : Int) = j by omega] at this
theorem rd_cl_set_ne {xs : List CL} {j k : Int} (h0 : 0 ≤ j) (h1 : 0 ≤ k) (hne : j ≠ k) (x : CL) : rd_T68 (xs.set k.toNat x) j = rd_T68 xs j := by
  rw [rd_cl, rd_cl, List.getD_eq_getElem?_getD, List.getElem?_set_ne (by omega), List.getD_eq_getElem?_getD]
theorem KidsOf.set {D : List CL} (h : KidsOf C D) {k : Int} (h0 : 0 ≤ k) (h1 : k < (C.length : Int)) (x : CL) (hx : x.f2 = (rd_T68 D k).f2 ∨ x.f2 = []) : KidsOf C (D.set k.toNat x) := by
  refine ⟨by rw [List.length_set]; exact h.1, fun j j0 j1 => ?_⟩
  by_cases e : j = k
  · subst e
    rw [rd_cl_set_self j0 (by rw [h.1]; exact j1)]
    rcases hx with e | e
    · rw [e]; exact h.2 j j0 j1
    · exact .inr e
  · rw [rd_cl_set_ne j0 h0 e]
    exact h.2 j j0 j1
theorem KidsOf.refl (C : List CL) : KidsOf C C := ⟨rfl, fun _ _ _ => .inl rfl⟩
theorem KidsOf.bound {D : List CL} (h : KidsOf C D) (hk : ∀ x ∈ C, x.f2.length ≤ 1048576) : ∀ x ∈ D, x.f2.length ≤ 1048576 := by
  intro x hx
  obtain ⟨i, hi, rfl⟩ := List.getElem_of_mem hx
  have hi2 : (i : Int) < (C.length : Int) := by rw [← h.1]; omega
  obtain ⟨hl, e⟩ := rd_cl_at (xs := D) (j := (i : Int)) (by omega) (by omega)
  obtain ⟨hl2, e2⟩ := rd_cl_at (xs := C) (j := (i : Int)) (by omega) hi2
  have e3 : D[i] = rd_T68 D (i : Int) := by rw [e]; simp
  rw [e3]
  rcases h.2 (i : Int) (by omega) hi2 with e4 | e4
  · rw [e4, e2]
    exact hk _ (List.getElem_mem _)
  · rw [e4]; simp
theorem loopD_tot {F : List CL → Int → Option (List CL)} {P : List CL → Prop} {ok : Int → Prop} (hF : ∀ z, ok z → ∀ D, P D → ∃ D', F D z = some D' ∧ P D') : ∀ (ks : List Int), (∀ z ∈ ks, ok z) → ∀ D, P D → ∃ D', loopD F ks D = some D' ∧ P D'
  | [], _, D, hD => ⟨D, rfl, hD⟩
  | z :: r, h, D, hD => by
    obtain ⟨D1, e1, h1⟩ := hF z (h z (by simp)) D hD
    obtain ⟨D2, e2, h2⟩ := loopD_tot hF r (fun y hy => h y (by simp [hy])) D1 h1
    exact ⟨D2, by simp only [loopD, e1, Option.bind_some]; exact e2, h2⟩
theorem drop_tot {V c v : List Int} (hI : Inv C roots L V [] c v) : ∀ (m f : Nat), m < f → ∀ (k : Int), RefOK C v (k, (m : Int)) → ∀ D, KidsOf C D → ∃ D', dropM f D k = some D' ∧ KidsOf C D' := by
  intro m
  induction m with
  | zero =>
    intro f hf k hk D hD
    obtain rfl := hk.zero
    obtain ⟨f, rfl⟩ : ∃ g, f = g + 1 := ⟨f - 1, by omega⟩
    exact ⟨D, by simp [dropM], hD⟩
  | succ m ih =>
    intro f hf k hk D hD
    obtain ⟨f, rfl⟩ : ∃ g, f = g + 1 := ⟨f - 1, by omega⟩
    by_cases hk1 : k = -1
    · subst hk1
      exact ⟨D, by simp [dropM], hD⟩
    · obtain ⟨h0, h1, _, _, _, _, h7⟩ := hI.below (m := m) (by simpa using hk) hk1
      have hl := hD.1
      rw [dropM, if_neg (by omega), if_pos (by omega)]
      by_cases hx : wrap64 ((rd_T68 D k).f0 - 1) > 0
      · rw [if_pos hx]
        exact ⟨_, rfl, hD.set h0 h1 _ (.inl rfl)⟩
      · rw [if_neg hx]
        refine loopD_tot (ok := fun z => RefOK C v (z, (m : Int))) (fun z hz D2 h2 => ih f (by omega) z hz D2 h2) _ (fun z hz => ?_) _ (hD.set h0 h1 z68 (.inr rfl))
        rcases hD.2 k h0 h1 with e | e
        · rw [e] at hz; exact h7 z hz
        · rw [e] at hz; cases hz
end
theorem drop_both (C : List CL) (roots : List Int) (L a : Int) (hk : ∀ x ∈ C, x.f2.length ≤ 1048576) : ∃ C1 R1 L1 b, C1.length ≤ 80 ∧ R1.length ≤ 8 ∧ (∀ x ∈ C1, x.f2.length ≤ 1048576) ∧ Ev (fun k => spec_DropPicture.f k C roots L a) (C1, R1, L1, b) ∧ Ev (fun k => impl_DropPicture.f k C roots L a) (C1, R1, L1, b) := by
  obtain ⟨g, hb1, hb2⟩ := spec_impl C roots L
  unfold spec_DropPicture.f impl_DropPicture.f
  cases g with
  | false => exact ⟨[], [], 0, false, by simp, by simp, by simp, Ev.bind hb1 (ev_false rfl (ev_ret rfl)), ev_bindc (is_root C roots L a false (by simp) hb2) (ev_false rfl (ev_ret rfl))⟩
  | true =>
    obtain ⟨hL1, hL3, hn, hr1, hr8, V, c, v, hI, _⟩ := good_tree hb2
    have hR := is_root C roots L a true (fun _ => hr8) hb2
    have hS := l1In_root a roots hr8
    by_cases ha : 0 ≤ a ∧ a < (roots.length : Int)
    · have da := decide_eq_true ha
      by_cases h1 : (roots.length : Int) = 1
      · exact ⟨[], [], 0, false, by simp, by simp, by simp, Ev.bind hb1 (ev_true rfl (ev_bindc hS (ev_true da (ev_pos h1 (ev_ret rfl))))), ev_bindc hR (ev_true (by rw [da]; rfl) (ev_pos (by omega) (ev_ret rfl)))⟩
      · obtain ⟨D, e, hD⟩ := drop_tot hI L.toNat 5 (by omega) (rd roots a) (by rw [show ((L.toNat : Nat) : Int) = L by omega]; exact root_ref hI a ha.1 ha.2) C (KidsOf.refl C)
        refine ⟨D, roots.eraseIdx a.toNat, L, true, by have := hD.1; omega, by have := List.length_eraseIdx_le roots a.toNat; omega, hD.bound hk, Ev.bind hb1 (ev_true rfl (ev_bindc hS (ev_true da (ev_neg h1 (ev_pos ha (Ev.bind (own_ev C roots L (by omega) hk (by omega)) (ev_const ?_))))))), ev_bindc hR (ev_true (by rw [da]; rfl) (ev_neg (by omega) (ev_const ?_)))⟩
        · unfold dropS
          simp only
          rw [if_pos (by omega), if_pos ha, e, Option.bind_some, List.eraseIdx_eq_take_drop_succ]
        · unfold dropI
          rw [if_pos (ownB_of (by omega) (by omega) hk), if_pos ha, e, Option.bind_some]
    · have da := decide_eq_false ha
      exact ⟨[], [], 0, false, by simp, by simp, by simp, Ev.bind hb1 (ev_true rfl (ev_bindc hS (ev_false da (ev_ret rfl)))), ev_bindc hR (ev_false (by rw [da]; rfl) (ev_ret rfl))⟩
end Go.Proofs.Ytacfalpgmibfnaa.PCow
