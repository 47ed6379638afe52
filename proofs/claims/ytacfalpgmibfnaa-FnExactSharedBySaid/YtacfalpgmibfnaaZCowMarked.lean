import Derived.Test.YtacfalpgmibfnaaZCowGood
import Derived.Test.YtacfalpgmibfnaaYCowspecSharedBy
import Derived.Test.YtacfalpgmibfnaaYCowimplSharedBy
/-! SharedBy, plain law: both searches mark the same cells. -/
namespace Go.Proofs.Ytacfalpgmibfnaa.PCow
open Go.RowKit Go.Proofs.YtacfalpgmibfnaaW.PrintWords Go.Proofs.YtacfalpgmibfnaaW.PrintLast Go.Proofs.YtacfalpgmibfnaaW.PrintMore Go.Proofs.Ytacfalpgmibfnaa.E
set_option linter.unusedSimpArgs false
set_option linter.unusedVariables false
section
variable {C : List S68} {roots : List Int} {L : Int}
theorem markB_loop {F : Int → List Bool → Option (List Bool)} {n : Nat} : ∀ (ks : List Int), (∀ z ∈ ks, ∀ s : List Bool, s.length = n → ∃ s', s'.length = n ∧ F z s = some s') → ∀ s : List Bool, s.length = n → ∃ s', s'.length = n ∧ loopB F ks s = some s'
  | [], _, s, hs => ⟨s, hs, rfl⟩
  | z :: r, h, s, hs => by
    obtain ⟨s1, h1, e1⟩ := h z (by simp) s hs
    obtain ⟨s2, h2, e2⟩ := markB_loop r (fun y hy => h y (by simp [hy])) s1 h1
    exact ⟨s2, h2, by simp only [loopB, e1, Option.bind_some]; exact e2⟩
theorem mark_at {V c v : List Int} (hI : Inv C roots L V [] c v) : ∀ (m : Nat) (k : Int) (s : List Bool), s.length = C.length → RefOK C v (k, (m : Int)) → ∃ s', s'.length = C.length ∧ markM C (m + 1) k s = some s' := by
  intro m
  induction m with
  | zero =>
    intro k s hs hk
    obtain rfl := hk.zero
    exact ⟨s, hs, by simp [markM]⟩
  | succ m ih =>
    intro k s hs hk
    by_cases hk1 : k = -1
    · subst hk1
      exact ⟨s, hs, by simp [markM]⟩
    · obtain ⟨h0, h1, _, h4, _, _, h7⟩ := hI.below (m := m) (by simpa using hk) hk1
      rw [markM, if_neg (by omega), if_pos (by omega)]
      cases hb : rdOf false s k with
      | true => exact ⟨s, hs, by rw [if_pos rfl]⟩
      | false =>
        rw [if_neg (by simp), if_pos h1]
        exact markB_loop _ (fun z hz t ht => ih z t ht (h7 z hz)) _ (by rw [List.length_set]; exact hs)
theorem markM_up (C : List S68) : ∀ (m : Nat) (k : Int) (s s' : List Bool), markM C m k s = some s' → markM C (m + 1) k s = some s' := by
  intro m
  induction m with
  | zero => intro k s s' h; simp [markM] at h
  | succ m ih =>
    intro k s s' h
    have hl : ∀ (ks : List Int) (s s' : List Bool), loopB (markM C m) ks s = some s' → loopB (markM C (m + 1)) ks s = some s' := by
      intro ks
      induction ks with
      | nil => intro s s' h; exact h
      | cons z r ihr =>
        intro s s' h
        simp only [loopB] at h ⊢
        obtain ⟨t, h1, h2⟩ := Option.bind_eq_some_iff.1 h
        rw [ih z s t h1, Option.bind_some]
        exact ihr t s' h2
    rw [markM] at h ⊢
    split at h
    · rename_i h1; rw [if_pos h1]; exact h
    · rename_i h1
      rw [if_neg h1]
      split at h
      · rename_i h2
        rw [if_pos h2]
        split at h
        · rename_i h3; rw [if_pos h3]; exact h
        · rename_i h3
          rw [if_neg h3]
          split at h
          · rename_i h4; rw [if_pos h4]; exact hl _ _ _ h
          · cases h
      · cases h
theorem markM_le {m n : Nat} (h : m ≤ n) {k : Int} {s s' : List Bool} (e : markM C m k s = some s') : markM C n k s = some s' := by
  obtain ⟨d, rfl⟩ := Nat.exists_eq_add_of_le h
  induction d with
  | zero => exact e
  | succ d ih => exact markM_up C _ _ _ _ (ih (by omega))
theorem both_loop (x y : List Bool) (n : Nat) (hn : n ≤ 80) (hx : x.length = n) (hy : y.length = n) : ∀ (f i : Nat) (a : Int), i + f = n → 0 ≤ a → a ≤ i → ∃ b, Ev (fun k => spec_SharedBy.l0 k x y a (n : Int) (i : Int)) (b, true) ∧ Ev (fun k => impl_SharedBy.l0 k x y a (n : Int) (i : Int)) (b, true) := by
  intro f
  induction f with
  | zero =>
    intro i a hi h0 h1
    exact ⟨a, Ev.step (fun _ => spec_SharedBy.l0.eq_2 ..) (ev_neg (by omega) (ev_ret rfl)), Ev.step (fun _ => impl_SharedBy.l0.eq_2 ..) (ev_neg (by omega) (ev_ret rfl))⟩
  | succ f ih =>
    intro i a hi h0 h1
    have e1 : wrap64 ((i : Int) + 1) = ((i + 1 : Nat) : Int) := by rw [w64 (by omega) (by omega)]; omega
    have e2 : wrap64 (a + 1) = a + 1 := w64 (by omega) (by omega)
    obtain ⟨b, h2, h3⟩ := ih (i + 1) a (by omega) (by omega) (by omega)
    cases hb : rdOf false x (i : Int) with
    | false =>
      refine ⟨b, Ev.step (fun _ => spec_SharedBy.l0.eq_2 ..) (ev_pos (by omega) (ev_pos (by omega) (ev_pos (by omega) (ev_false hb ?_)))), Ev.step (fun _ => impl_SharedBy.l0.eq_2 ..) (ev_pos (by omega) (ev_pos (by omega) (ev_pos (by omega) (ev_false hb ?_))))⟩
      · rw [e1]; exact h2
      · rw [e1]; exact h3
    | true =>
      cases hc : rdOf false y (i : Int) with
      | false =>
        refine ⟨b, Ev.step (fun _ => spec_SharedBy.l0.eq_2 ..) (ev_pos (by omega) (ev_pos (by omega) (ev_pos (by omega) (ev_true hb (ev_pos (by omega) (ev_false hc ?_)))))), Ev.step (fun _ => impl_SharedBy.l0.eq_2 ..) (ev_pos (by omega) (ev_pos (by omega) (ev_pos (by omega) (ev_true hb (ev_pos (by omega) (ev_false hc ?_))))))⟩
        · rw [e1]; exact h2
        · rw [e1]; exact h3
      | true =>
        obtain ⟨b, h2, h3⟩ := ih (i + 1) (a + 1) (by omega) (by omega) (by omega)
        refine ⟨b, Ev.step (fun _ => spec_SharedBy.l0.eq_2 ..) (ev_pos (by omega) (ev_pos (by omega) (ev_pos (by omega) (ev_true hb (ev_pos (by omega) (ev_true hc ?_)))))), Ev.step (fun _ => impl_SharedBy.l0.eq_2 ..) (ev_pos (by omega) (ev_pos (by omega) (ev_pos (by omega) (ev_true hb (ev_pos (by omega) (ev_true hc ?_))))))⟩
        · rw [e1, e2]; exact h2
        · rw [e1, e2]; exact h3
theorem marked {V c v : List Int} (hI : Inv C roots L V [] c v) (hL : 1 ≤ L) (hL3 : L ≤ 3) (a : Int) (h0 : 0 ≤ a) (h1 : a < (roots.length : Int)) : ∃ s', s'.length = C.length ∧ spec_l14Mark.f C roots L (rd roots a) (List.replicate C.length false) = some s' ∧ impl_Cow_reach.f C roots L (rd roots a) (List.replicate C.length false) = some s' := by
  obtain ⟨m, rfl⟩ : ∃ m : Nat, L = (m : Int) := ⟨L.toNat, by omega⟩
  obtain ⟨i, rfl⟩ : ∃ i : Nat, a = (i : Int) := ⟨a.toNat, by omega⟩
  obtain ⟨s', h2, h3⟩ := mark_at hI m (rd roots (i : Int)) (List.replicate C.length false) (by simp) (hI.root _ (by
    rw [rd_getD (by omega)]
    exact List.getElem_mem _))
  have h4 := markM_le (n := 5) (by omega) h3
  exact ⟨s', h2, h4, h4⟩
end
theorem shared_both (C : List S68) (roots : List Int) (L a b : Int) : ∃ p, Ev (fun k => spec_SharedBy.f k C roots L a b) p ∧ Ev (fun k => impl_SharedBy.f k C roots L a b) p := by
  obtain ⟨g, hb1, hb2⟩ := spec_impl C roots L
  unfold spec_SharedBy.f impl_SharedBy.f
  cases g with
  | false =>
    have hR := fun a => is_root C roots L a false (by simp) hb2
    exact ⟨(0, false), Ev.bind hb1 (ev_false rfl (Ev.step (fun _ => spec_SharedBy.j0.eq_2 ..) (ev_pos rfl (ev_ret rfl)))), ev_bindc (hR a) (ev_false rfl (Ev.step (fun _ => impl_SharedBy.j0.eq_2 ..) (ev_pos rfl (ev_ret rfl))))⟩
  | true =>
    obtain ⟨hL1, hL3, hn, hr1, hr8, V, c, v, hI, _⟩ := good_tree hb2
    have hR := fun a => is_root C roots L a true (fun _ => hr8) hb2
    have ew : wrap64 ((roots.length : Int) - 1) = (roots.length : Int) - 1 := w64 (by omega) (by omega)
    have hS : ∀ a, spec_l1In.f a 0 (wrap64 ((roots.length : Int) - 1)) = some (decide (0 ≤ a ∧ a < (roots.length : Int))) := fun a => by
      rw [ew, in_dec]
      congr 1
      rw [decide_eq_decide]
      omega
    by_cases ha : 0 ≤ a ∧ a < (roots.length : Int)
    · have da := decide_eq_true ha
      by_cases hb : 0 ≤ b ∧ b < (roots.length : Int)
      · have db := decide_eq_true hb
        obtain ⟨x, x1, x2, x3⟩ := marked hI hL1 hL3 a ha.1 ha.2
        obtain ⟨y, y1, y2, y3⟩ := marked hI hL1 hL3 b hb.1 hb.2
        obtain ⟨n, n1, n2⟩ := both_loop x y C.length hn x1 y1 C.length 0 0 (by omega) (by omega) (by omega)
        have e1 : ((C.length : Int)).toNat = C.length := by omega
        have e2 : (((List.replicate C.length false).length : Nat) : Int) = (C.length : Int) := by simp
        refine ⟨(n, true), Ev.bind hb1 (ev_true rfl (ev_bindc (hS a) (ev_true da (ev_bindc (hS b) (Ev.step (fun _ => spec_SharedBy.j0.eq_2 ..) (ev_neg (by simp [hb.1, hb.2]) (ev_pos (by omega) (ev_pos (by omega) (ev_some ?_))))))))), ev_bindc (hR a) (ev_true (by rw [da]; rfl) (ev_bindc (hR b) (Ev.step (fun _ => impl_SharedBy.j0.eq_2 ..) (ev_neg (by simp [hb.1, hb.2]) (ev_pos (by omega) (ev_pos (by omega) (ev_some ?_)))))))⟩
        · rw [e1, e2]
          exact ev_pos ha.1 (ev_pos ha.2 (ev_bindc x2 (ev_pos hb.1 (ev_pos hb.2 (ev_bindc y2 n1)))))
        · rw [e1, e2]
          exact ev_pos ha.1 (ev_pos ha.2 (ev_bindc x3 (ev_pos hb.1 (ev_pos hb.2 (ev_bindc y3 n2)))))
      · have db := decide_eq_false hb
        refine ⟨(0, false), Ev.bind hb1 (ev_true rfl (ev_bindc (hS a) (ev_true da (ev_bindc (hS b) (Ev.step (fun _ => spec_SharedBy.j0.eq_2 ..) (ev_pos (by rw [db]; rfl) (ev_ret rfl))))))), ev_bindc (hR a) (ev_true (by rw [da]; rfl) (ev_bindc (hR b) (Ev.step (fun _ => impl_SharedBy.j0.eq_2 ..) (ev_pos (by rw [db]; rfl) (ev_ret rfl)))))⟩
    · have da := decide_eq_false ha
      refine ⟨(0, false), Ev.bind hb1 (ev_true rfl (ev_bindc (hS a) (ev_false da (Ev.step (fun _ => spec_SharedBy.j0.eq_2 ..) (ev_pos rfl (ev_ret rfl)))))), ev_bindc (hR a) (ev_false (by rw [da]; rfl) (Ev.step (fun _ => impl_SharedBy.j0.eq_2 ..) (ev_pos rfl (ev_ret rfl))))⟩
end Go.Proofs.Ytacfalpgmibfnaa.PCow
