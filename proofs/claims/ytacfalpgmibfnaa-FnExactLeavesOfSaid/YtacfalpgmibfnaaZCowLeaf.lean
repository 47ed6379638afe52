import Derived.Test.YtacfalpgmibfnaaZCowGood
import Derived.Test.YtacfalpgmibfnaaYCowleafA
import Derived.Test.YtacfalpgmibfnaaYCowleafB
/-! LeafAt, plain law: a place's leaf is found alike by digits and by division. -/
namespace Go.Proofs.Ytacfalpgmibfnaa.PCow
open Go.RowKit Go.Proofs.YtacfalpgmibfnaaW.PrintWords Go.Proofs.YtacfalpgmibfnaaW.PrintLast Go.Proofs.YtacfalpgmibfnaaW.PrintMore Go.Proofs.Ytacfalpgmibfnaa.E
set_option linter.unusedSimpArgs false
set_option linter.unusedVariables false
theorem size1 (x : Int) : Ev (fun k => spec_l14Size.l0 k 1 x) x := Ev.step (fun _ => spec_l14Size.l0.eq_2 ..) (ev_neg (by omega) (ev_ret rfl))
theorem size_up {n n' x x' r : Int} (h0 : 1 < n) (h1 : n ≤ 4) (hx0 : 0 ≤ x) (hx1 : x ≤ 64) (hn : n' = n - 1) (hx : x' = x * 4) (h : Ev (fun k => spec_l14Size.l0 k n' x') r) : Ev (fun k => spec_l14Size.l0 k n x) r := by
  subst hn hx
  refine Ev.step (fun _ => spec_l14Size.l0.eq_2 ..) (ev_pos (by omega) ?_)
  rw [w64 (x := n - 1) (by omega) (by omega), w64 (x := x * 4) (by omega) (by omega)]
  exact h
theorem size_2 : Ev (fun k => spec_l14Size.f k 2) 4 := by
  unfold spec_l14Size.f
  exact size_up (n' := 1) (x' := 4) (by omega) (by omega) (by omega) (by omega) (by omega) (by omega) (size1 4)
theorem size_3 : Ev (fun k => spec_l14Size.f k 3) 16 := by
  unfold spec_l14Size.f
  exact size_up (n' := 2) (x' := 4) (by omega) (by omega) (by omega) (by omega) (by omega) (by omega) (size_up (n' := 1) (x' := 16) (by omega) (by omega) (by omega) (by omega) (by omega) (by omega) (size1 16))
theorem size_4 : Ev (fun k => spec_l14Size.f k 4) 64 := by
  unfold spec_l14Size.f
  exact size_up (n' := 3) (x' := 4) (by omega) (by omega) (by omega) (by omega) (by omega) (by omega) (size_up (n' := 2) (x' := 16) (by omega) (by omega) (by omega) (by omega) (by omega) (by omega) (size_up (n' := 1) (x' := 64) (by omega) (by omega) (by omega) (by omega) (by omega) (by omega) (size1 64)))
def plc (L : Int) : Int := if L = 1 then 1 else if L = 2 then 4 else 16
theorem places_both (C : List S68) (roots : List Int) (L : Int) (h1 : 1 ≤ L) (h3 : L ≤ 3) : Ev (fun k => spec_l14Places.f k C roots L) (plc L) ∧ impl_Cow_places.f C roots L = some (plc L) := by
  unfold spec_l14Places.f impl_Cow_places.f
  obtain rfl | rfl | rfl : L = 1 ∨ L = 2 ∨ L = 3 := by omega
  · exact ⟨Ev.bind (a := 4) (by rw [show wrap64 (1 + 1) = 2 by decide +kernel]; exact size_2) (ev_ret (by decide +kernel)), by decide +kernel⟩
  · exact ⟨Ev.bind (a := 16) (by rw [show wrap64 (2 + 1) = 3 by decide +kernel]; exact size_3) (ev_ret (by decide +kernel)), by decide +kernel⟩
  · exact ⟨Ev.bind (a := 64) (by rw [show wrap64 (3 + 1) = 4 by decide +kernel]; exact size_4) (ev_ret (by decide +kernel)), by decide +kernel⟩
theorem digit_all : ∀ i : Fin 16, impl_digit.f (((i : Nat) : Int)) 2 = some ((((i : Nat) : Int)) % 4) ∧ impl_digit.f (((i : Nat) : Int)) 3 = some ((((i : Nat) : Int)) / 4) := by decide +kernel
theorem digit_2 (b : Int) (h0 : 0 ≤ b) (h1 : b < 16) : impl_digit.f b 2 = some (b % 4) := by
  have := (digit_all ⟨b.toNat, by omega⟩).1
  simp only [show ((b.toNat : Nat) : Int) = b by omega] at this
  exact this
theorem digit_3 (b : Int) (h0 : 0 ≤ b) (h1 : b < 16) : impl_digit.f b 3 = some (b / 4) := by
  have := (digit_all ⟨b.toNat, by omega⟩).2
  simp only [show ((b.toNat : Nat) : Int) = b by omega] at this
  exact this
section
variable {C : List S68} {roots : List Int} {L : Int}
theorem leaf_none (a b l : Int) : ∃ r, Ev (fun n => spec_l14Leaf.l0 n (-1) a l C roots L) r ∧ Ev (fun n => impl_Cow_leafAt.l0 n b (-1) l C roots L) r :=
  ⟨_, Ev.step (fun _ => spec_l14Leaf.l0.eq_2 ..) (ev_neg (by omega) (ev_pos (by omega) (ev_ret rfl))), Ev.step (fun _ => impl_Cow_leafAt.l0.eq_2 ..) (ev_neg (by omega) (ev_pos (by omega) (ev_ret rfl)))⟩
theorem leaf_one {v : List Int} {k : Int} (hk : RefOK C v (k, 1)) (a b : Int) : ∃ r, Ev (fun n => spec_l14Leaf.l0 n k a 1 C roots L) r ∧ Ev (fun n => impl_Cow_leafAt.l0 n b k 1 C roots L) r := by
  rcases hk with e | ⟨h0, h1, _, _⟩
  · simp only at e
    subst e
    exact leaf_none a b 1
  · simp only at h0 h1
    exact ⟨_, Ev.step (fun _ => spec_l14Leaf.l0.eq_2 ..) (ev_pos h0 (ev_neg (by omega) (ev_neg (by omega) (ev_pos h0 (ev_pos h1 (ev_ret rfl)))))), Ev.step (fun _ => impl_Cow_leafAt.l0.eq_2 ..) (ev_pos h0 (ev_neg (by omega) (ev_neg (by omega) (ev_pos h0 (ev_pos h1 (ev_ret rfl))))))⟩
theorem leaf_two {V c v : List Int} (hI : Inv C roots L V [] c v) {k : Int} (hk : RefOK C v (k, 2)) (a b : Int) (h0 : 0 ≤ b) (h1 : b < 16) (hb : b % 4 = a) : ∃ r, Ev (fun n => spec_l14Leaf.l0 n k a 2 C roots L) r ∧ Ev (fun n => impl_Cow_leafAt.l0 n b k 2 C roots L) r := by
  by_cases hk1 : k = -1
  · subst hk1; exact leaf_none a b 2
  · obtain ⟨k0, k1, _, _, _, k6, k7⟩ := hI.below (m := 1) hk hk1
    have kl := k6 (by omega)
    have ha : a.toNat < (rd_T68 C k).f2.length := by omega
    have hz : RefOK C v (rd (rd_T68 C k).f2 a, 1) := by
      have := k7 _ (List.getElem_mem ha)
      rw [← rd_getD ha, show ((a.toNat : Nat) : Int) = a by omega] at this
      exact this
    have e1 : wrap64 (Int.tdiv 4 4) = 1 := by decide +kernel
    have e2 : wrap64 (2 - 1) = 1 := by decide +kernel
    have e3 : wrap64 (Int.tdiv a 1) = a := by rw [tdiv_pos (by omega), Int.ediv_one, w64 (by omega) (by omega)]
    obtain ⟨r, r1, r2⟩ := leaf_one (roots := roots) (L := L) hz (Int.tmod a 1) b
    refine ⟨r, Ev.step (fun _ => spec_l14Leaf.l0.eq_2 ..) (ev_pos k0 (ev_pos (by omega) (Ev.bind (a := 4) size_2 (ev_pos k0 (ev_pos k1 ?_))))), Ev.step (fun _ => impl_Cow_leafAt.l0.eq_2 ..) (ev_pos k0 (ev_pos (by omega) (ev_pos k0 (ev_pos k1 (ev_bindc (digit_2 b h0 h1) ?_)))))⟩
    · rw [e1, e2, e3]
      exact ev_neg (by omega) (ev_pos (by omega) (ev_pos (by omega) r1))
    · rw [hb, e2]
      exact ev_pos (by omega) (ev_pos (by omega) r2)
theorem leaf_three {V c v : List Int} (hI : Inv C roots L V [] c v) {k : Int} (hk : RefOK C v (k, 3)) (a : Int) (h0 : 0 ≤ a) (h1 : a < 16) : ∃ r, Ev (fun n => spec_l14Leaf.l0 n k a 3 C roots L) r ∧ Ev (fun n => impl_Cow_leafAt.l0 n a k 3 C roots L) r := by
  by_cases hk1 : k = -1
  · subst hk1; exact leaf_none a a 3
  · obtain ⟨k0, k1, _, _, _, k6, k7⟩ := hI.below (m := 2) hk hk1
    have kl := k6 (by omega)
    have ha : (a / 4).toNat < (rd_T68 C k).f2.length := by omega
    have hz : RefOK C v (rd (rd_T68 C k).f2 (a / 4), 2) := by
      have := k7 _ (List.getElem_mem ha)
      rw [← rd_getD ha, show (((a / 4).toNat : Nat) : Int) = a / 4 by omega] at this
      exact this
    have e1 : wrap64 (Int.tdiv 16 4) = 4 := by decide +kernel
    have e2 : wrap64 (3 - 1) = 2 := by decide +kernel
    have e3 : wrap64 (Int.tdiv a 4) = a / 4 := by rw [tdiv_pos (by omega), w64 (by omega) (by omega)]
    obtain ⟨r, r1, r2⟩ := leaf_two hI hz (a % 4) a h0 h1 rfl
    refine ⟨r, Ev.step (fun _ => spec_l14Leaf.l0.eq_2 ..) (ev_pos k0 (ev_pos (by omega) (Ev.bind (a := 16) size_3 (ev_pos k0 (ev_pos k1 ?_))))), Ev.step (fun _ => impl_Cow_leafAt.l0.eq_2 ..) (ev_pos k0 (ev_pos (by omega) (ev_pos k0 (ev_pos k1 (ev_bindc (digit_3 a h0 h1) ?_)))))⟩
    · rw [e1, e2, e3, tmod_pos h0]
      exact ev_neg (by omega) (ev_pos (by omega) (ev_pos (by omega) r1))
    · rw [e2]
      exact ev_pos (by omega) (ev_pos (by omega) r2)
theorem leaf_both {V c v : List Int} (hI : Inv C roots L V [] c v) (h1 : 1 ≤ L) (h3 : L ≤ 3) (a q : Int) (ha : 0 ≤ a ∧ a < (roots.length : Int)) (hq0 : 0 ≤ q) (hq1 : q < plc L) : ∃ r, Ev (fun n => spec_l14Leaf.f n C roots L (rd roots a) q) r ∧ Ev (fun n => impl_Cow_leafAt.f n C roots L a q) r := by
  unfold spec_l14Leaf.f impl_Cow_leafAt.f
  have hk : RefOK C v (rd roots a, L) := by
    have hl : a.toNat < roots.length := by omega
    have := hI.root _ (List.getElem_mem hl)
    rw [← rd_getD hl, show ((a.toNat : Nat) : Int) = a by omega] at this
    exact this
  obtain ⟨r, r1, r2⟩ : ∃ r, Ev (fun n => spec_l14Leaf.l0 n (rd roots a) q L C roots L) r ∧ Ev (fun n => impl_Cow_leafAt.l0 n q (rd roots a) L C roots L) r := by
    unfold plc at hq1
    obtain rfl | rfl | rfl : L = 1 ∨ L = 2 ∨ L = 3 := by omega
    · exact leaf_one hk q q
    · exact leaf_two hI hk q q hq0 (by simp at hq1; omega) (by simp at hq1; omega)
    · exact leaf_three hI hk q hq0 (by simp at hq1; omega)
  exact ⟨r, r1, ev_pos ha.1 (ev_pos ha.2 r2)⟩
end
end Go.Proofs.Ytacfalpgmibfnaa.PCow
