import Derived.Test.YtgglcpcfmhpcmaaZFnSqueezedLzGood
/-! Packed tokens laid open: the program's way by places and the reference's by what is left. -/
namespace Go.Proofs.Ytgglcpcfmhpcmaa.ZFnSqueezed
open Go.RowKit Go.Proofs.Ytgglcpcfmhpcmaa.PFnSqueezed Go.Proofs.YtgglcpcfmhpcmaaW.PrintWords Go.Proofs.YtgglcpcfmhpcmaaW.PrintLast Go.Proofs.YtgglcpcfmhpcmaaW.PrintMore Go.Proofs.Ytgglcpcfmhpcmaa.E
set_option linter.unusedSimpArgs false
set_option linter.unusedVariables false

def unp (s : ByteArray) : Nat → Int → List S56 → Option (List S56)
  | 0, _, out => some out
  | f + 1, p, out =>
    if p < s.size then
      if bt s p < 64 then
        if p + bt s p + 2 > s.size then none
        else unp s f (p + bt s p + 2) (out ++ [⟨s.extract (p + 1).toNat (p + bt s p + 2).toNat, 0, 0⟩])
      else if p + 1 = s.size then none
      else unp s f (p + 2) (out ++ [⟨⟨#[]⟩, bt s (p + 1), bt s p - 64 + 3⟩])
    else some out
/-- The answer of both: the tokens, where they are good. -/
def ans (o : Option (List S56)) : List S56 × Bool :=
  match o with
  | none => ([], false)
  | some l => if gd l l.length 0 0 = true then (l, true) else ([], false)
theorem unp_len (s : ByteArray) : ∀ (f : Nat) (p : Int) (out l : List S56), unp s f p out = some l → (l.length : Int) ≤ out.length + f := by
  intro f
  induction f with
  | zero => intro p out l h; simp [unp] at h; rw [h]; omega
  | succ f ih =>
    intro p out l h
    simp only [unp] at h
    split at h
    · split at h
      · split at h
        · cases h
        · have := ih _ _ _ h; simp at this; omega
      · split at h
        · cases h
        · have := ih _ _ _ h; simp at this; omega
    · have := Option.some.inj h; rw [this]; omega
theorem impl_good (l : List S56) (hl : (l.length : Int) ≤ 100000000000) : Ev (fun k => impl_GoodTokens.f k l) (gd l l.length 0 0) := by
  unfold impl_GoodTokens.f
  refine Ev.bind (impl_exp l hl) (ev_ret ?_)
  unfold res
  cases h : gd l l.length 0 (([] : List Int).length : Int)
  · rw [if_neg (by simp)]
  · rw [if_pos rfl]
theorem impl_unp (s : ByteArray) (hs : s.size ≤ 1048576) : ∀ (f : Nat) (p : Int) (out : List S56), 0 ≤ p → p ≤ s.size → s.size ≤ p + f → (out.length : Int) ≤ p → Ev (fun k => impl_UnpackTokens.l0 k s out p) (ans (unp s f p out)) := by
  intro f
  induction f with
  | zero =>
    intro p out h0 h1 h2 h3
    refine Ev.step (fun _ => impl_UnpackTokens.l0.eq_2 ..) (ev_neg (by omega) (Ev.bind (impl_good out (by omega)) ?_))
    simp only [unp, ans]
    by_cases h : gd out out.length 0 0 = true
    · exact ev_true h (ev_ret (by rw [if_pos h]))
    · exact ev_neg h (ev_ret (by rw [if_neg h]))
  | succ f ih =>
    intro p out h0 h1 h2 h3
    refine Ev.step (fun _ => impl_UnpackTokens.l0.eq_2 ..) ?_
    simp only [unp]
    by_cases hp : p < s.size
    · have b0 := bt_nonneg s p
      have b1 := bt_lt s p
      have c0 := bt_nonneg s (p + 1)
      have c1 := bt_lt s (p + 1)
      rw [if_pos hp]
      refine ev_pos hp (ev_pos h0 ?_)
      rw [w64 (x := p + 1) (by omega) (by omega), w64 (x := bt s p) (by omega) (by omega), w64 (x := p + 1 + bt s p) (by omega) (by omega), w64 (x := p + 1 + bt s p + 1) (by omega) (by omega), w64 (x := bt s p + 1) (by omega) (by omega), w64 (x := p + 1 + (bt s p + 1)) (by omega) (by omega), w64 (x := bt s (p + 1)) (by omega) (by omega), w64 (x := bt s p - 64) (by omega) (by omega), w64 (x := bt s p - 64 + 3) (by omega) (by omega), w64 (x := p + 1 + 1) (by omega) (by omega)]
      rw [show p + 1 + bt s p + 1 = p + bt s p + 2 by omega, show p + 1 + (bt s p + 1) = p + bt s p + 2 by omega, show p + 1 + 1 = p + 2 by omega]
      by_cases h64 : bt s p < 64
      · rw [if_pos h64]
        refine ev_pos h64 ?_
        by_cases hb : p + bt s p + 2 > s.size
        · rw [if_pos hb]
          exact ev_pos hb (ev_ret rfl)
        · rw [if_neg hb]
          refine ev_neg hb (ev_pos (by omega) (ev_pos (by omega) (ev_pos (by omega) (ev_pos (by omega) ?_))))
          exact ih _ _ (by omega) (by omega) (by omega) (by simp; omega)
      · rw [if_neg h64]
        refine ev_neg h64 ?_
        by_cases hb : p + 1 = s.size
        · rw [if_pos hb]
          exact ev_pos hb (ev_ret rfl)
        · rw [if_neg hb]
          refine ev_neg hb (ev_pos (by omega) (ev_pos (by omega) (ev_pos (by omega) ?_)))
          exact ih _ _ (by omega) (by omega) (by omega) (by simp; omega)
    · rw [if_neg hp]
      refine ev_neg hp (Ev.bind (impl_good out (by omega)) ?_)
      simp only [ans]
      by_cases h : gd out out.length 0 0 = true
      · exact ev_true h (ev_ret (by rw [if_pos h]))
      · exact ev_neg h (ev_ret (by rw [if_neg h]))
theorem bt_ext (s : ByteArray) (p i : Int) (h0 : 0 ≤ p) (h1 : p ≤ s.size) (hi : 0 ≤ i) (h2 : p + i < s.size) : bt (s.extract p.toNat s.size) i = bt s (p + i) := by
  unfold bt
  rw [dif_pos (by rw [ByteArray.size_extract]; omega), dif_pos (by omega)]
  rw [ByteArray.getElem_extract]
  congr 2
  have : p.toNat + i.toNat = (p + i).toNat := by omega
  simp only [this]
theorem ext_ext (s : ByteArray) (p : Int) (h0 : 0 ≤ p) (a b : Nat) (hb : p.toNat + b ≤ s.size) : (s.extract p.toNat s.size).extract a b = s.extract (p.toNat + a) (p.toNat + b) := by
  rw [ByteArray.extract_extract]
  congr 1
  omega
theorem spec_unp (s : ByteArray) (hs : s.size ≤ 1048576) : ∀ (f : Nat) (p : Int) (out : List S56), 0 ≤ p → p ≤ s.size → s.size ≤ p + f → (out.length : Int) ≤ p → Ev (fun k => spec_l16Unpack.l0 k (s.extract p.toNat s.size) out) (ans (unp s f p out)) := by
  intro f
  induction f with
  | zero =>
    intro p out h0 h1 h2 h3
    have hz : (s.extract p.toNat s.size).size = 0 := by rw [ByteArray.size_extract]; omega
    refine Ev.step (fun _ => spec_l16Unpack.l0.eq_2 ..) (ev_neg (by rw [hz]; simp) (Ev.bind (spec_good out (by omega)) ?_))
    simp only [unp, ans]
    by_cases h : gd out out.length 0 0 = true
    · exact ev_true h (ev_ret (by rw [if_pos h]))
    · exact ev_neg h (ev_ret (by rw [if_neg h]))
  | succ f ih =>
    intro p out h0 h1 h2 h3
    refine Ev.step (fun _ => spec_l16Unpack.l0.eq_2 ..) ?_
    have hz : ((s.extract p.toNat s.size).size : Int) = s.size - p := by rw [ByteArray.size_extract]; omega
    simp only [unp]
    by_cases hp : p < s.size
    · have b0 := bt_nonneg s p
      have b1 := bt_lt s p
      have c0 := bt_nonneg s (p + 1)
      have c1 := bt_lt s (p + 1)
      have e0 : bt (s.extract p.toNat s.size) 0 = bt s p := by
        have := bt_ext s p 0 h0 h1 (by omega) (by omega)
        rwa [Int.add_zero] at this
      rw [if_pos hp]
      refine ev_pos (by omega) (ev_pos (by omega) ?_)
      rw [e0, hz]
      rw [w64 (x := bt s p) (by omega) (by omega), w64 (x := bt s p + 2) (by omega) (by omega), w64 (x := bt s p - 64) (by omega) (by omega), w64 (x := bt s p - 64 + 3) (by omega) (by omega)]
      by_cases h64 : bt s p < 64
      · rw [if_pos h64]
        refine ev_pos h64 ?_
        by_cases hb : p + bt s p + 2 > s.size
        · rw [if_pos hb]
          exact ev_pos (by omega) (ev_ret rfl)
        · rw [if_neg hb]
          refine ev_neg (by omega) (ev_pos (by omega) (ev_pos (by omega) (ev_pos (by omega) (ev_pos (by omega) ?_))))
          have q1 := ext_ext s p h0 (bt s p + 2).toNat (s.extract p.toNat s.size).size (by omega)
          have q2 := ext_ext s p h0 1 (bt s p + 2).toNat (by omega)
          rw [q1, q2, show p.toNat + (bt s p + 2).toNat = (p + bt s p + 2).toNat by omega, show p.toNat + (s.extract p.toNat s.size).size = s.size by omega, show p.toNat + 1 = (p + 1).toNat by omega]
          exact ih _ _ (by omega) (by omega) (by omega) (by simp; omega)
      · rw [if_neg h64]
        refine ev_neg h64 ?_
        by_cases hb : p + 1 = s.size
        · rw [if_pos hb]
          exact ev_pos (by omega) (ev_ret rfl)
        · rw [if_neg hb]
          have e1 : bt (s.extract p.toNat s.size) 1 = bt s (p + 1) := bt_ext s p 1 h0 h1 (by omega) (by omega)
          rw [e1, w64 (x := bt s (p + 1)) (by omega) (by omega)]
          refine ev_neg (by omega) (ev_pos (by omega) (ev_pos (by omega) (ev_pos (by omega) ?_)))
          have q1 := ext_ext s p h0 2 (s.extract p.toNat s.size).size (by omega)
          rw [q1, show p.toNat + 2 = (p + 2).toNat by omega, show p.toNat + (s.extract p.toNat s.size).size = s.size by omega]
          exact ih _ _ (by omega) (by omega) (by omega) (by simp; omega)
    · rw [if_neg hp]
      refine ev_neg (by omega) (Ev.bind (spec_good out (by omega)) ?_)
      simp only [ans]
      by_cases h : gd out out.length 0 0 = true
      · exact ev_true h (ev_ret (by rw [if_pos h]))
      · exact ev_neg h (ev_ret (by rw [if_neg h]))
/-! Good tokens take at most two bytes for one that they stand for. -/
def cost (t : S56) : Int := if t.f0.size = 0 then 2 else t.f0.size + 1
def costs (l : List S56) : Int := (l.map cost).sum
theorem costs_snoc (l : List S56) (t : S56) : costs (l ++ [t]) = costs l + cost t := by
  simp [costs]
theorem unp_cost (s : ByteArray) : ∀ (f : Nat) (p : Int) (out l : List S56), 0 ≤ p → p ≤ s.size → s.size ≤ p + f → unp s f p out = some l → costs l = costs out + (s.size - p) := by
  intro f
  induction f with
  | zero => intro p out l h0 h1 h2 h; simp [unp] at h; rw [h]; omega
  | succ f ih =>
    intro p out l h0 h1 h2 h
    have b0 := bt_nonneg s p
    simp only [unp] at h
    split at h
    · rename_i hp
      split at h
      · split at h
        · cases h
        · rename_i hb
          have := ih _ _ _ (by omega) (by omega) (by omega) h
          rw [this, costs_snoc]
          unfold cost
          have hz : (s.extract (p + 1).toNat (p + bt s p + 2).toNat).size = (bt s p + 1).toNat := by rw [ByteArray.size_extract]; omega
          simp only [hz]
          rw [if_neg (by omega)]
          omega
      · split at h
        · cases h
        · rename_i hb
          have := ih _ _ _ (by omega) (by omega) (by omega) h
          rw [this, costs_snoc]
          have : cost (⟨⟨#[]⟩, bt s (p + 1), bt s p - 64 + 3⟩ : S56) = 2 := rfl
          omega
    · rename_i hp
      have := Option.some.inj h
      rw [this]; omega
theorem gd_cost (l : List S56) : ∀ (f : Nat) (i n : Int), 0 ≤ i → i + f = l.length → gd l f i n = true → costs (l.drop i.toNat) ≤ 2 * (600 - n) := by
  intro f
  induction f with
  | zero =>
    intro i n h0 h1 h
    simp only [gd, decide_eq_true_eq] at h
    rw [List.drop_of_length_le (by omega)]
    simp [costs]; omega
  | succ f ih =>
    intro i n h0 h1 h
    simp only [gd] at h
    split at h
    · rename_i ht
      have hb := tokOk_bd ht
      split at h
      · cases h
      · split at h
        · cases h
        · have := ih _ _ (by omega) (by omega) h
          have hi : i.toNat < l.length := by omega
          have er : rd_T56 l i = l[i.toNat] := by
            unfold rd_T56
            rw [List.getD_eq_getElem?_getD, List.getElem?_eq_getElem hi]
            rfl
          rw [List.drop_eq_getElem_cons hi]
          have e2 : (i + 1).toNat = i.toNat + 1 := by omega
          rw [e2] at this
          have e3 : costs (l[i.toNat] :: l.drop (i.toNat + 1)) = cost l[i.toNat] + costs (l.drop (i.toNat + 1)) := by unfold costs; rw [List.map_cons, List.sum_cons]
          rw [e3, ← er]
          unfold cost
          split <;> omega
    · cases h
theorem ans_big (s : ByteArray) (hs : s.size ≤ 1048576) (h : (s.size : Int) > 1200) : ans (unp s s.size 0 []) = ([], false) := by
  cases hu : unp s s.size 0 [] with
  | none => rfl
  | some l =>
    simp only [ans]
    by_cases hg : gd l l.length 0 0 = true
    · have h1 := gd_cost l l.length 0 0 (by omega) (by omega) hg
      have h2 := unp_cost s s.size 0 [] l (by omega) (by omega) (by omega) hu
      simp [costs] at h1 h2
      omega
    · rw [if_neg hg]
theorem ext_all (s : ByteArray) : s.extract (0 : Int).toNat s.size = s := by
  simp
theorem spec_unpack (s : ByteArray) (hs : s.size ≤ 1048576) : Ev (fun k => spec_UnpackTokens.f k s) (ans (unp s s.size 0 [])) := by
  unfold spec_UnpackTokens.f
  by_cases h : (s.size : Int) > 1200
  · exact ev_pos h (ev_ret (ans_big s hs h).symm)
  · refine ev_neg h ?_
    unfold spec_l16Unpack.f
    have := spec_unp s hs s.size 0 [] (by omega) (by omega) (by omega) (by simp)
    rw [ext_all] at this
    exact Ev.bind this (ev_ret rfl)
theorem impl_unpack (s : ByteArray) (hs : s.size ≤ 1048576) : Ev (fun k => impl_UnpackTokens.f k s) (ans (unp s s.size 0 [])) := by
  unfold impl_UnpackTokens.f
  exact impl_unp s hs s.size 0 [] (by omega) (by omega) (by omega) (by simp)
theorem ans_len (s : ByteArray) : ((ans (unp s s.size 0 [])).1.length : Int) ≤ s.size := by
  cases hu : unp s s.size 0 [] with
  | none => simp [ans]
  | some l =>
    have := unp_len s _ _ _ _ hu
    simp only [ans]
    split <;> simp at this ⊢ <;> omega
end Go.Proofs.Ytgglcpcfmhpcmaa.ZFnSqueezed
