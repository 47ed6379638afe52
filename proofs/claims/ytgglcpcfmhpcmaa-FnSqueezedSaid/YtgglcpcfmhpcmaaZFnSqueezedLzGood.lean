import Derived.Test.YtgglcpcfmhpcmaaYFnSqueezedx7
import Derived.Test.YtgglcpcfmhpcmaaEv
/-! When tokens are good, and the text that good tokens make: the program's and the reference's are the same. -/
namespace Go.Proofs.Ytgglcpcfmhpcmaa.ZFnSqueezed
open Go.RowKit Go.Proofs.Ytgglcpcfmhpcmaa.PFnSqueezed Go.Proofs.YtgglcpcfmhpcmaaW.PrintWords Go.Proofs.YtgglcpcfmhpcmaaW.PrintLast Go.Proofs.YtgglcpcfmhpcmaaW.PrintMore Go.Proofs.Ytgglcpcfmhpcmaa.E
set_option linter.unusedSimpArgs false
set_option linter.unusedVariables false

def tokOk (t : S56) : Bool :=
  if t.f0.size = 0 then decide (1 ≤ t.f1 ∧ t.f1 ≤ 255 ∧ 3 ≤ t.f2 ∧ t.f2 ≤ 66) else decide (t.f0.size ≤ 64 ∧ t.f1 = 0 ∧ t.f2 = 0)
def gd (l : List S56) : Nat → Int → Int → Bool
  | 0, _, n => decide (n ≤ 600)
  | f + 1, i, n =>
    if tokOk (rd_T56 l i) = true then
      if (rd_T56 l i).f1 > n then false
      else if i > 0 ∧ (rd_T56 l i).f0.size ≠ 0 ∧ 1 ≤ (rd_T56 l (i - 1)).f0.size ∧ (rd_T56 l (i - 1)).f0.size ≤ 63 then false
      else gd l f (i + 1) (n + ((rd_T56 l i).f0.size + (rd_T56 l i).f2))
    else false
theorem l16Token_eq (t : S56) : spec_l16Token.f t.f0 t.f1 t.f2 = some (tokOk t) := by
  unfold spec_l16Token.f spec_l1In.f tokOk
  by_cases h : t.f0.size = 0
  · rw [if_pos (ba_nil.2 h), if_pos h]
    by_cases h1 : t.f1 ≥ 1
    · by_cases h2 : t.f1 ≤ 255
      · by_cases h3 : t.f2 ≥ 3
        · by_cases h4 : t.f2 ≤ 66
          · simp [h1, h2, h3, h4] <;> omega
          · simp [h1, h2, h3, h4]
        · simp [h1, h2, h3] <;> omega
      · simp [h1, h2]
    · simp [h1] <;> omega
  · rw [if_neg (fun e => h (ba_nil.1 e)), if_neg h]
    by_cases h1 : (t.f0.size : Int) ≤ 64
    · by_cases h2 : t.f1 = 0
      · by_cases h3 : t.f2 = 0
        · simp [h1, h2, h3] <;> omega
        · simp [h1, h2, h3]
      · simp [h1, h2]
    · rw [if_neg h1]; simp <;> omega
theorem tokOk_bd {t : S56} (h : tokOk t = true) : (t.f0.size = 0 ∧ 1 ≤ t.f1 ∧ t.f1 ≤ 255 ∧ 3 ≤ t.f2 ∧ t.f2 ≤ 66) ∨ (t.f0.size ≠ 0 ∧ t.f0.size ≤ 64 ∧ t.f1 = 0 ∧ t.f2 = 0) := by
  unfold tokOk at h
  split at h <;> simp at h <;> omega
theorem gd_big (l : List S56) : ∀ (f : Nat) (i n : Int), n > 600 → gd l f i n = false := by
  intro f
  induction f with
  | zero => intro i n h; simp [gd]; omega
  | succ f ih =>
    intro i n h
    simp only [gd]
    split
    · rename_i ht
      have := tokOk_bd ht
      split
      · rfl
      · split
        · rfl
        · exact ih _ _ (by omega)
    · rfl
theorem spec_gd (l : List S56) (hl : (l.length : Int) ≤ 100000000000) : ∀ (f : Nat) (i n : Int), 0 ≤ i → i + f = l.length → 0 ≤ n → n ≤ 66 * i → Ev (fun k => spec_GoodTokens.l0 k l n l (l.length : Int) i) (gd l f i n) := by
  intro f
  induction f with
  | zero =>
    intro i n h0 h1 h2 h3
    exact Ev.step (fun _ => spec_GoodTokens.l0.eq_2 ..) (ev_neg (by omega) (ev_ret rfl))
  | succ f ih =>
    intro i n h0 h1 h2 h3
    refine Ev.step (fun _ => spec_GoodTokens.l0.eq_2 ..) (ev_pos (by omega) (ev_pos h0 (ev_pos (by omega) (ev_bindc (l16Token_eq _) ?_))))
    simp only [gd]
    by_cases ht : tokOk (rd_T56 l i) = true
    · have hb := tokOk_bd ht
      rw [if_pos ht]
      refine ev_pos ht ?_
      by_cases h4 : (rd_T56 l i).f1 > n
      · rw [if_pos h4]
        exact ev_pos h4 (ev_ret rfl)
      · rw [if_neg h4]
        refine ev_neg h4 ?_
        rw [w64 (x := ((rd_T56 l i).f0.size : Int) + (rd_T56 l i).f2) (by omega) (by omega), w64 (x := n + (((rd_T56 l i).f0.size : Int) + (rd_T56 l i).f2)) (by omega) (by omega), w64 (x := i + 1) (by omega) (by omega), w64 (x := i - 1) (by omega) (by omega)]
        have A := ih (i + 1) (n + (((rd_T56 l i).f0.size : Int) + (rd_T56 l i).f2)) (by omega) (by omega) (by omega) (by omega)
        by_cases h5 : i > 0
        · refine ev_pos h5 ?_
          by_cases h6 : (rd_T56 l i).f0.size = 0
          · rw [if_neg (fun h => h.2.1 h6)]
            exact ev_pos (ba_nil.2 h6) A
          · refine ev_neg (fun h => h6 (ba_nil.1 h)) (ev_pos (by omega) (ev_pos (by omega) ?_))
            by_cases h7 : 1 ≤ (rd_T56 l (i - 1)).f0.size ∧ (rd_T56 l (i - 1)).f0.size ≤ 63
            · rw [if_pos ⟨h5, h6, h7⟩]
              refine ev_bindc (a := true) ?_ (ev_true rfl (ev_ret rfl))
              unfold spec_l1In.f
              rw [if_pos (by omega)]
              simp; omega
            · rw [if_neg (fun h => h7 h.2.2)]
              refine ev_bindc (a := false) ?_ (ev_false rfl A)
              unfold spec_l1In.f
              split <;> simp <;> omega
        · rw [if_neg (fun h => h5 h.1)]
          exact ev_neg h5 A
    · rw [if_neg ht]
      exact ev_neg ht (ev_ret rfl)
theorem spec_good (l : List S56) (hl : (l.length : Int) ≤ 100000000000) : Ev (fun k => spec_GoodTokens.f k l) (gd l l.length 0 0) := by
  unfold spec_GoodTokens.f
  exact spec_gd l hl _ _ _ (by omega) (by omega) (by omega) (by omega)

def cpy : Nat → List Int → Int → List Int
  | 0, out, _ => out
  | f + 1, out, d => cpy f (out ++ [rd out ((out.length : Int) - d)]) d
theorem cpy_len : ∀ (f : Nat) (out : List Int) (d : Int), (cpy f out d).length = out.length + f := by
  intro f
  induction f with
  | zero => intro out d; rfl
  | succ f ih =>
    intro out d
    simp only [cpy]
    rw [ih]
    simp; omega
theorem bytesOf_len (s : ByteArray) : (bytesOf s).length = s.size := by
  unfold bytesOf
  rw [List.length_map, Array.length_toList]
  rfl
def put1 (out : List Int) (t : S56) : List Int := cpy t.f2.toNat (out ++ bytesOf t.f0) t.f1
theorem put1_len (out : List Int) (t : S56) : (put1 out t).length = out.length + t.f0.size + t.f2.toNat := by
  unfold put1
  rw [cpy_len]
  simp [bytesOf_len]
def expM (l : List S56) : Nat → Int → List Int → List Int
  | 0, _, out => out
  | f + 1, i, out => expM l f (i + 1) (put1 out (rd_T56 l i))

/-- What the program's expansion answers from a token on. -/
def res (l : List S56) (f : Nat) (i : Int) (out : List Int) : ByteArray × Bool := if gd l f i out.length = true then (strOfNums (expM l f i out), true) else (⟨#[]⟩, false)
theorem within_eq (a b c : Int) : impl_within.f a b c = some (decide (b ≤ a ∧ a ≤ c)) := by
  unfold impl_within.f
  by_cases h : a ≥ b
  · by_cases h2 : a ≤ c
    · simp [h, h2] <;> omega
    · simp [h, h2]
  · simp [h] <;> omega
theorem lit_eq (a : ByteArray) (b c : Int) : impl_Token_isLiteral.f a b c = some (decide (a.size ≠ 0)) := by
  unfold impl_Token_isLiteral.f
  by_cases h : a.size = 0
  · rw [ba_nil.2 h]; simp [h]
  · have : a.toList ≠ [] := fun e => h (ba_nil.1 e)
    simp [h, this]
theorem impl_copy (l : List S56) (hl : (l.length : Int) ≤ 100000000000) (i d m : Int) (a : ByteArray) (c : Int) (hi : 0 ≤ i) (hi2 : i < l.length) (hm : m ≤ 66) {r : ByteArray × Bool} : ∀ (f : Nat) (out : List Int) (j : Int), 0 ≤ j → j + f = m → 1 ≤ d → d ≤ out.length → (out.length : Int) ≤ 600 + j →
    (∀ out', out' = cpy f out d → Ev (fun k => if (out'.length : Int) > 600 then (some ((⟨#[]⟩ : ByteArray), false)) else (impl_expanded.l0 k l out' l (l.length : Int) (i + 1))) r) →
    Ev (fun k => impl_expanded.l1 k l out l (l.length : Int) i m j a d c) r := by
  intro f
  induction f with
  | zero =>
    intro out j h0 h1 h2 h3 h4 H
    refine Ev.step (fun _ => impl_expanded.l1.eq_2 ..) (ev_neg (by omega) ?_)
    rw [w64 (x := i + 1) (by omega) (by omega)]
    exact H out rfl
  | succ f ih =>
    intro out j h0 h1 h2 h3 h4 H
    refine Ev.step (fun _ => impl_expanded.l1.eq_2 ..) (ev_pos (by omega) ?_)
    rw [w64 (x := (out.length : Int) - d) (by omega) (by omega), w64 (x := j + 1) (by omega) (by omega)]
    refine ev_pos (by omega) (ev_pos (by omega) (ev_pos (by omega) ?_))
    exact ih _ _ (by omega) (by omega) h2 (by simp; omega) (by simp; omega) H
theorem impl_res (l : List S56) (hl : (l.length : Int) ≤ 100000000000) : ∀ (f : Nat) (i : Int) (out : List Int), 0 ≤ i → i + f = l.length → (out.length : Int) ≤ 600 → Ev (fun k => impl_expanded.l0 k l out l (l.length : Int) i) (res l f i out) := by
  intro f
  induction f with
  | zero =>
    intro i out h0 h1 h2
    refine Ev.step (fun _ => impl_expanded.l0.eq_2 ..) (ev_neg (by omega) (ev_ret ?_))
    unfold res
    rw [if_pos (by simp [gd]; omega)]
    rfl
  | succ f ih =>
    intro i out h0 h1 h2
    refine Ev.step (fun _ => impl_expanded.l0.eq_2 ..) (ev_pos (by omega) (ev_pos h0 (ev_pos (by omega) (ev_bindc (lit_eq _ _ _) ?_))))
    have bad : gd l (f + 1) i out.length = false → res l (f + 1) i out = (⟨#[]⟩, false) := fun h => by unfold res; rw [if_neg (by rw [h]; simp)]
    have next : ∀ out', out' = put1 out (rd_T56 l i) → gd l (f + 1) i out.length = gd l f (i + 1) out'.length → Ev (fun k => if (out'.length : Int) > 600 then (some ((⟨#[]⟩ : ByteArray), false)) else (impl_expanded.l0 k l out' l (l.length : Int) (i + 1))) (res l (f + 1) i out) := by
      intro out' ho hg
      by_cases hb : (out'.length : Int) > 600
      · refine ev_pos hb (ev_ret ?_)
        rw [bad]
        rw [hg]
        exact gd_big l f _ _ hb
      · refine ev_neg hb ?_
        have e : res l (f + 1) i out = res l f (i + 1) out' := by
          unfold res
          rw [hg, ho]
          rfl
        rw [e]
        exact ih _ _ (by omega) (by omega) (by omega)
    by_cases hz : (rd_T56 l i).f0.size = 0
    · refine ev_neg (by simp [hz]) (ev_bindc (within_eq _ _ _) ?_)
      have hmn : (1 ≤ (rd_T56 l i).f1 ∧ (rd_T56 l i).f1 ≤ mn 255 (out.length : Int)) ↔ (1 ≤ (rd_T56 l i).f1 ∧ (rd_T56 l i).f1 ≤ 255 ∧ (rd_T56 l i).f1 ≤ out.length) := by
        rw [mn_eq]; split <;> omega
      by_cases hd : 1 ≤ (rd_T56 l i).f1 ∧ (rd_T56 l i).f1 ≤ mn 255 (out.length : Int)
      · have hd' := hmn.1 hd
        refine ev_true (by simpa using hd) (ev_bindc (within_eq _ _ _) (Ev.step (fun _ => impl_expanded.j2.eq_2 ..) ?_))
        by_cases hf : 3 ≤ (rd_T56 l i).f2 ∧ (rd_T56 l i).f2 ≤ 66
        · refine ev_false (by simpa using hf) ?_
          have ht : tokOk (rd_T56 l i) = true := by
            unfold tokOk
            rw [if_pos hz]
            simp; omega
          have e0 : out ++ bytesOf (rd_T56 l i).f0 = out := by
            rw [List.eq_nil_of_length_eq_zero ((bytesOf_len _).trans hz), List.append_nil]
          refine impl_copy l hl i _ _ _ _ h0 (by omega) hf.2 (rd_T56 l i).f2.toNat out 0 (by omega) (by omega) hd'.1 hd'.2.2 (by omega) ?_
          intro out' ho
          have ho' : out' = put1 out (rd_T56 l i) := by unfold put1; rw [e0]; exact ho
          refine next out' ho' ?_
          rw [ho', put1_len]
          simp only [gd]
          rw [if_pos ht, if_neg (by omega), if_neg (fun h => h.2.1 hz)]
          congr 1
          omega
        · refine ev_true (by simp; omega) (ev_ret (bad ?_).symm)
          simp only [gd]
          rw [if_neg]
          unfold tokOk
          rw [if_pos hz]
          simp; omega
      · refine ev_false (by simpa using hd) (Ev.step (fun _ => impl_expanded.j2.eq_2 ..) (ev_true rfl (ev_ret (bad ?_).symm)))
        simp only [gd]
        by_cases ht : tokOk (rd_T56 l i) = true
        · have := tokOk_bd ht
          rw [if_pos ht, if_pos (by omega)]
        · rw [if_neg ht]
    · refine ev_pos (by simp [hz]) ?_
      have nope : ¬ tokOk (rd_T56 l i) = true → Ev (fun k => impl_expanded.j1 k l out l (l.length : Int) i true (rd_T56 l i).f0 (rd_T56 l i).f1 (rd_T56 l i).f2) (res l (f + 1) i out) := by
        intro h
        refine Ev.step (fun _ => impl_expanded.j1.eq_2 ..) (ev_true rfl (ev_ret (bad ?_).symm))
        simp only [gd]
        rw [if_neg h]
      have tk : tokOk (rd_T56 l i) = decide ((rd_T56 l i).f0.size ≤ 64 ∧ (rd_T56 l i).f1 = 0 ∧ (rd_T56 l i).f2 = 0) := by unfold tokOk; rw [if_neg hz]
      by_cases h64 : ((rd_T56 l i).f0.size : Int) > 64
      · exact ev_pos h64 (nope (by rw [tk]; simp; omega))
      · refine ev_neg h64 ?_
        by_cases hf1 : (rd_T56 l i).f1 = 0
        · refine ev_pos hf1 ?_
          by_cases hf2 : (rd_T56 l i).f2 = 0
          · refine ev_pos hf2 ?_
            have ht : tokOk (rd_T56 l i) = true := by rw [tk]; simp [hf1, hf2]; omega
            have yes : ¬ (i > 0 ∧ (rd_T56 l i).f0.size ≠ 0 ∧ 1 ≤ (rd_T56 l (i - 1)).f0.size ∧ (rd_T56 l (i - 1)).f0.size ≤ 63) → Ev (fun k => impl_expanded.j1 k l out l (l.length : Int) i false (rd_T56 l i).f0 (rd_T56 l i).f1 (rd_T56 l i).f2) (res l (f + 1) i out) := by
              intro h
              refine Ev.step (fun _ => impl_expanded.j1.eq_2 ..) (ev_false rfl (ev_pos (by omega) (ev_some ?_)))
              rw [w64 (x := i + 1) (by omega) (by omega)]
              have e0 : out ++ bytesOf (rd_T56 l i).f0 = put1 out (rd_T56 l i) := by
                unfold put1
                rw [hf2]
                rfl
              refine next _ e0 ?_
              rw [e0, put1_len]
              simp only [gd]
              rw [if_pos ht, if_neg (by omega), if_neg h]
              congr 1
              omega
            have no : i > 0 ∧ (rd_T56 l i).f0.size ≠ 0 ∧ 1 ≤ (rd_T56 l (i - 1)).f0.size ∧ (rd_T56 l (i - 1)).f0.size ≤ 63 → Ev (fun k => impl_expanded.j1 k l out l (l.length : Int) i true (rd_T56 l i).f0 (rd_T56 l i).f1 (rd_T56 l i).f2) (res l (f + 1) i out) := by
              intro h
              refine Ev.step (fun _ => impl_expanded.j1.eq_2 ..) (ev_true rfl (ev_ret (bad ?_).symm))
              simp only [gd]
              rw [if_pos ht, if_neg (by omega), if_pos h]
            by_cases hi : i > 0
            · refine ev_pos hi ?_
              rw [w64 (x := i - 1) (by omega) (by omega)]
              refine ev_pos (by omega) (ev_pos (by omega) (ev_bindc (lit_eq _ _ _) ?_))
              by_cases hp : (rd_T56 l (i - 1)).f0.size = 0
              · exact ev_neg (by simp [hp]) (yes (by omega))
              · refine ev_pos (by simp [hp]) ?_
                by_cases hq : ((rd_T56 l (i - 1)).f0.size : Int) < 64
                · rw [decide_eq_true hq]
                  exact no ⟨hi, hz, by omega, by omega⟩
                · rw [decide_eq_false hq]
                  exact yes (by omega)
            · exact ev_neg hi (yes (fun h => hi h.1))
          · exact ev_neg hf2 (nope (by rw [tk]; simp [hf2]))
        · exact ev_neg hf1 (nope (by rw [tk]; simp [hf1]))
theorem impl_exp (l : List S56) (hl : (l.length : Int) ≤ 100000000000) : Ev (fun k => impl_expanded.f k l) (res l l.length 0 []) := by
  unfold impl_expanded.f
  exact impl_res l hl _ _ _ (by omega) (by omega) (by simp)
end Go.Proofs.Ytgglcpcfmhpcmaa.ZFnSqueezed
