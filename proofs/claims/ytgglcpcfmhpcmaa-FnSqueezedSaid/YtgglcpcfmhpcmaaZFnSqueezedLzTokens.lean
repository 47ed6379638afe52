import Derived.Test.YtgglcpcfmhpcmaaZFnSqueezedLzLongest
/-! The tokens of a text: the program's and the reference's are the same row. -/
namespace Go.Proofs.Ytgglcpcfmhpcmaa.ZFnSqueezed
open Go.RowKit Go.Proofs.Ytgglcpcfmhpcmaa.PFnSqueezed Go.Proofs.YtgglcpcfmhpcmaaW.PrintWords Go.Proofs.YtgglcpcfmhpcmaaW.PrintLast Go.Proofs.YtgglcpcfmhpcmaaW.PrintMore Go.Proofs.Ytgglcpcfmhpcmaa.E
set_option linter.unusedSimpArgs false
set_option linter.unusedVariables false

theorem scan_bd (s : ByteArray) (p : Int) : ∀ (f : Nat) (dist long d : Int), 1 ≤ d → (dist = 0 ∧ long = 2 ∨ 0 < dist ∧ dist ≤ d - 1 ∧ 3 ≤ long ∧ long ≤ lim s p) →
    scan s p f dist long d = (0, 0) ∨ (0 < (scan s p f dist long d).1 ∧ (scan s p f dist long d).1 ≤ d - 1 + f ∧ 3 ≤ (scan s p f dist long d).2 ∧ (scan s p f dist long d).2 ≤ lim s p) := by
  intro f
  induction f with
  | zero =>
    intro dist long d hd h
    simp only [scan]
    rcases h with ⟨rfl, rfl⟩ | h
    · exact .inl rfl
    · rw [if_neg (by omega)]
      exact .inr ⟨h.1, by simp; omega, h.2.2.1, h.2.2.2⟩
  | succ f ih =>
    intro dist long d hd h
    have hr := run_bd s p d (lim s p) 0
    simp only [scan]
    split
    · rcases ih d (run s p d (lim s p) 0) (d + 1) (by omega) (.inr ⟨by omega, by omega, by omega, by omega⟩) with h | h
      · exact .inl h
      · exact .inr ⟨h.1, by omega, h.2.2.1, h.2.2.2⟩
    · rcases ih dist long (d + 1) (by omega) (by omega) with h | h
      · exact .inl h
      · exact .inr ⟨h.1, by omega, h.2.2.1, h.2.2.2⟩
theorem longest_bd (s : ByteArray) (p : Int) (h0 : 0 ≤ p) (h1 : p ≤ s.size) (hs : s.size ≤ 1048576) :
    longest s p = (0, 0) ∨ (0 < (longest s p).1 ∧ (longest s p).1 ≤ 255 ∧ (longest s p).1 ≤ p ∧ 3 ≤ (longest s p).2 ∧ (longest s p).2 ≤ 66 ∧ p + (longest s p).2 ≤ s.size) := by
  have hl := lim_bd s p h1
  unfold longest
  by_cases h255 : 255 ≤ p
  · rw [if_pos h255]
    rcases scan_bd s p (255 : Int).toNat 0 2 1 (by omega) (.inl ⟨rfl, rfl⟩) with h | h
    · exact .inl h
    · exact .inr ⟨h.1, by omega, by omega, h.2.2.1, by omega, by omega⟩
  · rw [if_neg h255]
    rcases scan_bd s p p.toNat 0 2 1 (by omega) (.inl ⟨rfl, rfl⟩) with h | h
    · exact .inl h
    · exact .inr ⟨h.1, by omega, by omega, h.2.2.1, by omega, by omega⟩

def lst (out : List S56) : S56 := rd_T56 out ((out.length : Int) - 1)
def opn (out : List S56) : Bool := decide (1 ≤ out.length ∧ 1 ≤ (lst out).f0.size ∧ (lst out).f0.size ≤ 63)
def one (s : ByteArray) (p : Int) : ByteArray := s.extract p.toNat (p + 1).toNat
def toks (s : ByteArray) : Nat → List S56 → Int → List S56
  | 0, out, _ => out
  | f + 1, out, p =>
    if p < s.size then
      if (longest s p).1 > 0 then toks s f (out ++ [⟨⟨#[]⟩, (longest s p).1, (longest s p).2⟩]) (p + (longest s p).2)
      else if opn out = true then toks s f (out.set ((out.length : Int) - 1).toNat ⟨(lst out).f0 ++ one s p, (lst out).f1, (lst out).f2⟩) (p + 1)
      else toks s f (out ++ [⟨one s p, 0, 0⟩]) (p + 1)
    else out

theorem one_size (s : ByteArray) (p : Int) (h0 : 0 ≤ p) (h1 : p < s.size) : (one s p).size = 1 := by
  unfold one
  rw [ByteArray.size_extract]
  omega
section
variable (s : ByteArray) (hs : s.size ≤ 1048576)
include hs
theorem spec_toks : ∀ (f : Nat) (out : List S56) (p : Int), 0 ≤ p → p ≤ s.size → s.size ≤ p + f → (out.length : Int) ≤ p → Ev (fun k => spec_l16Tokens.l0 k s out p) (toks s f out p) := by
  intro f
  induction f with
  | zero =>
    intro out p h0 h1 h2 h3
    refine Ev.step (fun _ => spec_l16Tokens.l0.eq_2 ..) (ev_neg (by omega) (ev_ret rfl))
  | succ f ih =>
    intro out p h0 h1 h2 h3
    refine Ev.step (fun _ => spec_l16Tokens.l0.eq_2 ..) ?_
    simp only [toks]
    by_cases hp : p < s.size
    · rw [if_pos hp]
      refine ev_pos hp (Ev.bind (spec_longest s p hs h0 h1) ?_)
      have hb := longest_bd s p h0 h1 hs
      by_cases hd : (longest s p).1 > 0
      · rw [if_pos hd]
        have hb' := hb.resolve_left (fun h => by rw [h] at hd; simp at hd)
        refine ev_pos hd (ev_pos (by omega) ?_)
        rw [w64 (x := p + (longest s p).2) (by omega) (by omega)]
        exact ih _ _ (by omega) (by omega) (by omega) (by simp; omega)
      · rw [if_neg hd]
        refine ev_neg hd ?_
        rw [w64 (x := p + 1) (by omega) (by omega), w64 (x := (out.length : Int) - 1) (by omega) (by omega)]
        have hn : Ev (fun k => if 0 ≤ p then (if p ≤ p + 1 then (if p + 1 ≤ (s.size : Int) then (if out.length < 4398046511104 then (spec_l16Tokens.l0 k s (out ++ [(⟨s.extract (p : Int).toNat ((p + 1) : Int).toNat, 0, 0⟩ : S56)]) (p + 1)) else (none)) else (none)) else (none)) else (none)) (toks s f (out ++ [⟨one s p, 0, 0⟩]) (p + 1)) :=
          ev_pos h0 (ev_pos (by omega) (ev_pos (by omega) (ev_pos (by omega) (ih _ _ (by omega) (by omega) (by omega) (by simp; omega)))))
        by_cases ho : opn out = true
        · rw [if_pos ho]
          have ho' := of_decide_eq_true ho
          have h1s := one_size s p h0 hp
          unfold one at h1s
          unfold lst at ho'
          refine ev_pos (by omega) (ev_pos (by omega) (ev_pos (by omega) (ev_bindc (a := true) ?_ (ev_true rfl (ev_pos h0 (ev_pos (by omega) (ev_pos (by omega) (ev_pos (by omega) ?_))))))))
          · unfold spec_l1In.f
            rw [if_pos (by omega)]
            simp; omega
          · exact ih _ _ (by omega) (by omega) (by omega) (by simp; omega)
        · rw [if_neg ho]
          by_cases hl : out.length = 0
          · exact ev_neg (by omega) hn
          · have ho' : ¬ (1 ≤ (lst out).f0.size ∧ (lst out).f0.size ≤ 63) := fun h => ho (decide_eq_true ⟨by omega, h⟩)
            unfold lst at ho'
            refine ev_pos (by omega) (ev_pos (by omega) (ev_pos (by omega) (ev_bindc (a := false) ?_ (ev_false rfl hn))))
            unfold spec_l1In.f
            split <;> simp <;> omega
    · rw [if_neg hp]
      exact ev_neg hp (ev_ret rfl)
theorem impl_toks : ∀ (f : Nat) (out : List S56) (p : Int), 0 ≤ p → p ≤ s.size → s.size ≤ p + f → (out.length : Int) ≤ p → Ev (fun k => impl_tokensOf.l0 k s out p) (toks s f out p) := by
  intro f
  induction f with
  | zero =>
    intro out p h0 h1 h2 h3
    refine Ev.step (fun _ => impl_tokensOf.l0.eq_2 ..) (ev_neg (by omega) (ev_ret rfl))
  | succ f ih =>
    intro out p h0 h1 h2 h3
    refine Ev.step (fun _ => impl_tokensOf.l0.eq_2 ..) ?_
    simp only [toks]
    by_cases hp : p < s.size
    · rw [if_pos hp]
      refine ev_pos hp (Ev.bind (impl_longest s p hs h0 h1) ?_)
      have hb := longest_bd s p h0 h1 hs
      by_cases hd : (longest s p).1 > 0
      · rw [if_pos hd]
        have hb' := hb.resolve_left (fun h => by rw [h] at hd; simp at hd)
        refine ev_pos hd (ev_pos (by omega) ?_)
        rw [w64 (x := p + (longest s p).2) (by omega) (by omega)]
        exact ih _ _ (by omega) (by omega) (by omega) (by simp; omega)
      · rw [if_neg hd]
        refine ev_neg hd ?_
        rw [w64 (x := p + 1) (by omega) (by omega), w64 (x := (out.length : Int) - 1) (by omega) (by omega)]
        have hn : Ev (fun k => if 0 ≤ p then (if p ≤ p + 1 then (if p + 1 ≤ (s.size : Int) then (if out.length < 4398046511104 then (impl_tokensOf.l0 k s (out ++ [(⟨s.extract (p : Int).toNat ((p + 1) : Int).toNat, 0, 0⟩ : S56)]) (p + 1)) else (none)) else (none)) else (none)) else (none)) (toks s f (out ++ [⟨one s p, 0, 0⟩]) (p + 1)) :=
          ev_pos h0 (ev_pos (by omega) (ev_pos (by omega) (ev_pos (by omega) (ih _ _ (by omega) (by omega) (by omega) (by simp; omega)))))
        by_cases hl : out.length = 0
        · have ho : ¬ opn out = true := fun h => by have := of_decide_eq_true h; omega
          rw [if_neg ho]
          exact ev_neg (by omega) hn
        · refine ev_pos (by omega) (ev_pos (by omega) (ev_pos (by omega) ?_))
          by_cases hz : (lst out).f0.size = 0
          · have ho : ¬ opn out = true := fun h => by have := of_decide_eq_true h; omega
            rw [if_neg ho]
            refine ev_bindc (a := false) ?_ (ev_false rfl hn)
            unfold impl_Token_isLiteral.f
            have := ba_nil.2 hz
            unfold lst at this
            rw [this]
            rfl
          · refine ev_bindc (a := true) ?_ (ev_true rfl ?_)
            · unfold impl_Token_isLiteral.f
              have := mt ba_nil.1 hz
              unfold lst at this
              simp [this]
            · by_cases h63 : (lst out).f0.size ≤ 63
              · have ho : opn out = true := decide_eq_true ⟨by omega, by omega, h63⟩
                rw [if_pos ho]
                have h1s := one_size s p h0 hp
                unfold one at h1s
                unfold lst at h63
                refine ev_pos (by omega) (ev_pos h0 (ev_pos (by omega) (ev_pos (by omega) (ev_pos (by omega) ?_))))
                exact ih _ _ (by omega) (by omega) (by omega) (by simp; omega)
              · have ho : ¬ opn out = true := fun h => by have := of_decide_eq_true h; omega
                rw [if_neg ho]
                unfold lst at h63
                exact ev_neg (by omega) hn
    · rw [if_neg hp]
      exact ev_neg hp (ev_ret rfl)
end
end Go.Proofs.Ytgglcpcfmhpcmaa.ZFnSqueezed
