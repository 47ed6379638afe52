import Derived.Test.YtgglcpcfmhpcmaaZFnSqueezedPackPure
import Derived.Test.YtgglcpcfmhpcmaaZFnSqueezedLzTokens
/-! Squeeze, of the program and of the reference: the tokens, packed. -/
namespace Go.Proofs.Ytgglcpcfmhpcmaa.PFnSqueezed
open Go.RowKit Go.Proofs.YtgglcpcfmhpcmaaW.PrintWords Go.Proofs.YtgglcpcfmhpcmaaW.PrintLast Go.Proofs.YtgglcpcfmhpcmaaW.PrintMore Go.Proofs.Ytgglcpcfmhpcmaa.E Go.Proofs.Ytgglcpcfmhpcmaa.ZFnSqueezed
set_option linter.unusedSimpArgs false
set_option linter.unusedVariables false

theorem last_set (out : List S56) (x : S56) (h : 1 ≤ out.length) : ∃ d, out = d ++ [lst out] ∧ out.set ((out.length : Int) - 1).toNat x = d ++ [x] := by
  have hne : out ≠ [] := fun e => by rw [e] at h; simp at h
  refine ⟨out.dropLast, ?_, ?_⟩
  · have e : lst out = out.getLast hne := by
      unfold lst rd_T56
      rw [List.getD_eq_getElem?_getD, show ((out.length : Int) - 1).toNat = out.length - 1 by omega, List.getElem?_eq_getElem (by omega), List.getLast_eq_getElem]
      rfl
    rw [e, List.dropLast_concat_getLast hne]
  · obtain ⟨d, y, rfl⟩ : ∃ d y, out = d ++ [y] := ⟨out.dropLast, out.getLast hne, (List.dropLast_concat_getLast hne).symm⟩
    rw [List.dropLast_concat, show (((d ++ [y]).length : Int) - 1).toNat = d.length by simp]
    simp
theorem toks_pack (s : ByteArray) (hs : s.size ≤ 1048576) : ∀ (f : Nat) (out : List S56) (p : Int), 0 ≤ p → p ≤ s.size → ((packL (toks s f out p)).length : Int) ≤ (packL out).length + 2 * (s.size - p) ∧ ((toks s f out p).length : Int) ≤ out.length + f := by
  intro f
  induction f with
  | zero => intro out p h0 h1; simp [toks]; omega
  | succ f ih =>
    intro out p h0 h1
    simp only [toks]
    split
    · rename_i hp
      have hb := longest_bd s p h0 h1 hs
      split
      · rename_i hd
        have hb' := hb.resolve_left (fun h => by rw [h] at hd; simp at hd)
        have := ih (out ++ [⟨⟨#[]⟩, (longest s p).1, (longest s p).2⟩]) (p + (longest s p).2) (by omega) (by omega)
        have e : (pk (⟨⟨#[]⟩, (longest s p).1, (longest s p).2⟩ : S56)).length = 2 := rfl
        rw [packL_append, List.length_append, packL_cons, List.length_append, e] at this
        simp [packL] at this ⊢
        omega
      · have h1s := one_size s p h0 hp
        split
        · rename_i ho
          have ho' := of_decide_eq_true ho
          obtain ⟨d, e1, e2⟩ := last_set out ⟨(lst out).f0 ++ one s p, (lst out).f1, (lst out).f2⟩ ho'.1
          have := ih (out.set ((out.length : Int) - 1).toNat ⟨(lst out).f0 ++ one s p, (lst out).f1, (lst out).f2⟩) (p + 1) (by omega) (by omega)
          have l1 := pk_len (⟨(lst out).f0 ++ one s p, (lst out).f1, (lst out).f2⟩ : S56)
          have l2 := pk_len (lst out)
          have z : ((lst out).f0 ++ one s p).size = (lst out).f0.size + 1 := by rw [ByteArray.size_append, h1s]
          simp only [z] at l1
          rw [if_neg (by omega)] at l1 l2
          rw [e2, packL_append, List.length_append, packL_cons, List.length_append, l1] at this
          have e3 : (packL out).length = (packL d).length + ((pk (lst out)).length + (packL ([] : List S56)).length) := by
            conv => lhs; rw [e1]
            rw [packL_append, List.length_append, packL_cons, List.length_append]
          have e4 : (d ++ [(⟨(lst out).f0 ++ one s p, (lst out).f1, (lst out).f2⟩ : S56)]).length = out.length := by
            conv => rhs; rw [e1]
            simp
          rw [e4] at this
          rw [e2]
          omega
        · have := ih (out ++ [⟨one s p, 0, 0⟩]) (p + 1) (by omega) (by omega)
          have l1 := pk_len (⟨one s p, 0, 0⟩ : S56)
          simp only [h1s] at l1
          rw [packL_append, List.length_append, packL_cons, List.length_append, l1] at this
          simp [packL] at this ⊢
          omega
    · constructor <;> omega
def tk (s : ByteArray) : List S56 := toks s s.size [] 0
theorem tk_bd (s : ByteArray) (hs : s.size ≤ 1048576) : (packL (tk s)).length ≤ 2 * s.size ∧ (tk s).length ≤ s.size := by
  have := toks_pack s hs s.size [] 0 (by omega) (by omega)
  have e : packL ([] : List S56) = [] := rfl
  rw [e] at this
  simp only [List.length_nil] at this
  unfold tk
  omega
theorem impl_tk (s : ByteArray) (h6 : ¬ (s.size : Int) > 600) : Ev (fun k => impl_TokensOf.f k s) (tk s, true) := by
  unfold impl_TokensOf.f impl_tokensOf.f tk
  exact ev_neg h6 (Ev.bind (impl_toks s (by omega) s.size [] 0 (by omega) (by omega) (by omega) (by simp)) (ev_ret rfl))
theorem spec_sq (s : ByteArray) (h6 : ¬ (s.size : Int) > 600) : Ev (fun k => spec_Squeeze.f k s) (⟨(packL (tk s)).toArray⟩, true) := by
  have hb := tk_bd s (by omega)
  unfold spec_Squeeze.f spec_l16Tokens.f
  exact ev_neg h6 (Ev.bind (spec_toks s (by omega) s.size [] 0 (by omega) (by omega) (by omega) (by simp)) (Ev.bind (spec_pack (tk s) (by omega) (by omega)) (ev_ret rfl)))

end Go.Proofs.Ytgglcpcfmhpcmaa.PFnSqueezed
