import Derived.Test.YtgglcpcfmhpcmaaZFnExactSqueezePackPure
import Derived.Test.YtgglcpcfmhpcmaaZFnExactSqueezeLzTokens
/-! Squeeze, walked; the law, walked. -/
namespace Go.Proofs.Ytgglcpcfmhpcmaa.PFnExactSqueeze
open Go.RowKit Go.Proofs.YtgglcpcfmhpcmaaW.PrintWords Go.Proofs.YtgglcpcfmhpcmaaW.PrintLast Go.Proofs.YtgglcpcfmhpcmaaW.PrintMore Go.Proofs.Ytgglcpcfmhpcmaa.E Go.Proofs.Ytgglcpcfmhpcmaa.ZFnExactSqueeze
set_option linter.unusedSimpArgs false
set_option linter.unusedVariables false

theorem last_set (out : List S56) (x : S56) (h : 1 ≤ out.length) : ∃ d, out = d ++ [lst out] ∧ out.set ((out.length : Int) - 1).toNat x = d ++ [x] := by
  have hne : out ≠ [] := fun e => by rw [e] at h; simp at h
  refine ⟨out.dropLast, ?_, ?_⟩
  · have e : lst out = out.getLast hne := by
      unfold lst rd_T56
      rw [List.getD_eq_getElem?_getD, show ((out.length : Int) - 1).toNat = out.length - 1 by omega, List.getElem?_eq_getElem (by omega), List.getLast_eq_getElem]
      rfl
    rw [e, List.dropLast_concat_getLast hne]
  · obtain ⟨d, y, rfl⟩ : ∃ d y, out = d ++ [y] := ⟨out.dropLast, out.getLast hne, (List.dropLast_concat_getLast hne).symm⟩
    rw [List.dropLast_concat, show (((d ++ [y]).length : Int) - 1).toNat = d.length by simp]
    simp
theorem toks_pack (s : ByteArray) (hs : s.size ≤ 1048576) : ∀ (f : Nat) (out : List S56) (p : Int), 0 ≤ p → p ≤ s.size → ((packL (toks s f out p)).length : Int) ≤ (packL out).length + 2 * (s.size - p) ∧ ((toks s f out p).length : Int) ≤ out.length + f := by
  intro f
  induction f with
  | zero => intro out p h0 h1; simp [toks]; omega
  | succ f ih =>
    intro out p h0 h1
    simp only [toks]
    split
    · rename_i hp
      have hb := longest_bd s p h0 h1 hs
      split
      · rename_i hd
        have hb' := hb.resolve_left (fun h => by rw [h] at hd; simp at hd)
        have := ih (out ++ [⟨⟨#[]⟩, (longest s p).1, (longest s p).2⟩]) (p + (longest s p).2) (by omega) (by omega)
        have e : (pk (⟨⟨#[]⟩, (longest s p).1, (longest s p).2⟩ : S56)).length = 2 := rfl
        rw [packL_append, List.length_append, packL_cons, List.length_append, e] at this
        simp [packL] at this ⊢
        omega
      · have h1s := one_size s p h0 hp
        split
        · rename_i ho
          have ho' := of_decide_eq_true ho
          obtain ⟨d, e1, e2⟩ := last_set out ⟨(lst out).f0 ++ one s p, (lst out).f1, (lst out).f2⟩ ho'.1
          have := ih (out.set ((out.length : Int) - 1).toNat ⟨(lst out).f0 ++ one s p, (lst out).f1, (lst out).f2⟩) (p + 1) (by omega) (by omega)
          have l1 := pk_len (⟨(lst out).f0 ++ one s p, (lst out).f1, (lst out).f2⟩ : S56)
          have l2 := pk_len (lst out)
          have z : ((lst out).f0 ++ one s p).size = (lst out).f0.size + 1 := by rw [ByteArray.size_append, h1s]
          simp only [z] at l1
          rw [if_neg (by omega)] at l1 l2
          rw [e2, packL_append, List.length_append, packL_cons, List.length_append, l1] at this
          have e3 : (packL out).length = (packL d).length + ((pk (lst out)).length + (packL ([] : List S56)).length) := by
            conv => lhs; rw [e1]
            rw [packL_append, List.length_append, packL_cons, List.length_append]
          have e4 : (d ++ [(⟨(lst out).f0 ++ one s p, (lst out).f1, (lst out).f2⟩ : S56)]).length = out.length := by
            conv => rhs; rw [e1]
            simp
          rw [e4] at this
          rw [e2]
          omega
        · have := ih (out ++ [⟨one s p, 0, 0⟩]) (p + 1) (by omega) (by omega)
          have l1 := pk_len (⟨one s p, 0, 0⟩ : S56)
          simp only [h1s] at l1
          rw [packL_append, List.length_append, packL_cons, List.length_append, l1] at this
          simp [packL] at this ⊢
          omega
    · constructor <;> omega
def tk (s : ByteArray) : List S56 := toks s s.size [] 0
theorem tk_bd (s : ByteArray) (hs : s.size ≤ 1048576) : (packL (tk s)).length ≤ 2 * s.size ∧ (tk s).length ≤ s.size := by
  have := toks_pack s hs s.size [] 0 (by omega) (by omega)
  have e : packL ([] : List S56) = [] := rfl
  rw [e] at this
  simp only [List.length_nil] at this
  unfold tk
  omega
theorem impl_tk (s : ByteArray) (h6 : ¬ (s.size : Int) > 600) : Ev (fun k => impl_TokensOf.f k s) (tk s, true) := by
  unfold impl_TokensOf.f impl_tokensOf.f tk
  exact ev_neg h6 (Ev.bind (impl_toks s (by omega) s.size [] 0 (by omega) (by omega) (by omega) (by simp)) (ev_ret rfl))
theorem spec_sq (s : ByteArray) (h6 : ¬ (s.size : Int) > 600) : Ev (fun k => spec_Squeeze.f k s) (⟨(packL (tk s)).toArray⟩, true) := by
  have hb := tk_bd s (by omega)
  unfold spec_Squeeze.f spec_l16Tokens.f
  exact ev_neg h6 (Ev.bind (spec_toks s (by omega) s.size [] 0 (by omega) (by omega) (by omega) (by simp)) (Ev.bind (spec_pack (tk s) (by omega) (by omega)) (ev_ret rfl)))

set_option maxHeartbeats 4000000 in
set_option maxRecDepth 100000 in
theorem impl_Squeeze.no (s : ByteArray) (w : World) (h6 : (s.size : Int) > 600) :
    Calls Try.prog 32 #[.string s] w fun e w' => e = .returned (.tuple #[.string ⟨#[]⟩, .bool false]) ∧ Below w.heap.size w w' := by
  have H : Aside0 (impl_TokensOf.f 0 s = some ([], false)) := ⟨by unfold impl_TokensOf.f; rw [if_pos h6]⟩
  clear h6
  go_enter Try.func32, Try.ntmps32
  go_wp2_with (go_at_call 34; refine (impl_TokensOf.calls 0 s _ _ _ H.out).mono ?_; rintro e w1 ⟨v, rfl, hR, hb1⟩)
  go_wp2
  go_ret2
  exact ⟨rfl, hb1⟩
set_option maxHeartbeats 4000000 in
set_option maxRecDepth 100000 in
theorem impl_Squeeze.yes (s : ByteArray) (w : World) (h6' : (s.size : Int) ≤ 600) :
    Calls Try.prog 32 #[.string s] w fun e w' => e = .returned (.tuple #[.string ⟨(packL (tk s)).toArray⟩, .bool true]) ∧ Below w.heap.size w w' := by
  have h6 : ¬ (s.size : Int) > 600 := by omega
  have hbd := tk_bd s (by omega)
  have hP := Aside0.mk (show (packL (tk s)).length ≤ 140737488355328 by omega)
  obtain ⟨k, hk⟩ := (impl_tk s h6).rounds
  have H := Aside0.mk hk
  clear hk h6 h6' hbd
  go_enter Try.func32, Try.ntmps32
  go_wp2_with (go_at_call 34; refine (impl_TokensOf.calls k s _ _ _ H.out).mono ?_; rintro e w1 ⟨v, rfl, hR, hb1⟩)
  obtain ⟨A, c, rfl, hc, hC⟩ := Kd.R_reads hR
  have HB1 := Aside0.mk hb1
  have HC := Aside0.mk hC
  clear hR hb1 hC
  go_wp2_with (go_at_call 60; refine (impl_packed.calls _ _ _ _ HC.out hc hP.out).mono ?_; rintro e w2 ⟨rfl, hb2⟩)
  have HB2 := Aside0.mk (HB1.out.trans (hb2.mono HB1.out.size))
  clear hb2
  go_wp2
  go_ret2
  exact ⟨rfl, HB2.out⟩
set_option maxHeartbeats 4000000 in
set_option maxRecDepth 100000 in
theorem law_calls (s : ByteArray) (w : World) (hs : s.size ≤ 140737488351232) :
    Calls Try.prog 10 #[.string s] w fun e w' => e = .returned (.bool true) ∧ Below w.heap.size w w' := by
  by_cases hb : (1048576 : Int) < s.size
  · have h1 : decide ((1048576 : Int) < s.size) = true := decide_eq_true hb
    clear hb
    go_enter Try.func10, Try.ntmps10
    go_wp2
    go_ret
    exact ⟨rfl, Below.refl _ _⟩
  · have h1 : decide ((1048576 : Int) < s.size) = false := decide_eq_false hb
    by_cases h6 : (s.size : Int) > 600
    · have H : Aside0 (spec_Squeeze.f 0 s = some (⟨#[]⟩, false)) := ⟨by unfold spec_Squeeze.f; rw [if_pos h6]⟩
      have H6 := Aside0.mk h6
      clear h6 hb hs
      go_enter Try.func10, Try.ntmps10
      go_wp2_with (first | (go_at_call 31; refine (spec_Squeeze.calls 0 s _ _ _ H.out).mono ?_; rintro e w1 ⟨rfl, hb1⟩) | (go_at_call 32; refine (impl_Squeeze.no s _ H6.out).mono ?_; rintro e w2 ⟨rfl, hb2⟩))
      go_ret
      exact ⟨rfl, hb1.trans (hb2.mono hb1.size)⟩
    · obtain ⟨k, hk⟩ := (spec_sq s h6).rounds
      have H := Aside0.mk hk
      have H6 := Aside0.mk (show (s.size : Int) ≤ 600 by omega)
      clear h6 hb hs hk
      go_enter Try.func10, Try.ntmps10
      go_wp2_with (first | (go_at_call 31; refine (spec_Squeeze.calls k s _ _ _ H.out).mono ?_; rintro e w1 ⟨rfl, hb1⟩) | (go_at_call 32; refine (impl_Squeeze.yes s _ H6.out).mono ?_; rintro e w2 ⟨rfl, hb2⟩))
      go_ret
      exact ⟨rfl, hb1.trans (hb2.mono hb1.size)⟩
end Go.Proofs.Ytgglcpcfmhpcmaa.PFnExactSqueeze
