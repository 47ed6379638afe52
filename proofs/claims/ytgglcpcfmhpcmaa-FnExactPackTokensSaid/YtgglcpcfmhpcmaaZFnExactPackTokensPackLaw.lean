import Derived.Test.YtgglcpcfmhpcmaaZFnExactPackTokensPackPure
import Derived.Test.YtgglcpcfmhpcmaaZFnExactPackTokensToToken
/-! PackTokens, walked; the law, walked. -/
namespace Go.Proofs.Ytgglcpcfmhpcmaa.PFnExactPackTokens
open Go.RowKit Go.Proofs.YtgglcpcfmhpcmaaW.PrintWords Go.Proofs.YtgglcpcfmhpcmaaW.PrintLast Go.Proofs.YtgglcpcfmhpcmaaW.PrintMore Go.Proofs.Ytgglcpcfmhpcmaa.E Go.Proofs.Ytgglcpcfmhpcmaa.ZFnExactPackTokens
set_option linter.unusedSimpArgs false
set_option linter.unusedVariables false

theorem gd_pack (l : List S56) : ∀ (f : Nat) (i n : Int), 0 ≤ i → i + f = l.length → gd l f i n = true → ((packL (l.drop i.toNat)).length : Int) ≤ 2 * (600 - n) := by
  intro f
  induction f with
  | zero =>
    intro i n h0 h1 h
    simp only [ZFnExactPackTokens.gd, decide_eq_true_eq] at h
    rw [List.drop_of_length_le (by omega)]
    simp [packL]; omega
  | succ f ih =>
    intro i n h0 h1 h
    simp only [ZFnExactPackTokens.gd] at h
    split at h
    · rename_i ht
      have hb := tokOk_bd ht
      split at h
      · cases h
      · split at h
        · cases h
        · have := ih _ _ (by omega) (by omega) h
          have hi : i.toNat < l.length := by omega
          have er : rd_T56 l i = l[i.toNat] := by
            unfold rd_T56
            rw [List.getD_eq_getElem?_getD, List.getElem?_eq_getElem hi]
            rfl
          have hp := pk_len (rd_T56 l i)
          rw [List.drop_eq_getElem_cons hi, packL_cons, List.length_append, ← er]
          rw [show (i + 1).toNat = i.toNat + 1 by omega] at this
          split at hp <;> omega
    · cases h
theorem good_pack (l : List S56) (h : gd l l.length 0 0 = true) : (packL l).length ≤ 1200 := by
  have := gd_pack l l.length 0 0 (by omega) (by omega) h
  simp only [Int.toNat_zero, List.drop_zero] at this
  omega
def pans (l : List S56) : ByteArray × Bool := if gd l l.length 0 0 = true then (⟨(packL l).toArray⟩, true) else (⟨#[]⟩, false)
theorem spec_pt (l : List S56) (hl : (l.length : Int) ≤ 100000000000) : Ev (fun k => spec_PackTokens.f k l) (pans l) := by
  unfold spec_PackTokens.f
  refine Ev.bind (spec_good l hl) ?_
  by_cases hg : gd l l.length 0 0 = true
  · have hp := good_pack l hg
    have er : pans l = (⟨(packL l).toArray⟩, true) := if_pos hg
    rw [er]
    exact ev_true hg (Ev.bind (spec_pack l hl (by omega)) (ev_ret rfl))
  · have er : pans l = (⟨#[]⟩, false) := if_neg hg
    rw [er]
    exact ev_neg hg (ev_ret rfl)
theorem impl_gt (l : List S56) (hl : (l.length : Int) ≤ 100000000000) : Ev (fun k => impl_GoodTokens.f k l) (gd l l.length 0 0) := by
  unfold impl_GoodTokens.f
  refine Ev.bind (impl_exp l hl) (ev_ret ?_)
  unfold res
  cases h : gd l l.length 0 (([] : List Int).length : Int)
  · rw [if_neg (by simp)]
  · rw [if_pos rfl]
set_option maxHeartbeats 4000000 in
set_option maxRecDepth 100000 in
theorem impl_PackTokens.calls (A0 : Option Addr) (c0 : Nat) (l0 : List S56) (w : World) (hr0 : Kd.C k56 w A0 l0.length l0) (hc0 : l0.length ≤ c0) (hl : (l0.length : Int) ≤ 100000000000) (R : ByteArray) (b : Bool) (hp : pans l0 = (R, b)) :
    Calls Try.prog 40 #[.slice A0 l0.length c0] w fun e w' => e = .returned (.tuple #[.string R, .bool b]) ∧ Below w.heap.size w w' := by
  obtain ⟨k, hk⟩ := (impl_gt l0 hl).rounds
  have HR := Aside0.mk hr0
  by_cases hg : gd l0 l0.length 0 0 = true
  · have hP := Aside0.mk (show (packL l0).length ≤ 140737488355328 by have := good_pack l0 hg; omega)
    have er : pans l0 = (⟨(packL l0).toArray⟩, true) := if_pos hg
    rw [er] at hp
    obtain ⟨rfl, rfl⟩ := Prod.mk.inj hp
    rw [hg] at hk
    have H := Aside0.mk hk
    clear hk hg er hr0 hl hp
    go_enter Try.func40, Try.ntmps40
    go_wp2_with (go_at_call 24; refine (impl_GoodTokens.calls k _ _ _ true _ HR.out hc0 H.out).mono ?_; rintro e w1 ⟨rfl, hb1⟩)
    have HB1 := Aside0.mk hb1
    have HR1 := Aside0.mk (Kd.C_below HR.out hb1)
    clear hb1
    go_wp2_with (go_at_call 60; refine (impl_packed.calls _ _ _ _ HR1.out hc0 hP.out).mono ?_; rintro e w2 ⟨rfl, hb2⟩)
    have HB2 := Aside0.mk (HB1.out.trans (hb2.mono HB1.out.size))
    clear hb2
    go_wp2
    go_ret2
    exact ⟨rfl, HB2.out⟩
  · have er : pans l0 = (⟨#[]⟩, false) := if_neg hg
    rw [er] at hp
    obtain ⟨rfl, rfl⟩ := Prod.mk.inj hp
    rw [Bool.eq_false_iff.mpr hg] at hk
    have H := Aside0.mk hk
    clear hk hg er hr0 hl hp
    go_enter Try.func40, Try.ntmps40
    go_wp2_with (go_at_call 24; refine (impl_GoodTokens.calls k _ _ _ false _ HR.out hc0 H.out).mono ?_; rintro e w1 ⟨rfl, hb1⟩)
    go_ret2
    exact ⟨rfl, hb1⟩
set_option maxHeartbeats 4000000 in
set_option maxRecDepth 100000 in
theorem laws_FnExactPackTokens.calls' (A0 : Option Addr) (c0 : Nat) (l0 : List S55) (w : World) (hr0 : Kd.C k55 w A0 l0.length l0) (hc0 : l0.length ≤ c0) (hm : l0.length ≤ 9223372036854775807) (hw : ∀ x ∈ l0, x.f0.size ≤ 9223372036854775807) :
    Calls Try.prog 13 #[.slice A0 l0.length c0] w fun e w' => e = .returned (.bool true) ∧ Below w.heap.size w w' := by
  obtain ⟨r, hr, hr2⟩ := sz l0 hm hw
  obtain ⟨k, hk⟩ := hr.rounds
  have HS := Aside0.mk hk
  have HR := Aside0.mk hr0
  clear hr hk hw
  by_cases hn : r < 0
  · have h1 : decide (r < 0) = true := decide_eq_true hn
    clear hn hr2 hr0
    go_enter Try.func13, Try.ntmps13
    go_wp2_with (go_at_call 21; refine (laws_szTokenS.calls k _ _ _ _ r _ HR.out hc0 HS.out).mono ?_; rintro e w1 ⟨rfl, hb1⟩)
    go_ret
    exact ⟨rfl, hb1⟩
  · have h1 : decide (r < 0) = false := decide_eq_false hn
    have hl := hr2.resolve_left hn
    have hcl : ((conv l0).length : Int) ≤ 1048576 := by rw [conv_len]; exact hl
    obtain ⟨k1, hk1⟩ := (toS l0 hl).rounds
    obtain ⟨k2, hk2⟩ := (spec_pt (conv l0) (by omega)).rounds
    obtain ⟨k3, hk3⟩ := (eqToken (conv l0) (by omega)).rounds
    obtain ⟨R, b, hRb⟩ : ∃ R b, pans (conv l0) = (R, b) := ⟨_, _, rfl⟩
    rw [hRb] at hk2
    have HP := Aside0.mk hRb
    have H1 := Aside0.mk hk1
    have H2 := Aside0.mk hk2
    have H3 := Aside0.mk hk3
    have HL := Aside0.mk (show ((conv l0).length : Int) ≤ 100000000000 by omega)
    clear hRb hk1 hk2 hk3 hn hr2 hr0 hcl hl
    go_enter Try.func13, Try.ntmps13
    go_wp2_with (go_at_call 21; refine (laws_szTokenS.calls k _ _ _ _ r _ HR.out hc0 HS.out).mono ?_; rintro e w1 ⟨rfl, hb1⟩)
    have B1 := Aside0.mk hb1
    have R1 := Aside0.mk (Kd.C_below HR.out hb1)
    clear hb1
    go_wp2_with (go_at_call 23; refine (laws_toTokenS.calls k1 _ _ _ _ _ R1.out hc0 H1.out).mono ?_; rintro e w2 ⟨v, rfl, hv, hb2⟩)
    obtain ⟨A, c, rfl, hc, hC⟩ := Kd.R_reads hv
    have B2 := Aside0.mk (B1.out.trans (hb2.mono B1.out.size))
    have R2 := Aside0.mk (Kd.C_below R1.out hb2)
    have C2 := Aside0.mk hC
    clear hb2 hv hC
    go_wp2_with (go_at_call 39; refine (spec_PackTokens.calls k2 _ _ _ R b _ C2.out hc H2.out).mono ?_; rintro e w3 ⟨rfl, hb3⟩)
    have B3 := Aside0.mk (B2.out.trans (hb3.mono B2.out.size))
    have R3 := Aside0.mk (Kd.C_below R2.out hb3)
    clear hb3 C2 hc
    go_wp2_with (go_at_call 23; refine (laws_toTokenS.calls k1 _ _ _ _ _ R3.out hc0 H1.out).mono ?_; rintro e w4 ⟨v, rfl, hv, hb4⟩)
    obtain ⟨A', c', rfl, hc', hC⟩ := Kd.R_reads hv
    have B4 := Aside0.mk (B3.out.trans (hb4.mono B3.out.size))
    have R4 := Aside0.mk (Kd.C_below R3.out hb4)
    have C4 := Aside0.mk hC
    clear hb4 hv hC
    go_wp2_with (go_at_call 40; refine (impl_PackTokens.calls _ _ _ _ C4.out hc' HL.out R b HP.out).mono ?_; rintro e w5 ⟨rfl, hb5⟩)
    have B5 := Aside0.mk (B4.out.trans (hb5.mono B4.out.size))
    have R5 := Aside0.mk (Kd.C_below R4.out hb5)
    have C5 := Aside0.mk (Kd.C_below C4.out hb5)
    clear hb5 C4
    go_wp2_with (go_at_call 23; refine (laws_toTokenS.calls k1 _ _ _ _ _ R5.out hc0 H1.out).mono ?_; rintro e w6 ⟨v, rfl, hv, hb6⟩)
    obtain ⟨A2, c2, rfl, hc2, hC⟩ := Kd.R_reads hv
    have B6 := Aside0.mk (B5.out.trans (hb6.mono B5.out.size))
    have C6 := Aside0.mk (Kd.C_below C5.out hb6)
    have D6 := Aside0.mk hC
    clear hb6 hv hC
    go_wp2_with (go_at_call 25; refine (laws_eqTokenS.calls k3 _ _ _ _ _ _ true _ C6.out hc' D6.out hc2 H3.out).mono ?_; rintro e w7 ⟨rfl, hb7⟩)
    have B7 := Aside0.mk (B6.out.trans (hb7.mono B6.out.size))
    clear hb7
    go_wp2
    go_ret
    exact ⟨rfl, B7.out⟩
end Go.Proofs.Ytgglcpcfmhpcmaa.PFnExactPackTokens
