import Derived.Test.YtgglcpcfmhpcmaaYFnSqueezedx8
import Derived.Test.YtgglcpcfmhpcmaaYFnSqueezedx9
import Derived.Test.YtgglcpcfmhpcmaaEv
/-! The cursor of the draws: a byte, a number below another. -/
namespace Go.Proofs.Ytgglcpcfmhpcmaa.ZFnSqueezed
open Go.RowKit Go.Proofs.Ytgglcpcfmhpcmaa.PFnSqueezed Go.Proofs.YtgglcpcfmhpcmaaW.PrintWords Go.Proofs.YtgglcpcfmhpcmaaW.PrintLast Go.Proofs.YtgglcpcfmhpcmaaW.PrintMore Go.Proofs.Ytgglcpcfmhpcmaa.E
set_option linter.unusedSimpArgs false
set_option linter.unusedVariables false

theorem wrap_u64 (n : Int) : IntKind.u64.wrap n = n % 18446744073709551616 := by simp [IntKind.wrap, IntKind.bits, IntKind.signed]
theorem u64_and255 (x : Int) (h0 : 0 ≤ x) (h1 : x < 18446744073709551616) : bits .and .u64 x 255 = x % 256 :=
  bits_mask .u64 64 (by decide) (fun n a b => by rw [wrap_u64]; omega) 8 (by decide) x h0 h1
/-- The bytes that are drawn from. -/
def Bytes (l : List Int) : Prop := ∀ x ∈ l, 0 ≤ x ∧ x ≤ 255
theorem bytes_rd {l : List Int} (h : Bytes l) (i : Int) : 0 ≤ rd l i ∧ rd l i ≤ 255 := by
  unfold rd
  rw [List.getD_eq_getElem?_getD]
  by_cases hi : i.toNat < l.length
  · rw [List.getElem?_eq_getElem hi]
    exact h _ (List.getElem_mem hi)
  · rw [List.getElem?_eq_none (by omega)]
    simp
theorem bytes_of {l : List Int} (h : ∀ x ∈ l, (Lit.int .u8 x).wf = true) : Bytes l := fun x hx => wf8 (h x hx)
theorem next_ok {l : List Int} (hl : Bytes l) (p q : Int) (h0 : 0 ≤ p) (h1 : p ≤ 1000000000000) : ∃ b q', spec_l1Cur_next.f l p q = some (b, p + 1, q') ∧ 0 ≤ b ∧ b ≤ 255 := by
  have hr := bytes_rd hl p
  have e : ∀ y : Int, 0 ≤ wrap64 (bits .and .u64 (IntKind.u64.wrap y / 1099511627776) 255) ∧ wrap64 (bits .and .u64 (IntKind.u64.wrap y / 1099511627776) 255) ≤ 255 := by
    intro y
    rw [wrap_u64, u64_and255 _ (by omega) (by omega), w64 (by omega) (by omega)]
    omega
  unfold spec_l1Cur_next.f
  rw [w64 (x := p + 1) (by omega) (by omega), w64 (x := rd l p) (by omega) (by omega)]
  by_cases a : p < (l.length : Int)
  · rw [if_pos a, if_pos h0]
    by_cases b : p + 1 ≤ (l.length : Int)
    · rw [if_pos b]
      exact ⟨_, _, rfl, hr⟩
    · rw [if_neg b]
      exact ⟨_, _, rfl, e _⟩
  · rw [if_neg a]
    by_cases b : p + 1 ≤ (l.length : Int)
    · rw [if_pos b]
      exact ⟨_, _, rfl, by omega⟩
    · rw [if_neg b]
      exact ⟨_, _, rfl, e _⟩
theorem pick_ok {l : List Int} (hl : Bytes l) (p q n : Int) (h0 : 0 ≤ p) (h1 : p ≤ 100000000000) (hn : n ≤ 1000000000000) : ∃ r p' q', spec_l1Cur_pick.f l p q n = some (r, p', q') ∧ 0 ≤ r ∧ (r < n ∨ n ≤ 1 ∧ r = 0) ∧ p ≤ p' ∧ p' ≤ p + 2 := by
  unfold spec_l1Cur_pick.f
  by_cases a : n ≤ 1
  · rw [if_pos a]
    exact ⟨0, p, q, rfl, by omega, by omega, by omega, by omega⟩
  · rw [if_neg a]
    obtain ⟨b, q1, e1, hb⟩ := next_ok hl p q h0 (by omega)
    rw [e1]
    simp only [Option.bind_some]
    by_cases c : n > 200
    · rw [if_pos c]
      obtain ⟨b2, q2, e2, hb2⟩ := next_ok hl (p + 1) q1 (by omega) (by omega)
      rw [e2]
      simp only [Option.bind_some]
      rw [if_neg (by omega), w64 (x := b * 256) (by omega) (by omega), w64 (x := b * 256 + b2) (by omega) (by omega), tmod_pos (by omega)]
      refine ⟨_, _, _, rfl, Int.emod_nonneg _ (by omega), .inl (Int.emod_lt_of_pos _ (by omega)), by omega, by omega⟩
    · rw [if_neg c, if_neg (by omega), tmod_pos (by omega)]
      refine ⟨_, _, _, rfl, Int.emod_nonneg _ (by omega), .inl (Int.emod_lt_of_pos _ (by omega)), by omega, by omega⟩
end Go.Proofs.Ytgglcpcfmhpcmaa.ZFnSqueezed
/-! The cursor of the draws: a text of a length. -/
namespace Go.Proofs.Ytgglcpcfmhpcmaa.ZFnSqueezed
open Go.RowKit Go.Proofs.Ytgglcpcfmhpcmaa.PFnSqueezed Go.Proofs.YtgglcpcfmhpcmaaW.PrintWords Go.Proofs.YtgglcpcfmhpcmaaW.PrintLast Go.Proofs.YtgglcpcfmhpcmaaW.PrintMore Go.Proofs.Ytgglcpcfmhpcmaa.E
set_option linter.unusedSimpArgs false
set_option linter.unusedVariables false
theorem strOf_size (xs : List Int) : (strOfNums xs).size = xs.length := by
  simp [strOfNums, ByteArray.size]
theorem text_l {l : List Int} (hl : Bytes l) : ∀ (f : Nat) (x : List Int) (i p q : Int), 0 ≤ i → i + f = x.length → x.length ≤ 1000000 → 0 ≤ p → p + 2 * f ≤ 100000000000 →
    ∃ s p' q', Ev (fun k => spec_l1Cur_text.l0 k x (x.length : Int) i l p q) (s, p', q') ∧ s.size = x.length ∧ p ≤ p' ∧ p' ≤ p + 2 * f := by
  intro f
  induction f with
  | zero =>
    intro x i p q h0 h1 h2 h3 h4
    exact ⟨_, p, q, Ev.step (fun _ => spec_l1Cur_text.l0.eq_2 ..) (ev_neg (by omega) (ev_ret rfl)), strOf_size x, by omega, by omega⟩
  | succ f ih =>
    intro x i p q h0 h1 h2 h3 h4
    obtain ⟨b, p1, q1, e1, hb⟩ := pick_ok hl p q 256 h3 (by omega) (by omega)
    obtain ⟨s, p2, q2, e2, hs, ha, hc⟩ := ih (x.set i.toNat (b % 256)) (i + 1) p1 q1 (by omega) (by simp; omega) (by simpa using h2) (by omega) (by omega)
    rw [List.length_set] at e2 hs
    refine ⟨s, p2, q2, Ev.step (fun _ => spec_l1Cur_text.l0.eq_2 ..) (ev_pos (by omega) (ev_bindc e1 (ev_pos h0 (ev_pos (by omega) ?_)))), hs, by omega, by omega⟩
    rw [w64 (x := i + 1) (by omega) (by omega)]
    exact e2
theorem text_ok {l : List Int} (hl : Bytes l) (p q n : Int) (h0 : 0 ≤ p) (h1 : p ≤ 10000000000) (hn0 : 0 ≤ n) (hn : n ≤ 1000000) :
    ∃ s p' q', Ev (fun k => spec_l1Cur_text.f k l p q n) (s, p', q') ∧ (s.size : Int) = n ∧ p ≤ p' ∧ p' ≤ p + 2 * n := by
  obtain ⟨s, p', q', e, hs, ha, hb⟩ := text_l hl n.toNat (List.replicate n.toNat 0) 0 p q (by omega) (by simp) (by simp; omega) h0 (by omega)
  rw [List.length_replicate] at hs
  refine ⟨s, p', q', ?_, by omega, ha, by omega⟩
  unfold spec_l1Cur_text.f
  exact ev_pos hn0 (ev_pos (by omega) (ev_some e))
end Go.Proofs.Ytgglcpcfmhpcmaa.ZFnSqueezed
/-! The cursor of the draws: one of some texts. -/
namespace Go.Proofs.Ytgglcpcfmhpcmaa.ZFnSqueezed
open Go.RowKit Go.Proofs.Ytgglcpcfmhpcmaa.PFnSqueezed Go.Proofs.YtgglcpcfmhpcmaaW.PrintWords Go.Proofs.YtgglcpcfmhpcmaaW.PrintLast Go.Proofs.YtgglcpcfmhpcmaaW.PrintMore Go.Proofs.Ytgglcpcfmhpcmaa.E
set_option linter.unusedSimpArgs false
set_option linter.unusedVariables false
theorem of_ok {l : List Int} (hl : Bytes l) (p q : Int) (xs : List ByteArray) (h0 : 0 ≤ p) (h1 : p ≤ 100000000000) (hx : 1 ≤ xs.length) (hx2 : xs.length ≤ 1000000) :
    ∃ r p' q', spec_l1Cur_of.f l p q xs = some (r, p', q') ∧ r ∈ xs ∧ p ≤ p' ∧ p' ≤ p + 2 := by
  obtain ⟨i, p1, q1, e1, h2, h3, h4, h5⟩ := pick_ok hl p q xs.length h0 h1 (by omega)
  have hi : i.toNat < xs.length := by omega
  refine ⟨rdOf ByteArray.empty xs i, p1, q1, ?_, ?_, h4, h5⟩
  · unfold spec_l1Cur_of.f
    rw [e1]
    simp only [Option.bind_some]
    rw [if_pos h2, if_pos (by omega)]
  · unfold rdOf
    rw [List.getD_eq_getElem?_getD, List.getElem?_eq_getElem hi]
    exact List.getElem_mem hi
end Go.Proofs.Ytgglcpcfmhpcmaa.ZFnSqueezed
/-! The draws: a text of repeats comes to an end, and is short. -/
namespace Go.Proofs.Ytgglcpcfmhpcmaa.ZFnSqueezed
open Go.RowKit Go.Proofs.Ytgglcpcfmhpcmaa.PFnSqueezed Go.Proofs.YtgglcpcfmhpcmaaW.PrintWords Go.Proofs.YtgglcpcfmhpcmaaW.PrintLast Go.Proofs.YtgglcpcfmhpcmaaW.PrintMore Go.Proofs.Ytgglcpcfmhpcmaa.E
set_option linter.unusedSimpArgs false
set_option linter.unusedVariables false
theorem zeros_ok (n : Int) (h0 : 0 ≤ n) (h1 : n ≤ 1000000) : ∃ s, spec_l1Zeros.f n = some s ∧ (s.size : Int) = n := by
  refine ⟨strOfNums (List.replicate n.toNat 0), ?_, ?_⟩
  · unfold spec_l1Zeros.f
    rw [if_pos h0, if_pos (by omega)]
  · rw [strOf_size, List.length_replicate]; omega
theorem repeats_l {l : List Int} (hl : Bytes l) : ∀ (f : Nat) (x : ByteArray) (n p q : Int), n = f → n ≤ 100 → x.size ≤ 300 → 0 ≤ p → p + 100 * f ≤ 1000000000 →
    ∃ s p' q', Ev (fun k => spec_l1Cur_repeats.l0 k x n l p q) (s, p', q') ∧ s.size ≤ 700 ∧ p ≤ p' ∧ p' ≤ p + 1000 + 100 * f := by
  intro f
  induction f with
  | zero =>
    intro x n p q hn hn2 hx h0 h1
    obtain ⟨r, p1, q1, e1, h2, h3, h4, h5⟩ := pick_ok hl p q 30 h0 (by omega) (by omega)
    by_cases a : r = 0
    · obtain ⟨z, ez, hz⟩ := zeros_ok 300 (by omega) (by omega)
      exact ⟨x ++ z, p1, q1, Ev.step (fun _ => spec_l1Cur_repeats.l0.eq_2 ..) (ev_neg (by omega) (ev_bindc e1 (ev_pos a (ev_bindc ez (ev_pos (by omega) (ev_ret rfl)))))), by rw [ByteArray.size_append]; omega, by omega, by omega⟩
    · by_cases b : r = 1
      · obtain ⟨r2, p2, q2, e2, g2, g3, g4, g5⟩ := pick_ok hl p1 q1 2 (by omega) (by omega) (by omega)
        obtain ⟨z, ez, hz⟩ := zeros_ok (600 + r2) (by omega) (by omega)
        rw [← w64 (x := 600 + r2) (by omega) (by omega)] at ez
        exact ⟨z, p2, q2, Ev.step (fun _ => spec_l1Cur_repeats.l0.eq_2 ..) (ev_neg (by omega) (ev_bindc e1 (ev_neg a (ev_pos b (ev_bindc e2 (ev_bindc ez (ev_ret rfl))))))), by omega, by omega, by omega⟩
      · by_cases c : r = 2
        · obtain ⟨t, p2, q2, e2, ht, g1, g2⟩ := text_ok hl p1 q1 140 (by omega) (by omega) (by omega) (by omega)
          exact ⟨x ++ t, p2, q2, Ev.step (fun _ => spec_l1Cur_repeats.l0.eq_2 ..) (ev_neg (by omega) (ev_bindc e1 (ev_neg a (ev_neg b (ev_pos c (Ev.bind e2 (ev_pos (by show x.size + t.size ≤ _; omega) (ev_ret rfl)))))))), by rw [ByteArray.size_append]; omega, by omega, by omega⟩
        · exact ⟨x, p1, q1, Ev.step (fun _ => spec_l1Cur_repeats.l0.eq_2 ..) (ev_neg (by omega) (ev_bindc e1 (ev_neg a (ev_neg b (ev_neg c (ev_ret rfl)))))), by omega, by omega, by omega⟩
  | succ f ih =>
    intro x n p q hn hn2 hx h0 h1
    obtain ⟨r, p1, q1, e1, h2, h3, h4, h5⟩ := pick_ok hl p q 4 h0 (by omega) (by omega)
    have hw : wrap64 (n - 1) = n - 1 := w64 (by omega) (by omega)
    have go : ∀ (y : ByteArray) (pp qq : Int), y.size ≤ 1000 → p ≤ pp → pp ≤ p + 50 → ∃ s p' q', Ev (fun k => if (y.size : Int) > 300 then (if 0 ≤ 300 then (if 300 ≤ (y.size : Int) then (spec_l1Cur_repeats.l0 k (y.extract 0 300) (wrap64 (n - 1)) l pp qq) else (none)) else (none)) else (spec_l1Cur_repeats.l0 k y (wrap64 (n - 1)) l pp qq)) (s, p', q') ∧ s.size ≤ 700 ∧ p ≤ p' ∧ p' ≤ p + 1000 + 100 * ((f + 1 : Nat) : Int) := by
      intro y pp qq hy ha hb
      rw [hw]
      by_cases c : (y.size : Int) > 300
      · obtain ⟨s, p', q', e, g1, g2, g3⟩ := ih (y.extract 0 300) (n - 1) pp qq (by omega) (by omega) (by rw [ByteArray.size_extract]; omega) (by omega) (by omega)
        exact ⟨s, p', q', ev_pos c (ev_pos (by omega) (ev_pos (by omega) e)), g1, by omega, by omega⟩
      · obtain ⟨s, p', q', e, g1, g2, g3⟩ := ih y (n - 1) pp qq (by omega) (by omega) (by omega) (by omega) (by omega)
        exact ⟨s, p', q', ev_neg c e, g1, by omega, by omega⟩
    by_cases a : r = 0
    · obtain ⟨r2, p2, q2, e2, g2, g3, g4, g5⟩ := pick_ok hl p1 q1 5 (by omega) (by omega) (by omega)
      obtain ⟨t, p3, q3, e3, ht, k1, k2⟩ := text_ok hl p2 q2 r2 (by omega) (by omega) (by omega) (by omega)
      obtain ⟨s, p', q', e, hh⟩ := go (x ++ t) p3 q3 (by rw [ByteArray.size_append]; omega) (by omega) (by omega)
      exact ⟨s, p', q', Ev.step (fun _ => spec_l1Cur_repeats.l0.eq_2 ..) (ev_pos (by omega) (ev_bindc e1 (ev_pos a (ev_bindc e2 (Ev.bind e3 (ev_pos (by show x.size + t.size ≤ _; omega) e)))))), hh⟩
    · by_cases b : r = 1
      · obtain ⟨s, p', q', e, hh⟩ := go (x ++ x) p1 q1 (by rw [ByteArray.size_append]; omega) (by omega) (by omega)
        exact ⟨s, p', q', Ev.step (fun _ => spec_l1Cur_repeats.l0.eq_2 ..) (ev_pos (by omega) (ev_bindc e1 (ev_neg a (ev_pos b (ev_pos (by omega) e))))), hh⟩
      · obtain ⟨t, p2, q2, e2, ht, g1, g2⟩ := of_ok hl p1 q1 ([(⟨#[97, 98, 99]⟩ : ByteArray), (⟨#[97, 97, 97, 97, 97, 97, 97]⟩ : ByteArray), (⟨#[97, 98, 99, 97, 98, 99]⟩ : ByteArray), (⟨#[120]⟩ : ByteArray), (⟨#[116, 104, 101, 32, 102, 105, 108, 101, 32]⟩ : ByteArray)] : List ByteArray) (by omega) (by omega) (by simp) (by simp)
        have hts : t.size ≤ 9 := by
          simp only [List.mem_cons, List.not_mem_nil, or_false] at ht
          rcases ht with rfl | rfl | rfl | rfl | rfl <;> decide
        obtain ⟨s, p', q', e, hh⟩ := go (x ++ t) p2 q2 (by rw [ByteArray.size_append]; omega) (by omega) (by omega)
        exact ⟨s, p', q', Ev.step (fun _ => spec_l1Cur_repeats.l0.eq_2 ..) (ev_pos (by omega) (ev_bindc e1 (ev_neg a (ev_neg b (ev_bindc e2 (ev_pos (by show x.size + t.size ≤ _; omega) e)))))), hh⟩
theorem repeats_ok {l : List Int} (hl : Bytes l) (p q : Int) (h0 : 0 ≤ p) (h1 : p ≤ 10000000) : ∃ s p' q', Ev (fun k => spec_l1Cur_repeats.f k l p q) (s, p', q') ∧ s.size ≤ 700 ∧ p ≤ p' ∧ p' ≤ p + 10000 := by
  obtain ⟨r, p1, q1, e1, h2, h3, h4, h5⟩ := pick_ok hl p q 12 h0 (by omega) (by omega)
  obtain ⟨s, p', q', e, g1, g2, g3⟩ := repeats_l hl r.toNat ⟨#[]⟩ r p1 q1 (by omega) (by omega) (by decide) (by omega) (by omega)
  refine ⟨s, p', q', ?_, g1, by omega, by omega⟩
  unfold spec_l1Cur_repeats.f
  exact ev_bindc e1 e
end Go.Proofs.Ytgglcpcfmhpcmaa.ZFnSqueezed
/-! The draws: a text, spoilt in a place or two. -/
namespace Go.Proofs.Ytgglcpcfmhpcmaa.ZFnSqueezed
open Go.RowKit Go.Proofs.Ytgglcpcfmhpcmaa.PFnSqueezed Go.Proofs.YtgglcpcfmhpcmaaW.PrintWords Go.Proofs.YtgglcpcfmhpcmaaW.PrintLast Go.Proofs.YtgglcpcfmhpcmaaW.PrintMore Go.Proofs.Ytgglcpcfmhpcmaa.E
set_option linter.unusedSimpArgs false
set_option linter.unusedVariables false
theorem one_ok {l : List Int} (hl : Bytes l) (p q n : Int) (h0 : 0 ≤ p) (h1 : p ≤ 100000000000) (hn : n ≤ 1000000000000) : ∃ r p' q', spec_l1Cur_one.f l p q n = some (r, p', q') ∧ p ≤ p' ∧ p' ≤ p + 2 := by
  obtain ⟨r, p1, q1, e1, h2, h3, h4, h5⟩ := pick_ok hl p q n h0 h1 hn
  refine ⟨r == 0, p1, q1, ?_, h4, h5⟩
  unfold spec_l1Cur_one.f
  rw [e1]
  rfl
theorem spoilt_l {l : List Int} (hl : Bytes l) (w : ByteArray) (hw : 1 ≤ w.size) (hw2 : w.size ≤ 1000) : ∀ (f : Nat) (x : ByteArray) (n p q : Int), n ≤ f → 0 ≤ n → 0 ≤ p → p + 100 * f ≤ 1000000000 → x.size + f ≤ 100000 →
    ∃ s p' q', Ev (fun k => spec_l1Cur_spoilt.l0 k x w n l p q) (s, p', q') ∧ s.size ≤ x.size + f ∧ p ≤ p' ∧ p' ≤ p + 100 * f := by
  intro f
  induction f with
  | zero =>
    intro x n p q hn hn2 h0 h1 hx
    exact ⟨x, p, q, Ev.step (fun _ => spec_l1Cur_spoilt.l0.eq_2 ..) (ev_neg (by omega) (Ev.step (fun _ => spec_l1Cur_spoilt.j1.eq_2 ..) (ev_false rfl (ev_ret rfl)))), by omega, by omega, by omega⟩
  | succ f ih =>
    intro x n p q hn hn2 h0 h1 hx
    by_cases hn0 : n > 0
    · by_cases hx0 : (x.size : Int) > 0
      · obtain ⟨i, p1, q1, e1, a1, a2, a3, a4⟩ := pick_ok hl p q x.size h0 (by omega) (by omega)
        obtain ⟨j, p2, q2, e2, b1, b2, b3, b4⟩ := pick_ok hl p1 q1 w.size (by omega) (by omega) (by omega)
        obtain ⟨c, p3, q3, e3, c1, c2, c3, c4⟩ := pick_ok hl p2 q2 3 (by omega) (by omega) (by omega)
        have hi : i < x.size := by omega
        have hj : j < w.size := by omega
        have z1 : (strOfNums [bt w j]).size = 1 := rfl
        have z2 : (x.extract 0 i.toNat).size = i.toNat := by rw [ByteArray.size_extract]; omega
        have z3 : (x.extract i.toNat x.size).size = x.size - i.toNat := by rw [ByteArray.size_extract]; omega
        have z4 : (x.extract (i + 1).toNat x.size).size = x.size - (i + 1).toNat := by rw [ByteArray.size_extract]; omega
        have head : ∀ {r : ByteArray × Int × Int}, Ev (fun k => if c = 0 then (if 0 ≤ i then (if i ≤ (x.size : Int) then (if (x.extract 0 (i : Int).toNat).size + (strOfNums [bt w j]).size ≤ 9223372036854775807 then (if ((x.extract 0 (i : Int).toNat) ++ (strOfNums [bt w j])).size + (x.extract (i : Int).toNat x.size).size ≤ 9223372036854775807 then (spec_l1Cur_spoilt.l0 k (((x.extract 0 (i : Int).toNat) ++ (strOfNums [bt w j])) ++ (x.extract (i : Int).toNat x.size)) w (wrap64 (n - 1)) l p3 q3) else (none)) else (none)) else (none)) else (none)) else (if c = 1 then (if 0 ≤ i then (if i ≤ (x.size : Int) then (if (x.extract 0 (i : Int).toNat).size + (strOfNums [bt w j]).size ≤ 9223372036854775807 then (if 0 ≤ (wrap64 (i + 1)) then (if (wrap64 (i + 1)) ≤ (x.size : Int) then (if ((x.extract 0 (i : Int).toNat) ++ (strOfNums [bt w j])).size + (x.extract ((wrap64 (i + 1)) : Int).toNat x.size).size ≤ 9223372036854775807 then (spec_l1Cur_spoilt.l0 k (((x.extract 0 (i : Int).toNat) ++ (strOfNums [bt w j])) ++ (x.extract ((wrap64 (i + 1)) : Int).toNat x.size)) w (wrap64 (n - 1)) l p3 q3) else (none)) else (none)) else (none)) else (none)) else (none)) else (none)) else (if 0 ≤ i then (if i ≤ (x.size : Int) then (if 0 ≤ (wrap64 (i + 1)) then (if (wrap64 (i + 1)) ≤ (x.size : Int) then (if (x.extract 0 (i : Int).toNat).size + (x.extract ((wrap64 (i + 1)) : Int).toNat x.size).size ≤ 9223372036854775807 then (spec_l1Cur_spoilt.l0 k ((x.extract 0 (i : Int).toNat) ++ (x.extract ((wrap64 (i + 1)) : Int).toNat x.size)) w (wrap64 (n - 1)) l p3 q3) else (none)) else (none)) else (none)) else (none)) else (none)))) r →
            Ev (fun k => spec_l1Cur_spoilt.l0 k x w n l p q) r := by
          intro r H
          refine Ev.step (fun _ => spec_l1Cur_spoilt.l0.eq_2 ..) (ev_pos hn0 ?_)
          rw [decide_eq_true hx0]
          exact Ev.step (fun _ => spec_l1Cur_spoilt.j1.eq_2 ..) (ev_true rfl (ev_bindc e1 (ev_bindc e2 (ev_pos b1 (ev_pos hj (ev_some (ev_bindc e3 H)))))))
        rw [w64 (x := i + 1) (by omega) (by omega), w64 (x := n - 1) (by omega) (by omega)] at head
        by_cases h0c : c = 0
        · obtain ⟨s, p', q', e, g1, g2, g3⟩ := ih (((x.extract 0 (i : Int).toNat) ++ (strOfNums [bt w j])) ++ (x.extract (i : Int).toNat x.size)) (n - 1) p3 q3 (by omega) (by omega) (by omega) (by omega) (by rw [ByteArray.size_append, ByteArray.size_append, z1, z2, z3]; omega)
          rw [ByteArray.size_append, ByteArray.size_append, z1, z2, z3] at g1
          exact ⟨s, p', q', head (ev_pos h0c (ev_pos a1 (ev_pos (by omega) (ev_pos (by omega) (ev_pos (by rw [ByteArray.size_append]; omega) e))))), by omega, by omega, by omega⟩
        · by_cases h1c : c = 1
          · obtain ⟨s, p', q', e, g1, g2, g3⟩ := ih (((x.extract 0 (i : Int).toNat) ++ (strOfNums [bt w j])) ++ (x.extract (i + 1).toNat x.size)) (n - 1) p3 q3 (by omega) (by omega) (by omega) (by omega) (by rw [ByteArray.size_append, ByteArray.size_append, z1, z2, z4]; omega)
            rw [ByteArray.size_append, ByteArray.size_append, z1, z2, z4] at g1
            exact ⟨s, p', q', head (ev_neg h0c (ev_pos h1c (ev_pos a1 (ev_pos (by omega) (ev_pos (by omega) (ev_pos (by omega) (ev_pos (by omega) (ev_pos (by rw [ByteArray.size_append]; omega) e)))))))), by omega, by omega, by omega⟩
          · obtain ⟨s, p', q', e, g1, g2, g3⟩ := ih ((x.extract 0 (i : Int).toNat) ++ (x.extract (i + 1).toNat x.size)) (n - 1) p3 q3 (by omega) (by omega) (by omega) (by omega) (by rw [ByteArray.size_append, z2, z4]; omega)
            rw [ByteArray.size_append, z2, z4] at g1
            exact ⟨s, p', q', head (ev_neg h0c (ev_neg h1c (ev_pos a1 (ev_pos (by omega) (ev_pos (by omega) (ev_pos (by omega) (ev_pos (by omega) e))))))), by omega, by omega, by omega⟩
      · refine ⟨x, p, q, Ev.step (fun _ => spec_l1Cur_spoilt.l0.eq_2 ..) (ev_pos hn0 ?_), by omega, by omega, by omega⟩
        rw [decide_eq_false hx0]
        exact Ev.step (fun _ => spec_l1Cur_spoilt.j1.eq_2 ..) (ev_false rfl (ev_ret rfl))
    · exact ⟨x, p, q, Ev.step (fun _ => spec_l1Cur_spoilt.l0.eq_2 ..) (ev_neg hn0 (Ev.step (fun _ => spec_l1Cur_spoilt.j1.eq_2 ..) (ev_false rfl (ev_ret rfl)))), by omega, by omega, by omega⟩
theorem spoilt_ok {l : List Int} (hl : Bytes l) (w : ByteArray) (hw : 1 ≤ w.size) (hw2 : w.size ≤ 1000) (p q : Int) (x : ByteArray) (h0 : 0 ≤ p) (h1 : p ≤ 100000000) (hx : x.size ≤ 50000) :
    ∃ s p' q', Ev (fun k => spec_l1Cur_spoilt.f k l p q x w) (s, p', q') ∧ s.size ≤ x.size + 2 ∧ p ≤ p' ∧ p' ≤ p + 1000 := by
  obtain ⟨n, p1, q1, e1, a1, a2, a3, a4⟩ := pick_ok hl p q 3 h0 (by omega) (by omega)
  obtain ⟨s, p', q', e, g1, g2, g3⟩ := spoilt_l hl w hw hw2 2 x n p1 q1 (by omega) (by omega) (by omega) (by omega) (by omega)
  refine ⟨s, p', q', ?_, g1, by omega, by omega⟩
  unfold spec_l1Cur_spoilt.f
  exact ev_bindc e1 e
end Go.Proofs.Ytgglcpcfmhpcmaa.ZFnSqueezed
