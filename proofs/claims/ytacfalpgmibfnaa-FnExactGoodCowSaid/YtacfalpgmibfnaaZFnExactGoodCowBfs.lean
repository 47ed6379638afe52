import Derived.Test.YtacfalpgmibfnaaZFnExactGoodCowDfs
import Derived.Test.YtacfalpgmibfnaaXFnExactGoodCowGood
/-! GoodCow, plain law: the program's search, in line, against Inv. -/
namespace Go.Proofs.Ytacfalpgmibfnaa.PFnExactGoodCow
open Go.RowKit Go.Proofs.YtacfalpgmibfnaaW.PrintWords Go.Proofs.YtacfalpgmibfnaaW.PrintLast Go.Proofs.YtacfalpgmibfnaaW.PrintMore Go.Proofs.Ytacfalpgmibfnaa.E
set_option linter.unusedSimpArgs false
set_option linter.unusedVariables false
section
variable {C : List S68} {roots : List Int} {L : Int}
def pend (C : List S68) (lev V : List Int) : List (Int × Int) := V.flatMap fun k => (kidsOf C k).map fun z => (z, rd lev k - 1)
theorem pend_congr {l l' : List Int} : ∀ V : List Int, (∀ k ∈ V, rd l k = rd l' k) → pend C l V = pend C l' V
  | [], _ => rfl
  | a :: r, h => by
    have h1 := pend_congr r (fun k hk => h k (by simp [hk]))
    unfold pend at h1 ⊢
    rw [List.flatMap_cons, List.flatMap_cons, h1, h a (by simp)]
theorem rd_mem {l : List Int} {i : Nat} (h : i < l.length) : rd l (i : Int) ∈ l := by
  unfold rd
  rw [List.getD_eq_getElem?_getD, Int.toNat_natCast, List.getElem?_eq_getElem h]
  exact List.getElem_mem h
theorem rd_app {l t : List Int} {i : Nat} (h : i < l.length) : rd (l ++ t) (i : Int) = rd l (i : Int) := by
  unfold rd
  rw [List.getD_eq_getElem?_getD, List.getD_eq_getElem?_getD, Int.toNat_natCast, List.getElem?_append_left h]
theorem refer_step (hL : 1 ≤ L) (hr : roots.length ≤ 1000) (hn : C.length ≤ 1000) {line cnt lev : List Int} {k own : Int} {Pre : List (Int × Int)} {i : Nat} (hi : i ≤ line.length)
    (hI : Inv C roots L line ((k, own) :: (Pre ++ pend C lev (line.drop i))) cnt lev) : ∃ b c l ln, referM C k own cnt lev line = (b, c, l, ln) ∧
      (b = true → Inv C roots L ln (Pre ++ pend C l (ln.drop i)) c l ∧ (∃ t, ln = line ++ t) ∧ ∀ j ∈ line, rd l j = rd lev j) ∧ (b = false → Bad C roots L) := by
  unfold referM
  by_cases hk : isNum C.length k = true
  · rw [if_pos hk]
    have hk' := of_decide_eq_true hk
    by_cases hneg : k < 0
    · rw [if_pos hneg]
      obtain rfl : k = -1 := by omega
      exact ⟨_, _, _, _, rfl, fun _ => ⟨hI.skip, ⟨[], by simp⟩, fun _ _ => rfl⟩, by simp⟩
    · rw [if_neg hneg]
      have h0 : 0 ≤ k := by omega
      have h1 : k < (C.length : Int) := by omega
      have hb := hI.bound k h0 h1
      obtain ⟨o1, o2⟩ := hI.range hL (k, own) (by simp)
      simp only at o1 o2
      rw [w64 (by omega) (by omega)]
      by_cases hz : rd lev k = 0
      · rw [if_pos hz]
        refine ⟨_, _, _, _, rfl, fun hg => ⟨?_, ⟨[k], rfl⟩, fun j hj => ?_⟩, fun hg V' c' v hv => ?_⟩
        · have hkl : k ∉ line := fun e => (hI.vl k h0 h1).2 e hz
          have hN := hI.new hL h0 h1 hz hg rfl
          refine hN.perm ?_
          have e1 : pend C (lev.set k.toNat own) ((line ++ [k]).drop i) = pend C lev (line.drop i) ++ (kidsOf C k).map (fun z => (z, own - 1)) := by
            rw [List.drop_append_of_le_length hi]
            have e2 := pend_congr (C := C) (l := lev.set k.toNat own) (l' := lev) (line.drop i) (fun j hj => rd_set_ne lev k j own h0 (hI.vin j (List.mem_of_mem_drop hj)).1 (fun e => hkl (e ▸ List.mem_of_mem_drop hj)))
            unfold pend at e2 ⊢
            rw [List.flatMap_append, e2, List.flatMap_cons, List.flatMap_nil, List.append_nil, rd_set_eq lev k own h0 (by have := hI.ll; omega)]
          rw [e1, ← List.append_assoc Pre]
          exact List.perm_append_comm
        · exact rd_set_ne lev k j own h0 (hI.vin j hj).1 (fun e => (hI.vl k h0 h1).2 (e ▸ hj) hz)
        · rcases hI.refs hv (k, own) (by simp) with e | ⟨_, _, e, e2⟩
          · simp only at e; omega
          · simp only at e e2
            have := (hv.good k ((hv.vl k h0 h1).1 (by rw [e]; exact e2))).1
            rw [e, hg] at this
            cases this
      · rw [if_neg hz]
        refine ⟨_, _, _, _, rfl, fun hg => ⟨hI.old h0 h1 (of_decide_eq_true hg) (by omega) rfl, ⟨[], by simp⟩, fun _ _ => rfl⟩, fun hg V' c' v hv => ?_⟩
        rcases hI.refs hv (k, own) (by simp) with e | ⟨_, _, e, e2⟩
        · simp only at e; omega
        · exact of_decide_eq_false hg ((hI.cons hv k ((hI.vl k h0 h1).1 hz)).1.symm.trans e)
  · rw [if_neg hk]
    refine ⟨_, _, _, _, rfl, by simp, fun _ V' c' v hv => hk ?_⟩
    unfold isNum
    rcases hI.refs hv (k, own) (by simp) with e | ⟨e0, e1, _, _⟩
    · simp only at e; exact decide_eq_true (by omega)
    · simp only at e0 e1; exact decide_eq_true (by omega)
theorem kids_loop (hL : 1 ≤ L) (hL3 : L ≤ 3) (hr : roots.length ≤ 1000) (hn : C.length ≤ 1000) {i : Nat} {kk own : Int} : ∀ (ks cnt lev line : List Int), Inv C roots L line (ks.map (fun z => (z, own)) ++ pend C lev (line.drop (i + 1))) cnt lev → i < line.length → rd line (i : Int) = kk → rd lev kk - 1 = own →
    ∃ b c l ln, loopS (kidF C (i : Int)) ks (cnt, lev, line) = some (b, (c, l, ln)) ∧ (b = true → Inv C roots L ln (pend C l (ln.drop (i + 1))) c l ∧ i < ln.length) ∧ (b = false → Bad C roots L)
  | [], cnt, lev, line, hI, hi, _, _ => ⟨true, cnt, lev, line, rfl, fun _ => ⟨hI, hi⟩, by simp⟩
  | z :: r, cnt, lev, line, hI, hi, hkk, hown => by
    have hlen := hI.len
    have hmem : kk ∈ line := by rw [← hkk]; exact rd_mem hi
    have hin := hI.vin kk hmem
    have hgd := hI.good kk hmem
    have hF : kidF C (i : Int) z (cnt, lev, line) = some (referM C z own cnt lev line) := by
      unfold kidF
      simp only
      rw [hkk, if_pos ⟨by omega, by omega, hin.1, hin.2⟩, w64 (by omega) (by omega), hown]
    obtain ⟨b, c, l, ln, e1, e2, e3⟩ := refer_step (Pre := r.map fun z => (z, own)) hL hr hn (by omega : i + 1 ≤ line.length) hI
    cases b with
    | false => exact ⟨false, c, l, ln, by simp [loopS, hF, e1], by simp, e3⟩
    | true =>
      obtain ⟨hI2, ⟨t, rfl⟩, hl⟩ := e2 rfl
      obtain ⟨b, c2, l2, ln2, f1, f2, f3⟩ := kids_loop hL hL3 hr hn (i := i) (kk := kk) (own := own) r c l (line ++ t) hI2 (by rw [List.length_append]; omega) (by rw [rd_app hi]; exact hkk) (by rw [hl kk hmem]; exact hown)
      exact ⟨b, c2, l2, ln2, by simp only [loopS, hF, e1, Option.bind_some, if_true]; exact f1, f2, f3⟩
theorem line_loop (hL : 1 ≤ L) (hL3 : L ≤ 3) (hr : roots.length ≤ 1000) (hn : C.length ≤ 1000) : ∀ (f i : Nat) (cnt lev line : List Int), Inv C roots L line (pend C lev (line.drop i)) cnt lev → i ≤ line.length → C.length + 1 ≤ f + i →
    ∃ b c l ln, lineM C f i (cnt, lev, line) = some (b, (c, l, ln)) ∧ (b = true → Inv C roots L ln [] c l) ∧ (b = false → Bad C roots L)
  | 0, i, cnt, lev, line, hI, hi, hf => by have := hI.len; omega
  | f + 1, i, cnt, lev, line, hI, hi, hf => by
    have hlen := hI.len
    unfold lineM
    by_cases hil : (i : Int) < (line.length : Int)
    · have hil' : i < line.length := by omega
      obtain ⟨kk, hkk⟩ : ∃ kk, rd line (i : Int) = kk := ⟨_, rfl⟩
      have hmem : kk ∈ line := by rw [← hkk]; exact rd_mem hil'
      have hin := hI.vin kk hmem
      have hd : line.drop i = kk :: line.drop (i + 1) := by
        rw [List.drop_eq_getElem_cons hil', ← hkk]
        congr 1
        unfold rd
        rw [List.getD_eq_getElem?_getD, Int.toNat_natCast, List.getElem?_eq_getElem hil']
        rfl
      simp only
      rw [if_pos hil, hkk, if_pos ⟨by omega, hin.1, hin.2⟩]
      have hI2 : Inv C roots L line ((kidsOf C kk).map (fun z => (z, rd lev kk - 1)) ++ pend C lev (line.drop (i + 1))) cnt lev := by
        rw [hd] at hI
        exact hI
      obtain ⟨b, c, l, ln, e1, e2, e3⟩ := kids_loop hL hL3 hr hn (i := i) (kk := kk) (own := rd lev kk - 1) (kidsOf C kk) cnt lev line hI2 hil' hkk rfl
      unfold kidsOf at e1
      rw [e1, Option.bind_some]
      cases b with
      | false => exact ⟨false, c, l, ln, by simp, by simp, e3⟩
      | true =>
        obtain ⟨hI3, hi3⟩ := e2 rfl
        simp only [if_true]
        exact line_loop hL hL3 hr hn f (i + 1) c l ln hI3 (by omega) (by omega)
    · simp only
      rw [if_neg hil]
      rw [List.drop_of_length_le (by omega)] at hI
      exact ⟨true, cnt, lev, line, rfl, fun _ => hI, by simp⟩
theorem roots_loop (hL : 1 ≤ L) (hr : roots.length ≤ 1000) (hn : C.length ≤ 1000) : ∀ (rs cnt lev line : List Int), Inv C roots L line (rs.map (fun z => (z, L)) ++ pend C lev (line.drop 0)) cnt lev →
    ∃ b c l ln, loopS (rootF C L) rs (cnt, lev, line) = some (b, (c, l, ln)) ∧ (b = true → Inv C roots L ln (pend C l (ln.drop 0)) c l) ∧ (b = false → Bad C roots L)
  | [], cnt, lev, line, hI => ⟨true, cnt, lev, line, rfl, fun _ => hI, by simp⟩
  | z :: r, cnt, lev, line, hI => by
    have hlen := hI.len
    have hF : rootF C L z (cnt, lev, line) = some (referM C z L cnt lev line) := by
      unfold rootF
      simp only
      rw [if_pos (by omega)]
    obtain ⟨b, c, l, ln, e1, e2, e3⟩ := refer_step (Pre := r.map fun z => (z, L)) hL hr hn (Nat.zero_le _) hI
    cases b with
    | false => exact ⟨false, c, l, ln, by simp [loopS, hF, e1], by simp, e3⟩
    | true =>
      obtain ⟨hI2, _, _⟩ := e2 rfl
      obtain ⟨b, c2, l2, ln2, f1, f2, f3⟩ := roots_loop hL hr hn r c l ln hI2
      exact ⟨b, c2, l2, ln2, by simp only [loopS, hF, e1, Option.bind_some, if_true]; exact f1, f2, f3⟩
theorem impl_out (hL : 1 ≤ L) (hL3 : L ≤ 3) (hn : C.length ≤ 80) (hr1 : 1 ≤ (roots.length : Int)) (hr8 : (roots.length : Int) ≤ 8) :
    (∃ V c v, Inv C roots L V [] c v ∧ goodC 100 C roots L = some (endM C c C.length 0)) ∨ (Bad C roots L ∧ goodC 100 C roots L = some false) := by
  unfold goodC
  rw [if_pos (by unfold inR; exact decide_eq_true ⟨hL, hL3⟩), if_neg (by omega), if_pos (by unfold inR; exact decide_eq_true ⟨hr1, hr8⟩)]
  have h0 : Inv C roots L [] (roots.map (fun z => (z, L)) ++ pend C (List.replicate C.length 0) (([] : List Int).drop 0)) (List.replicate C.length 0) (List.replicate C.length 0) := by
    have := Inv.start (C := C) (roots := roots) hL
    simpa [pend] using this
  obtain ⟨b, c, l, ln, e1, e2, e3⟩ := roots_loop hL (by omega) (by omega) roots _ _ [] h0
  rw [e1, Option.bind_some]
  cases b with
  | false => exact .inr ⟨e3 rfl, by simp⟩
  | true =>
    obtain ⟨b, c2, l2, ln2, f1, f2, f3⟩ := line_loop hL hL3 (by omega) (by omega) 100 0 c l ln (e2 rfl) (Nat.zero_le _) (by omega)
    simp only [if_true]
    rw [f1, Option.bind_some]
    cases b with
    | false => exact .inr ⟨f3 rfl, by simp⟩
    | true => exact .inl ⟨ln2, c2, l2, f2 rfl, by simp⟩
theorem loopK_refs {m : Nat} {V : List Int} {c v : List Int} (hv : Inv C roots ((m : Int) + 1) V [] c v) : ∃ s', loopK (deepM C (m + 1)) roots (List.replicate C.length 0) = some (true, s') := by
  obtain ⟨s', e, _⟩ := loopK_ok (F := deepM C (m + 1)) (ok := fun z => RefOK C v (z, (m : Int) + 1)) (n := C.length) (fun z hz s hs => deep_ok hv m z hz s hs) roots (List.replicate C.length 0) (fun z hz => by
    rcases hv.rts z hz with e | e
    · exact e
    · cases e) (by simp)
  exact ⟨s', e⟩
end
end Go.Proofs.Ytacfalpgmibfnaa.PFnExactGoodCow
