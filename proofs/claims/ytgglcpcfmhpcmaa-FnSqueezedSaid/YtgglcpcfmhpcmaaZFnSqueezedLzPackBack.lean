import Derived.Test.YtgglcpcfmhpcmaaZFnSqueezedLzUnpack
import Derived.Test.YtgglcpcfmhpcmaaZFnSqueezedLzBest
import Derived.Test.YtgglcpcfmhpcmaaZFnSqueezedSqueezePure
/-! A text comes back from its tokens, and tokens from what they are packed to. -/
namespace Go.Proofs.Ytgglcpcfmhpcmaa.ZFnSqueezed
open Go.RowKit Go.Proofs.Ytgglcpcfmhpcmaa.PFnSqueezed Go.Proofs.YtgglcpcfmhpcmaaW.PrintWords Go.Proofs.YtgglcpcfmhpcmaaW.PrintLast Go.Proofs.YtgglcpcfmhpcmaaW.PrintMore Go.Proofs.Ytgglcpcfmhpcmaa.E
set_option linter.unusedSimpArgs false
set_option linter.unusedVariables false

def tot (l : List S56) : Int := (l.map (fun t => (t.f0.size : Int) + t.f2)).sum
theorem tot_snoc (l : List S56) (t : S56) : tot (l ++ [t]) = tot l + (t.f0.size + t.f2) := by simp [tot]
theorem rdT_get (l : List S56) (i : Int) (h0 : 0 ≤ i) (h1 : i < l.length) : rd_T56 l i = l[i.toNat]'(by omega) := by
  unfold rd_T56
  rw [List.getD_eq_getElem?_getD, List.getElem?_eq_getElem (by omega)]
  rfl
theorem takeT (l : List S56) (i : Int) (h0 : 0 ≤ i) (h1 : i < l.length) : l.take (i + 1).toNat = l.take i.toNat ++ [rd_T56 l i] := by
  rw [show (i + 1).toNat = i.toNat + 1 by omega, List.take_add_one, List.getElem?_eq_getElem (by omega), rdT_get l i h0 h1]
  rfl
theorem rdT_l (l : List S56) (x : S56) (i : Int) (h0 : 0 ≤ i) (h1 : i < l.length) : rd_T56 (l ++ [x]) i = rd_T56 l i := by
  unfold rd_T56
  rw [List.getD_eq_getElem?_getD, List.getD_eq_getElem?_getD, List.getElem?_append_left (by omega)]
theorem rdT_r (l : List S56) (x : S56) (i : Int) (h : i = l.length) : rd_T56 (l ++ [x]) i = x := by
  unfold rd_T56
  rw [List.getD_eq_getElem?_getD, List.getElem?_append_right (by omega)]
  simp [show i.toNat - l.length = 0 by omega]
def Good (l : List S56) : Prop := ∀ i : Int, 0 ≤ i → i < l.length → tokOk (rd_T56 l i) = true ∧ (rd_T56 l i).f1 ≤ tot (l.take i.toNat) ∧
  ¬ (i > 0 ∧ (rd_T56 l i).f0.size ≠ 0 ∧ 1 ≤ (rd_T56 l (i - 1)).f0.size ∧ (rd_T56 l (i - 1)).f0.size ≤ 63)
theorem good_nil : Good [] := fun i h0 h1 => by simp at h1; omega
theorem good_snoc {l : List S56} {t : S56} (h : Good l) (ht : tokOk t = true) (h1 : t.f1 ≤ tot l) (h2 : 1 ≤ l.length → t.f0.size ≠ 0 → ¬ (1 ≤ (lst l).f0.size ∧ (lst l).f0.size ≤ 63)) : Good (l ++ [t]) := by
  intro i hi0 hi1
  by_cases hi : i < l.length
  · have := h i hi0 hi
    rw [rdT_l l t i hi0 hi, List.take_append_of_le_length (by omega)]
    refine ⟨this.1, this.2.1, fun hc => this.2.2 ?_⟩
    have e := rdT_l l t (i - 1) (by omega) (by omega)
    rw [e] at hc
    exact hc
  · have e : i = l.length := by simp at hi1; omega
    rw [rdT_r l t i e, show i.toNat = l.length by omega, List.take_left']
    · refine ⟨ht, h1, fun hc => ?_⟩
      have e2 := rdT_l l t (i - 1) (by omega) (by omega)
      rw [e2] at hc
      refine h2 (by omega) hc.2.1 ?_
      unfold lst
      rw [← e]
      exact hc.2.2
    · rfl
theorem good_init {l : List S56} {t : S56} (h : Good (l ++ [t])) : Good l ∧ tokOk t = true ∧ t.f1 ≤ tot l ∧ (1 ≤ l.length → t.f0.size ≠ 0 → ¬ (1 ≤ (lst l).f0.size ∧ (lst l).f0.size ≤ 63)) := by
  refine ⟨fun i hi0 hi1 => ?_, ?_⟩
  · have := h i hi0 (by simp; omega)
    rw [rdT_l l t i hi0 hi1, List.take_append_of_le_length (by omega)] at this
    refine ⟨this.1, this.2.1, fun hc => this.2.2 ?_⟩
    rw [rdT_l l t (i - 1) (by omega) (by omega)]
    exact hc
  · have := h l.length (by omega) (by simp; omega)
    rw [rdT_r l t _ rfl, show ((l.length : Int)).toNat = l.length by omega, List.take_left' rfl] at this
    refine ⟨this.1, this.2.1, fun h1 h2 h3 => this.2.2 ⟨by omega, h2, ?_⟩⟩
    rw [rdT_l l t _ (by omega) (by omega)]
    exact h3
theorem gd_of {l : List S56} (h : Good l) (h6 : tot l ≤ 600) : ∀ (f : Nat) (i : Int), 0 ≤ i → i + f = l.length → gd l f i (tot (l.take i.toNat)) = true := by
  intro f
  induction f with
  | zero =>
    intro i h0 h1
    rw [List.take_of_length_le (by omega)]
    simp [gd]; exact h6
  | succ f ih =>
    intro i h0 h1
    have hg := h i h0 (by omega)
    simp only [gd]
    rw [if_pos hg.1, if_neg (by omega), if_neg hg.2.2]
    have := ih (i + 1) (by omega) (by omega)
    rw [takeT l i h0 (by omega), tot_snoc] at this
    exact this
theorem gd_good {l : List S56} (h : Good l) (h6 : tot l ≤ 600) : gd l l.length 0 0 = true := gd_of h h6 l.length 0 (by omega) (by omega)

def ex (l : List S56) : List Int := l.foldl put1 []
theorem ex_snoc (l : List S56) (t : S56) : ex (l ++ [t]) = put1 (ex l) t := by simp [ex]
theorem expM_fold (l : List S56) : ∀ (f : Nat) (i : Int) (out : List Int), 0 ≤ i → i + f = l.length → expM l f i out = (l.drop i.toNat).foldl put1 out := by
  intro f
  induction f with
  | zero => intro i out h0 h1; rw [List.drop_of_length_le (by omega)]; rfl
  | succ f ih =>
    intro i out h0 h1
    simp only [expM]
    rw [ih _ _ (by omega) (by omega), List.drop_eq_getElem_cons (i := i.toNat) (by omega), List.foldl_cons, rdT_get l i h0 (by omega), show (i + 1).toNat = i.toNat + 1 by omega]
theorem expM_ex (l : List S56) : expM l l.length 0 [] = ex l := expM_fold l l.length 0 [] (by omega) (by omega)

theorem bytes_next (s : ByteArray) (q : Nat) (h : q < s.size) : (bytesOf s).take (q + 1) = (bytesOf s).take q ++ [bt s q] := by
  have hl := bytesOf_len s
  rw [List.take_add_one, List.getElem?_eq_getElem (by omega)]
  have e := rd_bytesOf s q
  unfold rd at e
  rw [List.getD_eq_getElem?_getD, show ((q : Int)).toNat = q by omega, List.getElem?_eq_getElem (by omega)] at e
  rw [← e]
  rfl
theorem cpy_take (s : ByteArray) (d : Int) (hd : 1 ≤ d) : ∀ (f q : Nat), q + f ≤ s.size → d ≤ q → (∀ i : Int, q ≤ i → i < q + f → bt s i = bt s (i - d)) → cpy f ((bytesOf s).take q) d = (bytesOf s).take (q + f) := by
  have hl := bytesOf_len s
  intro f
  induction f with
  | zero => intro q h0 h1 h2; rfl
  | succ f ih =>
    intro q h0 h1 h2
    have e : ((bytesOf s).take q).length = q := by rw [List.length_take]; omega
    have e2 : rd ((bytesOf s).take q) ((q : Int) - d) = bt s ((q : Int) - d) := by
      rw [← rd_bytesOf s]
      unfold rd
      rw [List.getD_eq_getElem?_getD, List.getD_eq_getElem?_getD, List.getElem?_take_of_lt (by omega)]
    simp only [cpy]
    rw [e, e2, ← h2 q (by omega) (by omega), ← bytes_next s q (by omega), ih (q + 1) (by omega) (by omega) (fun i hi0 hi1 => h2 i (by omega) (by omega))]
    congr 1
    omega
theorem bytesOf_app (a b : ByteArray) : bytesOf (a ++ b) = bytesOf a ++ bytesOf b := by
  simp [bytesOf]
theorem bytesOf_one (s : ByteArray) (p : Int) (h0 : 0 ≤ p) (h1 : p < s.size) : bytesOf (one s p) = [bt s p] := by
  have hz := one_size s p h0 h1
  have hl := bytesOf_len (one s p)
  have e : rd (bytesOf (one s p)) 0 = bt s p := by
    rw [rd_bytesOf]
    unfold bt one
    rw [dif_pos (by rw [ByteArray.size_extract]; omega), dif_pos (by omega), ByteArray.getElem_extract]
    congr 2
  match hb : bytesOf (one s p), hl, e with
  | [x], _, e => simp [rd] at e; rw [e]
  | [], hl, _ => simp at hl; omega
  | _ :: _ :: _, hl, _ => simp at hl; omega
theorem put1_lit (out : List Int) (t : S56) (h : t.f2 = 0) : put1 out t = out ++ bytesOf t.f0 := by
  unfold put1
  rw [h]
  rfl

def Inv (s : ByteArray) (out : List S56) (p : Int) : Prop := Good out ∧ tot out = p ∧ ex out = (bytesOf s).take p.toNat
theorem toks_inv (s : ByteArray) (hs : s.size ≤ 1048576) : ∀ (f : Nat) (out : List S56) (p : Int), 0 ≤ p → p ≤ s.size → s.size ≤ p + f → Inv s out p → Inv s (toks s f out p) s.size := by
  intro f
  induction f with
  | zero =>
    intro out p h0 h1 h2 h
    simp only [toks]
    rw [show (s.size : Int) = p by omega]
    exact h
  | succ f ih =>
    intro out p h0 h1 h2 h
    obtain ⟨hg, ht, hx⟩ := h
    simp only [toks]
    by_cases hp : p < s.size
    · rw [if_pos hp]
      have hb := longest_bd s p h0 h1 hs
      by_cases hd : (longest s p).1 > 0
      · rw [if_pos hd]
        have hb' := hb.resolve_left (fun h => by rw [h] at hd; simp at hd)
        obtain ⟨dist, long, hbest, hlong⟩ := longest_best s p h0
        have hdz : dist ≠ 0 := fun e => by rw [hlong, if_pos e] at hd; simp at hd
        rw [if_neg hdz] at hlong
        rcases hbest.2 with ⟨hz, _⟩ | ⟨_, _, _, hrun, _⟩
        · exact absurd hz hdz
        · rw [hlong] at hb' hd ⊢
          simp only at hb' hd ⊢
          refine ih _ _ (by omega) (by omega) (by omega) ⟨good_snoc hg ?_ (by show dist ≤ tot out; omega) (fun _ h => absurd rfl h), ?_, ?_⟩
          · have e : tokOk (⟨⟨#[]⟩, dist, long⟩ : S56) = decide (1 ≤ dist ∧ dist ≤ 255 ∧ 3 ≤ long ∧ long ≤ 66) := if_pos rfl
            rw [e]
            simp; omega
          · rw [tot_snoc, ht]
            have : ((⟨#[]⟩ : ByteArray).size : Int) = 0 := rfl
            simp only [this]; omega
          · rw [ex_snoc, hx]
            unfold put1
            have e0 : bytesOf (⟨#[]⟩ : ByteArray) = [] := rfl
            simp only [e0, List.append_nil]
            rw [cpy_take s dist (by omega) long.toNat p.toNat (by omega) (by omega), show (p + long).toNat = p.toNat + long.toNat by omega]
            intro i hi0 hi1
            have := run_alike s p dist (lim s p) 0 (i - p) (by omega) (by omega)
            rw [show p + (i - p) = i by omega] at this
            exact this
      · rw [if_neg hd]
        have h1s := one_size s p h0 hp
        have hbo := bytesOf_one s p h0 hp
        have hbn := bytes_next s p.toNat (by omega)
        rw [show ((p.toNat : Nat) : Int) = p by omega] at hbn
        by_cases ho : opn out = true
        · rw [if_pos ho]
          have ho' := of_decide_eq_true ho
          obtain ⟨d, e1, e2⟩ := last_set out ⟨(lst out).f0 ++ one s p, (lst out).f1, (lst out).f2⟩ ho'.1
          rw [e2]
          have hgd : Good (d ++ [lst out]) := by rw [← e1]; exact hg
          obtain ⟨g1, g2, g3, g4⟩ := good_init hgd
          have hb2 := tokOk_bd g2
          have hz : ((lst out).f0 ++ one s p).size = (lst out).f0.size + 1 := by rw [ByteArray.size_append, h1s]
          have htd : tot d + ((lst out).f0.size + (lst out).f2) = p := by rw [← tot_snoc, ← e1]; exact ht
          have hxd : put1 (ex d) (lst out) = (bytesOf s).take p.toNat := by rw [← ex_snoc, ← e1]; exact hx
          refine ih _ _ (by omega) (by omega) (by omega) ⟨good_snoc g1 ?_ g3 (fun a _ => g4 a (by omega)), ?_, ?_⟩
          · unfold tokOk
            simp only [hz]
            rw [if_neg (by omega)]
            simp; omega
          · rw [tot_snoc]
            simp only [hz]
            omega
          · rw [ex_snoc, put1_lit _ _ (by show (lst out).f2 = 0; omega), show (p + 1).toNat = p.toNat + 1 by omega, hbn, ← hxd, put1_lit _ _ (by omega)]
            simp only [bytesOf_app, hbo, List.append_assoc]
        · rw [if_neg ho]
          have hno : 1 ≤ out.length → ¬ (1 ≤ (lst out).f0.size ∧ (lst out).f0.size ≤ 63) := fun a b => ho (decide_eq_true ⟨a, b⟩)
          refine ih _ _ (by omega) (by omega) (by omega) ⟨good_snoc hg ?_ (by show (0 : Int) ≤ tot out; omega) (fun a _ => hno a), ?_, ?_⟩
          · unfold tokOk
            simp only [h1s]
            rw [if_neg (by omega)]
            simp
          · rw [tot_snoc]
            simp only [h1s]
            omega
          · rw [ex_snoc, put1_lit _ _ rfl, show (p + 1).toNat = p.toNat + 1 by omega, hbn, hx]
            simp only [hbo]
    · rw [if_neg hp]
      rw [show (s.size : Int) = p by omega]
      exact ⟨hg, ht, hx⟩
theorem tk_inv (s : ByteArray) (hs : s.size ≤ 1048576) : Inv s (tk s) s.size := toks_inv s hs s.size [] 0 (by omega) (by omega) (by omega) ⟨good_nil, rfl, rfl⟩
theorem tk_ex (s : ByteArray) (hs : s.size ≤ 1048576) : strOfNums (ex (tk s)) = s := by
  rw [(tk_inv s hs).2.2, show ((s.size : Int)).toNat = s.size by omega, List.take_of_length_le (by rw [bytesOf_len]; exact Nat.le_refl _)]
  apply ByteArray.ext
  unfold strOfNums bytesOf
  apply Array.ext'
  simp [Function.comp_def]

theorem pack_bd {l : List S56} (h : Good l) : ∀ i : Nat, i ≤ l.length → 64 * (((packL (l.take i)).length : Int) - tot (l.take i)) - tot (l.take i) ≤ (if i > 0 ∧ 1 ≤ (rd_T56 l ((i : Int) - 1)).f0.size ∧ (rd_T56 l ((i : Int) - 1)).f0.size ≤ 63 then 63 else 0) := by
  intro i
  induction i with
  | zero => intro _; simp [packL, tot]
  | succ i ih =>
    intro hi
    have hg := h i (by omega) (by omega)
    have hb := tokOk_bd hg.1
    have hp := ih (by omega)
    have e := takeT l i (by omega) (by omega)
    rw [show ((i : Int) + 1).toNat = i + 1 by omega, show ((i : Int)).toNat = i by omega] at e
    have hk := pk_len (rd_T56 l (i : Int))
    have e3 : packL [rd_T56 l (i : Int)] = pk (rd_T56 l (i : Int)) := by rw [packL_cons]; simp [packL]
    rw [e, packL_append, e3, List.length_append, tot_snoc, show (((i + 1 : Nat) : Int) - 1) = (i : Int) by omega]
    rcases hb with hb | hb
    · rw [if_pos hb.1] at hk
      rw [if_neg (by omega)]
      split at hp <;> omega
    · rw [if_neg hb.1] at hk
      have hprev : ¬ (i > 0 ∧ 1 ≤ (rd_T56 l ((i : Int) - 1)).f0.size ∧ (rd_T56 l ((i : Int) - 1)).f0.size ≤ 63) := fun hc => hg.2.2 ⟨by omega, hb.1, hc.2⟩
      rw [if_neg hprev] at hp
      by_cases h64 : (rd_T56 l (i : Int)).f0.size ≤ 63
      · rw [if_pos ⟨by omega, by omega, h64⟩]
        omega
      · rw [if_neg (by omega)]
        omega
theorem pack_len {l : List S56} (h : Good l) : ((packL l).length : Int) ≤ tot l + tot l / 64 + 1 := by
  have := pack_bd h l.length (Nat.le_refl _)
  rw [List.take_length] at this
  split at this <;> omega
end Go.Proofs.Ytgglcpcfmhpcmaa.ZFnSqueezed
/-! What is packed is unpacked, and what is unpacked packs to the same text. -/
namespace Go.Proofs.Ytgglcpcfmhpcmaa.ZFnSqueezed
open Go.RowKit Go.Proofs.Ytgglcpcfmhpcmaa.PFnSqueezed Go.Proofs.YtgglcpcfmhpcmaaW.PrintWords Go.Proofs.YtgglcpcfmhpcmaaW.PrintLast Go.Proofs.YtgglcpcfmhpcmaaW.PrintMore Go.Proofs.Ytgglcpcfmhpcmaa.E
set_option linter.unusedSimpArgs false
set_option linter.unusedVariables false

theorem bt_list (s : ByteArray) (i : Nat) (h : i < s.size) : bt s i = ((s.data.toList[i]'(by rw [Array.length_toList]; exact h)).toNat : Int) := by
  unfold bt
  rw [dif_pos (by omega)]
  simp only [show ((i : Int)).toNat = i by omega]
  rfl
theorem bt_mk (a : List UInt8) (b : UInt8) (c : List UInt8) (p : Int) (h : p = a.length) : bt ⟨(a ++ b :: c).toArray⟩ p = b.toNat := by
  rw [h, bt_list _ a.length (by rw [mkB_size]; simp)]
  simp
theorem ext_list (s : ByteArray) (a b : Nat) (h : a ≤ b) (hb : b ≤ s.size) : s.data.toList.drop a = (s.extract a b).data.toList ++ s.data.toList.drop b := by
  rw [ByteArray.data_extract, Array.toList_extract]
  unfold List.extract
  have : s.data.toList.drop b = (s.data.toList.drop a).drop (b - a) := by rw [List.drop_drop]; congr 1; omega
  rw [this, List.take_append_drop]
theorem drop_bt (s : ByteArray) (p : Nat) (h : p < s.size) : s.data.toList.drop p = UInt8.ofNat (bt s p).toNat :: s.data.toList.drop (p + 1) := by
  rw [List.drop_eq_getElem_cons (by rw [Array.length_toList]; exact h), bt_list s p h]
  simp
theorem ext_mk (a b c : List UInt8) : (⟨(a ++ (b ++ c)).toArray⟩ : ByteArray).extract a.length (a.length + b.length) = ⟨b.toArray⟩ := by
  apply ByteArray.ext
  rw [ByteArray.data_extract]
  apply Array.ext'
  rw [Array.toList_extract]
  unfold List.extract
  simp
theorem unp_pack (s : ByteArray) : ∀ (rest : List S56) (f : Nat) (pre : List UInt8) (p : Int) (out : List S56), p = pre.length → s = ⟨(pre ++ packL rest).toArray⟩ → (∀ t ∈ rest, tokOk t = true) → s.size ≤ p + f → unp s f p out = some (out ++ rest) := by
  intro rest
  induction rest with
  | nil =>
    intro f pre p out hp hs ht hf
    have hz : s.size = pre.length := by rw [hs, mkB_size]; simp [packL]
    cases f with
    | zero => simp [unp]
    | succ f => simp only [unp]; rw [if_neg (by omega)]; simp
  | cons t rest ih =>
    intro f pre p out hp hs ht hf
    have htk := ht t (by simp)
    have hb := tokOk_bd htk
    have hk := pk_len t
    have hz : s.size = pre.length + ((pk t).length + (packL rest).length) := by rw [hs, mkB_size, packL_cons]; simp
    have hs2 : s = ⟨((pre ++ pk t) ++ packL rest).toArray⟩ := by rw [hs, packL_cons, List.append_assoc]
    cases f with
    | zero => split at hk <;> omega
    | succ f =>
      simp only [unp]
      rw [if_pos (by split at hk <;> omega)]
      rcases hb with hb | hb
      · rw [if_pos hb.1] at hk
        have e1 : pk t = [UInt8.ofNat ((wrap64 (wrap64 (64 + t.f2) - 3)) % 256).toNat, UInt8.ofNat (t.f1 % 256).toNat] := if_pos hb.1
        rw [w64 (x := 64 + t.f2) (by omega) (by omega), w64 (by omega) (by omega)] at e1
        have hs3 : s = ⟨(pre ++ UInt8.ofNat ((64 + t.f2 - 3) % 256).toNat :: UInt8.ofNat (t.f1 % 256).toNat :: packL rest).toArray⟩ := by rw [hs, packL_cons, e1]; simp
        have hs4 : s = ⟨((pre ++ [UInt8.ofNat ((64 + t.f2 - 3) % 256).toNat]) ++ UInt8.ofNat (t.f1 % 256).toNat :: packL rest).toArray⟩ := by rw [hs3]; simp
        have b0 : bt s p = 61 + t.f2 := by
          rw [hs3, bt_mk pre _ _ p hp, UInt8.toNat_ofNat', Nat.mod_eq_of_lt (by omega)]
          omega
        have b1 : bt s (p + 1) = t.f1 := by
          rw [hs4, bt_mk _ _ _ (p + 1) (by simp; omega), UInt8.toNat_ofNat', Nat.mod_eq_of_lt (by omega)]
          omega
        rw [b0, b1, if_neg (by omega), if_neg (by omega)]
        have et : (⟨⟨#[]⟩, t.f1, 61 + t.f2 - 64 + 3⟩ : S56) = t := by
          have e0 : t.f0 = ⟨#[]⟩ := by
            apply ByteArray.ext
            apply Array.ext
            · exact hb.1
            · intro i hi _
              have : t.f0.data.size = 0 := hb.1
              omega
          cases t with
          | mk a b c =>
            simp only at e0
            subst e0
            simp only
            congr 1
            omega
        rw [et, ih f (pre ++ pk t) (p + 2) (out ++ [t]) (by rw [List.length_append]; omega) hs2 (fun x hx => ht x (by simp [hx])) (by omega)]
        simp
      · rw [if_neg hb.1] at hk
        have e1 : pk t = UInt8.ofNat (((t.f0.size : Int) - 1) % 256).toNat :: t.f0.data.toList := if_neg hb.1
        have hs3 : s = ⟨(pre ++ UInt8.ofNat (((t.f0.size : Int) - 1) % 256).toNat :: (t.f0.data.toList ++ packL rest)).toArray⟩ := by rw [hs, packL_cons, e1]; simp
        have hs4 : s = ⟨((pre ++ [UInt8.ofNat (((t.f0.size : Int) - 1) % 256).toNat]) ++ (t.f0.data.toList ++ packL rest)).toArray⟩ := by rw [hs3]; simp
        have b0 : bt s p = t.f0.size - 1 := by
          rw [hs3, bt_mk pre _ _ p hp, UInt8.toNat_ofNat', Nat.mod_eq_of_lt (by omega)]
          omega
        have hdl : t.f0.data.toList.length = t.f0.size := by rw [Array.length_toList]; rfl
        have ee : s.extract (p + 1).toNat (p + bt s p + 2).toNat = t.f0 := by
          have := ext_mk (pre ++ [UInt8.ofNat (((t.f0.size : Int) - 1) % 256).toNat]) t.f0.data.toList (packL rest)
          rw [← hs4, mkB_data, hdl, List.length_append] at this
          rw [b0, show (p + 1).toNat = pre.length + 1 by omega, show (p + ((t.f0.size : Int) - 1) + 2).toNat = pre.length + 1 + t.f0.size by omega]
          exact this
        rw [ee, b0, if_pos (by omega), if_neg (by omega)]
        have et : (⟨t.f0, 0, 0⟩ : S56) = t := by
          cases t with
          | mk a b c =>
            simp only at hb
            simp only
            rw [hb.2.2.1, hb.2.2.2]
        rw [et, ih f (pre ++ pk t) _ (out ++ [t]) (by rw [List.length_append]; omega) hs2 (fun x hx => ht x (by simp [hx])) (by omega)]
        simp
theorem pack_unp (s : ByteArray) : ∀ (f : Nat) (p : Int) (out l : List S56), 0 ≤ p → p ≤ s.size → s.size ≤ p + f → unp s f p out = some l → packL l = packL out ++ s.data.toList.drop p.toNat := by
  have hsl : s.data.toList.length = s.size := by rw [Array.length_toList]; rfl
  intro f
  induction f with
  | zero =>
    intro p out l h0 h1 h2 h
    simp only [unp] at h
    rw [← Option.some.inj h, List.drop_of_length_le (by omega), List.append_nil]
  | succ f ih =>
    intro p out l h0 h1 h2 h
    simp only [unp] at h
    by_cases hp : p < s.size
    · have b0 := bt_nonneg s p
      have b1 := bt_lt s p
      have c0 := bt_nonneg s (p + 1)
      have c1 := bt_lt s (p + 1)
      have hd := drop_bt s p.toNat (by omega)
      rw [show ((p.toNat : Nat) : Int) = p by omega] at hd
      rw [if_pos hp] at h
      by_cases h64 : bt s p < 64
      · rw [if_pos h64] at h
        by_cases hb : p + bt s p + 2 > s.size
        · rw [if_pos hb] at h; cases h
        · rw [if_neg hb] at h
          rw [ih _ _ _ (by omega) (by omega) (by omega) h, packL_append, List.append_assoc]
          congr 1
          have hz : (s.extract (p + 1).toNat (p + bt s p + 2).toNat).size = (bt s p + 1).toNat := by rw [ByteArray.size_extract]; omega
          have e3 : packL [(⟨s.extract (p + 1).toNat (p + bt s p + 2).toNat, 0, 0⟩ : S56)] = UInt8.ofNat (bt s p).toNat :: (s.extract (p + 1).toNat (p + bt s p + 2).toNat).data.toList := by
            rw [packL_cons]
            unfold pk
            simp only [hz]
            rw [if_neg (by omega), show ((((bt s p + 1).toNat : Nat) : Int) - 1) % 256 = bt s p by omega]
            simp [packL]
          rw [e3, hd, ext_list s (p.toNat + 1) (p + bt s p + 2).toNat (by omega) (by omega), show (p + 1).toNat = p.toNat + 1 by omega]
          rfl
      · rw [if_neg h64] at h
        by_cases hb : p + 1 = s.size
        · rw [if_pos hb] at h; cases h
        · rw [if_neg hb] at h
          rw [ih _ _ _ (by omega) (by omega) (by omega) h, packL_append, List.append_assoc]
          congr 1
          have hd2 := drop_bt s (p.toNat + 1) (by omega)
          rw [show ((p.toNat + 1 : Nat) : Int) = p + 1 by omega] at hd2
          have e3 : packL [(⟨⟨#[]⟩, bt s (p + 1), bt s p - 64 + 3⟩ : S56)] = [UInt8.ofNat (bt s p).toNat, UInt8.ofNat (bt s (p + 1)).toNat] := by
            rw [packL_cons]
            have e4 : pk (⟨⟨#[]⟩, bt s (p + 1), bt s p - 64 + 3⟩ : S56) = [UInt8.ofNat ((wrap64 (wrap64 (64 + (bt s p - 64 + 3)) - 3)) % 256).toNat, UInt8.ofNat (bt s (p + 1) % 256).toNat] := if_pos rfl
            rw [e4, w64 (x := 64 + (bt s p - 64 + 3)) (by omega) (by omega), w64 (by omega) (by omega), show (64 + (bt s p - 64 + 3) - 3) % 256 = bt s p by omega, show bt s (p + 1) % 256 = bt s (p + 1) by omega]
            simp [packL]
          rw [e3, hd, hd2, show (p + 2).toNat = p.toNat + 1 + 1 by omega]
          rfl
    · rw [if_neg hp] at h
      rw [← Option.some.inj h, List.drop_of_length_le (by omega), List.append_nil]
theorem good_tok {l : List S56} (h : Good l) : ∀ t ∈ l, tokOk t = true := by
  intro t ht
  obtain ⟨i, hi, rfl⟩ := List.getElem_of_mem ht
  have := (h i (by omega) (by omega)).1
  rw [rdT_get l i (by omega) (by omega)] at this
  simpa using this
/-- The tokens of a text come back from what they are packed to. -/
theorem tk_back (s : ByteArray) (h6 : s.size ≤ 600) : ans (unp ⟨(packL (tk s)).toArray⟩ (⟨(packL (tk s)).toArray⟩ : ByteArray).size 0 []) = (tk s, true) := by
  have hi := tk_inv s (by omega)
  rw [unp_pack ⟨(packL (tk s)).toArray⟩ (tk s) _ [] 0 [] rfl (by simp) (good_tok hi.1) (by omega)]
  simp only [ans, List.nil_append]
  rw [if_pos (gd_good hi.1 (by rw [hi.2.1]; omega))]
theorem tk_res (s : ByteArray) (h6 : s.size ≤ 600) : res (tk s) (tk s).length 0 [] = (s, true) := by
  have hi := tk_inv s (by omega)
  exact (if_pos (gd_good hi.1 (by rw [hi.2.1]; omega))).trans (by rw [expM_ex, tk_ex s (by omega)])
theorem unp_back (u : ByteArray) (l : List S56) (h : unp u u.size 0 [] = some l) : (⟨(packL l).toArray⟩ : ByteArray) = u := by
  rw [pack_unp u u.size 0 [] l (by omega) (by omega) (by omega) h]
  have e : packL ([] : List S56) = [] := rfl
  rw [e]
  simp
end Go.Proofs.Ytgglcpcfmhpcmaa.ZFnSqueezed
