import Derived.Test.YthljjgolloiamaaDoorXNamGoodI
import Derived.Test.YthljjgolloiamaaDoorYNamspecl8Name
import Derived.Test.YthljjgolloiamaaDoorYNamsmall
/-! When a name space is right, as the reference asks for it. -/
namespace Go.Proofs.YthljjgolloiamaaDoor.PNam
open Go.RowKit Go.Proofs.YthljjgolloiamaaDoorW.PrintWords Go.Proofs.YthljjgolloiamaaDoorW.PrintLast Go.Proofs.YthljjgolloiamaaDoorW.PrintMore Go.Proofs.YthljjgolloiamaaDoor.E Go.Proofs.YthljjgolloiamaaDoor.ZNam
set_option linter.unusedVariables false
set_option linter.unusedSimpArgs false
/-- The name at place j, behind those ahead of it. -/
structure NameP (L : List NL) (n j : Nat) : Prop where
  ok : okName (rd_T60 L (j : Int)).f0 = true
  rng : 1 ≤ (rd_T60 L (j : Int)).f1 ∧ (rd_T60 L (j : Int)).f1 < (n : Int)
  ord : ∀ q : Nat, j = q + 1 → Op.bytesLess (rd_T60 L (q : Int)).f0.toList (rd_T60 L (j : Int)).f0.toList = true
structure InoP (l : List IN) (k : Nat) : Prop where
  nm : ∀ j : Nat, j < (inoAt l k).f2.length → NameP (inoAt l k).f2 l.length j
  fil : dirOf l k = false → (inoAt l k).f2 = []
  few : (inoAt l k).f2.length ≤ 20
structure GoodS (l : List IN) : Prop where
  n1 : 1 ≤ l.length
  n2 : l.length ≤ 60
  d0 : dirOf l 0 = true
  l0 : (inoAt l 0).f1 = 1
  ino : ∀ k : Nat, k < l.length → InoP l k
  run : ∃ R, G l (openAt l 0 0) (fun _ => 0) R ∧ ∀ k : Nat, 1 ≤ k → k < l.length → (inoAt l k).f1 = R k ∧ (dirOf l k = true → (inoAt l k).f1 = 1)
theorem afterN_prev (L : List NL) (j : Nat) (x : ByteArray) : afterN (prevN L j) x = true ↔ ∀ q : Nat, j = q + 1 → Op.bytesLess (rd_T60 L (q : Int)).f0.toList x.toList = true := by
  cases j with
  | zero => exact ⟨fun _ q h => by omega, fun _ => rfl⟩
  | succ q =>
    constructor
    · intro h p hp
      obtain rfl : p = q := by omega
      exact h
    · intro h
      exact h q rfl
theorem okL_iff (L : List NL) : ∀ (f i : Nat), i + f = L.length → (okL (prevN L i) (L.drop i) = true ↔ ∀ j : Nat, i ≤ j → j < L.length → okName (rd_T60 L (j : Int)).f0 = true ∧ ∀ q : Nat, j = q + 1 → Op.bytesLess (rd_T60 L (q : Int)).f0.toList (rd_T60 L (j : Int)).f0.toList = true) := by
  intro f
  induction f with
  | zero =>
    intro i hi
    rw [List.drop_of_length_le (by omega), okL]
    exact ⟨fun _ j h1 h2 => by omega, fun _ => rfl⟩
  | succ f ih =>
    intro i hi
    have hil : i < L.length := by omega
    have hd : L.drop i = rd_T60 L (i : Int) :: L.drop (i + 1) := by rw [rd_name hil]; exact List.drop_eq_getElem_cons hil
    have h1 := ih (i + 1) (by omega)
    rw [hd, okL, Bool.and_eq_true, Bool.and_eq_true, afterN_prev]
    constructor
    · intro ⟨ha, hb, hc⟩ j hj hjl
      by_cases e : j = i
      · subst e; exact ⟨ha, hb⟩
      · exact h1.1 hc j (by omega) hjl
    · intro h
      exact ⟨(h i (Nat.le_refl _) hil).1, (h i (Nat.le_refl _) hil).2, h1.2 fun j hj hjl => h j (by omega) hjl⟩
theorem namesOk_iff (L : List NL) : namesOk L = true ↔ L.length ≤ 20 ∧ ∀ j : Nat, j < L.length → okName (rd_T60 L (j : Int)).f0 = true ∧ ∀ q : Nat, j = q + 1 → Op.bytesLess (rd_T60 L (q : Int)).f0.toList (rd_T60 L (j : Int)).f0.toList = true := by
  unfold namesOk
  rw [Bool.and_eq_true, decide_eq_true_iff]
  have h := okL_iff L L.length 0 (by omega)
  rw [show okL none L = okL (prevN L 0) (L.drop 0) from rfl, h]
  exact ⟨fun ⟨a, b⟩ => ⟨b, fun j hj => a j (Nat.zero_le _) hj⟩, fun ⟨a, b⟩ => ⟨fun j _ hj => b j hj, a⟩⟩
theorem run_once {kids : Nat → List Nat} {dir : Nat → Bool} {ok : Nat → Nat → Prop} {W : List (Nat × Nat)} {S R : Nat → Int} (h : Run kids dir ok W S R) {k : Nat} (hk : dir k = true) (h0 : S k ≤ 1) : R k ≤ 1 := by
  induction h with
  | done => exact h0
  | @step W V f d S R hp ho hd hr ih =>
    apply ih
    unfold up
    by_cases e : k = f
    · rw [if_pos e]
      have := hd (e ▸ hk)
      rw [e]; omega
    · rw [if_neg e]; exact h0
/-- In a row that is right every name is of an inode of the row. -/
theorem good_rng {l : List IN} (h : GoodP l) {k : Nat} (hk : k < l.length) : ∀ x ∈ (inoAt l k).f2, 1 ≤ x.f1 ∧ x.f1 < (l.length : Int) := by
  intro x hx
  obtain ⟨R, hR, hl⟩ := h.run
  have hd : dirOf l k = true := by
    cases hd : dirOf l k with
    | true => rfl
    | false => rw [(h.nm k hk).2 hd] at hx; cases hx
  have hy : x.f1.toNat ∈ kidsOf l k := List.mem_map.2 ⟨x, hx, rfl⟩
  have hok : ∃ d, d ≤ 8 ∧ 1 ≤ x.f1.toNat ∧ x.f1.toNat < l.length := by
    by_cases h0 : k = 0
    · subst h0
      exact ⟨1, hR.deep (fun _ => Int.le_refl _) (x.f1.toNat, 0 + 1) (List.mem_map.2 ⟨_, hy, rfl⟩)⟩
    · exact hR.named (fun _ => Int.le_refl _) (Int.le_refl _) ((hl k (by omega) hk).2 hd) _ hy
  obtain ⟨d, _, h1, h2⟩ := hok
  omega
theorem rd_mem {L : List NL} {j : Nat} (h : j < L.length) : rd_T60 L (j : Int) ∈ L := by
  rw [rd_name h]; exact List.getElem_mem h
theorem mem_rd {L : List NL} {x : NL} (h : x ∈ L) : ∃ j : Nat, j < L.length ∧ rd_T60 L (j : Int) = x := by
  obtain ⟨j, hj, e⟩ := List.mem_iff_getElem.1 h
  exact ⟨j, hj, by rw [rd_name hj]; exact e⟩
theorem good_iff {l : List IN} : GoodP l ↔ GoodS l := by
  constructor
  · intro h
    refine ⟨h.n1, h.n2, h.d0, h.l0, fun k hk => ?_, ?_⟩
    · obtain ⟨h1, h2⟩ := namesOk_iff _ |>.1 (h.nm k hk).1
      exact ⟨fun j hj => ⟨(h2 j hj).1, good_rng h hk _ (rd_mem hj), (h2 j hj).2⟩, (h.nm k hk).2, h1⟩
    · obtain ⟨R, hR, hl⟩ := h.run
      refine ⟨R, hR, fun k h1 h2 => ⟨(hl k h1 h2).1, fun hd => ?_⟩⟩
      have h3 := (hl k h1 h2).2 hd
      have h4 := run_once hR hd (by show (0 : Int) ≤ 1; omega)
      have h5 := (hl k h1 h2).1
      omega
  · intro h
    refine ⟨h.n1, h.n2, h.d0, h.l0, fun k hk => ⟨namesOk_iff _ |>.2 ⟨(h.ino k hk).few, fun j hj => ⟨((h.ino k hk).nm j hj).ok, ((h.ino k hk).nm j hj).ord⟩⟩, (h.ino k hk).fil⟩, ?_⟩
    obtain ⟨R, hR, hl⟩ := h.run
    refine ⟨R, hR, fun k h1 h2 => ⟨(hl k h1 h2).1, fun hd => ?_⟩⟩
    have h3 := (hl k h1 h2).2 hd
    have h4 := (hl k h1 h2).1
    omega
theorem goodS_no {l : List IN} (h : ¬ GoodS l) : goodN l = false := goodN_no (fun hp => h (good_iff.1 hp))
theorem goodS_yes {l : List IN} (h : GoodS l) : goodN l = true := goodN_iff.2 (good_iff.2 h)
/-- Behind the looks at every inode. -/
theorem bas_of {l : List IN} (h1 : 1 ≤ l.length) (h2 : l.length ≤ 60) (h : ∀ k : Nat, k < l.length → InoP l k) : Bas l := by
  have hn : ∀ k : Nat, l.length ≤ k → (inoAt l k).f2 = [] := fun k hk => by rw [inoAt_out hk]; rfl
  refine ⟨h1, h2, fun k x hx => ?_, fun k => ?_, fun k hd => ?_⟩
  · by_cases hk : k < l.length
    · obtain ⟨j, hj, e⟩ := mem_rd hx
      rw [← e]
      exact ((h k hk).nm j hj).rng
    · rw [hn k (by omega)] at hx; cases hx
  · by_cases hk : k < l.length
    · exact (h k hk).few
    · rw [hn k (by omega)]; exact Nat.zero_le _
  · by_cases hk : k < l.length
    · exact (h k hk).fil hd
    · exact hn k (by omega)
theorem bas_good {l : List IN} (h : goodN l = true) : Bas l := by
  have h1 := good_iff.1 (goodN_iff.1 h)
  exact bas_of h1.n1 h1.n2 h1.ino
/-! spec.l8Name and spec.l1In: what they answer. -/
theorem l1In_is (a b c : Int) : spec_l1In.f a b c = some (decide (b ≤ a ∧ a ≤ c)) := by
  unfold spec_l1In.f
  by_cases h1 : a ≥ b
  · rw [if_pos h1, Option.some.injEq, Bool.eq_iff_iff, decide_eq_true_iff, decide_eq_true_iff]
    omega
  · rw [if_neg h1, Option.some.injEq, Bool.eq_iff_iff, decide_eq_true_iff]
    constructor
    · intro h; cases h
    · intro h; omega
def okB (b : Int) : Bool := decide (97 ≤ b ∧ b ≤ 122 ∨ 48 ≤ b ∧ b ≤ 57 ∨ b = 46 ∨ b = 45)
set_option maxRecDepth 100000 in
theorem okB_is (b : UInt8) : nameSet.contains b = okB (b.toNat : Int) := by
  have h : ∀ n : Fin 256, nameSet.contains (UInt8.ofNat n.val) = okB ((UInt8.ofNat n.val).toNat : Int) := by decide
  have h2 := h ⟨b.toNat, b.toNat_lt⟩
  rwa [show UInt8.ofNat b.toNat = b from UInt8.ofNat_toNat] at h2
theorem l8Name_l (s : ByteArray) (hs : s.size ≤ 9223372036854775807) : ∀ (f i : Nat), i + f = s.size → Ev (fun k => spec_l8Name.l0 k s (i : Int)) (decide (1 ≤ s.size ∧ s.size ≤ 12) && (s.data.toList.drop i).all (nameSet.contains ·)) := by
  have hsz : s.data.toList.length = s.size := Array.length_toList
  intro f
  induction f with
  | zero =>
    intro i hi
    refine Ev.step (fun _ => spec_l8Name.l0.eq_2 ..) (ev_neg (by omega) ?_)
    rw [l1In_is, List.drop_of_length_le (by omega), List.all_nil, Bool.and_true]
    refine ev_ret ?_
    exact decide_eq_decide.2 (by omega)
  | succ f ih =>
    intro i hi
    have hil : i < s.data.toList.length := by omega
    have ei : wrap64 ((i : Int) + 1) = ((i + 1 : Nat) : Int) := by rw [w64 (by omega) (by omega)]; omega
    have h1 := ih (i + 1) (by omega)
    have hb : bt s (i : Int) = (((s.data.toList[i]).toNat : Nat) : Int) := by
      unfold bt
      rw [dif_pos (by rw [Int.toNat_natCast]; omega)]
      rfl
    refine Ev.step (fun _ => spec_l8Name.l0.eq_2 ..) (ev_pos (by omega) (ev_pos (by omega) ?_))
    rw [ei, List.drop_eq_getElem_cons hil, List.all_cons, okB_is, ← hb]
    generalize bt s (i : Int) = b
    cases ho : okB b with
    | true =>
      rw [Bool.true_and]
      have hp := of_decide_eq_true ho
      rcases Classical.propComplete (b ≥ 97) with e1 | e1 <;> rcases Classical.propComplete (b ≤ 122) with e2 | e2 <;> rcases Classical.propComplete (b ≥ 48) with e3 | e3 <;> rcases Classical.propComplete (b ≤ 57) with e4 | e4 <;> rcases Classical.propComplete (b = 46) with e5 | e5 <;> rcases Classical.propComplete (b = 45) with e6 | e6 <;> first | (simp only [e1, e2, e3, e4, e5, e6, if_true, if_false]; exact h1) | (exfalso; simp only [eq_iff_iff, iff_true, iff_false] at e1 e2 e3 e4 e5 e6; omega)
    | false =>
      rw [Bool.false_and, Bool.and_false]
      have hp := of_decide_eq_false ho
      rcases Classical.propComplete (b ≥ 97) with e1 | e1 <;> rcases Classical.propComplete (b ≤ 122) with e2 | e2 <;> rcases Classical.propComplete (b ≥ 48) with e3 | e3 <;> rcases Classical.propComplete (b ≤ 57) with e4 | e4 <;> rcases Classical.propComplete (b = 46) with e5 | e5 <;> rcases Classical.propComplete (b = 45) with e6 | e6 <;> first | (simp only [e1, e2, e3, e4, e5, e6, if_true, if_false]; exact ev_ret rfl) | (exfalso; simp only [eq_iff_iff, iff_true, iff_false] at e1 e2 e3 e4 e5 e6; omega)
theorem l8Name_is (s : ByteArray) (hs : s.size ≤ 9223372036854775807) : Ev (fun k => spec_l8Name.f k s) (okName s) := l8Name_l s hs s.size 0 (by omega)
end Go.Proofs.YthljjgolloiamaaDoor.PNam
/-! spec.GoodNames, walked. -/
namespace Go.Proofs.YthljjgolloiamaaDoor.PNam
open Go.RowKit Go.Proofs.YthljjgolloiamaaDoorW.PrintWords Go.Proofs.YthljjgolloiamaaDoorW.PrintLast Go.Proofs.YthljjgolloiamaaDoorW.PrintMore Go.Proofs.YthljjgolloiamaaDoor.E Go.Proofs.YthljjgolloiamaaDoor.ZNam
set_option linter.unusedSimpArgs false
set_option linter.unusedVariables false
attribute [local go_sem high] E.leq_str E.geq_str E.gtr_str
theorem heap_name : Kd.Heap k60 := Kd.heap_iso _ (Kd.heap_pair Kd.heap_scalar (Kd.heap_int .i64))
theorem heap_inode : Kd.Heap k76 := Kd.heap_iso _ (Kd.heap_pair Kd.heap_scalar (Kd.heap_pair (Kd.heap_int .i64) (Kd.heap_slice 60 heap_name)))
/-- No name is longer than a text can be. -/
def szOk (l : List IN) : Bool := l.all fun v => v.f2.all fun x => decide (x.f0.size ≤ 9223372036854775807)
theorem szOk_at {l : List IN} (h : szOk l = true) {i j : Nat} (hi : i < l.length) (hj : j < (inoAt l i).f2.length) : (rd_T60 (inoAt l i).f2 (j : Int)).f0.size ≤ 9223372036854775807 := by
  have h1 : inoAt l i ∈ l := by
    unfold inoAt rd_T76
    rw [Int.toNat_natCast, List.getD_eq_getElem?_getD, List.getElem?_eq_getElem hi]
    exact List.getElem_mem hi
  exact of_decide_eq_true (List.all_eq_true.1 (List.all_eq_true.1 h _ h1) _ (rd_mem hj))
noncomputable def spec_GoodNames.f (l : List IN) : Option Bool := if szOk l = true then some (goodN l) else none
theorem l8_all (s : ByteArray) (hs : s.size ≤ 9223372036854775807) (b : Bool) (hb : okName s = b) : ∀ W, Calls Tryd.prog 57 #[.string s] W fun e w' => e = .returned (.bool b) ∧ Drawn0 W w' := fun W => by
  obtain ⟨K1, hK⟩ := l8Name_is s hs
  rw [hb] at hK
  exact spec_l8Name.calls K1 s b W (hK K1 (Nat.le_refl _))
theorem l1_all (a b c : Int) (r : Bool) (hr : decide (b ≤ a ∧ a ≤ c) = r) : ∀ W, Calls Tryd.prog 58 #[.int .i64 a, .int .i64 b, .int .i64 c] W fun e w' => e = .returned (.bool r) ∧ Drawn0 W w' := fun W => by
  exact spec_l1In.calls a b c r W (by rw [l1In_is, hr])
set_option maxHeartbeats 16000000 in
set_option maxRecDepth 100000 in
theorem spec_GoodNames.calls (A : Option Addr) (c : Nat) (l : List IN) (r : Bool) (w : World) (hr : Kd.C k76 w A l.length l) (hc : l.length ≤ c) (h : spec_GoodNames.f l = some r) :
    Calls Tryd.prog 49 #[.agg #[.slice A l.length c]] w fun e w' => e = .returned (.bool r) ∧ Below w.heap.size w w' := by
  unfold spec_GoodNames.f at h
  by_cases hsz : szOk l = true
  case neg => rw [if_neg hsz] at h; cases h
  rw [if_pos hsz] at h
  obtain rfl := Option.some.inj h
  have HSZ := Aside0.mk hsz
  clear h hsz
  obtain ⟨g, hg⟩ : ∃ g, goodN l = g := ⟨_, rfl⟩
  have HGD := Aside0.mk hg
  rw [hg]
  clear hg
  have huI := Tryd.underlying76
  have huN := Tryd.underlying30
  have huM := Tryd.underlying60
  have HR := Aside0.mk hr
  have HC := Aside0.mk hc
  obtain ⟨W1, hW1⟩ : ∃ W, w.alloc (.cells #[.slice A l.length c] 30) = W := ⟨_, rfl⟩
  have hb1 : Below w.heap.size w W1 := by rw [← hW1]; exact below_alloc (Below.refl _ _) _
  have HX := Aside0.mk (show W1.heap[w.heap.size]? = some (.cells #[.slice A l.length c] 30 (0, 0)) by rw [← hW1]; exact heap_alloc_new w _)
  have d0 : W1.cell? ⟨w.heap.size, 0, none⟩ = some (.slice A l.length c) := (blk_cell HX.out 0).trans rfl
  have HB := Aside0.mk hb1
  clear hb1 hr hc
  by_cases hn : 1 ≤ (l.length : Int) ∧ (l.length : Int) ≤ 60
  case neg =>
    have TW := Aside0.mk (l1_all (l.length : Int) 1 60 false (decide_eq_false hn) W1)
    obtain rfl : g = false := by rw [← HGD.out]; exact goodN_no (fun h => hn ⟨by have := h.n1; omega, by have := h.n2; omega⟩)
    clear hn
    go_enter Tryd.func49, Tryd.ntmps49
    go_wp2_with (go_at_call 58; with_reducible refine TW.out.mono ?_)
    rintro e w2 ⟨rfl, hd⟩
    have hb := hd.below
    have HB2 := Aside0.mk (below_step HB.out hb)
    clear hd hb d0
    go_wp2
    go_ret
    exact ⟨rfl, HB2.out⟩
  have TW := Aside0.mk (l1_all (l.length : Int) 1 60 true (decide_eq_true hn) W1)
  obtain ⟨ad, hA⟩ : ∃ ad, A = some ad := by
    obtain ⟨ad, _, _, e, _⟩ := at_T76 HR.out 0 (by omega) (by omega)
    exact ⟨ad, e⟩
  subst hA
  have HN := Aside0.mk (show 1 ≤ l.length ∧ l.length ≤ 60 by omega)
  have hl0 : (0 < (l.length : Int)) = True := eq_true (by omega)
  have hl1 : (0 < l.length) = True := eq_true (by omega)
  clear hn
  go_enter Tryd.func49, Tryd.ntmps49
  go_wp2_with (go_at_call 58; with_reducible refine TW.out.mono ?_)
  rintro e w2 ⟨rfl, hd⟩
  have hb := hd.below
  replace HB := Aside0.mk (below_step HB.out hb)
  replace HX := Aside0.mk (blk_below HX.out hb)
  clear hd hb d0 TW hW1
  have d0 : w2.cell? ⟨w.heap.size, 0, none⟩ = some (.slice (some ad) l.length c) := (blk_cell HX.out 0).trans rfl
  obtain ⟨_, _, _, ea, i0, i1, _⟩ := at_T76 (Kd.C_below HR.out HB.out) 0 (by have := HN.out; omega) (by have := HN.out; omega)
  cases ea
  replace i0 : w2.cell? ad = some (.bool (inoAt l 0).f0) := i0
  replace i1 : w2.cell? ⟨ad.block, ad.off + 1, none⟩ = some (.int .i64 (inoAt l 0).f1) := i1
  cases hdir : (inoAt l 0).f0 with
  | false =>
    rw [hdir] at i0
    obtain rfl : g = false := by rw [← HGD.out]; exact goodN_no (fun h => by have h2 : (inoAt l 0).f0 = true := h.d0; rw [hdir] at h2; cases h2)
    clear hdir
    go_wp2
    go_ret
    exact ⟨rfl, HB.out⟩
  | true =>
    rw [hdir] at i0
    have HD0 := Aside0.mk hdir
    clear hdir
    by_cases hl : (inoAt l 0).f1 = 1
    case neg =>
      obtain rfl : g = false := by rw [← HGD.out]; exact goodN_no (fun h => hl h.l0)
      have q1 : ((inoAt l 0).f1 == 1) = false := beq_eq_false_iff_ne.2 hl
      have q2 : ((inoAt l 0).f1 != 1) = true := bne_iff_ne.2 hl
      clear hl
      go_wp2
      go_ret
      exact ⟨rfl, HB.out⟩
    have HL0 := Aside0.mk hl
    rw [hl] at i1
    clear hl
    go_wp2
    clear i0 i1 d0
    go_loopw [36] (fun v wr => ∃ i : Nat, i ≤ l.length ∧ v = .int .i64 i ∧ Aside0 (∀ k : Nat, k < i → InoP l k) ∧ Aside0 (wr.heap[w.heap.size]? = some (.cells #[.slice (some ad) l.length c] 30 (0, 0))) ∧ Aside0 (Below w.heap.size w wr)) (fun v _ => l.length - (intOf v).toNat)
    case atStart => exact ⟨0, Nat.zero_le _, rfl, ⟨fun _ h => by omega⟩, HX, HB⟩
    case round =>
      clear HX HB
      obtain ⟨i, hi, rfl, HI, HX, HB⟩ := hrel
      have hl60 := HN.out.2
      by_cases hil : i < l.length
      · have hii : ((i : Int) < (l.length : Int)) = True := eq_true (by omega)
        have hi0 : (0 ≤ (i : Int)) = True := eq_true (by omega)
        obtain ⟨ad1, A2, c2, ea, j0, j1, j2, _, hjr⟩ := at_T76 (Kd.C_below HR.out HB.out) (i : Int) (by omega) (by omega)
        cases ea
        simp only [Int.toNat_natCast] at j0 j1 j2
        replace j0 : wr.cell? (ad.add (i * 3)) = some (.bool (inoAt l i).f0) := j0
        replace j1 : wr.cell? ⟨(ad.add (i * 3)).block, (ad.add (i * 3)).off + 1, none⟩ = some (.int .i64 (inoAt l i).f1) := j1
        replace j2 : wr.cell? ⟨(ad.add (i * 3)).block, (ad.add (i * 3)).off + 2, none⟩ = some (.slice A2 (inoAt l i).f2.length c2) := j2
        obtain ⟨V1, V2, hV1, hV2, y0, y1, y2, z0, z1, z2, E, BL⟩ := local_inode wr (.bool (inoAt l i).f0) (.int .i64 (inoAt l i).f1) (.slice A2 (inoAt l i).f2.length c2)
        have e2 : V2.cell? ⟨wr.heap.size, 2, none⟩ = some (.slice A2 (inoAt l i).f2.length c2) := (blk_cell E.out 2).trans rfl
        have HROW := Aside0.mk (show Kd.C k60 V2 A2 (inoAt l i).f2.length (inoAt l i).f2 from Kd.C_below hjr BL.out)
        have HB2 := Aside0.mk (below_step HB.out BL.out)
        have HX2 := Aside0.mk (blk_below HX.out BL.out)
        have HIL := Aside0.mk hil
        obtain ⟨L, hL⟩ : ∃ L, (inoAt l i).f2 = L := ⟨_, rfl⟩
        rw [hL] at j2 hV2 e2 HROW E
        have HLE := Aside0.mk hL
        have HLN := Aside0.mk (show L.length ≤ 9223372036854775807 from HROW.out.2.1)
        go_wp2
        clear j0 j1 j2 hV1 hV2 y0 y1 y2 z0 z1 z2 hjr HX HB hL hi hil hii hi0 e2
        generalize hgi : wr.heap.size = gi at E BL ⊢
        clear hgi
        go_loopw [43] (fun v wz => ∃ j : Nat, j ≤ L.length ∧ v = .int .i64 j ∧ Aside0 (∀ q : Nat, q < j → NameP L l.length q) ∧ Aside0 (Below V2.heap.size V2 wz)) (fun v _ => L.length - (intOf v).toNat)
        case atStart => exact ⟨0, Nat.zero_le _, rfl, ⟨fun q h => by omega⟩, ⟨Below.refl _ _⟩⟩
        case round =>
          obtain ⟨j, hj, rfl, HJ, HBZ⟩ := hrel
          have hln := HLN.out
          have HBZ1 := Aside0.mk (below_step HB2.out HBZ.out)
          by_cases hjl : j < L.length
          · have hjj : ((j : Int) < (L.length : Int)) = True := eq_true (by omega)
            have hj0 : (0 ≤ (j : Int)) = True := eq_true (by omega)
            obtain ⟨ad2, ea2, hx0, hx1⟩ := at_T60 (Kd.C_below HROW.out HBZ.out) (j : Int) (by omega) (by omega)
            subst ea2
            simp only [Int.toNat_natCast] at hx0 hx1
            obtain ⟨x, hx⟩ : ∃ x, (rd_T60 L (j : Int)).f0 = x := ⟨_, rfl⟩
            obtain ⟨z, hz⟩ : ∃ z, (rd_T60 L (j : Int)).f1 = z := ⟨_, rfl⟩
            rw [hx] at hx0
            rw [hz] at hx1
            have HV := Aside0.mk (And.intro hx hz)
            obtain ⟨V3, V4, hV3, hV4, u0, u1, t0, t1, E2, BL2⟩ := local_name wr x z
            have HB4 := Aside0.mk (below_step HBZ1.out BL2.out)
            have HBZ4 := Aside0.mk (below_step HBZ.out BL2.out)
            have n0 : V4.cell? ⟨wr.heap.size, 0, none⟩ = some (.string x) := (blk_cell E2.out 0).trans rfl
            have n1 : V4.cell? ⟨wr.heap.size, 1, none⟩ = some (.int .i64 z) := (blk_cell E2.out 1).trans rfl
            have m2 : V4.cell? ⟨gi, 2, none⟩ = some (.slice (some ad2) L.length c2) := (blk_cell (blk_below (blk_below E.out HBZ.out) BL2.out) 2).trans rfl
            have hxs : x.size ≤ 9223372036854775807 := by
              have h := szOk_at HSZ.out HIL.out (j := j) (by rw [HLE.out]; exact hjl)
              rw [HLE.out, hx] at h
              exact h
            have T8 := Aside0.mk (l8_all x hxs _ rfl)
            obtain ⟨N1, hN1⟩ : ∃ N1 : Int, (l.length : Int) - 1 = N1 := ⟨_, rfl⟩
            have wl : wrap64 ((l.length : Int) - 1) = N1 := by rw [← hN1]; exact w64 (by omega) (by have := HN.out; omega)
            have T1 := Aside0.mk (l1_all z 1 N1 _ rfl)
            clear hx hz hxs
            generalize ho8 : okName x = b8 at T8
            cases b8 with
            | false =>
              clear hN1 T1
              obtain rfl : g = false := by rw [← HGD.out]; exact goodS_no (fun h => by
                have h2 := (h.ino i HIL.out).nm j (by rw [HLE.out]; exact hjl)
                rw [HLE.out] at h2
                rw [← HV.out.1, h2.ok] at ho8; cases ho8)
              go_wp2
              go_quiet (first | (go_at_call 57; (with_reducible refine (T8.out _).mono ?_); rintro e w' ⟨rfl, ⟨nd, rfl⟩⟩; (try first | exact ⟨rfl, _, World.drewN_drewN _ _ _⟩ | exact ⟨rfl, _, Eq.trans (World.drewN_drewN _ _ _) (congrArg (World.drewN _) (Nat.add_assoc _ _ _))⟩)) | (go_at_call 58; (first | with_reducible refine (T1.out _).mono ?_ | with_reducible refine (T1b.out _).mono ?_ | with_reducible refine (T1c.out _).mono ?_ | with_reducible refine (T1d.out _).mono ?_); rintro e w' ⟨rfl, ⟨nd, rfl⟩⟩; (try first | exact ⟨rfl, _, World.drewN_drewN _ _ _⟩ | exact ⟨rfl, _, Eq.trans (World.drewN_drewN _ _ _) (congrArg (World.drewN _) (Nat.add_assoc _ _ _))⟩)))
              have HB6 := Aside0.mk (pw_below_drewN HB4.out nq)
              clear n0 n1 m2 hx0 hx1
              go_wp2
              go_ret
              exact ⟨rfl, HB6.out⟩
            | true =>
              have HOK := Aside0.mk ho8
              clear ho8
              generalize ho1 : decide (1 ≤ z ∧ z ≤ N1) = b1 at T1
              have T1b := Aside0.mk (show ∀ W, Calls Tryd.prog 58 #[.int .i64 z, .int .i64 1, .int .i64 (wrap64 ((l.length : Int) - 1))] W fun e w' => e = .returned (.bool b1) ∧ Drawn0 W w' by rw [wl]; exact T1.out)
              have T1d := Aside0.mk (show ∀ W, Calls Tryd.prog 58 #[.int .i64 z, .int .i64 1, .int .i64 (IntKind.i64.wrap ((l.length : Int) - 1))] W fun e w' => e = .returned (.bool b1) ∧ Drawn0 W w' by rw [i64_w, wl]; exact T1.out)
              have T1c := Aside0.mk (show ∀ W, Calls Tryd.prog 58 #[.int .i64 z, .int .i64 1, .int .i64 ((l.length : Int) - 1)] W fun e w' => e = .returned (.bool b1) ∧ Drawn0 W w' by rw [hN1]; exact T1.out)
              cases b1 with
              | false =>
                have HZN := Aside0.mk (show ¬ (1 ≤ z ∧ z < (l.length : Int)) by have := of_decide_eq_false ho1; omega)
                clear hN1 ho1
                obtain rfl : g = false := by rw [← HGD.out]; exact goodS_no (fun h => by
                  have h2 := (h.ino i HIL.out).nm j (by rw [HLE.out]; exact hjl)
                  rw [HLE.out] at h2
                  have h3 := h2.rng; rw [HV.out.2] at h3; exact HZN.out h3)
                go_wp2
                go_quiet (first | (go_at_call 57; (with_reducible refine (T8.out _).mono ?_); rintro e w' ⟨rfl, ⟨nd, rfl⟩⟩; (try first | exact ⟨rfl, _, World.drewN_drewN _ _ _⟩ | exact ⟨rfl, _, Eq.trans (World.drewN_drewN _ _ _) (congrArg (World.drewN _) (Nat.add_assoc _ _ _))⟩)) | (go_at_call 58; (first | with_reducible refine (T1.out _).mono ?_ | with_reducible refine (T1b.out _).mono ?_ | with_reducible refine (T1c.out _).mono ?_ | with_reducible refine (T1d.out _).mono ?_); rintro e w' ⟨rfl, ⟨nd, rfl⟩⟩; (try first | exact ⟨rfl, _, World.drewN_drewN _ _ _⟩ | exact ⟨rfl, _, Eq.trans (World.drewN_drewN _ _ _) (congrArg (World.drewN _) (Nat.add_assoc _ _ _))⟩)))
                have HB6 := Aside0.mk (pw_below_drewN HB4.out nq)
                clear n0 n1 m2 hx0 hx1
                go_wp2
                go_ret
                exact ⟨rfl, HB6.out⟩
              | true =>
                have HRN := Aside0.mk (show 1 ≤ z ∧ z < (l.length : Int) by have := of_decide_eq_true ho1; omega)
                clear hN1 ho1
                by_cases hjz : j = 0
                · have p0 : (0 < (j : Int)) = False := eq_false (by omega)
                  have p1 : decide (0 < (j : Int)) = false := decide_eq_false (by omega)
                  have p2 : (0 < j) = False := eq_false (by omega)
                  have p3 : decide (0 < j) = false := decide_eq_false (by omega)
                  have HJZ := Aside0.mk hjz
                  clear hjz
                  have HJ2 := Aside0.mk (show ∀ q : Nat, q < j + 1 → NameP L l.length q from fun u hu => by
                    by_cases huj : u < j
                    · exact HJ.out u huj
                    · obtain rfl : u = j := by omega
                      exact ⟨by rw [HV.out.1]; exact HOK.out, by rw [HV.out.2]; exact HRN.out, fun p hp => absurd hp (by have := HJZ.out; omega)⟩)
                  go_wp2
                  go_quiet (first | (go_at_call 57; (with_reducible refine (T8.out _).mono ?_); rintro e w' ⟨rfl, ⟨nd, rfl⟩⟩; (try first | exact ⟨rfl, _, World.drewN_drewN _ _ _⟩ | exact ⟨rfl, _, Eq.trans (World.drewN_drewN _ _ _) (congrArg (World.drewN _) (Nat.add_assoc _ _ _))⟩)) | (go_at_call 58; (first | with_reducible refine (T1.out _).mono ?_ | with_reducible refine (T1b.out _).mono ?_ | with_reducible refine (T1c.out _).mono ?_ | with_reducible refine (T1d.out _).mono ?_); rintro e w' ⟨rfl, ⟨nd, rfl⟩⟩; (try first | exact ⟨rfl, _, World.drewN_drewN _ _ _⟩ | exact ⟨rfl, _, Eq.trans (World.drewN_drewN _ _ _) (congrArg (World.drewN _) (Nat.add_assoc _ _ _))⟩)))
                  have HBZ6 := Aside0.mk (pw_below_drewN HBZ4.out nq)
                  clear n0 n1 m2 hx0 hx1
                  go_wp2
                  go_roundw
                  case rel => exact ⟨j + 1, hjl, by go_num, HJ2, HBZ6⟩
                  case measure => simp [intOf]; omega
                · have p0 : (0 < (j : Int)) = True := eq_true (by omega)
                  have p1 : decide (0 < (j : Int)) = true := decide_eq_true (by omega)
                  have p2 : (0 < j) = True := eq_true (by omega)
                  have p3 : decide (0 < j) = true := decide_eq_true (by omega)
                  obtain ⟨q, hq⟩ : ∃ q, j = q + 1 := ⟨j - 1, by omega⟩
                  have wj : wrap64 ((j : Int) - 1) = (q : Int) := by rw [w64 (by omega) (by omega)]; omega
                  have wj2 : IntKind.i64.wrap ((j : Int) - 1) = (q : Int) := by rw [i64_w]; exact wj
                  have q0 : (0 ≤ (q : Int)) = True := eq_true (by omega)
                  have q1 : ((q : Int) < (L.length : Int)) = True := eq_true (by omega)
                  obtain ⟨_, ea3, hy0, _⟩ := at_T60 (Kd.C_below HROW.out HBZ4.out) (q : Int) (by omega) (by omega)
                  cases ea3
                  simp only [Int.toNat_natCast] at hy0
                  obtain ⟨y, hy⟩ : ∃ y, (rd_T60 L (q : Int)).f0 = y := ⟨_, rfl⟩
                  rw [hy] at hy0
                  have HQ := Aside0.mk (And.intro hq hy)
                  clear hq hy
                  cases hbl : Op.bytesLess y.toList x.toList with
                  | false =>
                    obtain rfl : g = false := by rw [← HGD.out]; exact goodS_no (fun h => by
                      have h2 := (h.ino i HIL.out).nm j (by rw [HLE.out]; exact hjl)
                      rw [HLE.out] at h2
                      have h3 := h2.ord q HQ.out.1; rw [HQ.out.2, HV.out.1, hbl] at h3; cases h3)
                    go_wp2
                    go_quiet (first | (go_at_call 57; (with_reducible refine (T8.out _).mono ?_); rintro e w' ⟨rfl, ⟨nd, rfl⟩⟩; (try first | exact ⟨rfl, _, World.drewN_drewN _ _ _⟩ | exact ⟨rfl, _, Eq.trans (World.drewN_drewN _ _ _) (congrArg (World.drewN _) (Nat.add_assoc _ _ _))⟩)) | (go_at_call 58; (first | with_reducible refine (T1.out _).mono ?_ | with_reducible refine (T1b.out _).mono ?_ | with_reducible refine (T1c.out _).mono ?_ | with_reducible refine (T1d.out _).mono ?_); rintro e w' ⟨rfl, ⟨nd, rfl⟩⟩; (try first | exact ⟨rfl, _, World.drewN_drewN _ _ _⟩ | exact ⟨rfl, _, Eq.trans (World.drewN_drewN _ _ _) (congrArg (World.drewN _) (Nat.add_assoc _ _ _))⟩)))
                    have HB6 := Aside0.mk (pw_below_drewN HB4.out nq)
                    clear n0 n1 m2 hx0 hx1
                    go_wp2
                    go_ret
                    exact ⟨rfl, HB6.out⟩
                  | true =>
                    have HJ2 := Aside0.mk (show ∀ q : Nat, q < j + 1 → NameP L l.length q from fun u hu => by
                      by_cases huj : u < j
                      · exact HJ.out u huj
                      · obtain rfl : u = j := by omega
                        exact ⟨by rw [HV.out.1]; exact HOK.out, by rw [HV.out.2]; exact HRN.out, fun p hp => (by have hpq : p = q := (by have := HQ.out.1; omega); rw [hpq, HQ.out.2, HV.out.1]; exact hbl)⟩)
                    go_wp2
                    go_quiet (first | (go_at_call 57; (with_reducible refine (T8.out _).mono ?_); rintro e w' ⟨rfl, ⟨nd, rfl⟩⟩; (try first | exact ⟨rfl, _, World.drewN_drewN _ _ _⟩ | exact ⟨rfl, _, Eq.trans (World.drewN_drewN _ _ _) (congrArg (World.drewN _) (Nat.add_assoc _ _ _))⟩)) | (go_at_call 58; (first | with_reducible refine (T1.out _).mono ?_ | with_reducible refine (T1b.out _).mono ?_ | with_reducible refine (T1c.out _).mono ?_ | with_reducible refine (T1d.out _).mono ?_); rintro e w' ⟨rfl, ⟨nd, rfl⟩⟩; (try first | exact ⟨rfl, _, World.drewN_drewN _ _ _⟩ | exact ⟨rfl, _, Eq.trans (World.drewN_drewN _ _ _) (congrArg (World.drewN _) (Nat.add_assoc _ _ _))⟩)))
                    have HBZ6 := Aside0.mk (pw_below_drewN HBZ4.out nq)
                    clear n0 n1 m2 hx0 hx1
                    go_wp2
                    go_roundw
                    case rel => exact ⟨j + 1, hjl, by go_num, HJ2, HBZ6⟩
                    case measure => simp [intOf]; omega
          · have hjj : ((j : Int) < (L.length : Int)) = False := eq_false (by omega)
            have HNM := Aside0.mk (show ∀ q : Nat, q < L.length → NameP L l.length q from fun q hq => HJ.out q (by omega))
            have EZ := blk_below E.out HBZ.out
            have HX5 := Aside0.mk (blk_below HX2.out HBZ.out)
            have HROW2 := HROW.out
            have e2 : wr.cell? ⟨gi, 2, none⟩ = some (.slice A2 L.length c2) := (blk_cell EZ 2).trans rfl
            clear HJ hj hjl HROW2
            have HIS := Aside0.mk (show (dirOf l i = false → L = []) → L.length ≤ 20 → ∀ k : Nat, k < i + 1 → InoP l k from fun h1 h2 k hk => by
              by_cases hki : k < i
              · exact HI.out k hki
              · obtain rfl : k = i := by omega
                exact ⟨by rw [HLE.out]; exact HNM.out, by rw [HLE.out]; exact h1, by rw [HLE.out]; exact h2⟩)
            have hil := HIL.out
            cases hdir : (inoAt l i).f0 with
            | true =>
              rw [hdir] at EZ
              have e0 : wr.cell? ⟨gi, 0, none⟩ = some (.bool true) := (blk_cell EZ 0).trans rfl
              by_cases h20 : 20 < L.length
              · have q1 : (20 < (L.length : Int)) = True := eq_true (by omega)
                have q2 : decide (20 < (L.length : Int)) = true := decide_eq_true (by omega)
                have q3 : decide (20 < L.length) = true := decide_eq_true h20
                have q4 : (20 < L.length) = True := eq_true h20
                obtain rfl : g = false := by rw [← HGD.out]; exact goodS_no (fun h => by
                  have h2 := (h.ino i HIL.out).few
                  rw [HLE.out] at h2; omega)
                clear hdir h20 EZ hil
                go_wp2
                go_ret
                exact ⟨rfl, HBZ1.out⟩
              · have q1 : (20 < (L.length : Int)) = False := eq_false (by omega)
                have q2 : decide (20 < (L.length : Int)) = false := decide_eq_false (by omega)
                have q3 : decide (20 < L.length) = false := decide_eq_false h20
                have q4 : (20 < L.length) = False := eq_false h20
                have HI2 := Aside0.mk (HIS.out (fun h => by have h2 : (inoAt l i).f0 = false := h; rw [hdir] at h2; cases h2) (by omega))
                clear hdir h20 EZ
                go_wp2
                go_roundw
                case rel => exact ⟨i + 1, hil, by go_num, HI2, HX5, HBZ1⟩
                case measure => simp [intOf]; omega
            | false =>
              rw [hdir] at EZ
              have e0 : wr.cell? ⟨gi, 0, none⟩ = some (.bool false) := (blk_cell EZ 0).trans rfl
              by_cases hnl : 0 < L.length
              · have q1 : (0 < (L.length : Int)) = True := eq_true (by omega)
                have q2 : decide (0 < (L.length : Int)) = true := decide_eq_true (by omega)
                have q3 : decide (0 < L.length) = true := decide_eq_true hnl
                have q4 : (0 < L.length) = True := eq_true hnl
                obtain rfl : g = false := by rw [← HGD.out]; exact goodS_no (fun h => by
                  have h2 := (h.ino i HIL.out).fil hdir
                  rw [HLE.out] at h2; rw [h2] at hnl; simp at hnl)
                clear hdir hnl EZ hil
                go_wp2
                go_ret
                exact ⟨rfl, HBZ1.out⟩
              · have q1 : (0 < (L.length : Int)) = False := eq_false (by omega)
                have q2 : decide (0 < (L.length : Int)) = false := decide_eq_false (by omega)
                have q3 : decide (0 < L.length) = false := decide_eq_false hnl
                have q4 : (0 < L.length) = False := eq_false hnl
                have r1 : (20 < (L.length : Int)) = False := eq_false (by omega)
                have r2 : decide (20 < (L.length : Int)) = false := decide_eq_false (by omega)
                have r3 : decide (20 < L.length) = false := decide_eq_false (by omega)
                have r4 : (20 < L.length) = False := eq_false (by omega)
                have HI2 := Aside0.mk (HIS.out (fun _ => List.eq_nil_of_length_eq_zero (by omega)) (by omega))
                clear hdir hnl EZ
                go_wp2
                go_roundw
                case rel => exact ⟨i + 1, hil, by go_num, HI2, HX5, HBZ1⟩
                case measure => simp [intOf]; omega
      · have hii : ((i : Int) < (l.length : Int)) = False := eq_false (by omega)
        have HIN := Aside0.mk (show ∀ k : Nat, k < l.length → InoP l k from fun k hk => HI.out k (by omega))
        have HBAS := Aside0.mk (bas_of HN.out.1 HN.out.2 HIN.out)
        obtain ⟨W2, hW2⟩ : ∃ W, wr.alloc (.cells (ints (List.replicate l.length 0)) 3) = W := ⟨_, rfl⟩
        have hmk : (Instr.makeSlice 46 (.int .i64 (l.length : Int)) (.int .i64 (l.length : Int))).run Tryd.prog wr = .ok (.slice (some ⟨wr.heap.size, 0, none⟩) l.length l.length) W2 := by rw [← hW2]; exact ints_make l.length (by omega) wr
        have hb2 : Below wr.heap.size wr W2 := by rw [← hW2]; exact below_alloc (Below.refl _ _) _
        have HX3 := Aside0.mk (blk_below HX.out hb2)
        have HG3 := Aside0.mk (show W2.heap[wr.heap.size]? = some (.cells (ints (List.replicate l.length 0)) 3 (0, 0)) by rw [← hW2]; exact heap_alloc_new wr _)
        have HB3 := Aside0.mk (below_step HB.out hb2)
        have HGS := Aside0.mk (show w.heap.size < wr.heap.size from blk_lt HX.out)
        generalize wr.heap.size = gS at hmk HG3 HGS
        have d0 : W2.cell? ⟨w.heap.size, 0, none⟩ = some (.slice (some ad) l.length c) := (blk_cell HX3.out 0).trans rfl
        have TS : Calls Tryd.prog 91 #[.agg #[.slice (some ad) l.length c], .int .i64 0, .int .i64 0, .slice (some ⟨gS, 0, none⟩) l.length l.length] W2 fun e w' => ∃ (ok : Bool) (S' : List Int), e = .returned (.bool ok) ∧ w'.heap[gS]? = some (.cells (ints S') 3 (0, 0)) ∧ KeepBut W2 w' gS none ∧ Below gS W2 w' ∧ SeenOut l 0 0 0 9 (List.replicate l.length 0) S' ok :=
          seen_calls l HBAS.out 3 9 0 rfl (by omega) 0 HN.out.1 (List.replicate l.length 0) (by simp) 0 (fun j => by rw [cf_zeros]; exact ⟨Int.le_refl _, Int.le_refl _⟩) (by decide) (some ad) c gS W2 (Kd.C_below HR.out HB3.out) HC.out (fun W hW => Kd.C_kept_came heap_inode HR.out HB3.out (S := fun k => k = gS) (fun k hk => by have := HGS.out; omega) W ⟨hW.1, fun i hi hn => hW.2 i hi hn (by simp)⟩) HG3.out
        replace TS := Aside0.mk TS
        clear HI hi hil hb2 hW2 HX HB HG3
        go_wp2_with (go_at_call 91; with_reducible refine TS.out.mono ?_)
        rintro e w3 ⟨ok, S, rfl, hg5, _, hbg5, hout⟩
        have HB5 := Aside0.mk (HB3.out.trans (hbg5.mono (Nat.le_of_lt HGS.out)))
        have HX5 := Aside0.mk ((hbg5.block w.heap.size HGS.out).trans HX3.out)
        have HG5 := Aside0.mk hg5
        have HO := Aside0.mk hout
        clear hg5 hbg5 hout TS hmk d0 HB3 HX3 hii
        cases ok with
        | false =>
          obtain rfl : g = false := by rw [← HGD.out]; exact goodS_no (fun h => by
            obtain ⟨R, hR, _⟩ := h.run
            have h1 := (HO.out.b [] R (by rw [List.append_nil, cf_zeros]; exact hR)).1
            cases h1)
          go_wp2
          go_ret
          exact ⟨rfl, HB5.out⟩
        | true =>
          have HRUN := Aside0.mk (show G l (openAt l 0 0) (fun _ => 0) (cf S) ∧ (∀ R, G l (openAt l 0 0) (fun _ => 0) R → R = cf S) ∧ S.length = l.length ∧ ∀ k, 0 ≤ cf S k ∧ cf S k ≤ 2000000000000000 from by
            refine ⟨?_, fun R hR => run_nil (HO.out.b [] R (by rw [List.append_nil, cf_zeros]; exact hR)).2, HO.out.len, fun k => ?_⟩
            · have h1 := HO.out.a rfl [] (cf S) (.done _)
              rwa [List.append_nil, cf_zeros] at h1
            · have h1 := HO.out.bd k
              have h2 : ((50 ^ 9 : Nat) : Int) ≤ 2000000000000000 := by decide
              omega)
          have d0 : w3.cell? ⟨w.heap.size, 0, none⟩ = some (.slice (some ad) l.length c) := (blk_cell HX5.out 0).trans rfl
          clear HO
          go_wp2
          clear d0
          go_loopw [102] (fun v wr => ∃ k : Nat, k ≤ l.length ∧ v = .int .i64 k ∧ Aside0 (∀ u : Nat, 1 ≤ u → u < k → (inoAt l u).f1 = cf S u ∧ (dirOf l u = true → (inoAt l u).f1 = 1)) ∧ Aside0 (Below w3.heap.size w3 wr)) (fun v _ => l.length - (intOf v).toNat)
          case atStart => exact ⟨0, Nat.zero_le _, rfl, ⟨fun u h1 h2 => by omega⟩, ⟨Below.refl _ _⟩⟩
          case round =>
            obtain ⟨k, hk, rfl, HI, HBW⟩ := hrel
            have HB4 := Aside0.mk (below_step HB5.out HBW.out)
            have hl60 := HN.out.2
            by_cases hkl : k < l.length
            · have hjj : ((k : Int) < (l.length : Int)) = True := eq_true (by omega)
              have hj0 : (0 ≤ (k : Int)) = True := eq_true (by omega)
              obtain ⟨ad1, A2, c2, ea, j0, j1, j2, _, _⟩ := at_T76 (Kd.C_below HR.out HB4.out) (k : Int) (by omega) (by omega)
              cases ea
              simp only [Int.toNat_natCast] at j0 j1 j2
              replace j0 : wr.cell? (ad.add (k * 3)) = some (.bool (inoAt l k).f0) := j0
              replace j1 : wr.cell? ⟨(ad.add (k * 3)).block, (ad.add (k * 3)).off + 1, none⟩ = some (.int .i64 (inoAt l k).f1) := j1
              replace j2 : wr.cell? ⟨(ad.add (k * 3)).block, (ad.add (k * 3)).off + 2, none⟩ = some (.slice A2 (inoAt l k).f2.length c2) := j2
              obtain ⟨V1, V2, hV1, hV2, y0, y1, y2, z0, z1, z2, E, BL⟩ := local_inode wr (.bool (inoAt l k).f0) (.int .i64 (inoAt l k).f1) (.slice A2 (inoAt l k).f2.length c2)
              have e0 : V2.cell? ⟨wr.heap.size, 0, none⟩ = some (.bool (inoAt l k).f0) := (blk_cell E.out 0).trans rfl
              have e1 : V2.cell? ⟨wr.heap.size, 1, none⟩ = some (.int .i64 (inoAt l k).f1) := (blk_cell E.out 1).trans rfl
              have sc : V2.cell? ⟨gS, k, none⟩ = some (.int .i64 (cf S k)) := ints_at (blk_below (blk_below HG5.out HBW.out) BL.out) k (by have := HRUN.out.2.2.1; omega)
              have HBW2 := Aside0.mk (below_step HBW.out BL.out)
              have HB6 := Aside0.mk (below_step HB4.out BL.out)
              have HKL := Aside0.mk hkl
              obtain ⟨x1, hx1⟩ : ∃ x, (inoAt l k).f1 = x := ⟨_, rfl⟩
              obtain ⟨s1, hs1⟩ : ∃ x, cf S k = x := ⟨_, rfl⟩
              obtain ⟨b1, hb1⟩ : ∃ x, (inoAt l k).f0 = x := ⟨_, rfl⟩
              have HV := Aside0.mk (And.intro hx1 (And.intro hs1 hb1))
              have hV2' : ((V1.setCell ⟨wr.heap.size, 0, none⟩ (.bool b1)).setCell ⟨wr.heap.size, 1, none⟩ (.int .i64 x1)).setCell ⟨wr.heap.size, 2, none⟩ (.slice A2 (inoAt l k).f2.length c2) = V2 := by rw [← hx1, ← hb1]; exact hV2
              rw [hx1] at e1 j1
              rw [hs1] at sc
              rw [hb1] at e0 j0
              clear hV2 hx1 hs1 hb1 E BL
              have HIS := Aside0.mk (show (1 ≤ k → x1 = s1 ∧ (b1 = true → x1 = 1)) → ∀ u : Nat, 1 ≤ u → u < k + 1 → (inoAt l u).f1 = cf S u ∧ (dirOf l u = true → (inoAt l u).f1 = 1) from fun h u h1 h2 => by
                by_cases hu : u < k
                · exact HI.out u h1 hu
                · obtain rfl : u = k := by omega
                  obtain ⟨v1, v2, v3⟩ := HV.out
                  rw [v1, v2]
                  exact ⟨(h h1).1, fun hd => (h h1).2 (by rw [← v3]; exact hd)⟩)
              have HNO := Aside0.mk (show 1 ≤ k → ¬ (x1 = s1 ∧ (b1 = true → x1 = 1)) → goodN l = false from fun h1 h2 => goodS_no (fun h => by
                obtain ⟨R, hR, hh⟩ := h.run
                obtain ⟨hk1, hk2⟩ := hh k h1 HKL.out
                rw [HRUN.out.2.1 R hR] at hk1
                obtain ⟨v1, v2, v3⟩ := HV.out
                rw [v1] at hk1 hk2
                rw [v2] at hk1
                exact h2 ⟨hk1, fun hb => hk2 (by rw [← hb, ← v3]; rfl)⟩))
              by_cases hkz : k = 0
              · have p0 : (0 < (k : Int)) = False := eq_false (by omega)
                have p1 : decide (0 < (k : Int)) = false := decide_eq_false (by omega)
                have p2 : (0 < k) = False := eq_false (by omega)
                have p3 : decide (0 < k) = false := decide_eq_false (by omega)
                have HI2 := Aside0.mk (HIS.out (fun h => absurd h (by omega)))
                clear hkz hk
                go_wp2
                go_quiet (fail)
                have HBW3 := Aside0.mk (pw_below_drewN HBW2.out nq)
                clear e0 e1 sc j0 j1 j2
                go_wp2
                go_roundw
                case rel => exact ⟨k + 1, hkl, by go_num, HI2, HBW3⟩
                case measure => simp [intOf]; omega
              · have p0 : (0 < (k : Int)) = True := eq_true (by omega)
                have p1 : decide (0 < (k : Int)) = true := decide_eq_true (by omega)
                have p2 : (0 < k) = True := eq_true (by omega)
                have p3 : decide (0 < k) = true := decide_eq_true (by omega)
                have HK1 := Aside0.mk (show 1 ≤ k by omega)
                clear hkz hk
                by_cases hx : x1 = s1
                · subst hx
                  have q3 : (x1 == x1) = true := beq_self_eq_true x1
                  have q4 : (x1 != x1) = false := by simp
                  cases b1 with
                  | false =>
                    have HI2 := Aside0.mk (HIS.out (fun _ => ⟨rfl, fun h => by cases h⟩))
                    go_wp2
                    go_quiet (fail)
                    have HBW3 := Aside0.mk (pw_below_drewN HBW2.out nq)
                    clear e0 e1 sc j0 j1 j2
                    go_wp2
                    go_roundw
                    case rel => exact ⟨k + 1, hkl, by go_num, HI2, HBW3⟩
                    case measure => simp [intOf]; omega
                  | true =>
                    by_cases h1 : x1 = 1
                    · have q5 : (x1 == 1) = true := beq_iff_eq.2 h1
                      have q6 : (x1 != 1) = false := by rw [bne, q5]; rfl
                      have HI2 := Aside0.mk (HIS.out (fun _ => ⟨rfl, fun _ => h1⟩))
                      clear h1
                      go_wp2
                      go_quiet (fail)
                      have HBW3 := Aside0.mk (pw_below_drewN HBW2.out nq)
                      clear e0 e1 sc j0 j1 j2
                      go_wp2
                      go_roundw
                      case rel => exact ⟨k + 1, hkl, by go_num, HI2, HBW3⟩
                      case measure => simp [intOf]; omega
                    · have q5 : (x1 == 1) = false := beq_eq_false_iff_ne.2 h1
                      have q6 : (x1 != 1) = true := bne_iff_ne.2 h1
                      obtain rfl : g = false := by rw [← HGD.out]; exact HNO.out HK1.out (fun h => h1 (h.2 rfl))
                      clear h1
                      go_wp2
                      go_quiet (fail)
                      have HB7 := Aside0.mk (pw_below_drewN HB6.out nq)
                      clear e0 e1 sc j0 j1 j2
                      go_wp2
                      go_ret
                      exact ⟨rfl, HB7.out⟩
                · have q3 : (x1 == s1) = false := beq_eq_false_iff_ne.2 hx
                  have q4 : (x1 != s1) = true := bne_iff_ne.2 hx
                  obtain rfl : g = false := by rw [← HGD.out]; exact HNO.out HK1.out (fun h => hx h.1)
                  clear hx
                  go_wp2
                  go_quiet (fail)
                  have HB7 := Aside0.mk (pw_below_drewN HB6.out nq)
                  clear e0 e1 sc j0 j1 j2
                  go_wp2
                  go_ret
                  exact ⟨rfl, HB7.out⟩
            · have hjj : ((k : Int) < (l.length : Int)) = False := eq_false (by omega)
              obtain rfl : g = true := by
                rw [← HGD.out]
                exact goodS_yes ⟨HN.out.1, HN.out.2, HD0.out, HL0.out, HIN.out, cf S, HRUN.out.1, fun u h1 h2 => HI.out u h1 (by omega)⟩
              clear hkl hk HI
              go_wp2
              go_ret
              exact ⟨rfl, HB4.out⟩
end Go.Proofs.YthljjgolloiamaaDoor.PNam
