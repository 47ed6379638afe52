import Derived.Test.YthljjgolloiamaaDoorXNamGoodI
import Derived.Test.YthljjgolloiamaaDoorYNamspecl8Name
/-! When a name space is right, as the reference asks for it. -/
namespace Go.Proofs.YthljjgolloiamaaDoor.PNam
open Go.RowKit Go.Proofs.YthljjgolloiamaaDoorW.PrintWords Go.Proofs.YthljjgolloiamaaDoorW.PrintLast Go.Proofs.YthljjgolloiamaaDoorW.PrintMore Go.Proofs.YthljjgolloiamaaDoor.E Go.Proofs.YthljjgolloiamaaDoor.ZNam
set_option linter.unusedVariables false
set_option linter.unusedSimpArgs false
/-- The name at place j, behind those ahead of it. -/
structure NameP (L : List NL) (n j : Nat) : Prop where
  ok : okName (rd_T60 L (j : Int)).f0 = true
  rng : 1 ≤ (rd_T60 L (j : Int)).f1 ∧ (rd_T60 L (j : Int)).f1 < (n : Int)
  ord : ∀ q : Nat, j = q + 1 → Op.bytesLess (rd_T60 L (q : Int)).f0.toList (rd_T60 L (j : Int)).f0.toList = true
structure InoP (l : List IN) (k : Nat) : Prop where
  nm : ∀ j : Nat, j < (inoAt l k).f2.length → NameP (inoAt l k).f2 l.length j
  fil : dirOf l k = false → (inoAt l k).f2 = []
  few : (inoAt l k).f2.length ≤ 20
structure GoodS (l : List IN) : Prop where
  n1 : 1 ≤ l.length
  n2 : l.length ≤ 60
  d0 : dirOf l 0 = true
  l0 : (inoAt l 0).f1 = 1
  ino : ∀ k : Nat, k < l.length → InoP l k
  run : ∃ R, G l (openAt l 0 0) (fun _ => 0) R ∧ ∀ k : Nat, 1 ≤ k → k < l.length → (inoAt l k).f1 = R k ∧ (dirOf l k = true → (inoAt l k).f1 = 1)
theorem afterN_prev (L : List NL) (j : Nat) (x : ByteArray) : afterN (prevN L j) x = true ↔ ∀ q : Nat, j = q + 1 → Op.bytesLess (rd_T60 L (q : Int)).f0.toList x.toList = true := by
  cases j with
  | zero => exact ⟨fun _ q h => by omega, fun _ => rfl⟩
  | succ q =>
    constructor
    · intro h p hp
      obtain rfl : p = q := by omega
      exact h
    · intro h
      exact h q rfl
theorem okL_iff (L : List NL) : ∀ (f i : Nat), i + f = L.length → (okL (prevN L i) (L.drop i) = true ↔ ∀ j : Nat, i ≤ j → j < L.length → okName (rd_T60 L (j : Int)).f0 = true ∧ ∀ q : Nat, j = q + 1 → Op.bytesLess (rd_T60 L (q : Int)).f0.toList (rd_T60 L (j : Int)).f0.toList = true) := by
  intro f
  induction f with
  | zero =>
    intro i hi
    rw [List.drop_of_length_le (by omega), okL]
    exact ⟨fun _ j h1 h2 => by omega, fun _ => rfl⟩
  | succ f ih =>
    intro i hi
    have hil : i < L.length := by omega
    have hd : L.drop i = rd_T60 L (i : Int) :: L.drop (i + 1) := by rw [rd_name hil]; exact List.drop_eq_getElem_cons hil
    have h1 := ih (i + 1) (by omega)
    rw [hd, okL, Bool.and_eq_true, Bool.and_eq_true, afterN_prev]
    constructor
    · intro ⟨ha, hb, hc⟩ j hj hjl
      by_cases e : j = i
      · subst e; exact ⟨ha, hb⟩
      · exact h1.1 hc j (by omega) hjl
    · intro h
      exact ⟨(h i (Nat.le_refl _) hil).1, (h i (Nat.le_refl _) hil).2, h1.2 fun j hj hjl => h j (by omega) hjl⟩
theorem namesOk_iff (L : List NL) : namesOk L = true ↔ L.length ≤ 20 ∧ ∀ j : Nat, j < L.length → okName (rd_T60 L (j : Int)).f0 = true ∧ ∀ q : Nat, j = q + 1 → Op.bytesLess (rd_T60 L (q : Int)).f0.toList (rd_T60 L (j : Int)).f0.toList = true := by
  unfold namesOk
  rw [Bool.and_eq_true, decide_eq_true_iff]
  have h := okL_iff L L.length 0 (by omega)
  rw [show okL none L = okL (prevN L 0) (L.drop 0) from rfl, h]
  exact ⟨fun ⟨a, b⟩ => ⟨b, fun j hj => a j (Nat.zero_le _) hj⟩, fun ⟨a, b⟩ => ⟨fun j _ hj => b j hj, a⟩⟩
theorem run_once {kids : Nat → List Nat} {dir : Nat → Bool} {ok : Nat → Nat → Prop} {W : List (Nat × Nat)} {S R : Nat → Int} (h : Run kids dir ok W S R) {k : Nat} (hk : dir k = true) (h0 : S k ≤ 1) : R k ≤ 1 := by
  induction h with
  | done => exact h0
  | @step W V f d S R hp ho hd hr ih =>
    apply ih
    unfold up
    by_cases e : k = f
    · rw [if_pos e]
      have := hd (e ▸ hk)
      rw [e]; omega
    · rw [if_neg e]; exact h0
/-- In a row that is right every name is of an inode of the row. -/
theorem good_rng {l : List IN} (h : GoodP l) {k : Nat} (hk : k < l.length) : ∀ x ∈ (inoAt l k).f2, 1 ≤ x.f1 ∧ x.f1 < (l.length : Int) := by
  intro x hx
  obtain ⟨R, hR, hl⟩ := h.run
  have hd : dirOf l k = true := by
    cases hd : dirOf l k with
    | true => rfl
    | false => rw [(h.nm k hk).2 hd] at hx; cases hx
  have hy : x.f1.toNat ∈ kidsOf l k := List.mem_map.2 ⟨x, hx, rfl⟩
  have hok : ∃ d, d ≤ 8 ∧ 1 ≤ x.f1.toNat ∧ x.f1.toNat < l.length := by
    by_cases h0 : k = 0
    · subst h0
      exact ⟨1, hR.deep (fun _ => Int.le_refl _) (x.f1.toNat, 0 + 1) (List.mem_map.2 ⟨_, hy, rfl⟩)⟩
    · exact hR.named (fun _ => Int.le_refl _) (Int.le_refl _) ((hl k (by omega) hk).2 hd) _ hy
  obtain ⟨d, _, h1, h2⟩ := hok
  omega
theorem rd_mem {L : List NL} {j : Nat} (h : j < L.length) : rd_T60 L (j : Int) ∈ L := by
  rw [rd_name h]; exact List.getElem_mem h
theorem mem_rd {L : List NL} {x : NL} (h : x ∈ L) : ∃ j : Nat, j < L.length ∧ rd_T60 L (j : Int) = x := by
  obtain ⟨j, hj, e⟩ := List.mem_iff_getElem.1 h
  exact ⟨j, hj, by rw [rd_name hj]; exact e⟩
theorem good_iff {l : List IN} : GoodP l ↔ GoodS l := by
  constructor
  · intro h
    refine ⟨h.n1, h.n2, h.d0, h.l0, fun k hk => ?_, ?_⟩
    · obtain ⟨h1, h2⟩ := namesOk_iff _ |>.1 (h.nm k hk).1
      exact ⟨fun j hj => ⟨(h2 j hj).1, good_rng h hk _ (rd_mem hj), (h2 j hj).2⟩, (h.nm k hk).2, h1⟩
    · obtain ⟨R, hR, hl⟩ := h.run
      refine ⟨R, hR, fun k h1 h2 => ⟨(hl k h1 h2).1, fun hd => ?_⟩⟩
      have h3 := (hl k h1 h2).2 hd
      have h4 := run_once hR hd (by show (0 : Int) ≤ 1; omega)
      have h5 := (hl k h1 h2).1
      omega
  · intro h
    refine ⟨h.n1, h.n2, h.d0, h.l0, fun k hk => ⟨namesOk_iff _ |>.2 ⟨(h.ino k hk).few, fun j hj => ⟨((h.ino k hk).nm j hj).ok, ((h.ino k hk).nm j hj).ord⟩⟩, (h.ino k hk).fil⟩, ?_⟩
    obtain ⟨R, hR, hl⟩ := h.run
    refine ⟨R, hR, fun k h1 h2 => ⟨(hl k h1 h2).1, fun hd => ?_⟩⟩
    have h3 := (hl k h1 h2).2 hd
    have h4 := (hl k h1 h2).1
    omega
theorem goodS_no {l : List IN} (h : ¬ GoodS l) : goodN l = false := goodN_no (fun hp => h (good_iff.1 hp))
theorem goodS_yes {l : List IN} (h : GoodS l) : goodN l = true := goodN_iff.2 (good_iff.2 h)
/-- Behind the looks at every inode. -/
theorem bas_of {l : List IN} (h1 : 1 ≤ l.length) (h2 : l.length ≤ 60) (h : ∀ k : Nat, k < l.length → InoP l k) : Bas l := by
  have hn : ∀ k : Nat, l.length ≤ k → (inoAt l k).f2 = [] := fun k hk => by rw [inoAt_out hk]; rfl
  refine ⟨h1, h2, fun k x hx => ?_, fun k => ?_, fun k hd => ?_⟩
  · by_cases hk : k < l.length
    · obtain ⟨j, hj, e⟩ := mem_rd hx
      rw [← e]
      exact ((h k hk).nm j hj).rng
    · rw [hn k (by omega)] at hx; cases hx
  · by_cases hk : k < l.length
    · exact (h k hk).few
    · rw [hn k (by omega)]; exact Nat.zero_le _
  · by_cases hk : k < l.length
    · exact (h k hk).fil hd
    · exact hn k (by omega)
theorem bas_good {l : List IN} (h : goodN l = true) : Bas l := by
  have h1 := good_iff.1 (goodN_iff.1 h)
  exact bas_of h1.n1 h1.n2 h1.ino
/-! spec.l8Name and spec.l1In: what they answer. -/
theorem l1In_is (a b c : Int) : spec_l1In.f a b c = some (decide (b ≤ a ∧ a ≤ c)) := by
  unfold spec_l1In.f
  by_cases h1 : a ≥ b
  · rw [if_pos h1, Option.some.injEq, Bool.eq_iff_iff, decide_eq_true_iff, decide_eq_true_iff]
    omega
  · rw [if_neg h1, Option.some.injEq, Bool.eq_iff_iff, decide_eq_true_iff]
    constructor
    · intro h; cases h
    · intro h; omega
def okB (b : Int) : Bool := decide (97 ≤ b ∧ b ≤ 122 ∨ 48 ≤ b ∧ b ≤ 57 ∨ b = 46 ∨ b = 45)
set_option maxRecDepth 100000 in
theorem okB_is (b : UInt8) : nameSet.contains b = okB (b.toNat : Int) := by
  have h : ∀ n : Fin 256, nameSet.contains (UInt8.ofNat n.val) = okB ((UInt8.ofNat n.val).toNat : Int) := by decide
  have h2 := h ⟨b.toNat, b.toNat_lt⟩
  rwa [show UInt8.ofNat b.toNat = b from UInt8.ofNat_toNat] at h2
theorem l8Name_l (s : ByteArray) (hs : s.size ≤ 9223372036854775807) : ∀ (f i : Nat), i + f = s.size → Ev (fun k => spec_l8Name.l0 k s (i : Int)) (decide (1 ≤ s.size ∧ s.size ≤ 12) && (s.data.toList.drop i).all (nameSet.contains ·)) := by
  have hsz : s.data.toList.length = s.size := Array.length_toList
  intro f
  induction f with
  | zero =>
    intro i hi
    refine Ev.step (fun _ => spec_l8Name.l0.eq_2 ..) (ev_neg (by omega) ?_)
    rw [l1In_is, List.drop_of_length_le (by omega), List.all_nil, Bool.and_true]
    refine ev_ret ?_
    exact decide_eq_decide.2 (by omega)
  | succ f ih =>
    intro i hi
    have hil : i < s.data.toList.length := by omega
    have ei : wrap64 ((i : Int) + 1) = ((i + 1 : Nat) : Int) := by rw [w64 (by omega) (by omega)]; omega
    have h1 := ih (i + 1) (by omega)
    have hb : bt s (i : Int) = (((s.data.toList[i]).toNat : Nat) : Int) := by
      unfold bt
      rw [dif_pos (by rw [Int.toNat_natCast]; omega)]
      rfl
    refine Ev.step (fun _ => spec_l8Name.l0.eq_2 ..) (ev_pos (by omega) (ev_pos (by omega) ?_))
    rw [ei, List.drop_eq_getElem_cons hil, List.all_cons, okB_is, ← hb]
    generalize bt s (i : Int) = b
    cases ho : okB b with
    | true =>
      rw [Bool.true_and]
      have hp := of_decide_eq_true ho
      rcases Classical.propComplete (b ≥ 97) with e1 | e1 <;> rcases Classical.propComplete (b ≤ 122) with e2 | e2 <;> rcases Classical.propComplete (b ≥ 48) with e3 | e3 <;> rcases Classical.propComplete (b ≤ 57) with e4 | e4 <;> rcases Classical.propComplete (b = 46) with e5 | e5 <;> rcases Classical.propComplete (b = 45) with e6 | e6 <;> first | (simp only [e1, e2, e3, e4, e5, e6, if_true, if_false]; exact h1) | (exfalso; simp only [eq_iff_iff, iff_true, iff_false] at e1 e2 e3 e4 e5 e6; omega)
    | false =>
      rw [Bool.false_and, Bool.and_false]
      have hp := of_decide_eq_false ho
      rcases Classical.propComplete (b ≥ 97) with e1 | e1 <;> rcases Classical.propComplete (b ≤ 122) with e2 | e2 <;> rcases Classical.propComplete (b ≥ 48) with e3 | e3 <;> rcases Classical.propComplete (b ≤ 57) with e4 | e4 <;> rcases Classical.propComplete (b = 46) with e5 | e5 <;> rcases Classical.propComplete (b = 45) with e6 | e6 <;> first | (simp only [e1, e2, e3, e4, e5, e6, if_true, if_false]; exact ev_ret rfl) | (exfalso; simp only [eq_iff_iff, iff_true, iff_false] at e1 e2 e3 e4 e5 e6; omega)
theorem l8Name_is (s : ByteArray) (hs : s.size ≤ 9223372036854775807) : Ev (fun k => spec_l8Name.f k s) (okName s) := l8Name_l s hs s.size 0 (by omega)
end Go.Proofs.YthljjgolloiamaaDoor.PNam
