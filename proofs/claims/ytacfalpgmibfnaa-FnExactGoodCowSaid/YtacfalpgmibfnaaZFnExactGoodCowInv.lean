import Derived.Test.YtacfalpgmibfnaaXFnExactGoodCowRefer
/-! GoodCow, plain law: what a search of the cells has found, and that it is found in one way only. No program here. -/
namespace Go.Proofs.Ytacfalpgmibfnaa.PFnExactGoodCow
open Go.RowKit Go.Proofs.YtacfalpgmibfnaaW.PrintWords Go.Proofs.YtacfalpgmibfnaaW.PrintLast Go.Proofs.YtacfalpgmibfnaaW.PrintMore Go.Proofs.Ytacfalpgmibfnaa.E
set_option linter.unusedSimpArgs false
set_option linter.unusedVariables false
theorem rd_set_eq (l : List Int) (k x : Int) (h0 : 0 ≤ k) (h1 : k < (l.length : Int)) : rd (l.set k.toNat x) k = x := by
  unfold rd
  rw [List.getD_eq_getElem?_getD, List.getElem?_set, if_pos rfl, if_pos (by omega)]
  rfl
theorem rd_set_ne (l : List Int) (k j x : Int) (h0 : 0 ≤ k) (h1 : 0 ≤ j) (hne : j ≠ k) : rd (l.set k.toNat x) j = rd l j := by
  unfold rd
  rw [List.getD_eq_getElem?_getD, List.getElem?_set, if_neg (by omega), List.getD_eq_getElem?_getD]
theorem ext_rd (a b : List Int) (n : Nat) (ha : a.length = n) (hb : b.length = n) (h : ∀ k : Int, 0 ≤ k → k < (n : Int) → rd a k = rd b k) : a = b := by
  refine List.ext_getElem (by omega) (fun i h1 h2 => ?_)
  have := h (i : Int) (by omega) (by omega)
  unfold rd at this
  rw [List.getD_eq_getElem?_getD, List.getD_eq_getElem?_getD, Int.toNat_natCast, List.getElem?_eq_getElem h1, List.getElem?_eq_getElem h2] at this
  exact this
theorem nodup_len : ∀ (n : Nat) (V : List Int), V.Nodup → (∀ k ∈ V, 0 ≤ k ∧ k < (n : Int)) → V.length ≤ n
  | 0, V, _, h => by
    cases V with
    | nil => simp
    | cons a r => have := h a (by simp); omega
  | n + 1, V, hd, h => by
    by_cases hm : (n : Int) ∈ V
    · have h1 := nodup_len n (V.erase (n : Int)) (hd.erase _) (fun k hk => by
        have h2 := (List.Nodup.mem_erase_iff hd).1 hk
        have h3 := h k h2.2
        have h4 := h2.1
        omega)
      have h2 := List.length_erase_of_mem hm
      omega
    · have h1 := nodup_len n V hd (fun k hk => by
        have h3 := h k hk
        have h4 : k ≠ (n : Int) := fun e => hm (e ▸ hk)
        omega)
      omega
theorem flat_len (f : Int → List Int) : ∀ V : List Int, (∀ k ∈ V, (f k).length ≤ 4) → (V.flatMap f).length ≤ 4 * V.length
  | [], _ => by simp
  | a :: r, h => by
    have h1 := flat_len f r (fun k hk => h k (by simp [hk]))
    have h2 := h a (by simp)
    rw [List.flatMap_cons, List.length_append, List.length_cons]
    omega
theorem goodB_kids {n : Nat} {x : S68} {lev : Int} (h : goodB n x lev = true) : x.f2.length ≤ 4 ∧ (lev = 1 → x.f2 = []) ∧ ∀ z ∈ x.f2, isNum n z = true := by
  unfold goodB at h
  split at h
  · split at h
    · have h1 : x.f2 = [] := List.length_eq_zero_iff.1 (of_decide_eq_true h)
      rw [h1]
      simp
    · cases h
  · rename_i hl
    split at h
    · split at h
      · rename_i h4
        split at h
        · cases h
        · rename_i hb
          refine ⟨by omega, fun e => absurd e hl, fun z hz => ?_⟩
          cases hi : isNum n z with
          | true => rfl
          | false => exact absurd (List.any_eq_true.2 ⟨z, hz, by simp [hi]⟩) hb
      · cases h
    · cases h
def kidsOf (C : List S68) (k : Int) : List Int := (rd_T68 C k).f2
def RefOK (C : List S68) (v : List Int) (q : Int × Int) : Prop := q.1 = -1 ∨ (0 ≤ q.1 ∧ q.1 < (C.length : Int) ∧ rd v q.1 = q.2 ∧ q.2 ≠ 0)
structure Inv (C : List S68) (roots : List Int) (L : Int) (V : List Int) (P : List (Int × Int)) (cnt lev : List Int) : Prop where
  lc : cnt.length = C.length
  ll : lev.length = C.length
  nd : V.Nodup
  vin : ∀ k ∈ V, 0 ≤ k ∧ k < (C.length : Int)
  vl : ∀ k, 0 ≤ k → k < (C.length : Int) → (rd lev k ≠ 0 ↔ k ∈ V)
  good : ∀ k ∈ V, goodB C.length (rd_T68 C k) (rd lev k) = true ∧ 1 ≤ rd lev k ∧ rd lev k ≤ L
  kid : ∀ k ∈ V, ∀ z ∈ kidsOf C k, RefOK C lev (z, rd lev k - 1) ∨ (z, rd lev k - 1) ∈ P
  rts : ∀ r ∈ roots, RefOK C lev (r, L) ∨ (r, L) ∈ P
  wit : ∀ k ∈ V, (k ∈ roots ∧ rd lev k = L) ∨ ∃ p ∈ V, rd lev p = rd lev k + 1 ∧ k ∈ kidsOf C p
  pwit : ∀ q ∈ P, (q.1 ∈ roots ∧ q.2 = L) ∨ ∃ p ∈ V, q.2 = rd lev p - 1 ∧ q.1 ∈ kidsOf C p
  cnts : ∀ k, 0 ≤ k → k < (C.length : Int) → rd cnt k + ((P.map Prod.fst).count k : Int) = (roots.count k : Int) + ((V.flatMap (kidsOf C)).count k : Int)
  pos : ∀ k, 0 ≤ k → k < (C.length : Int) → (k ∈ V → 1 ≤ rd cnt k) ∧ (k ∉ V → rd cnt k = 0)
section
variable {C : List S68} {roots : List Int} {L : Int} {V V' : List Int} {P P' : List (Int × Int)} {c l c' v : List Int} {k o x : Int}
theorem Inv.range (h : Inv C roots L V P c l) (hL : 1 ≤ L) : ∀ q ∈ P, 1 ≤ q.2 ∧ q.2 ≤ L := by
  intro q hq
  rcases h.pwit q hq with ⟨_, e⟩ | ⟨p, hp, e, hz⟩
  · omega
  · obtain ⟨g, l1, l2⟩ := h.good p hp
    by_cases e1 : rd l p = 1
    · have := (goodB_kids g).2.1 e1
      unfold kidsOf at hz
      rw [this] at hz
      cases hz
    · omega
theorem Inv.perm (h : Inv C roots L V P c l) (hp : P.Perm P') : Inv C roots L V P' c l :=
  ⟨h.lc, h.ll, h.nd, h.vin, h.vl, h.good, fun k hk z hz => (h.kid k hk z hz).imp id hp.mem_iff.1, fun r hr => (h.rts r hr).imp id hp.mem_iff.1, h.wit, fun q hq => h.pwit q (hp.mem_iff.2 hq),
    fun k h0 h1 => by rw [← (hp.map Prod.fst).count_eq]; exact h.cnts k h0 h1, h.pos⟩
theorem Inv.skip (h : Inv C roots L V ((-1, o) :: P) c l) : Inv C roots L V P c l := by
  have hm : ∀ q : Int × Int, q ∈ (-1, o) :: P → RefOK C l q ∨ q ∈ P := fun q hq => by
    rcases List.mem_cons.1 hq with e | e
    · exact .inl (.inl (by rw [e]))
    · exact .inr e
  refine ⟨h.lc, h.ll, h.nd, h.vin, h.vl, h.good, fun k hk z hz => (h.kid k hk z hz).elim .inl (hm _), fun r hr => (h.rts r hr).elim .inl (hm _), h.wit, fun q hq => h.pwit q (List.mem_cons_of_mem _ hq), fun k h0 h1 => ?_, h.pos⟩
  have := h.cnts k h0 h1
  rw [List.map_cons, List.count_cons_of_ne (by show (-1 : Int) ≠ k; omega)] at this
  exact this
theorem Inv.old (h : Inv C roots L V ((k, o) :: P) c l) (h0 : 0 ≤ k) (h1 : k < (C.length : Int)) (hk : rd l k = o) (ho : o ≠ 0) (hx : x = rd c k + 1) : Inv C roots L V P (c.set k.toNat x) l := by
  have hm : ∀ q : Int × Int, q ∈ (k, o) :: P → RefOK C l q ∨ q ∈ P := fun q hq => by
    rcases List.mem_cons.1 hq with e | e
    · exact .inl (.inr (by rw [e]; exact ⟨h0, h1, hk, ho⟩))
    · exact .inr e
  have hkV : k ∈ V := (h.vl k h0 h1).1 (by rw [hk]; exact ho)
  have hlc := h.lc
  refine ⟨by rw [List.length_set]; exact h.lc, h.ll, h.nd, h.vin, h.vl, h.good, fun k hk z hz => (h.kid k hk z hz).elim .inl (hm _), fun r hr => (h.rts r hr).elim .inl (hm _), h.wit, fun q hq => h.pwit q (List.mem_cons_of_mem _ hq), fun j j0 j1 => ?_, fun j j0 j1 => ?_⟩
  · have := h.cnts j j0 j1
    by_cases e : j = k
    · subst e
      rw [List.map_cons, List.count_cons_self] at this
      rw [rd_set_eq c j x h0 (by omega), hx]
      omega
    · rw [List.map_cons, List.count_cons_of_ne (by show k ≠ j; omega)] at this
      rw [rd_set_ne c k j x h0 j0 e]
      exact this
  · by_cases e : j = k
    · subst e
      rw [rd_set_eq c j x h0 (by omega)]
      have := (h.pos j j0 j1).1 hkV
      exact ⟨fun _ => by omega, fun e => absurd hkV e⟩
    · rw [rd_set_ne c k j x h0 j0 e]
      exact h.pos j j0 j1
theorem Inv.new (h : Inv C roots L V ((k, o) :: P) c l) (hL : 1 ≤ L) (h0 : 0 ≤ k) (h1 : k < (C.length : Int)) (hk : rd l k = 0) (hg : goodB C.length (rd_T68 C k) o = true) (hx : x = rd c k + 1) :
    Inv C roots L (V ++ [k]) ((kidsOf C k).map (fun z => (z, o - 1)) ++ P) (c.set k.toNat x) (l.set k.toNat o) := by
  have hkV : k ∉ V := fun e => (h.vl k h0 h1).2 e hk
  obtain ⟨o1, o2⟩ := h.range hL (k, o) (by simp)
  simp only at o1 o2
  have hlc := h.lc
  have hll := h.ll
  have ek : rd (l.set k.toNat o) k = o := rd_set_eq l k o h0 (by omega)
  have ej : ∀ j ∈ V, rd (l.set k.toNat o) j = rd l j := fun j hj => rd_set_ne l k j o h0 (h.vin j hj).1 (fun e => hkV (e ▸ hj))
  have hmono : ∀ q, RefOK C l q → RefOK C (l.set k.toNat o) q := by
    rintro q (e | ⟨e0, e1, e2, e3⟩)
    · exact .inl e
    · refine .inr ⟨e0, e1, ?_, e3⟩
      rw [rd_set_ne l k q.1 o h0 e0 (fun e => e3 (by rw [← e2, e]; exact hk))]
      exact e2
  have hm : ∀ q : Int × Int, (RefOK C l q ∨ q ∈ (k, o) :: P) → RefOK C (l.set k.toNat o) q ∨ q ∈ (kidsOf C k).map (fun z => (z, o - 1)) ++ P := by
    rintro q (hq | hq)
    · exact .inl (hmono q hq)
    · rcases List.mem_cons.1 hq with e | e
      · exact .inl (.inr (by rw [e]; exact ⟨h0, h1, ek, by show o ≠ 0; omega⟩))
      · exact .inr (List.mem_append_right _ e)
  refine ⟨by rw [List.length_set]; exact h.lc, by rw [List.length_set]; exact h.ll, (List.perm_append_singleton k V).nodup_iff.2 (List.nodup_cons.2 ⟨hkV, h.nd⟩), fun j hj => ?_, fun j j0 j1 => ?_, fun j hj => ?_, fun j hj z hz => ?_, fun r hr => hm _ (h.rts r hr), fun j hj => ?_, fun q hq => ?_, fun j j0 j1 => ?_, fun j j0 j1 => ?_⟩
  · rcases List.mem_append.1 hj with e | e
    · exact h.vin j e
    · obtain rfl := List.mem_singleton.1 e
      exact ⟨h0, h1⟩
  · by_cases e : j = k
    · subst e
      rw [ek]
      exact ⟨fun _ => by simp, fun _ => by omega⟩
    · rw [rd_set_ne l k j o h0 j0 e, h.vl j j0 j1]
      simp [e]
  · rcases List.mem_append.1 hj with e | e
    · rw [ej j e]; exact h.good j e
    · obtain rfl := List.mem_singleton.1 e
      rw [ek]; exact ⟨hg, o1, o2⟩
  · rcases List.mem_append.1 hj with e | e
    · rw [ej j e]; exact hm _ (h.kid j e z hz)
    · obtain rfl := List.mem_singleton.1 e
      rw [ek]; exact .inr (List.mem_append_left _ (List.mem_map.2 ⟨z, hz, rfl⟩))
  · rcases List.mem_append.1 hj with e | e
    · rw [ej j e]
      rcases h.wit j e with e1 | ⟨p, hp, e2, e3⟩
      · exact .inl e1
      · exact .inr ⟨p, List.mem_append_left _ hp, by rw [ej p hp]; exact e2, e3⟩
    · obtain rfl := List.mem_singleton.1 e
      rw [ek]
      rcases h.pwit (j, o) (by simp) with e1 | ⟨p, hp, e2, e3⟩
      · exact .inl e1
      · exact .inr ⟨p, List.mem_append_left _ hp, by rw [ej p hp]; simp only at e2; omega, e3⟩
  · rcases List.mem_append.1 hq with e | e
    · obtain ⟨z, hz, rfl⟩ := List.mem_map.1 e
      exact .inr ⟨k, by simp, by rw [ek], hz⟩
    · rcases h.pwit q (List.mem_cons_of_mem _ e) with e1 | ⟨p, hp, e2, e3⟩
      · exact .inl e1
      · exact .inr ⟨p, List.mem_append_left _ hp, by rw [ej p hp]; exact e2, e3⟩
  · have := h.cnts j j0 j1
    have hmm : ((kidsOf C k).map (fun z => (z, o - 1))).map Prod.fst = kidsOf C k := by rw [List.map_map]; exact List.map_id _
    rw [List.map_append, List.count_append, hmm, List.flatMap_append, List.count_append, List.flatMap_cons, List.flatMap_nil, List.append_nil]
    by_cases e : j = k
    · subst e
      rw [List.map_cons, List.count_cons_self] at this
      rw [rd_set_eq c j x h0 (by omega), hx]
      omega
    · rw [List.map_cons, List.count_cons_of_ne (by show k ≠ j; omega)] at this
      rw [rd_set_ne c k j x h0 j0 e]
      omega
  · by_cases e : j = k
    · subst e
      rw [rd_set_eq c j x h0 (by omega), hx, (h.pos j j0 j1).2 hkV]
      exact ⟨fun _ => by omega, fun e => absurd (by simp) e⟩
    · rw [rd_set_ne c k j x h0 j0 e]
      have := h.pos j j0 j1
      simpa [e] using this
theorem Inv.cons (h : Inv C roots L V P c l) (hv : Inv C roots L V' [] c' v) : ∀ k ∈ V, rd v k = rd l k ∧ k ∈ V' := by
  have key : ∀ m : Nat, ∀ k ∈ V, L - rd l k ≤ (m : Int) → rd v k = rd l k ∧ k ∈ V' := by
    have root : ∀ k ∈ V, k ∈ roots → rd l k = L → rd v k = rd l k ∧ k ∈ V' := fun k hk hr e => by
      have hin := h.vin k hk
      rcases hv.rts k hr with (e1 | ⟨_, _, e2, e3⟩) | e1
      · simp only at e1; omega
      · simp only at e2 e3
        exact ⟨e2.trans e.symm, (hv.vl k hin.1 hin.2).1 (by rw [e2]; exact e3)⟩
      · cases e1
    have par : ∀ k ∈ V, ∀ p, rd l p = rd l k + 1 → k ∈ kidsOf C p → (rd v p = rd l p ∧ p ∈ V') → rd v k = rd l k ∧ k ∈ V' := fun k hk p e hz hp => by
      have hin := h.vin k hk
      rcases hv.kid p hp.2 k hz with (e1 | ⟨_, _, e2, e3⟩) | e1
      · simp only at e1; omega
      · simp only at e2 e3
        exact ⟨by rw [e2, hp.1]; omega, (hv.vl k hin.1 hin.2).1 (by rw [e2]; exact e3)⟩
      · cases e1
    intro m
    induction m with
    | zero =>
      intro k hk hm
      rcases h.wit k hk with ⟨hr, e⟩ | ⟨p, hp, e, hz⟩
      · exact root k hk hr e
      · have := (h.good p hp).2.2
        omega
    | succ m ih =>
      intro k hk hm
      rcases h.wit k hk with ⟨hr, e⟩ | ⟨p, hp, e, hz⟩
      · exact root k hk hr e
      · exact par k hk p e hz (ih p hp (by omega))
  intro k hk
  exact key (L - rd l k).toNat k hk (by omega)
theorem Inv.refs (h : Inv C roots L V P c l) (hv : Inv C roots L V' [] c' v) : ∀ q ∈ P, RefOK C v q := by
  intro q hq
  rcases h.pwit q hq with ⟨e1, e2⟩ | ⟨p, hp, e1, e2⟩
  · rcases hv.rts q.1 e1 with e | e
    · rw [← e2] at e; exact e
    · cases e
  · obtain ⟨f1, f2⟩ := h.cons hv p hp
    rcases hv.kid p f2 q.1 e2 with e | e
    · rw [f1, ← e1] at e; exact e
    · cases e
theorem Inv.unique (h : Inv C roots L V [] c l) (hv : Inv C roots L V' [] c' v) : c = c' := by
  have hp : V.Perm V' := (List.perm_ext_iff_of_nodup h.nd hv.nd).2 (fun k => ⟨fun hk => (h.cons hv k hk).2, fun hk => (hv.cons h k hk).2⟩)
  refine ext_rd c c' C.length h.lc hv.lc (fun k h0 h1 => ?_)
  have e1 := h.cnts k h0 h1
  have e2 := hv.cnts k h0 h1
  rw [(hp.flatMap_right (kidsOf C)).count_eq] at e1
  simp only [List.map_nil, List.count_nil] at e1 e2
  omega
theorem Inv.len (h : Inv C roots L V P c l) : V.length ≤ C.length := nodup_len _ V h.nd h.vin
theorem Inv.bound (h : Inv C roots L V P c l) (k : Int) (h0 : 0 ≤ k) (h1 : k < (C.length : Int)) : 0 ≤ rd c k ∧ rd c k ≤ (roots.length : Int) + 4 * (C.length : Int) := by
  have e1 := h.cnts k h0 h1
  have e2 := h.len
  have e3 := flat_len (kidsOf C) V (fun k hk => (goodB_kids (h.good k hk).1).1)
  have e4 : (V.flatMap (kidsOf C)).count k ≤ (V.flatMap (kidsOf C)).length := List.count_le_length
  have e5 : roots.count k ≤ roots.length := List.count_le_length
  have e6 := h.pos k h0 h1
  refine ⟨?_, by omega⟩
  by_cases hk : k ∈ V
  · have := e6.1 hk; omega
  · have := e6.2 hk; omega
theorem Inv.start (hL : 1 ≤ L) : Inv C roots L [] (roots.map fun r => (r, L)) (List.replicate C.length 0) (List.replicate C.length 0) := by
  have hz : ∀ k : Int, rd (List.replicate C.length 0) k = 0 := fun k => by
    unfold rd
    rw [List.getD_eq_getElem?_getD, List.getElem?_replicate]
    split <;> rfl
  refine ⟨by simp, by simp, by simp, by simp, fun k _ _ => by simp [hz], by simp, by simp, fun r hr => .inr (List.mem_map.2 ⟨r, hr, rfl⟩), by simp, fun q hq => ?_, fun k _ _ => ?_, fun k _ _ => by simp [hz]⟩
  · obtain ⟨r, hr, rfl⟩ := List.mem_map.1 hq
    exact .inl ⟨hr, rfl⟩
  · have : (roots.map fun r => (r, L)).map Prod.fst = roots := by rw [List.map_map]; exact List.map_id _
    rw [this, hz]
    simp
end
end Go.Proofs.Ytacfalpgmibfnaa.PFnExactGoodCow
