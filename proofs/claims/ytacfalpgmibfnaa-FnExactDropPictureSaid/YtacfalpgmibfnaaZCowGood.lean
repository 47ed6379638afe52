import Derived.Test.YtacfalpgmibfnaaXCowGood
import Derived.Test.YtacfalpgmibfnaaYCowspecGoodCow
import Derived.Test.YtacfalpgmibfnaaYCowimplisRoot
/-! GoodCow, plain law: what a search of the cells has found, and that it is found in one way only. No program here. -/
namespace Go.Proofs.Ytacfalpgmibfnaa.PCow
open Go.RowKit Go.Proofs.YtacfalpgmibfnaaW.PrintWords Go.Proofs.YtacfalpgmibfnaaW.PrintLast Go.Proofs.YtacfalpgmibfnaaW.PrintMore Go.Proofs.Ytacfalpgmibfnaa.E
set_option linter.unusedSimpArgs false
set_option linter.unusedVariables false
theorem rd_set_eq (l : List Int) (k x : Int) (h0 : 0 ≤ k) (h1 : k < (l.length : Int)) : rd (l.set k.toNat x) k = x := by
  unfold rd
  rw [List.getD_eq_getElem?_getD, List.getElem?_set, if_pos rfl, if_pos (by omega)]
  rfl
theorem rd_set_ne (l : List Int) (k j x : Int) (h0 : 0 ≤ k) (h1 : 0 ≤ j) (hne : j ≠ k) : rd (l.set k.toNat x) j = rd l j := by
  unfold rd
  rw [List.getD_eq_getElem?_getD, List.getElem?_set, if_neg (by omega), List.getD_eq_getElem?_getD]
theorem ext_rd (a b : List Int) (n : Nat) (ha : a.length = n) (hb : b.length = n) (h : ∀ k : Int, 0 ≤ k → k < (n : Int) → rd a k = rd b k) : a = b := by
  refine List.ext_getElem (by omega) (fun i h1 h2 => ?_)
  have := h (i : Int) (by omega) (by omega)
  unfold rd at this
  rw [List.getD_eq_getElem?_getD, List.getD_eq_getElem?_getD, Int.toNat_natCast, List.getElem?_eq_getElem h1, List.getElem?_eq_getElem h2] at this
  exact this
theorem nodup_len : ∀ (n : Nat) (V : List Int), V.Nodup → (∀ k ∈ V, 0 ≤ k ∧ k < (n : Int)) → V.length ≤ n
  | 0, V, _, h => by
    cases V with
    | nil => simp
    | cons a r => have := h a (by simp); omega
  | n + 1, V, hd, h => by
    by_cases hm : (n : Int) ∈ V
    · have h1 := nodup_len n (V.erase (n : Int)) (hd.erase _) (fun k hk => by
        have h2 := (List.Nodup.mem_erase_iff hd).1 hk
        have h3 := h k h2.2
        have h4 := h2.1
        omega)
      have h2 := List.length_erase_of_mem hm
      omega
    · have h1 := nodup_len n V hd (fun k hk => by
        have h3 := h k hk
        have h4 : k ≠ (n : Int) := fun e => hm (e ▸ hk)
        omega)
      omega
theorem flat_len (f : Int → List Int) : ∀ V : List Int, (∀ k ∈ V, (f k).length ≤ 4) → (V.flatMap f).length ≤ 4 * V.length
  | [], _ => by simp
  | a :: r, h => by
    have h1 := flat_len f r (fun k hk => h k (by simp [hk]))
    have h2 := h a (by simp)
    rw [List.flatMap_cons, List.length_append, List.length_cons]
    omega
theorem goodB_kids {n : Nat} {x : S68} {lev : Int} (h : goodB n x lev = true) : x.f2.length ≤ 4 ∧ (lev = 1 → x.f2 = []) ∧ ∀ z ∈ x.f2, isNum n z = true := by
  unfold goodB at h
  split at h
  · split at h
    · have h1 : x.f2 = [] := List.length_eq_zero_iff.1 (of_decide_eq_true h)
      rw [h1]
      simp
    · cases h
  · rename_i hl
    split at h
    · split at h
      · rename_i h4
        split at h
        · cases h
        · rename_i hb
          refine ⟨by omega, fun e => absurd e hl, fun z hz => ?_⟩
          cases hi : isNum n z with
          | true => rfl
          | false => exact absurd (List.any_eq_true.2 ⟨z, hz, by simp [hi]⟩) hb
      · cases h
    · cases h
def kidsOf (C : List S68) (k : Int) : List Int := (rd_T68 C k).f2
def RefOK (C : List S68) (v : List Int) (q : Int × Int) : Prop := q.1 = -1 ∨ (0 ≤ q.1 ∧ q.1 < (C.length : Int) ∧ rd v q.1 = q.2 ∧ q.2 ≠ 0)
structure Inv (C : List S68) (roots : List Int) (L : Int) (V : List Int) (P : List (Int × Int)) (cnt lev : List Int) : Prop where
  lc : cnt.length = C.length
  ll : lev.length = C.length
  nd : V.Nodup
  vin : ∀ k ∈ V, 0 ≤ k ∧ k < (C.length : Int)
  vl : ∀ k, 0 ≤ k → k < (C.length : Int) → (rd lev k ≠ 0 ↔ k ∈ V)
  good : ∀ k ∈ V, goodB C.length (rd_T68 C k) (rd lev k) = true ∧ 1 ≤ rd lev k ∧ rd lev k ≤ L
  kid : ∀ k ∈ V, ∀ z ∈ kidsOf C k, RefOK C lev (z, rd lev k - 1) ∨ (z, rd lev k - 1) ∈ P
  rts : ∀ r ∈ roots, RefOK C lev (r, L) ∨ (r, L) ∈ P
  wit : ∀ k ∈ V, (k ∈ roots ∧ rd lev k = L) ∨ ∃ p ∈ V, rd lev p = rd lev k + 1 ∧ k ∈ kidsOf C p
  pwit : ∀ q ∈ P, (q.1 ∈ roots ∧ q.2 = L) ∨ ∃ p ∈ V, q.2 = rd lev p - 1 ∧ q.1 ∈ kidsOf C p
  cnts : ∀ k, 0 ≤ k → k < (C.length : Int) → rd cnt k + ((P.map Prod.fst).count k : Int) = (roots.count k : Int) + ((V.flatMap (kidsOf C)).count k : Int)
  pos : ∀ k, 0 ≤ k → k < (C.length : Int) → (k ∈ V → 1 ≤ rd cnt k) ∧ (k ∉ V → rd cnt k = 0)
section
variable {C : List S68} {roots : List Int} {L : Int} {V V' : List Int} {P P' : List (Int × Int)} {c l c' v : List Int} {k o x : Int}
theorem Inv.range (h : Inv C roots L V P c l) (hL : 1 ≤ L) : ∀ q ∈ P, 1 ≤ q.2 ∧ q.2 ≤ L := by
  intro q hq
  rcases h.pwit q hq with ⟨_, e⟩ | ⟨p, hp, e, hz⟩
  · omega
  · obtain ⟨g, l1, l2⟩ := h.good p hp
    by_cases e1 : rd l p = 1
    · have := (goodB_kids g).2.1 e1
      unfold kidsOf at hz
      rw [this] at hz
      cases hz
    · omega
theorem Inv.perm (h : Inv C roots L V P c l) (hp : P.Perm P') : Inv C roots L V P' c l :=
  ⟨h.lc, h.ll, h.nd, h.vin, h.vl, h.good, fun k hk z hz => (h.kid k hk z hz).imp id hp.mem_iff.1, fun r hr => (h.rts r hr).imp id hp.mem_iff.1, h.wit, fun q hq => h.pwit q (hp.mem_iff.2 hq),
    fun k h0 h1 => by rw [← (hp.map Prod.fst).count_eq]; exact h.cnts k h0 h1, h.pos⟩
theorem Inv.skip (h : Inv C roots L V ((-1, o) :: P) c l) : Inv C roots L V P c l := by
  have hm : ∀ q : Int × Int, q ∈ (-1, o) :: P → RefOK C l q ∨ q ∈ P := fun q hq => by
    rcases List.mem_cons.1 hq with e | e
    · exact .inl (.inl (by rw [e]))
    · exact .inr e
  refine ⟨h.lc, h.ll, h.nd, h.vin, h.vl, h.good, fun k hk z hz => (h.kid k hk z hz).elim .inl (hm _), fun r hr => (h.rts r hr).elim .inl (hm _), h.wit, fun q hq => h.pwit q (List.mem_cons_of_mem _ hq), fun k h0 h1 => ?_, h.pos⟩
  have := h.cnts k h0 h1
  rw [List.map_cons, List.count_cons_of_ne (by show (-1 : Int) ≠ k; omega)] at this
  exact this
theorem Inv.old (h : Inv C roots L V ((k, o) :: P) c l) (h0 : 0 ≤ k) (h1 : k < (C.length : Int)) (hk : rd l k = o) (ho : o ≠ 0) (hx : x = rd c k + 1) : Inv C roots L V P (c.set k.toNat x) l := by
  have hm : ∀ q : Int × Int, q ∈ (k, o) :: P → RefOK C l q ∨ q ∈ P := fun q hq => by
    rcases List.mem_cons.1 hq with e | e
    · exact .inl (.inr (by rw [e]; exact ⟨h0, h1, hk, ho⟩))
    · exact .inr e
  have hkV : k ∈ V := (h.vl k h0 h1).1 (by rw [hk]; exact ho)
  have hlc := h.lc
  refine ⟨by rw [List.length_set]; exact h.lc, h.ll, h.nd, h.vin, h.vl, h.good, fun k hk z hz => (h.kid k hk z hz).elim .inl (hm _), fun r hr => (h.rts r hr).elim .inl (hm _), h.wit, fun q hq => h.pwit q (List.mem_cons_of_mem _ hq), fun j j0 j1 => ?_, fun j j0 j1 => ?_⟩
  · have := h.cnts j j0 j1
    by_cases e : j = k
    · subst e
      rw [List.map_cons, List.count_cons_self] at this
      rw [rd_set_eq c j x h0 (by omega), hx]
      omega
    · rw [List.map_cons, List.count_cons_of_ne (by show k ≠ j; omega)] at this
      rw [rd_set_ne c k j x h0 j0 e]
      exact this
  · by_cases e : j = k
    · subst e
      rw [rd_set_eq c j x h0 (by omega)]
      have := (h.pos j j0 j1).1 hkV
      exact ⟨fun _ => by omega, fun e => absurd hkV e⟩
    · rw [rd_set_ne c k j x h0 j0 e]
      exact h.pos j j0 j1
theorem Inv.new (h : Inv C roots L V ((k, o) :: P) c l) (hL : 1 ≤ L) (h0 : 0 ≤ k) (h1 : k < (C.length : Int)) (hk : rd l k = 0) (hg : goodB C.length (rd_T68 C k) o = true) (hx : x = rd c k + 1) :
    Inv C roots L (V ++ [k]) ((kidsOf C k).map (fun z => (z, o - 1)) ++ P) (c.set k.toNat x) (l.set k.toNat o) := by
  have hkV : k ∉ V := fun e => (h.vl k h0 h1).2 e hk
  obtain ⟨o1, o2⟩ := h.range hL (k, o) (by simp)
  simp only at o1 o2
  have hlc := h.lc
  have hll := h.ll
  have ek : rd (l.set k.toNat o) k = o := rd_set_eq l k o h0 (by omega)
  have ej : ∀ j ∈ V, rd (l.set k.toNat o) j = rd l j := fun j hj => rd_set_ne l k j o h0 (h.vin j hj).1 (fun e => hkV (e ▸ hj))
  have hmono : ∀ q, RefOK C l q → RefOK C (l.set k.toNat o) q := by
    rintro q (e | ⟨e0, e1, e2, e3⟩)
    · exact .inl e
    · refine .inr ⟨e0, e1, ?_, e3⟩
      rw [rd_set_ne l k q.1 o h0 e0 (fun e => e3 (by rw [← e2, e]; exact hk))]
      exact e2
  have hm : ∀ q : Int × Int, (RefOK C l q ∨ q ∈ (k, o) :: P) → RefOK C (l.set k.toNat o) q ∨ q ∈ (kidsOf C k).map (fun z => (z, o - 1)) ++ P := by
    rintro q (hq | hq)
    · exact .inl (hmono q hq)
    · rcases List.mem_cons.1 hq with e | e
      · exact .inl (.inr (by rw [e]; exact ⟨h0, h1, ek, by show o ≠ 0; omega⟩))
      · exact .inr (List.mem_append_right _ e)
  refine ⟨by rw [List.length_set]; exact h.lc, by rw [List.length_set]; exact h.ll, (List.perm_append_singleton k V).nodup_iff.2 (List.nodup_cons.2 ⟨hkV, h.nd⟩), fun j hj => ?_, fun j j0 j1 => ?_, fun j hj => ?_, fun j hj z hz => ?_, fun r hr => hm _ (h.rts r hr), fun j hj => ?_, fun q hq => ?_, fun j j0 j1 => ?_, fun j j0 j1 => ?_⟩
  · rcases List.mem_append.1 hj with e | e
    · exact h.vin j e
    · obtain rfl := List.mem_singleton.1 e
      exact ⟨h0, h1⟩
  · by_cases e : j = k
    · subst e
      rw [ek]
      exact ⟨fun _ => by simp, fun _ => by omega⟩
    · rw [rd_set_ne l k j o h0 j0 e, h.vl j j0 j1]
      simp [e]
  · rcases List.mem_append.1 hj with e | e
    · rw [ej j e]; exact h.good j e
    · obtain rfl := List.mem_singleton.1 e
      rw [ek]; exact ⟨hg, o1, o2⟩
  · rcases List.mem_append.1 hj with e | e
    · rw [ej j e]; exact hm _ (h.kid j e z hz)
    · obtain rfl := List.mem_singleton.1 e
      rw [ek]; exact .inr (List.mem_append_left _ (List.mem_map.2 ⟨z, hz, rfl⟩))
  · rcases List.mem_append.1 hj with e | e
    · rw [ej j e]
      rcases h.wit j e with e1 | ⟨p, hp, e2, e3⟩
      · exact .inl e1
      · exact .inr ⟨p, List.mem_append_left _ hp, by rw [ej p hp]; exact e2, e3⟩
    · obtain rfl := List.mem_singleton.1 e
      rw [ek]
      rcases h.pwit (j, o) (by simp) with e1 | ⟨p, hp, e2, e3⟩
      · exact .inl e1
      · exact .inr ⟨p, List.mem_append_left _ hp, by rw [ej p hp]; simp only at e2; omega, e3⟩
  · rcases List.mem_append.1 hq with e | e
    · obtain ⟨z, hz, rfl⟩ := List.mem_map.1 e
      exact .inr ⟨k, by simp, by rw [ek], hz⟩
    · rcases h.pwit q (List.mem_cons_of_mem _ e) with e1 | ⟨p, hp, e2, e3⟩
      · exact .inl e1
      · exact .inr ⟨p, List.mem_append_left _ hp, by rw [ej p hp]; exact e2, e3⟩
  · have := h.cnts j j0 j1
    have hmm : ((kidsOf C k).map (fun z => (z, o - 1))).map Prod.fst = kidsOf C k := by rw [List.map_map]; exact List.map_id _
    rw [List.map_append, List.count_append, hmm, List.flatMap_append, List.count_append, List.flatMap_cons, List.flatMap_nil, List.append_nil]
    by_cases e : j = k
    · subst e
      rw [List.map_cons, List.count_cons_self] at this
      rw [rd_set_eq c j x h0 (by omega), hx]
      omega
    · rw [List.map_cons, List.count_cons_of_ne (by show k ≠ j; omega)] at this
      rw [rd_set_ne c k j x h0 j0 e]
      omega
  · by_cases e : j = k
    · subst e
      rw [rd_set_eq c j x h0 (by omega), hx, (h.pos j j0 j1).2 hkV]
      exact ⟨fun _ => by omega, fun e => absurd (by simp) e⟩
    · rw [rd_set_ne c k j x h0 j0 e]
      have := h.pos j j0 j1
      simpa [e] using this
theorem Inv.cons (h : Inv C roots L V P c l) (hv : Inv C roots L V' [] c' v) : ∀ k ∈ V, rd v k = rd l k ∧ k ∈ V' := by
  have key : ∀ m : Nat, ∀ k ∈ V, L - rd l k ≤ (m : Int) → rd v k = rd l k ∧ k ∈ V' := by
    have root : ∀ k ∈ V, k ∈ roots → rd l k = L → rd v k = rd l k ∧ k ∈ V' := fun k hk hr e => by
      have hin := h.vin k hk
      rcases hv.rts k hr with (e1 | ⟨_, _, e2, e3⟩) | e1
      · simp only at e1; omega
      · simp only at e2 e3
        exact ⟨e2.trans e.symm, (hv.vl k hin.1 hin.2).1 (by rw [e2]; exact e3)⟩
      · cases e1
    have par : ∀ k ∈ V, ∀ p, rd l p = rd l k + 1 → k ∈ kidsOf C p → (rd v p = rd l p ∧ p ∈ V') → rd v k = rd l k ∧ k ∈ V' := fun k hk p e hz hp => by
      have hin := h.vin k hk
      rcases hv.kid p hp.2 k hz with (e1 | ⟨_, _, e2, e3⟩) | e1
      · simp only at e1; omega
      · simp only at e2 e3
        exact ⟨by rw [e2, hp.1]; omega, (hv.vl k hin.1 hin.2).1 (by rw [e2]; exact e3)⟩
      · cases e1
    intro m
    induction m with
    | zero =>
      intro k hk hm
      rcases h.wit k hk with ⟨hr, e⟩ | ⟨p, hp, e, hz⟩
      · exact root k hk hr e
      · have := (h.good p hp).2.2
        omega
    | succ m ih =>
      intro k hk hm
      rcases h.wit k hk with ⟨hr, e⟩ | ⟨p, hp, e, hz⟩
      · exact root k hk hr e
      · exact par k hk p e hz (ih p hp (by omega))
  intro k hk
  exact key (L - rd l k).toNat k hk (by omega)
theorem Inv.refs (h : Inv C roots L V P c l) (hv : Inv C roots L V' [] c' v) : ∀ q ∈ P, RefOK C v q := by
  intro q hq
  rcases h.pwit q hq with ⟨e1, e2⟩ | ⟨p, hp, e1, e2⟩
  · rcases hv.rts q.1 e1 with e | e
    · rw [← e2] at e; exact e
    · cases e
  · obtain ⟨f1, f2⟩ := h.cons hv p hp
    rcases hv.kid p f2 q.1 e2 with e | e
    · rw [f1, ← e1] at e; exact e
    · cases e
theorem Inv.unique (h : Inv C roots L V [] c l) (hv : Inv C roots L V' [] c' v) : c = c' := by
  have hp : V.Perm V' := (List.perm_ext_iff_of_nodup h.nd hv.nd).2 (fun k => ⟨fun hk => (h.cons hv k hk).2, fun hk => (hv.cons h k hk).2⟩)
  refine ext_rd c c' C.length h.lc hv.lc (fun k h0 h1 => ?_)
  have e1 := h.cnts k h0 h1
  have e2 := hv.cnts k h0 h1
  rw [(hp.flatMap_right (kidsOf C)).count_eq] at e1
  simp only [List.map_nil, List.count_nil] at e1 e2
  omega
theorem Inv.len (h : Inv C roots L V P c l) : V.length ≤ C.length := nodup_len _ V h.nd h.vin
theorem Inv.bound (h : Inv C roots L V P c l) (k : Int) (h0 : 0 ≤ k) (h1 : k < (C.length : Int)) : 0 ≤ rd c k ∧ rd c k ≤ (roots.length : Int) + 4 * (C.length : Int) := by
  have e1 := h.cnts k h0 h1
  have e2 := h.len
  have e3 := flat_len (kidsOf C) V (fun k hk => (goodB_kids (h.good k hk).1).1)
  have e4 : (V.flatMap (kidsOf C)).count k ≤ (V.flatMap (kidsOf C)).length := List.count_le_length
  have e5 : roots.count k ≤ roots.length := List.count_le_length
  have e6 := h.pos k h0 h1
  refine ⟨?_, by omega⟩
  by_cases hk : k ∈ V
  · have := e6.1 hk; omega
  · have := e6.2 hk; omega
theorem Inv.start (hL : 1 ≤ L) : Inv C roots L [] (roots.map fun r => (r, L)) (List.replicate C.length 0) (List.replicate C.length 0) := by
  have hz : ∀ k : Int, rd (List.replicate C.length 0) k = 0 := fun k => by
    unfold rd
    rw [List.getD_eq_getElem?_getD, List.getElem?_replicate]
    split <;> rfl
  refine ⟨by simp, by simp, by simp, by simp, fun k _ _ => by simp [hz], by simp, by simp, fun r hr => .inr (List.mem_map.2 ⟨r, hr, rfl⟩), by simp, fun q hq => ?_, fun k _ _ => ?_, fun k _ _ => by simp [hz]⟩
  · obtain ⟨r, hr, rfl⟩ := List.mem_map.1 hq
    exact .inl ⟨hr, rfl⟩
  · have : (roots.map fun r => (r, L)).map Prod.fst = roots := by rw [List.map_map]; exact List.map_id _
    rw [this, hz]
    simp
end
end Go.Proofs.Ytacfalpgmibfnaa.PCow

/-! GoodCow, plain law: the specification's two searches, depth first, against Inv. -/
namespace Go.Proofs.Ytacfalpgmibfnaa.PCow
open Go.RowKit Go.Proofs.YtacfalpgmibfnaaW.PrintWords Go.Proofs.YtacfalpgmibfnaaW.PrintLast Go.Proofs.YtacfalpgmibfnaaW.PrintMore Go.Proofs.Ytacfalpgmibfnaa.E
set_option linter.unusedSimpArgs false
set_option linter.unusedVariables false
def Bad (C : List S68) (roots : List Int) (L : Int) : Prop := ∀ V c v, ¬ Inv C roots L V [] c v
theorem loopK_ok {F : Int → List Int → Option (Bool × List Int)} {ok : Int → Prop} {n : Nat} (hF : ∀ z, ok z → ∀ s : List Int, s.length = n → ∃ s', F z s = some (true, s') ∧ s'.length = n) :
    ∀ (ks : List Int) (s : List Int), (∀ z ∈ ks, ok z) → s.length = n → ∃ s', loopK F ks s = some (true, s') ∧ s'.length = n
  | [], s, _, hs => ⟨s, rfl, hs⟩
  | z :: r, s, h, hs => by
    obtain ⟨s1, e1, h1⟩ := hF z (h z (by simp)) s hs
    obtain ⟨s2, e2, h2⟩ := loopK_ok hF r s1 (fun y hy => h y (by simp [hy])) h1
    exact ⟨s2, by simp only [loopK, e1, Option.bind_some, if_true]; exact e2, h2⟩
theorem loopK_tot {F : Int → List Int → Option (Bool × List Int)} {n : Nat} (hF : ∀ z, ∀ s : List Int, s.length = n → ∃ b s', F z s = some (b, s') ∧ s'.length = n) :
    ∀ (ks : List Int) (s : List Int), s.length = n → ∃ b s', loopK F ks s = some (b, s') ∧ s'.length = n
  | [], s, hs => ⟨true, s, rfl, hs⟩
  | z :: r, s, hs => by
    obtain ⟨b, s1, e1, h1⟩ := hF z s hs
    cases b with
    | true =>
      obtain ⟨b2, s2, e2, h2⟩ := loopK_tot hF r s1 h1
      exact ⟨b2, s2, by simp only [loopK, e1, Option.bind_some, if_true]; exact e2, h2⟩
    | false => exact ⟨false, s1, by simp [loopK, e1], h1⟩
theorem deep_tot (C : List S68) : ∀ (lev : Nat) (k : Int) (seen : List Int), seen.length = C.length → ∃ b s', deepM C (lev + 1) k seen = some (b, s') ∧ s'.length = C.length := by
  intro lev
  induction lev with
  | zero =>
    intro k seen hs
    simp only [deepM]
    by_cases hk : k = -1
    · rw [if_pos hk]; exact ⟨_, _, rfl, hs⟩
    rw [if_neg hk]
    by_cases hin : 0 ≤ k ∧ k ≤ (C.length : Int) - 1
    · rw [if_pos hin, if_pos (by omega)]
      split
      · exact ⟨_, _, rfl, by simp [hs]⟩
      · exact ⟨_, _, rfl, by simp [hs]⟩
    · rw [if_neg hin]; exact ⟨_, _, rfl, hs⟩
  | succ m ih =>
    intro k seen hs
    rw [deepM]
    by_cases hk : k = -1
    · rw [if_pos hk]; exact ⟨_, _, rfl, hs⟩
    rw [if_neg hk]
    by_cases hin : 0 ≤ k ∧ k ≤ (C.length : Int) - 1
    · rw [if_pos hin, if_pos (by omega)]
      dsimp only
      split
      · exact ⟨_, _, rfl, by simp [hs]⟩
      · rw [if_neg (by omega)]
        obtain ⟨b, s2, e2, h2⟩ := loopK_tot (F := deepM C (m + 1)) ih (rd_T68 C k).f2 (seen.set k.toNat (wrap64 (rd seen k + 1))) (by simp [hs])
        rw [e2, Option.bind_some]
        cases b with
        | true => exact ⟨_, _, rfl, h2⟩
        | false => exact ⟨_, _, rfl, h2⟩
    · rw [if_neg hin]; exact ⟨_, _, rfl, hs⟩
section
variable {C : List S68} {roots : List Int} {L : Int}
theorem good_leaf {n : Nat} {x : S68} : goodB n x 1 = okLeaf x := by
  unfold goodB okLeaf
  rw [if_pos rfl]
  by_cases h : x.f2.length = 0 <;> by_cases h2 : 1 ≤ (x.f1.size : Int) ∧ (x.f1.size : Int) ≤ 8 <;> simp [h, h2]
theorem good_node {n : Nat} {x : S68} {lev : Int} (h : goodB n x lev = true) (hl : lev ≠ 1) : okNode x = true := by
  unfold goodB at h
  rw [if_neg hl] at h
  unfold okNode
  by_cases h0 : x.f1.size = 0
  · rw [if_pos h0] at h
    by_cases h4 : (x.f2.length : Int) = 4
    · rw [if_pos h4] at h
      cases hb : badKid n x.f2 with
      | true => rw [hb, if_pos rfl] at h; cases h
      | false => rw [hb, if_neg (by simp)] at h; rw [h, if_pos rfl, if_pos h4, decide_eq_true h0]
    · rw [if_neg h4] at h; cases h
  · rw [if_neg h0] at h; cases h
theorem node_good {n : Nat} {x : S68} {lev : Int} (h : okNode x = true) (hl : lev ≠ 1) (hb : ∀ z ∈ x.f2, isNum n z = true) : goodB n x lev = true := by
  unfold okNode at h
  cases hs : someKid x.f2 with
  | false => rw [hs, if_neg (by simp)] at h; cases h
  | true =>
    rw [hs, if_pos rfl] at h
    by_cases h4 : (x.f2.length : Int) = 4
    · rw [if_pos h4] at h
      unfold goodB
      have hbk : badKid n x.f2 = false := by
        cases hbb : badKid n x.f2 with
        | false => rfl
        | true =>
          obtain ⟨z, hz, e⟩ := List.any_eq_true.1 hbb
          rw [hb z hz] at e
          cases e
      rw [if_neg hl, if_pos (of_decide_eq_true h), if_pos h4, hbk, if_neg (by simp), hs]
    · rw [if_neg h4] at h; cases h
theorem deep_ok {V : List Int} {c v : List Int} (hv : Inv C roots L V [] c v) : ∀ (lev : Nat) (k : Int), RefOK C v (k, (lev : Int) + 1) → ∀ (seen : List Int), seen.length = C.length → ∃ s', deepM C (lev + 1) k seen = some (true, s') ∧ s'.length = C.length := by
  intro lev
  induction lev with
  | zero =>
    intro k hk seen hs
    rw [deepM]
    rcases hk with hk | ⟨h0, h1, h2, h3⟩
    · simp only at hk; rw [if_pos hk]; exact ⟨_, rfl, hs⟩
    simp only at h0 h1 h2 h3
    rw [if_neg (by omega), if_pos (by omega), if_pos (by omega)]
    dsimp only
    split
    · exact ⟨_, rfl, by simp [hs]⟩
    · have hg := (hv.good k ((hv.vl k h0 h1).1 (by rw [h2]; exact h3))).1
      rw [h2, show ((0 : Nat) : Int) + 1 = 1 by omega, good_leaf] at hg
      rw [if_pos rfl, hg]
      exact ⟨_, rfl, by simp [hs]⟩
  | succ m ih =>
    intro k hk seen hs
    rw [deepM]
    rcases hk with hk | ⟨h0, h1, h2, h3⟩
    · simp only at hk; rw [if_pos hk]; exact ⟨_, rfl, hs⟩
    simp only at h0 h1 h2 h3
    rw [if_neg (by omega), if_pos (by omega), if_pos (by omega)]
    dsimp only
    split
    · exact ⟨_, rfl, by simp [hs]⟩
    · rw [if_neg (by omega)]
      have hkV := (hv.vl k h0 h1).1 (by rw [h2]; exact h3)
      have hg := (hv.good k hkV).1
      obtain ⟨s2, e2, hl2⟩ := loopK_ok (F := deepM C (m + 1)) (ok := fun z => RefOK C v (z, (m : Int) + 1)) (fun z hz s hs => ih z hz s hs) (rd_T68 C k).f2 (seen.set k.toNat (wrap64 (rd seen k + 1))) (fun z hz => by
        rcases hv.kid k hkV z hz with e | e
        · rw [h2, show ((m + 1 : Nat) : Int) + 1 - 1 = (m : Int) + 1 by omega] at e
          exact e
        · cases e) (by simp [hs])
      rw [e2, Option.bind_some]
      simp only [if_true]
      rw [good_node hg (by rw [h2]; omega)]
      exact ⟨_, rfl, hl2⟩
theorem deep_num {m : Nat} : ∀ (ks seen s' : List Int), loopK (deepM C (m + 1)) ks seen = some (true, s') → ∀ z ∈ ks, isNum C.length z = true
  | [], _, _, _ => by simp
  | y :: r, seen, s', h => by
    simp only [loopK] at h
    obtain ⟨⟨b, s1⟩, e1, e2⟩ := Option.bind_eq_some_iff.1 h
    cases b with
    | false => simp at e2
    | true =>
      intro z hz
      rcases List.mem_cons.1 hz with rfl | hz
      · rw [deepM] at e1
        unfold isNum
        by_cases hk : z = -1
        · exact decide_eq_true (by omega)
        · rw [if_neg hk] at e1
          by_cases hin : 0 ≤ z ∧ z ≤ (C.length : Int) - 1
          · exact decide_eq_true (by omega)
          · rw [if_neg hin] at e1
            simp at e1
      · exact deep_num r s1 s' (by simpa using e2) z hz
end
end Go.Proofs.Ytacfalpgmibfnaa.PCow

/-! GoodCow, plain law: the specification's two searches in step. -/
namespace Go.Proofs.Ytacfalpgmibfnaa.PCow
open Go.RowKit Go.Proofs.YtacfalpgmibfnaaW.PrintWords Go.Proofs.YtacfalpgmibfnaaW.PrintLast Go.Proofs.YtacfalpgmibfnaaW.PrintMore Go.Proofs.Ytacfalpgmibfnaa.E
set_option linter.unusedSimpArgs false
set_option linter.unusedVariables false
section
variable {C : List S68} {roots : List Int} {L : Int}
def LockAt (C : List S68) (roots : List Int) (L : Int) (m : Nat) : Prop := ∀ (k : Int) (seen at_ : List Int) (P : List (Int × Int)) (V : List Int) (seen' : List Int), Inv C roots L V ((k, (m : Int) + 1) :: P) seen at_ → deepM C (m + 1) k seen = some (true, seen') →
  ∃ b at', levM C (m + 1) k at_ = some (b, at') ∧ (b = true → ∃ V', Inv C roots L V' P seen' at') ∧ (b = false → Bad C roots L)
theorem lock_loop {m : Nat} (ih : LockAt C roots L m) : ∀ (ks seen at_ : List Int) (P : List (Int × Int)) (V : List Int) (seen' : List Int), Inv C roots L V (ks.map (fun z => (z, (m : Int) + 1)) ++ P) seen at_ → loopK (deepM C (m + 1)) ks seen = some (true, seen') →
    ∃ b at', loopK (levM C (m + 1)) ks at_ = some (b, at') ∧ (b = true → ∃ V', Inv C roots L V' P seen' at') ∧ (b = false → Bad C roots L)
  | [], seen, at_, P, V, seen', hI, h => by
    simp only [loopK, Option.some.injEq, Prod.mk.injEq, true_and] at h
    subst h
    exact ⟨true, at_, rfl, fun _ => ⟨V, hI⟩, by simp⟩
  | z :: r, seen, at_, P, V, seen', hI, h => by
    simp only [loopK] at h
    obtain ⟨⟨b, s1⟩, e1, e2⟩ := Option.bind_eq_some_iff.1 h
    cases b with
    | false => simp at e2
    | true =>
      obtain ⟨b, a1, f1, f2, f3⟩ := ih z seen at_ (r.map (fun z => (z, (m : Int) + 1)) ++ P) V s1 hI e1
      cases b with
      | false => exact ⟨false, a1, by simp [loopK, f1], by simp, f3⟩
      | true =>
        obtain ⟨V1, hI1⟩ := f2 rfl
        obtain ⟨b, a2, g1, g2, g3⟩ := lock_loop ih r s1 a1 P V1 seen' hI1 (by simpa using e2)
        exact ⟨b, a2, by simp only [loopK, f1, Option.bind_some, if_true]; exact g1, g2, g3⟩
theorem lock (hL : 1 ≤ L) (hr : roots.length ≤ 1000) (hn : C.length ≤ 1000) : ∀ m : Nat, LockAt C roots L m := by
  intro m
  induction m with
  | zero =>
    intro k seen at_ P V seen' hI h
    rw [deepM] at h
    rw [levM]
    have hls := hI.lc
    have hla := hI.ll
    by_cases hk : k = -1
    · subst hk
      rw [if_pos rfl] at h ⊢
      simp only [Option.some.injEq, Prod.mk.injEq, true_and] at h
      subst h
      exact ⟨true, at_, rfl, fun _ => ⟨V, hI.skip⟩, by simp⟩
    by_cases hin : 0 ≤ k ∧ k ≤ (C.length : Int) - 1
    · have h0 : 0 ≤ k := hin.1
      have h1 : k < (C.length : Int) := by omega
      have hb := hI.bound k h0 h1
      rw [if_neg hk, if_pos hin, if_pos (by omega), w64 (by omega) (by omega)] at h
      dsimp only at h
      rw [if_neg hk, if_pos (by omega)]
      by_cases hV : k ∈ V
      · have p := (hI.pos k h0 h1).1 hV
        have p2 := (hI.vl k h0 h1).2 hV
        rw [if_pos (by omega)] at h
        simp only [Option.some.injEq, Prod.mk.injEq, true_and] at h
        subst h
        rw [if_neg p2]
        by_cases he : rd at_ k = ((0 : Nat) : Int) + 1
        · rw [if_pos he]
          exact ⟨true, at_, rfl, fun _ => ⟨V, hI.old h0 h1 he (by omega) rfl⟩, by simp⟩
        · rw [if_neg he]
          refine ⟨false, at_, rfl, by simp, fun _ V' c' v hv => ?_⟩
          rcases hI.refs hv (k, ((0 : Nat) : Int) + 1) (by simp) with e | ⟨_, _, e, _⟩
          · exact hk e
          · exact he ((hI.cons hv k hV).1.symm.trans e)
      · have p := (hI.pos k h0 h1).2 hV
        have p2 : rd at_ k = 0 := by
          by_cases e : rd at_ k = 0
          · exact e
          · exact absurd ((hI.vl k h0 h1).1 e) hV
        rw [if_neg (by omega), if_pos rfl] at h
        simp only [Option.some.injEq, Prod.mk.injEq] at h
        obtain ⟨hg, rfl⟩ := h
        rw [← good_leaf (n := C.length)] at hg
        have hk2 := (goodB_kids hg).2.1 rfl
        rw [if_pos p2, if_pos h1, hk2]
        refine ⟨true, _, rfl, fun _ => ⟨V ++ [k], ?_⟩, by simp⟩
        have := hI.new hL h0 h1 p2 (by simpa using hg) rfl
        unfold kidsOf at this
        rw [hk2] at this
        exact this
    · rw [if_neg hk, if_neg hin] at h
      simp at h
  | succ m ih =>
    intro k seen at_ P V seen' hI h
    rw [deepM] at h
    rw [levM]
    have hls := hI.lc
    have hla := hI.ll
    by_cases hk : k = -1
    · subst hk
      rw [if_pos rfl] at h ⊢
      simp only [Option.some.injEq, Prod.mk.injEq, true_and] at h
      subst h
      exact ⟨true, at_, rfl, fun _ => ⟨V, hI.skip⟩, by simp⟩
    by_cases hin : 0 ≤ k ∧ k ≤ (C.length : Int) - 1
    · have h0 : 0 ≤ k := hin.1
      have h1 : k < (C.length : Int) := by omega
      have hb := hI.bound k h0 h1
      rw [if_neg hk, if_pos hin, if_pos (by omega), w64 (by omega) (by omega)] at h
      dsimp only at h
      rw [if_neg hk, if_pos (by omega)]
      by_cases hV : k ∈ V
      · have p := (hI.pos k h0 h1).1 hV
        have p2 := (hI.vl k h0 h1).2 hV
        rw [if_pos (by omega)] at h
        simp only [Option.some.injEq, Prod.mk.injEq, true_and] at h
        subst h
        rw [if_neg p2]
        by_cases he : rd at_ k = ((m + 1 : Nat) : Int) + 1
        · rw [if_pos he]
          exact ⟨true, at_, rfl, fun _ => ⟨V, hI.old h0 h1 he (by omega) rfl⟩, by simp⟩
        · rw [if_neg he]
          refine ⟨false, at_, rfl, by simp, fun _ V' c' v hv => ?_⟩
          rcases hI.refs hv (k, ((m + 1 : Nat) : Int) + 1) (by simp) with e | ⟨_, _, e, _⟩
          · exact hk e
          · exact he ((hI.cons hv k hV).1.symm.trans e)
      · have p := (hI.pos k h0 h1).2 hV
        have p2 : rd at_ k = 0 := by
          by_cases e : rd at_ k = 0
          · exact e
          · exact absurd ((hI.vl k h0 h1).1 e) hV
        rw [if_neg (by omega), if_neg (by omega)] at h
        obtain ⟨⟨b1, s2⟩, e1, e2⟩ := Option.bind_eq_some_iff.1 h
        cases b1 with
        | false => simp at e2
        | true =>
          simp only [if_true, Option.some.injEq, Prod.mk.injEq] at e2
          obtain ⟨hnode, rfl⟩ := e2
          have hg := node_good (lev := ((m + 1 : Nat) : Int) + 1) hnode (by omega) (deep_num _ _ _ e1)
          rw [if_pos p2, if_pos h1]
          have hI2 := hI.new hL h0 h1 p2 hg rfl
          rw [show ((m + 1 : Nat) : Int) + 1 - 1 = (m : Int) + 1 by omega] at hI2
          exact lock_loop ih _ _ _ P _ _ hI2 e1
    · rw [if_neg hk, if_neg hin] at h
      simp at h
end
end Go.Proofs.Ytacfalpgmibfnaa.PCow

/-! GoodCow, plain law: the program's search, in line, against Inv. -/
namespace Go.Proofs.Ytacfalpgmibfnaa.PCow
open Go.RowKit Go.Proofs.YtacfalpgmibfnaaW.PrintWords Go.Proofs.YtacfalpgmibfnaaW.PrintLast Go.Proofs.YtacfalpgmibfnaaW.PrintMore Go.Proofs.Ytacfalpgmibfnaa.E
set_option linter.unusedSimpArgs false
set_option linter.unusedVariables false
section
variable {C : List S68} {roots : List Int} {L : Int}
def pend (C : List S68) (lev V : List Int) : List (Int × Int) := V.flatMap fun k => (kidsOf C k).map fun z => (z, rd lev k - 1)
theorem pend_congr {l l' : List Int} : ∀ V : List Int, (∀ k ∈ V, rd l k = rd l' k) → pend C l V = pend C l' V
  | [], _ => rfl
  | a :: r, h => by
    have h1 := pend_congr r (fun k hk => h k (by simp [hk]))
    unfold pend at h1 ⊢
    rw [List.flatMap_cons, List.flatMap_cons, h1, h a (by simp)]
theorem rd_mem {l : List Int} {i : Nat} (h : i < l.length) : rd l (i : Int) ∈ l := by
  unfold rd
  rw [List.getD_eq_getElem?_getD, Int.toNat_natCast, List.getElem?_eq_getElem h]
  exact List.getElem_mem h
theorem rd_app {l t : List Int} {i : Nat} (h : i < l.length) : rd (l ++ t) (i : Int) = rd l (i : Int) := by
  unfold rd
  rw [List.getD_eq_getElem?_getD, List.getD_eq_getElem?_getD, Int.toNat_natCast, List.getElem?_append_left h]
theorem refer_step (hL : 1 ≤ L) (hr : roots.length ≤ 1000) (hn : C.length ≤ 1000) {line cnt lev : List Int} {k own : Int} {Pre : List (Int × Int)} {i : Nat} (hi : i ≤ line.length)
    (hI : Inv C roots L line ((k, own) :: (Pre ++ pend C lev (line.drop i))) cnt lev) : ∃ b c l ln, referM C k own cnt lev line = (b, c, l, ln) ∧
      (b = true → Inv C roots L ln (Pre ++ pend C l (ln.drop i)) c l ∧ (∃ t, ln = line ++ t) ∧ ∀ j ∈ line, rd l j = rd lev j) ∧ (b = false → Bad C roots L) := by
  unfold referM
  by_cases hk : isNum C.length k = true
  · rw [if_pos hk]
    have hk' := of_decide_eq_true hk
    by_cases hneg : k < 0
    · rw [if_pos hneg]
      obtain rfl : k = -1 := by omega
      exact ⟨_, _, _, _, rfl, fun _ => ⟨hI.skip, ⟨[], by simp⟩, fun _ _ => rfl⟩, by simp⟩
    · rw [if_neg hneg]
      have h0 : 0 ≤ k := by omega
      have h1 : k < (C.length : Int) := by omega
      have hb := hI.bound k h0 h1
      obtain ⟨o1, o2⟩ := hI.range hL (k, own) (by simp)
      simp only at o1 o2
      rw [w64 (by omega) (by omega)]
      by_cases hz : rd lev k = 0
      · rw [if_pos hz]
        refine ⟨_, _, _, _, rfl, fun hg => ⟨?_, ⟨[k], rfl⟩, fun j hj => ?_⟩, fun hg V' c' v hv => ?_⟩
        · have hkl : k ∉ line := fun e => (hI.vl k h0 h1).2 e hz
          have hN := hI.new hL h0 h1 hz hg rfl
          refine hN.perm ?_
          have e1 : pend C (lev.set k.toNat own) ((line ++ [k]).drop i) = pend C lev (line.drop i) ++ (kidsOf C k).map (fun z => (z, own - 1)) := by
            rw [List.drop_append_of_le_length hi]
            have e2 := pend_congr (C := C) (l := lev.set k.toNat own) (l' := lev) (line.drop i) (fun j hj => rd_set_ne lev k j own h0 (hI.vin j (List.mem_of_mem_drop hj)).1 (fun e => hkl (e ▸ List.mem_of_mem_drop hj)))
            unfold pend at e2 ⊢
            rw [List.flatMap_append, e2, List.flatMap_cons, List.flatMap_nil, List.append_nil, rd_set_eq lev k own h0 (by have := hI.ll; omega)]
          rw [e1, ← List.append_assoc Pre]
          exact List.perm_append_comm
        · exact rd_set_ne lev k j own h0 (hI.vin j hj).1 (fun e => (hI.vl k h0 h1).2 (e ▸ hj) hz)
        · rcases hI.refs hv (k, own) (by simp) with e | ⟨_, _, e, e2⟩
          · simp only at e; omega
          · simp only at e e2
            have := (hv.good k ((hv.vl k h0 h1).1 (by rw [e]; exact e2))).1
            rw [e, hg] at this
            cases this
      · rw [if_neg hz]
        refine ⟨_, _, _, _, rfl, fun hg => ⟨hI.old h0 h1 (of_decide_eq_true hg) (by omega) rfl, ⟨[], by simp⟩, fun _ _ => rfl⟩, fun hg V' c' v hv => ?_⟩
        rcases hI.refs hv (k, own) (by simp) with e | ⟨_, _, e, e2⟩
        · simp only at e; omega
        · exact of_decide_eq_false hg ((hI.cons hv k ((hI.vl k h0 h1).1 hz)).1.symm.trans e)
  · rw [if_neg hk]
    refine ⟨_, _, _, _, rfl, by simp, fun _ V' c' v hv => hk ?_⟩
    unfold isNum
    rcases hI.refs hv (k, own) (by simp) with e | ⟨e0, e1, _, _⟩
    · simp only at e; exact decide_eq_true (by omega)
    · simp only at e0 e1; exact decide_eq_true (by omega)
theorem kids_loop (hL : 1 ≤ L) (hL3 : L ≤ 3) (hr : roots.length ≤ 1000) (hn : C.length ≤ 1000) {i : Nat} {kk own : Int} : ∀ (ks cnt lev line : List Int), Inv C roots L line (ks.map (fun z => (z, own)) ++ pend C lev (line.drop (i + 1))) cnt lev → i < line.length → rd line (i : Int) = kk → rd lev kk - 1 = own →
    ∃ b c l ln, loopS (kidF C (i : Int)) ks (cnt, lev, line) = some (b, (c, l, ln)) ∧ (b = true → Inv C roots L ln (pend C l (ln.drop (i + 1))) c l ∧ i < ln.length) ∧ (b = false → Bad C roots L)
  | [], cnt, lev, line, hI, hi, _, _ => ⟨true, cnt, lev, line, rfl, fun _ => ⟨hI, hi⟩, by simp⟩
  | z :: r, cnt, lev, line, hI, hi, hkk, hown => by
    have hlen := hI.len
    have hmem : kk ∈ line := by rw [← hkk]; exact rd_mem hi
    have hin := hI.vin kk hmem
    have hgd := hI.good kk hmem
    have hF : kidF C (i : Int) z (cnt, lev, line) = some (referM C z own cnt lev line) := by
      unfold kidF
      simp only
      rw [hkk, if_pos ⟨by omega, by omega, hin.1, hin.2⟩, w64 (by omega) (by omega), hown]
    obtain ⟨b, c, l, ln, e1, e2, e3⟩ := refer_step (Pre := r.map fun z => (z, own)) hL hr hn (by omega : i + 1 ≤ line.length) hI
    cases b with
    | false => exact ⟨false, c, l, ln, by simp [loopS, hF, e1], by simp, e3⟩
    | true =>
      obtain ⟨hI2, ⟨t, rfl⟩, hl⟩ := e2 rfl
      obtain ⟨b, c2, l2, ln2, f1, f2, f3⟩ := kids_loop hL hL3 hr hn (i := i) (kk := kk) (own := own) r c l (line ++ t) hI2 (by rw [List.length_append]; omega) (by rw [rd_app hi]; exact hkk) (by rw [hl kk hmem]; exact hown)
      exact ⟨b, c2, l2, ln2, by simp only [loopS, hF, e1, Option.bind_some, if_true]; exact f1, f2, f3⟩
theorem line_loop (hL : 1 ≤ L) (hL3 : L ≤ 3) (hr : roots.length ≤ 1000) (hn : C.length ≤ 1000) : ∀ (f i : Nat) (cnt lev line : List Int), Inv C roots L line (pend C lev (line.drop i)) cnt lev → i ≤ line.length → C.length + 1 ≤ f + i →
    ∃ b c l ln, lineM C f i (cnt, lev, line) = some (b, (c, l, ln)) ∧ (b = true → Inv C roots L ln [] c l) ∧ (b = false → Bad C roots L)
  | 0, i, cnt, lev, line, hI, hi, hf => by have := hI.len; omega
  | f + 1, i, cnt, lev, line, hI, hi, hf => by
    have hlen := hI.len
    unfold lineM
    by_cases hil : (i : Int) < (line.length : Int)
    · have hil' : i < line.length := by omega
      obtain ⟨kk, hkk⟩ : ∃ kk, rd line (i : Int) = kk := ⟨_, rfl⟩
      have hmem : kk ∈ line := by rw [← hkk]; exact rd_mem hil'
      have hin := hI.vin kk hmem
      have hd : line.drop i = kk :: line.drop (i + 1) := by
        rw [List.drop_eq_getElem_cons hil', ← hkk]
        congr 1
        unfold rd
        rw [List.getD_eq_getElem?_getD, Int.toNat_natCast, List.getElem?_eq_getElem hil']
        rfl
      simp only
      rw [if_pos hil, hkk, if_pos ⟨by omega, hin.1, hin.2⟩]
      have hI2 : Inv C roots L line ((kidsOf C kk).map (fun z => (z, rd lev kk - 1)) ++ pend C lev (line.drop (i + 1))) cnt lev := by
        rw [hd] at hI
        exact hI
      obtain ⟨b, c, l, ln, e1, e2, e3⟩ := kids_loop hL hL3 hr hn (i := i) (kk := kk) (own := rd lev kk - 1) (kidsOf C kk) cnt lev line hI2 hil' hkk rfl
      unfold kidsOf at e1
      rw [e1, Option.bind_some]
      cases b with
      | false => exact ⟨false, c, l, ln, by simp, by simp, e3⟩
      | true =>
        obtain ⟨hI3, hi3⟩ := e2 rfl
        simp only [if_true]
        exact line_loop hL hL3 hr hn f (i + 1) c l ln hI3 (by omega) (by omega)
    · simp only
      rw [if_neg hil]
      rw [List.drop_of_length_le (by omega)] at hI
      exact ⟨true, cnt, lev, line, rfl, fun _ => hI, by simp⟩
theorem roots_loop (hL : 1 ≤ L) (hr : roots.length ≤ 1000) (hn : C.length ≤ 1000) : ∀ (rs cnt lev line : List Int), Inv C roots L line (rs.map (fun z => (z, L)) ++ pend C lev (line.drop 0)) cnt lev →
    ∃ b c l ln, loopS (rootF C L) rs (cnt, lev, line) = some (b, (c, l, ln)) ∧ (b = true → Inv C roots L ln (pend C l (ln.drop 0)) c l) ∧ (b = false → Bad C roots L)
  | [], cnt, lev, line, hI => ⟨true, cnt, lev, line, rfl, fun _ => hI, by simp⟩
  | z :: r, cnt, lev, line, hI => by
    have hlen := hI.len
    have hF : rootF C L z (cnt, lev, line) = some (referM C z L cnt lev line) := by
      unfold rootF
      simp only
      rw [if_pos (by omega)]
    obtain ⟨b, c, l, ln, e1, e2, e3⟩ := refer_step (Pre := r.map fun z => (z, L)) hL hr hn (Nat.zero_le _) hI
    cases b with
    | false => exact ⟨false, c, l, ln, by simp [loopS, hF, e1], by simp, e3⟩
    | true =>
      obtain ⟨hI2, _, _⟩ := e2 rfl
      obtain ⟨b, c2, l2, ln2, f1, f2, f3⟩ := roots_loop hL hr hn r c l ln hI2
      exact ⟨b, c2, l2, ln2, by simp only [loopS, hF, e1, Option.bind_some, if_true]; exact f1, f2, f3⟩
theorem impl_out (hL : 1 ≤ L) (hL3 : L ≤ 3) (hn : C.length ≤ 80) (hr1 : 1 ≤ (roots.length : Int)) (hr8 : (roots.length : Int) ≤ 8) :
    (∃ V c v, Inv C roots L V [] c v ∧ goodC 100 C roots L = some (endM C c C.length 0)) ∨ (Bad C roots L ∧ goodC 100 C roots L = some false) := by
  unfold goodC
  rw [if_pos (by unfold inR; exact decide_eq_true ⟨hL, hL3⟩), if_neg (by omega), if_pos (by unfold inR; exact decide_eq_true ⟨hr1, hr8⟩)]
  have h0 : Inv C roots L [] (roots.map (fun z => (z, L)) ++ pend C (List.replicate C.length 0) (([] : List Int).drop 0)) (List.replicate C.length 0) (List.replicate C.length 0) := by
    have := Inv.start (C := C) (roots := roots) hL
    simpa [pend] using this
  obtain ⟨b, c, l, ln, e1, e2, e3⟩ := roots_loop hL (by omega) (by omega) roots _ _ [] h0
  rw [e1, Option.bind_some]
  cases b with
  | false => exact .inr ⟨e3 rfl, by simp⟩
  | true =>
    obtain ⟨b, c2, l2, ln2, f1, f2, f3⟩ := line_loop hL hL3 (by omega) (by omega) 100 0 c l ln (e2 rfl) (Nat.zero_le _) (by omega)
    simp only [if_true]
    rw [f1, Option.bind_some]
    cases b with
    | false => exact .inr ⟨f3 rfl, by simp⟩
    | true => exact .inl ⟨ln2, c2, l2, f2 rfl, by simp⟩
theorem loopK_refs {m : Nat} {V : List Int} {c v : List Int} (hv : Inv C roots ((m : Int) + 1) V [] c v) : ∃ s', loopK (deepM C (m + 1)) roots (List.replicate C.length 0) = some (true, s') := by
  obtain ⟨s', e, _⟩ := loopK_ok (F := deepM C (m + 1)) (ok := fun z => RefOK C v (z, (m : Int) + 1)) (n := C.length) (fun z hz s hs => deep_ok hv m z hz s hs) roots (List.replicate C.length 0) (fun z hz => by
    rcases hv.rts z hz with e | e
    · exact e
    · cases e) (by simp)
  exact ⟨s', e⟩
end
end Go.Proofs.Ytacfalpgmibfnaa.PCow

/-! GoodCow, plain law: what the specification's two searches answer. -/
namespace Go.Proofs.Ytacfalpgmibfnaa.PCow
open Go.RowKit Go.Proofs.YtacfalpgmibfnaaW.PrintWords Go.Proofs.YtacfalpgmibfnaaW.PrintLast Go.Proofs.YtacfalpgmibfnaaW.PrintMore Go.Proofs.Ytacfalpgmibfnaa.E
set_option linter.unusedSimpArgs false
set_option linter.unusedVariables false
section
variable {C : List S68} {roots : List Int}
theorem spec_out (m : Nat) (hn : C.length ≤ 80) (hr8 : (roots.length : Int) ≤ 8) :
    (∃ V c v, Inv C roots ((m : Int) + 1) V [] c v ∧ loopK (deepM C (m + 1)) roots (List.replicate C.length 0) = some (true, c) ∧ loopK (levM C (m + 1)) roots (List.replicate C.length 0) = some (true, v)) ∨
    (Bad C roots ((m : Int) + 1) ∧ ((∃ s, loopK (deepM C (m + 1)) roots (List.replicate C.length 0) = some (false, s)) ∨ ∃ s a, loopK (deepM C (m + 1)) roots (List.replicate C.length 0) = some (true, s) ∧ loopK (levM C (m + 1)) roots (List.replicate C.length 0) = some (false, a))) := by
  obtain ⟨b, s, e, _⟩ := loopK_tot (F := deepM C (m + 1)) (n := C.length) (deep_tot C m) roots (List.replicate C.length 0) (by simp)
  cases b with
  | false =>
    refine .inr ⟨fun V c v hv => ?_, .inl ⟨s, e⟩⟩
    obtain ⟨s', e'⟩ := loopK_refs hv
    rw [e] at e'
    cases e'
  | true =>
    have h0 := Inv.start (C := C) (roots := roots) (L := (m : Int) + 1) (by omega)
    obtain ⟨b, a, f1, f2, f3⟩ := lock_loop (lock (C := C) (roots := roots) (L := (m : Int) + 1) (by omega) (by omega) (by omega) m) roots _ _ [] [] s (by simpa using h0) e
    cases b with
    | false => exact .inr ⟨f3 rfl, .inr ⟨s, a, e, f1⟩⟩
    | true =>
      obtain ⟨V', hI⟩ := f2 rfl
      exact .inl ⟨V', s, a, hI, e, f1⟩
/-- Both searches agree: either both finish, with the same counts, or both say no. -/
theorem cow_join (m : Nat) (hm : (m : Int) + 1 ≤ 3) (hn : C.length ≤ 80) (hr1 : 1 ≤ (roots.length : Int)) (hr8 : (roots.length : Int) ≤ 8) :
    (∃ c v, goodC 100 C roots ((m : Int) + 1) = some (endM C c C.length 0) ∧ c.length = C.length ∧ loopK (deepM C (m + 1)) roots (List.replicate C.length 0) = some (true, c) ∧ loopK (levM C (m + 1)) roots (List.replicate C.length 0) = some (true, v)) ∨
    (goodC 100 C roots ((m : Int) + 1) = some false ∧ ((∃ s, loopK (deepM C (m + 1)) roots (List.replicate C.length 0) = some (false, s)) ∨ ∃ s a, loopK (deepM C (m + 1)) roots (List.replicate C.length 0) = some (true, s) ∧ loopK (levM C (m + 1)) roots (List.replicate C.length 0) = some (false, a))) := by
  rcases impl_out (C := C) (roots := roots) (L := (m : Int) + 1) (by omega) hm hn hr1 hr8 with ⟨V, c, v, hI, e⟩ | ⟨hB, e⟩
  · rcases spec_out (C := C) (roots := roots) m hn hr8 with ⟨V', c', v', hI', e1, e2⟩ | ⟨hB, _⟩
    · obtain rfl := hI.unique hI'
      exact .inl ⟨c, v', e, hI.lc, e1, e2⟩
    · exact absurd hI (hB V c v)
  · rcases spec_out (C := C) (roots := roots) m hn hr8 with ⟨V', c', v', hI', e1, e2⟩ | ⟨_, h⟩
    · exact absurd hI' (hB V' c' v')
    · exact .inr ⟨e, h⟩
end
end Go.Proofs.Ytacfalpgmibfnaa.PCow

/-! GoodCow, plain law: the specification's loops, in rounds. -/
namespace Go.Proofs.Ytacfalpgmibfnaa.PCow
open Go.RowKit Go.Proofs.YtacfalpgmibfnaaW.PrintWords Go.Proofs.YtacfalpgmibfnaaW.PrintLast Go.Proofs.YtacfalpgmibfnaaW.PrintMore Go.Proofs.Ytacfalpgmibfnaa.E
set_option linter.unusedSimpArgs false
set_option linter.unusedVariables false
theorem l2_ev (C : List S68) (c : List Int) (hn : C.length ≤ 80) (hc : c.length = C.length) : ∀ f i : Nat, i + f = C.length → Ev (fun k => spec_GoodCow.l2 k c C (C.length : Int) (i : Int)) (endM C c f i) := by
  intro f
  induction f with
  | zero =>
    intro i hi
    exact Ev.step (fun _ => spec_GoodCow.l2.eq_2 ..) (ev_neg (by omega) (ev_ret rfl))
  | succ f ih =>
    intro i hi
    have h1 := ih (i + 1) (by omega)
    refine Ev.step (fun _ => spec_GoodCow.l2.eq_2 ..) (ev_pos (by omega) (ev_pos (by omega) (ev_pos (by omega) (ev_pos (by omega) ?_))))
    rw [w64 (x := (i : Int) + 1) (by omega) (by omega)]
    unfold endM okEnd
    by_cases q0 : (rd_T68 C (i : Int)).f0 = rd c (i : Int)
    · refine ev_pos q0 ?_
      rw [if_pos q0]
      by_cases q1 : (rd_T68 C (i : Int)).f0 = 0
      · refine ev_pos q1 ?_
        rw [if_pos q1]
        by_cases q2 : (rd_T68 C (i : Int)).f1.size = 0
        · refine ev_pos (ba_nil.2 q2) ?_
          rw [if_pos q2]
          by_cases q3 : (rd_T68 C (i : Int)).f2.length = 0
          · refine ev_neg (by omega) ?_
            rw [decide_eq_true q3, if_pos rfl]
            exact h1
          · refine ev_pos (by omega) ?_
            rw [decide_eq_false q3, if_neg (by simp)]
            exact ev_ret rfl
        · refine ev_neg (fun e => q2 (ba_nil.1 e)) ?_
          rw [if_neg q2, if_neg (by simp)]
          exact ev_ret rfl
      · refine ev_neg q1 ?_
        rw [if_neg q1, if_pos rfl]
        exact h1
    · refine ev_neg q0 ?_
      rw [if_neg q0, if_neg (by simp)]
      exact ev_ret rfl
theorem l1_ev (C : List S68) (roots s : List Int) (m : Nat) (hm : (m : Int) + 1 ≤ 3) (hn : C.length ≤ 80) (hs : s.length = C.length) (hr : (roots.length : Int) ≤ 8) : ∀ (f i : Nat) (at_ v : List Int) (b : Bool), i + f = roots.length → loopK (levM C (m + 1)) (roots.drop i) at_ = some (b, v) →
    Ev (fun k => spec_GoodCow.l1 k s at_ roots (roots.length : Int) (i : Int) C roots ((m : Int) + 1)) (if b = true then endM C s C.length 0 else false) := by
  intro f
  induction f with
  | zero =>
    intro i at_ v b hi h
    rw [List.drop_of_length_le (by omega)] at h
    simp only [loopK, Option.some.injEq, Prod.mk.injEq] at h
    obtain ⟨rfl, rfl⟩ := h
    exact Ev.step (fun _ => spec_GoodCow.l1.eq_2 ..) (ev_neg (by omega) (l2_ev C s hn hs C.length 0 (by omega)))
  | succ f ih =>
    intro i at_ v b hi h
    have hil : i < roots.length := by omega
    obtain ⟨z, hz⟩ : ∃ z, rd roots (i : Int) = z := ⟨_, rfl⟩
    have hd : roots.drop i = z :: roots.drop (i + 1) := by
      rw [List.drop_eq_getElem_cons hil, ← hz]
      congr 1
      unfold rd
      rw [List.getD_eq_getElem?_getD, Int.toNat_natCast, List.getElem?_eq_getElem hil]
      rfl
    rw [hd] at h
    simp only [loopK] at h
    obtain ⟨⟨b1, a1⟩, e1, e2⟩ := Option.bind_eq_some_iff.1 h
    refine Ev.step (fun _ => spec_GoodCow.l1.eq_2 ..) (ev_pos (by omega) (ev_pos (by omega) (ev_pos (by omega) (ev_bindc (a := (b1, a1)) ?_ ?_))))
    · unfold spec_l14Levels.f
      rw [if_pos (by omega), hz, show ((m : Int) + 1).toNat = m + 1 by omega]
      exact e1
    · rw [w64 (x := (i : Int) + 1) (by omega) (by omega)]
      dsimp only
      cases b1 with
      | true => exact ev_true rfl (ih (i + 1) a1 v b (by omega) (by simpa using e2))
      | false =>
        simp only [Bool.false_eq_true, if_false, Option.some.injEq, Prod.mk.injEq] at e2
        obtain ⟨rfl, rfl⟩ := e2
        exact ev_false rfl (ev_ret rfl)
theorem l0_ev (C : List S68) (roots : List Int) (m : Nat) (hm : (m : Int) + 1 ≤ 3) (hn : C.length ≤ 80) (hr : (roots.length : Int) ≤ 8) (r : Bool) : ∀ (f i : Nat) (seen s : List Int) (b : Bool), i + f = roots.length → loopK (deepM C (m + 1)) (roots.drop i) seen = some (b, s) →
    (b = true → Ev (fun k => spec_GoodCow.l1 k s (List.replicate C.length 0) roots (roots.length : Int) ((0 : Nat) : Int) C roots ((m : Int) + 1)) r) → (b = false → r = false) →
    Ev (fun k => spec_GoodCow.l0 k seen roots (roots.length : Int) (i : Int) C roots ((m : Int) + 1)) r := by
  intro f
  induction f with
  | zero =>
    intro i seen s b hi h hT hF
    rw [List.drop_of_length_le (by omega)] at h
    simp only [loopK, Option.some.injEq, Prod.mk.injEq] at h
    obtain ⟨rfl, rfl⟩ := h
    refine Ev.step (fun _ => spec_GoodCow.l0.eq_2 ..) (ev_neg (by omega) (ev_pos (by omega) (ev_pos (by omega) ?_)))
    rw [Int.toNat_natCast]
    exact hT rfl
  | succ f ih =>
    intro i seen s b hi h hT hF
    have hil : i < roots.length := by omega
    obtain ⟨z, hz⟩ : ∃ z, rd roots (i : Int) = z := ⟨_, rfl⟩
    have hd : roots.drop i = z :: roots.drop (i + 1) := by
      rw [List.drop_eq_getElem_cons hil, ← hz]
      congr 1
      unfold rd
      rw [List.getD_eq_getElem?_getD, Int.toNat_natCast, List.getElem?_eq_getElem hil]
      rfl
    rw [hd] at h
    simp only [loopK] at h
    obtain ⟨⟨b1, a1⟩, e1, e2⟩ := Option.bind_eq_some_iff.1 h
    refine Ev.step (fun _ => spec_GoodCow.l0.eq_2 ..) (ev_pos (by omega) (ev_pos (by omega) (ev_pos (by omega) (ev_bindc (a := (b1, a1)) ?_ ?_))))
    · unfold spec_l14Deep.f
      rw [if_pos (by omega), hz, show ((m : Int) + 1).toNat = m + 1 by omega]
      exact e1
    · rw [w64 (x := (i : Int) + 1) (by omega) (by omega)]
      dsimp only
      cases b1 with
      | true => exact ev_true rfl (ih (i + 1) a1 s b (by omega) (by simpa using e2) hT hF)
      | false =>
        simp only [Bool.false_eq_true, if_false, Option.some.injEq, Prod.mk.injEq] at e2
        obtain ⟨rfl, rfl⟩ := e2
        exact ev_false rfl (ev_ret (hF rfl).symm)
theorem in_dec (a b c : Int) : spec_l1In.f a b c = some (decide (b ≤ a ∧ a ≤ c)) := by
  unfold spec_l1In.f
  by_cases h : a ≥ b
  · rw [if_pos h]
    have h' : b ≤ a := h
    simp [h']
  · rw [if_neg h, decide_eq_false (by omega)]
theorem spec_impl (C : List S68) (roots : List Int) (L : Int) : ∃ b, Ev (fun k => spec_GoodCow.f k C roots L) b ∧ goodC 100 C roots L = some b := by
  unfold spec_GoodCow.f
  by_cases hL : 1 ≤ L ∧ L ≤ 3
  · have hiL : inR L 1 3 = true := by unfold inR; exact decide_eq_true hL
    by_cases h80 : (C.length : Int) > 80
    · refine ⟨false, ev_bindc (in_dec L 1 3) (ev_true (decide_eq_true hL) (ev_pos h80 (Ev.step (fun _ => spec_GoodCow.j0.eq_2 ..) (ev_pos rfl (ev_ret rfl))))), ?_⟩
      unfold goodC
      rw [if_pos hiL, if_pos h80]
    · by_cases hR : 1 ≤ (roots.length : Int) ∧ (roots.length : Int) ≤ 8
      · obtain ⟨m, hm⟩ : ∃ m : Nat, L = (m : Int) + 1 := ⟨(L - 1).toNat, by omega⟩
        subst hm
        have key : ∀ b, Ev (fun k => spec_GoodCow.l0 k (List.replicate C.length 0) roots (roots.length : Int) ((0 : Nat) : Int) C roots ((m : Int) + 1)) b → Ev (fun k => (spec_l1In.f ((m : Int) + 1) 1 3).bind fun t121 => (if t121 = true then (if (C.length : Int) > 80 then (spec_GoodCow.j0 k true C roots ((m : Int) + 1)) else ((spec_l1In.f (roots.length : Int) 1 8).bind fun t122 => (spec_GoodCow.j0 k (!t122) C roots ((m : Int) + 1)))) else (spec_GoodCow.j0 k true C roots ((m : Int) + 1)))) b := fun b hb => by
          refine ev_bindc (in_dec _ 1 3) (ev_true (decide_eq_true hL) (ev_neg h80 (ev_bindc (in_dec _ 1 8) ?_)))
          rw [decide_eq_true hR]
          refine Ev.step (fun _ => spec_GoodCow.j0.eq_2 ..) (ev_neg (by simp) (ev_pos (by omega) (ev_pos (by omega) ?_)))
          rw [Int.toNat_natCast]
          exact hb
        rcases cow_join (C := C) (roots := roots) m hL.2 (by omega) hR.1 hR.2 with ⟨c, v, e, hc, e1, e2⟩ | ⟨e, h⟩
        · exact ⟨_, key _ (l0_ev C roots m hL.2 (by omega) hR.2 _ roots.length 0 _ c true (by omega) (by rw [List.drop_zero]; exact e1) (fun _ => l1_ev C roots c m hL.2 (by omega) hc hR.2 roots.length 0 _ v true (by omega) (by rw [List.drop_zero]; exact e2)) (by simp)), e⟩
        · rcases h with ⟨s, e1⟩ | ⟨s, a, e1, e2⟩
          · exact ⟨false, key _ (l0_ev C roots m hL.2 (by omega) hR.2 _ roots.length 0 _ s false (by omega) (by rw [List.drop_zero]; exact e1) (by simp) (fun _ => rfl)), e⟩
          · obtain ⟨b', s', f1, f2⟩ := loopK_tot (F := deepM C (m + 1)) (n := C.length) (deep_tot C m) roots (List.replicate C.length 0) (by simp)
            rw [e1] at f1
            simp only [Option.some.injEq, Prod.mk.injEq] at f1
            obtain ⟨_, rfl⟩ := f1
            exact ⟨false, key _ (l0_ev C roots m hL.2 (by omega) hR.2 _ roots.length 0 _ s true (by omega) (by rw [List.drop_zero]; exact e1) (fun _ => l1_ev C roots s m hL.2 (by omega) f2 hR.2 roots.length 0 _ a false (by omega) (by rw [List.drop_zero]; exact e2)) (by simp)), e⟩
      · refine ⟨false, ev_bindc (in_dec L 1 3) (ev_true (decide_eq_true hL) (ev_neg h80 (ev_bindc (in_dec _ 1 8) ?_))), ?_⟩
        · rw [decide_eq_false hR]
          exact Ev.step (fun _ => spec_GoodCow.j0.eq_2 ..) (ev_pos rfl (ev_ret rfl))
        · unfold goodC
          rw [if_pos hiL, if_neg h80, if_neg (by unfold inR; rw [decide_eq_false hR]; simp)]
  · refine ⟨false, ev_bindc (in_dec L 1 3) (ev_false (decide_eq_false hL) (Ev.step (fun _ => spec_GoodCow.j0.eq_2 ..) (ev_pos rfl (ev_ret rfl)))), ?_⟩
    unfold goodC
    rw [if_neg (by unfold inR; rw [decide_eq_false hL]; simp)]
end Go.Proofs.Ytacfalpgmibfnaa.PCow

/-! What a good cow is, told once: its cells below a root lie in levels. No program here. -/
namespace Go.Proofs.Ytacfalpgmibfnaa.PCow
open Go.RowKit Go.Proofs.YtacfalpgmibfnaaW.PrintWords Go.Proofs.YtacfalpgmibfnaaW.PrintLast Go.Proofs.YtacfalpgmibfnaaW.PrintMore Go.Proofs.Ytacfalpgmibfnaa.E
set_option linter.unusedSimpArgs false
set_option linter.unusedVariables false
section
variable {C : List S68} {roots : List Int} {L : Int}
theorem good_tree (h : goodC 100 C roots L = some true) : 1 ≤ L ∧ L ≤ 3 ∧ C.length ≤ 80 ∧ 1 ≤ (roots.length : Int) ∧ (roots.length : Int) ≤ 8 ∧ ∃ V c v, Inv C roots L V [] c v ∧ endM C c C.length 0 = true := by
  have h' := h
  unfold goodC at h'
  by_cases hL : inR L 1 3 = true
  · rw [if_pos hL] at h'
    by_cases h80 : (C.length : Int) > 80
    · rw [if_pos h80] at h'; cases h'
    · rw [if_neg h80] at h'
      by_cases hR : inR (roots.length : Int) 1 8 = true
      · have hL2 := of_decide_eq_true hL
        have hR2 := of_decide_eq_true hR
        refine ⟨hL2.1, hL2.2, by omega, hR2.1, hR2.2, ?_⟩
        rcases impl_out (C := C) (roots := roots) hL2.1 hL2.2 (by omega) hR2.1 hR2.2 with ⟨V, c, v, hI, e⟩ | ⟨_, e⟩
        · rw [h] at e
          exact ⟨V, c, v, hI, (Option.some.inj e).symm⟩
        · rw [h] at e; cases e
      · rw [if_neg hR] at h'; cases h'
  · rw [if_neg hL] at h'; cases h'
theorem Inv.root {V c v : List Int} (h : Inv C roots L V [] c v) : ∀ r ∈ roots, RefOK C v (r, L) := fun r hr => (h.rts r hr).elim id (fun e => by cases e)
/-- The cell behind a reference of a level: its kids are references of the level below. -/
theorem Inv.below {V c v : List Int} (h : Inv C roots L V [] c v) {k : Int} {m : Nat} (hk : RefOK C v (k, (m : Int) + 1)) (hne : k ≠ -1) :
    0 ≤ k ∧ k < (C.length : Int) ∧ goodB C.length (rd_T68 C k) ((m : Int) + 1) = true ∧ (rd_T68 C k).f2.length ≤ 4 ∧ (m = 0 → (rd_T68 C k).f2 = []) ∧ (m ≠ 0 → (rd_T68 C k).f2.length = 4) ∧ ∀ z ∈ (rd_T68 C k).f2, RefOK C v (z, (m : Int)) := by
  rcases hk with e | ⟨h0, h1, h2, h3⟩
  · exact absurd e hne
  · simp only at h0 h1 h2 h3
    have hV : k ∈ V := (h.vl k h0 h1).1 (by omega)
    obtain ⟨g, g1, g2⟩ := h.good k hV
    rw [h2] at g
    obtain ⟨q1, q2, q3⟩ := goodB_kids g
    refine ⟨h0, h1, g, q1, fun e => q2 (by omega), fun e => ?_, fun z hz => ?_⟩
    · have := good_node g (by omega)
      unfold okNode at this
      split at this
      · split at this
        · omega
        · cases this
      · cases this
    · rcases h.kid k hV z hz with e | e
      · rw [h2, show (m : Int) + 1 - 1 = (m : Int) by omega] at e
        exact e
      · cases e
theorem RefOK.zero {v : List Int} {k : Int} (h : RefOK C v (k, ((0 : Nat) : Int))) : k = -1 := by
  rcases h with e | ⟨_, _, _, e⟩
  · exact e
  · exact absurd rfl e
theorem rd_getD {l : List Int} {i : Nat} (h : i < l.length) : rd l (i : Int) = l[i] := by
  unfold rd
  rw [List.getD_eq_getElem?_getD, Int.toNat_natCast, List.getElem?_eq_getElem h]
  rfl
end
theorem is_root (C : List S68) (roots : List Int) (L a : Int) (b : Bool) (hr : b = true → (roots.length : Int) ≤ 8) (h : goodC 100 C roots L = some b) : impl_isRoot.f C roots L a = some (b && decide (0 ≤ a ∧ a < (roots.length : Int))) := by
  unfold impl_isRoot.f impl_GoodCow.f
  rw [h, Option.bind_some]
  cases b with
  | false => rfl
  | true =>
    have := hr rfl
    rw [if_pos rfl, within_inR, w64 (by omega) (by omega)]
    unfold inR
    simp only [Option.bind_some, Bool.true_and, Option.some.injEq]
    rw [decide_eq_decide]
    omega
theorem in_root (a : Int) (roots : List Int) : (0 ≤ a ∧ a ≤ (roots.length : Int) - 1) ↔ (0 ≤ a ∧ a < (roots.length : Int)) := by omega
end Go.Proofs.Ytacfalpgmibfnaa.PCow
