/- The law FnExactPutLeaf answers true at all its arguments, and leaves them as they were; no condition. -/
import Derived.Test.YtacfalpgmibfnaaFPut6
import Derived.Test.YtacfalpgmibfnaaRows
import Derived.WalkKit
import Derived.ProofKit
import Derived.OpenShut
import Derived.ShutString
import Derived.ChangeOld
import Derived.Below
import Derived.SizedLaws
namespace Go.Proofs.Ytacfalpgmibfnaa.PCow
open Go.RowKit Go.Proofs.YtacfalpgmibfnaaW.PrintWords Go.Proofs.YtacfalpgmibfnaaW.PrintLast Go.Proofs.YtacfalpgmibfnaaW.PrintMore Go.Proofs.Ytacfalpgmibfnaa.E
set_option linter.unusedSimpArgs false
set_option linter.unusedVariables false
theorem rd_set_eq (l : List Int) (k x : Int) (h0 : 0 ≤ k) (h1 : k < (l.length : Int)) : rd (l.set k.toNat x) k = x := by
  unfold rd
  rw [List.getD_eq_getElem?_getD, List.getElem?_set, if_pos rfl, if_pos (by omega)]
  rfl
theorem rd_set_ne (l : List Int) (k j x : Int) (h0 : 0 ≤ k) (h1 : 0 ≤ j) (hne : j ≠ k) : rd (l.set k.toNat x) j = rd l j := by
  unfold rd
  rw [List.getD_eq_getElem?_getD, List.getElem?_set, if_neg (by omega), List.getD_eq_getElem?_getD]
theorem ext_rd (a b : List Int) (n : Nat) (ha : a.length = n) (hb : b.length = n) (h : ∀ k : Int, 0 ≤ k → k < (n : Int) → rd a k = rd b k) : a = b := by
  refine List.ext_getElem (by omega) (fun i h1 h2 => ?_)
  have := h (i : Int) (by omega) (by omega)
  unfold rd at this
  rw [List.getD_eq_getElem?_getD, List.getD_eq_getElem?_getD, Int.toNat_natCast, List.getElem?_eq_getElem h1, List.getElem?_eq_getElem h2] at this
  exact this
theorem nodup_len : ∀ (n : Nat) (V : List Int), V.Nodup → (∀ k ∈ V, 0 ≤ k ∧ k < (n : Int)) → V.length ≤ n
  | 0, V, _, h => by
    cases V with
    | nil => simp
    | cons a r => have := h a (by simp); omega
  | n + 1, V, hd, h => by
    by_cases hm : (n : Int) ∈ V
    · have h1 := nodup_len n (V.erase (n : Int)) (hd.erase _) (fun k hk => by
        have h2 := (List.Nodup.mem_erase_iff hd).1 hk
        have h3 := h k h2.2
        have h4 := h2.1
        omega)
      have h2 := List.length_erase_of_mem hm
      omega
    · have h1 := nodup_len n V hd (fun k hk => by
        have h3 := h k hk
        have h4 : k ≠ (n : Int) := fun e => hm (e ▸ hk)
        omega)
      omega
theorem flat_len (f : Int → List Int) : ∀ V : List Int, (∀ k ∈ V, (f k).length ≤ 4) → (V.flatMap f).length ≤ 4 * V.length
  | [], _ => by simp
  | a :: r, h => by
    have h1 := flat_len f r (fun k hk => h k (by simp [hk]))
    have h2 := h a (by simp)
    rw [List.flatMap_cons, List.length_append, List.length_cons]
    omega
theorem goodB_kids {n : Nat} {x : S68} {lev : Int} (h : goodB n x lev = true) : x.f2.length ≤ 4 ∧ (lev = 1 → x.f2 = []) ∧ ∀ z ∈ x.f2, isNum n z = true := by
  unfold goodB at h
  split at h
  · split at h
    · have h1 : x.f2 = [] := List.length_eq_zero_iff.1 (of_decide_eq_true h)
      rw [h1]
      simp
    · cases h
  · rename_i hl
    split at h
    · split at h
      · rename_i h4
        split at h
        · cases h
        · rename_i hb
          refine ⟨by omega, fun e => absurd e hl, fun z hz => ?_⟩
          cases hi : isNum n z with
          | true => rfl
          | false => exact absurd (List.any_eq_true.2 ⟨z, hz, by simp [hi]⟩) hb
      · cases h
    · cases h
def kidsOf (C : List S68) (k : Int) : List Int := (rd_T68 C k).f2
def RefOK (C : List S68) (v : List Int) (q : Int × Int) : Prop := q.1 = -1 ∨ (0 ≤ q.1 ∧ q.1 < (C.length : Int) ∧ rd v q.1 = q.2 ∧ q.2 ≠ 0)
structure Inv (C : List S68) (roots : List Int) (L : Int) (V : List Int) (P : List (Int × Int)) (cnt lev : List Int) : Prop where
  lc : cnt.length = C.length
  ll : lev.length = C.length
  nd : V.Nodup
  vin : ∀ k ∈ V, 0 ≤ k ∧ k < (C.length : Int)
  vl : ∀ k, 0 ≤ k → k < (C.length : Int) → (rd lev k ≠ 0 ↔ k ∈ V)
  good : ∀ k ∈ V, goodB C.length (rd_T68 C k) (rd lev k) = true ∧ 1 ≤ rd lev k ∧ rd lev k ≤ L
  kid : ∀ k ∈ V, ∀ z ∈ kidsOf C k, RefOK C lev (z, rd lev k - 1) ∨ (z, rd lev k - 1) ∈ P
  rts : ∀ r ∈ roots, RefOK C lev (r, L) ∨ (r, L) ∈ P
  wit : ∀ k ∈ V, (k ∈ roots ∧ rd lev k = L) ∨ ∃ p ∈ V, rd lev p = rd lev k + 1 ∧ k ∈ kidsOf C p
  pwit : ∀ q ∈ P, (q.1 ∈ roots ∧ q.2 = L) ∨ ∃ p ∈ V, q.2 = rd lev p - 1 ∧ q.1 ∈ kidsOf C p
  cnts : ∀ k, 0 ≤ k → k < (C.length : Int) → rd cnt k + ((P.map Prod.fst).count k : Int) = (roots.count k : Int) + ((V.flatMap (kidsOf C)).count k : Int)
  pos : ∀ k, 0 ≤ k → k < (C.length : Int) → (k ∈ V → 1 ≤ rd cnt k) ∧ (k ∉ V → rd cnt k = 0)
section
variable {C : List S68} {roots : List Int} {L : Int} {V V' : List Int} {P P' : List (Int × Int)} {c l c' v : List Int} {k o x : Int}
theorem Inv.range (h : Inv C roots L V P c l) (hL : 1 ≤ L) : ∀ q ∈ P, 1 ≤ q.2 ∧ q.2 ≤ L := by
  intro q hq
  rcases h.pwit q hq with ⟨_, e⟩ | ⟨p, hp, e, hz⟩
  · omega
  · obtain ⟨g, l1, l2⟩ := h.good p hp
    by_cases e1 : rd l p = 1
    · have := (goodB_kids g).2.1 e1
      unfold kidsOf at hz
      rw [this] at hz
      cases hz
    · omega
theorem Inv.perm (h : Inv C roots L V P c l) (hp : P.Perm P') : Inv C roots L V P' c l :=
  ⟨h.lc, h.ll, h.nd, h.vin, h.vl, h.good, fun k hk z hz => (h.kid k hk z hz).imp id hp.mem_iff.1, fun r hr => (h.rts r hr).imp id hp.mem_iff.1, h.wit, fun q hq => h.pwit q (hp.mem_iff.2 hq),
    fun k h0 h1 => by rw [← (hp.map Prod.fst).count_eq]; exact h.cnts k h0 h1, h.pos⟩
theorem Inv.skip (h : Inv C roots L V ((-1, o) :: P) c l) : Inv C roots L V P c l := by
  have hm : ∀ q : Int × Int, q ∈ (-1, o) :: P → RefOK C l q ∨ q ∈ P := fun q hq => by
    rcases List.mem_cons.1 hq with e | e
    · exact .inl (.inl (by rw [e]))
    · exact .inr e
  refine ⟨h.lc, h.ll, h.nd, h.vin, h.vl, h.good, fun k hk z hz => (h.kid k hk z hz).elim .inl (hm _), fun r hr => (h.rts r hr).elim .inl (hm _), h.wit, fun q hq => h.pwit q (List.mem_cons_of_mem _ hq), fun k h0 h1 => ?_, h.pos⟩
  have := h.cnts k h0 h1
  rw [List.map_cons, List.count_cons_of_ne (by show (-1 : Int) ≠ k; omega)] at this
  exact this
theorem Inv.old (h : Inv C roots L V ((k, o) :: P) c l) (h0 : 0 ≤ k) (h1 : k < (C.length : Int)) (hk : rd l k = o) (ho : o ≠ 0) (hx : x = rd c k + 1) : Inv C roots L V P (c.set k.toNat x) l := by
  have hm : ∀ q : Int × Int, q ∈ (k, o) :: P → RefOK C l q ∨ q ∈ P := fun q hq => by
    rcases List.mem_cons.1 hq with e | e
    · exact .inl (.inr (by rw [e]; exact ⟨h0, h1, hk, ho⟩))
    · exact .inr e
  have hkV : k ∈ V := (h.vl k h0 h1).1 (by rw [hk]; exact ho)
  have hlc := h.lc
  refine ⟨by rw [List.length_set]; exact h.lc, h.ll, h.nd, h.vin, h.vl, h.good, fun k hk z hz => (h.kid k hk z hz).elim .inl (hm _), fun r hr => (h.rts r hr).elim .inl (hm _), h.wit, fun q hq => h.pwit q (List.mem_cons_of_mem _ hq), fun j j0 j1 => ?_, fun j j0 j1 => ?_⟩
  · have := h.cnts j j0 j1
    by_cases e : j = k
    · subst e
      rw [List.map_cons, List.count_cons_self] at this
      rw [rd_set_eq c j x h0 (by omega), hx]
      omega
    · rw [List.map_cons, List.count_cons_of_ne (by show k ≠ j; omega)] at this
      rw [rd_set_ne c k j x h0 j0 e]
      exact this
  · by_cases e : j = k
    · subst e
      rw [rd_set_eq c j x h0 (by omega)]
      have := (h.pos j j0 j1).1 hkV
      exact ⟨fun _ => by omega, fun e => absurd hkV e⟩
    · rw [rd_set_ne c k j x h0 j0 e]
      exact h.pos j j0 j1
theorem Inv.new (h : Inv C roots L V ((k, o) :: P) c l) (hL : 1 ≤ L) (h0 : 0 ≤ k) (h1 : k < (C.length : Int)) (hk : rd l k = 0) (hg : goodB C.length (rd_T68 C k) o = true) (hx : x = rd c k + 1) :
    Inv C roots L (V ++ [k]) ((kidsOf C k).map (fun z => (z, o - 1)) ++ P) (c.set k.toNat x) (l.set k.toNat o) := by
  have hkV : k ∉ V := fun e => (h.vl k h0 h1).2 e hk
  obtain ⟨o1, o2⟩ := h.range hL (k, o) (by simp)
  simp only at o1 o2
  have hlc := h.lc
  have hll := h.ll
  have ek : rd (l.set k.toNat o) k = o := rd_set_eq l k o h0 (by omega)
  have ej : ∀ j ∈ V, rd (l.set k.toNat o) j = rd l j := fun j hj => rd_set_ne l k j o h0 (h.vin j hj).1 (fun e => hkV (e ▸ hj))
  have hmono : ∀ q, RefOK C l q → RefOK C (l.set k.toNat o) q := by
    rintro q (e | ⟨e0, e1, e2, e3⟩)
    · exact .inl e
    · refine .inr ⟨e0, e1, ?_, e3⟩
      rw [rd_set_ne l k q.1 o h0 e0 (fun e => e3 (by rw [← e2, e]; exact hk))]
      exact e2
  have hm : ∀ q : Int × Int, (RefOK C l q ∨ q ∈ (k, o) :: P) → RefOK C (l.set k.toNat o) q ∨ q ∈ (kidsOf C k).map (fun z => (z, o - 1)) ++ P := by
    rintro q (hq | hq)
    · exact .inl (hmono q hq)
    · rcases List.mem_cons.1 hq with e | e
      · exact .inl (.inr (by rw [e]; exact ⟨h0, h1, ek, by show o ≠ 0; omega⟩))
      · exact .inr (List.mem_append_right _ e)
  refine ⟨by rw [List.length_set]; exact h.lc, by rw [List.length_set]; exact h.ll, (List.perm_append_singleton k V).nodup_iff.2 (List.nodup_cons.2 ⟨hkV, h.nd⟩), fun j hj => ?_, fun j j0 j1 => ?_, fun j hj => ?_, fun j hj z hz => ?_, fun r hr => hm _ (h.rts r hr), fun j hj => ?_, fun q hq => ?_, fun j j0 j1 => ?_, fun j j0 j1 => ?_⟩
  · rcases List.mem_append.1 hj with e | e
    · exact h.vin j e
    · obtain rfl := List.mem_singleton.1 e
      exact ⟨h0, h1⟩
  · by_cases e : j = k
    · subst e
      rw [ek]
      exact ⟨fun _ => by simp, fun _ => by omega⟩
    · rw [rd_set_ne l k j o h0 j0 e, h.vl j j0 j1]
      simp [e]
  · rcases List.mem_append.1 hj with e | e
    · rw [ej j e]; exact h.good j e
    · obtain rfl := List.mem_singleton.1 e
      rw [ek]; exact ⟨hg, o1, o2⟩
  · rcases List.mem_append.1 hj with e | e
    · rw [ej j e]; exact hm _ (h.kid j e z hz)
    · obtain rfl := List.mem_singleton.1 e
      rw [ek]; exact .inr (List.mem_append_left _ (List.mem_map.2 ⟨z, hz, rfl⟩))
  · rcases List.mem_append.1 hj with e | e
    · rw [ej j e]
      rcases h.wit j e with e1 | ⟨p, hp, e2, e3⟩
      · exact .inl e1
      · exact .inr ⟨p, List.mem_append_left _ hp, by rw [ej p hp]; exact e2, e3⟩
    · obtain rfl := List.mem_singleton.1 e
      rw [ek]
      rcases h.pwit (j, o) (by simp) with e1 | ⟨p, hp, e2, e3⟩
      · exact .inl e1
      · exact .inr ⟨p, List.mem_append_left _ hp, by rw [ej p hp]; simp only at e2; omega, e3⟩
  · rcases List.mem_append.1 hq with e | e
    · obtain ⟨z, hz, rfl⟩ := List.mem_map.1 e
      exact .inr ⟨k, by simp, by rw [ek], hz⟩
    · rcases h.pwit q (List.mem_cons_of_mem _ e) with e1 | ⟨p, hp, e2, e3⟩
      · exact .inl e1
      · exact .inr ⟨p, List.mem_append_left _ hp, by rw [ej p hp]; exact e2, e3⟩
  · have := h.cnts j j0 j1
    have hmm : ((kidsOf C k).map (fun z => (z, o - 1))).map Prod.fst = kidsOf C k := by rw [List.map_map]; exact List.map_id _
    rw [List.map_append, List.count_append, hmm, List.flatMap_append, List.count_append, List.flatMap_cons, List.flatMap_nil, List.append_nil]
    by_cases e : j = k
    · subst e
      rw [List.map_cons, List.count_cons_self] at this
      rw [rd_set_eq c j x h0 (by omega), hx]
      omega
    · rw [List.map_cons, List.count_cons_of_ne (by show k ≠ j; omega)] at this
      rw [rd_set_ne c k j x h0 j0 e]
      omega
  · by_cases e : j = k
    · subst e
      rw [rd_set_eq c j x h0 (by omega), hx, (h.pos j j0 j1).2 hkV]
      exact ⟨fun _ => by omega, fun e => absurd (by simp) e⟩
    · rw [rd_set_ne c k j x h0 j0 e]
      have := h.pos j j0 j1
      simpa [e] using this
theorem Inv.cons (h : Inv C roots L V P c l) (hv : Inv C roots L V' [] c' v) : ∀ k ∈ V, rd v k = rd l k ∧ k ∈ V' := by
  have key : ∀ m : Nat, ∀ k ∈ V, L - rd l k ≤ (m : Int) → rd v k = rd l k ∧ k ∈ V' := by
    have root : ∀ k ∈ V, k ∈ roots → rd l k = L → rd v k = rd l k ∧ k ∈ V' := fun k hk hr e => by
      have hin := h.vin k hk
      rcases hv.rts k hr with (e1 | ⟨_, _, e2, e3⟩) | e1
      · simp only at e1; omega
      · simp only at e2 e3
        exact ⟨e2.trans e.symm, (hv.vl k hin.1 hin.2).1 (by rw [e2]; exact e3)⟩
      · cases e1
    have par : ∀ k ∈ V, ∀ p, rd l p = rd l k + 1 → k ∈ kidsOf C p → (rd v p = rd l p ∧ p ∈ V') → rd v k = rd l k ∧ k ∈ V' := fun k hk p e hz hp => by
      have hin := h.vin k hk
      rcases hv.kid p hp.2 k hz with (e1 | ⟨_, _, e2, e3⟩) | e1
      · simp only at e1; omega
      · simp only at e2 e3
        exact ⟨by rw [e2, hp.1]; omega, (hv.vl k hin.1 hin.2).1 (by rw [e2]; exact e3)⟩
      · cases e1
    intro m
    induction m with
    | zero =>
      intro k hk hm
      rcases h.wit k hk with ⟨hr, e⟩ | ⟨p, hp, e, hz⟩
      · exact root k hk hr e
      · have := (h.good p hp).2.2
        omega
    | succ m ih =>
      intro k hk hm
      rcases h.wit k hk with ⟨hr, e⟩ | ⟨p, hp, e, hz⟩
      · exact root k hk hr e
      · exact par k hk p e hz (ih p hp (by omega))
  intro k hk
  exact key (L - rd l k).toNat k hk (by omega)
theorem Inv.refs (h : Inv C roots L V P c l) (hv : Inv C roots L V' [] c' v) : ∀ q ∈ P, RefOK C v q := by
  intro q hq
  rcases h.pwit q hq with ⟨e1, e2⟩ | ⟨p, hp, e1, e2⟩
  · rcases hv.rts q.1 e1 with e | e
    · rw [← e2] at e; exact e
    · cases e
  · obtain ⟨f1, f2⟩ := h.cons hv p hp
    rcases hv.kid p f2 q.1 e2 with e | e
    · rw [f1, ← e1] at e; exact e
    · cases e
theorem Inv.unique (h : Inv C roots L V [] c l) (hv : Inv C roots L V' [] c' v) : c = c' := by
  have hp : V.Perm V' := (List.perm_ext_iff_of_nodup h.nd hv.nd).2 (fun k => ⟨fun hk => (h.cons hv k hk).2, fun hk => (hv.cons h k hk).2⟩)
  refine ext_rd c c' C.length h.lc hv.lc (fun k h0 h1 => ?_)
  have e1 := h.cnts k h0 h1
  have e2 := hv.cnts k h0 h1
  rw [(hp.flatMap_right (kidsOf C)).count_eq] at e1
  simp only [List.map_nil, List.count_nil] at e1 e2
  omega
theorem Inv.len (h : Inv C roots L V P c l) : V.length ≤ C.length := nodup_len _ V h.nd h.vin
theorem Inv.bound (h : Inv C roots L V P c l) (k : Int) (h0 : 0 ≤ k) (h1 : k < (C.length : Int)) : 0 ≤ rd c k ∧ rd c k ≤ (roots.length : Int) + 4 * (C.length : Int) := by
  have e1 := h.cnts k h0 h1
  have e2 := h.len
  have e3 := flat_len (kidsOf C) V (fun k hk => (goodB_kids (h.good k hk).1).1)
  have e4 : (V.flatMap (kidsOf C)).count k ≤ (V.flatMap (kidsOf C)).length := List.count_le_length
  have e5 : roots.count k ≤ roots.length := List.count_le_length
  have e6 := h.pos k h0 h1
  refine ⟨?_, by omega⟩
  by_cases hk : k ∈ V
  · have := e6.1 hk; omega
  · have := e6.2 hk; omega
theorem Inv.start (hL : 1 ≤ L) : Inv C roots L [] (roots.map fun r => (r, L)) (List.replicate C.length 0) (List.replicate C.length 0) := by
  have hz : ∀ k : Int, rd (List.replicate C.length 0) k = 0 := fun k => by
    unfold rd
    rw [List.getD_eq_getElem?_getD, List.getElem?_replicate]
    split <;> rfl
  refine ⟨by simp, by simp, by simp, by simp, fun k _ _ => by simp [hz], by simp, by simp, fun r hr => .inr (List.mem_map.2 ⟨r, hr, rfl⟩), by simp, fun q hq => ?_, fun k _ _ => ?_, fun k _ _ => by simp [hz]⟩
  · obtain ⟨r, hr, rfl⟩ := List.mem_map.1 hq
    exact .inl ⟨hr, rfl⟩
  · have : (roots.map fun r => (r, L)).map Prod.fst = roots := by rw [List.map_map]; exact List.map_id _
    rw [this, hz]
    simp
end
end Go.Proofs.Ytacfalpgmibfnaa.PCow
namespace Go.Proofs.Ytacfalpgmibfnaa.PCow
open Go.RowKit Go.Proofs.YtacfalpgmibfnaaW.PrintWords Go.Proofs.YtacfalpgmibfnaaW.PrintLast Go.Proofs.YtacfalpgmibfnaaW.PrintMore Go.Proofs.Ytacfalpgmibfnaa.E
set_option linter.unusedSimpArgs false
set_option linter.unusedVariables false
def Bad (C : List S68) (roots : List Int) (L : Int) : Prop := ∀ V c v, ¬ Inv C roots L V [] c v
theorem loopK_ok {F : Int → List Int → Option (Bool × List Int)} {ok : Int → Prop} {n : Nat} (hF : ∀ z, ok z → ∀ s : List Int, s.length = n → ∃ s', F z s = some (true, s') ∧ s'.length = n) :
    ∀ (ks : List Int) (s : List Int), (∀ z ∈ ks, ok z) → s.length = n → ∃ s', loopK F ks s = some (true, s') ∧ s'.length = n
  | [], s, _, hs => ⟨s, rfl, hs⟩
  | z :: r, s, h, hs => by
    obtain ⟨s1, e1, h1⟩ := hF z (h z (by simp)) s hs
    obtain ⟨s2, e2, h2⟩ := loopK_ok hF r s1 (fun y hy => h y (by simp [hy])) h1
    exact ⟨s2, by simp only [loopK, e1, Option.bind_some, if_true]; exact e2, h2⟩
theorem loopK_tot {F : Int → List Int → Option (Bool × List Int)} {n : Nat} (hF : ∀ z, ∀ s : List Int, s.length = n → ∃ b s', F z s = some (b, s') ∧ s'.length = n) :
    ∀ (ks : List Int) (s : List Int), s.length = n → ∃ b s', loopK F ks s = some (b, s') ∧ s'.length = n
  | [], s, hs => ⟨true, s, rfl, hs⟩
  | z :: r, s, hs => by
    obtain ⟨b, s1, e1, h1⟩ := hF z s hs
    cases b with
    | true =>
      obtain ⟨b2, s2, e2, h2⟩ := loopK_tot hF r s1 h1
      exact ⟨b2, s2, by simp only [loopK, e1, Option.bind_some, if_true]; exact e2, h2⟩
    | false => exact ⟨false, s1, by simp [loopK, e1], h1⟩
theorem deep_tot (C : List S68) : ∀ (lev : Nat) (k : Int) (seen : List Int), seen.length = C.length → ∃ b s', deepM C (lev + 1) k seen = some (b, s') ∧ s'.length = C.length := by
  intro lev
  induction lev with
  | zero =>
    intro k seen hs
    simp only [deepM]
    by_cases hk : k = -1
    · rw [if_pos hk]; exact ⟨_, _, rfl, hs⟩
    rw [if_neg hk]
    by_cases hin : 0 ≤ k ∧ k ≤ (C.length : Int) - 1
    · rw [if_pos hin, if_pos (by omega)]
      split
      · exact ⟨_, _, rfl, by simp [hs]⟩
      · exact ⟨_, _, rfl, by simp [hs]⟩
    · rw [if_neg hin]; exact ⟨_, _, rfl, hs⟩
  | succ m ih =>
    intro k seen hs
    rw [deepM]
    by_cases hk : k = -1
    · rw [if_pos hk]; exact ⟨_, _, rfl, hs⟩
    rw [if_neg hk]
    by_cases hin : 0 ≤ k ∧ k ≤ (C.length : Int) - 1
    · rw [if_pos hin, if_pos (by omega)]
      dsimp only
      split
      · exact ⟨_, _, rfl, by simp [hs]⟩
      · rw [if_neg (by omega)]
        obtain ⟨b, s2, e2, h2⟩ := loopK_tot (F := deepM C (m + 1)) ih (rd_T68 C k).f2 (seen.set k.toNat (wrap64 (rd seen k + 1))) (by simp [hs])
        rw [e2, Option.bind_some]
        cases b with
        | true => exact ⟨_, _, rfl, h2⟩
        | false => exact ⟨_, _, rfl, h2⟩
    · rw [if_neg hin]; exact ⟨_, _, rfl, hs⟩
section
variable {C : List S68} {roots : List Int} {L : Int}
theorem good_leaf {n : Nat} {x : S68} : goodB n x 1 = okLeaf x := by
  unfold goodB okLeaf
  rw [if_pos rfl]
  by_cases h : x.f2.length = 0 <;> by_cases h2 : 1 ≤ (x.f1.size : Int) ∧ (x.f1.size : Int) ≤ 8 <;> simp [h, h2]
theorem good_node {n : Nat} {x : S68} {lev : Int} (h : goodB n x lev = true) (hl : lev ≠ 1) : okNode x = true := by
  unfold goodB at h
  rw [if_neg hl] at h
  unfold okNode
  by_cases h0 : x.f1.size = 0
  · rw [if_pos h0] at h
    by_cases h4 : (x.f2.length : Int) = 4
    · rw [if_pos h4] at h
      cases hb : badKid n x.f2 with
      | true => rw [hb, if_pos rfl] at h; cases h
      | false => rw [hb, if_neg (by simp)] at h; rw [h, if_pos rfl, if_pos h4, decide_eq_true h0]
    · rw [if_neg h4] at h; cases h
  · rw [if_neg h0] at h; cases h
theorem node_good {n : Nat} {x : S68} {lev : Int} (h : okNode x = true) (hl : lev ≠ 1) (hb : ∀ z ∈ x.f2, isNum n z = true) : goodB n x lev = true := by
  unfold okNode at h
  cases hs : someKid x.f2 with
  | false => rw [hs, if_neg (by simp)] at h; cases h
  | true =>
    rw [hs, if_pos rfl] at h
    by_cases h4 : (x.f2.length : Int) = 4
    · rw [if_pos h4] at h
      unfold goodB
      have hbk : badKid n x.f2 = false := by
        cases hbb : badKid n x.f2 with
        | false => rfl
        | true =>
          obtain ⟨z, hz, e⟩ := List.any_eq_true.1 hbb
          rw [hb z hz] at e
          cases e
      rw [if_neg hl, if_pos (of_decide_eq_true h), if_pos h4, hbk, if_neg (by simp), hs]
    · rw [if_neg h4] at h; cases h
theorem deep_ok {V : List Int} {c v : List Int} (hv : Inv C roots L V [] c v) : ∀ (lev : Nat) (k : Int), RefOK C v (k, (lev : Int) + 1) → ∀ (seen : List Int), seen.length = C.length → ∃ s', deepM C (lev + 1) k seen = some (true, s') ∧ s'.length = C.length := by
  intro lev
  induction lev with
  | zero =>
    intro k hk seen hs
    rw [deepM]
    rcases hk with hk | ⟨h0, h1, h2, h3⟩
    · simp only at hk; rw [if_pos hk]; exact ⟨_, rfl, hs⟩
    simp only at h0 h1 h2 h3
    rw [if_neg (by omega), if_pos (by omega), if_pos (by omega)]
    dsimp only
    split
    · exact ⟨_, rfl, by simp [hs]⟩
    · have hg := (hv.good k ((hv.vl k h0 h1).1 (by rw [h2]; exact h3))).1
      rw [h2, show ((0 : Nat) : Int) + 1 = 1 by omega, good_leaf] at hg
      rw [if_pos rfl, hg]
      exact ⟨_, rfl, by simp [hs]⟩
  | succ m ih =>
    intro k hk seen hs
    rw [deepM]
    rcases hk with hk | ⟨h0, h1, h2, h3⟩
    · simp only at hk; rw [if_pos hk]; exact ⟨_, rfl, hs⟩
    simp only at h0 h1 h2 h3
    rw [if_neg (by omega), if_pos (by omega), if_pos (by omega)]
    dsimp only
    split
    · exact ⟨_, rfl, by simp [hs]⟩
    · rw [if_neg (by omega)]
      have hkV := (hv.vl k h0 h1).1 (by rw [h2]; exact h3)
      have hg := (hv.good k hkV).1
      obtain ⟨s2, e2, hl2⟩ := loopK_ok (F := deepM C (m + 1)) (ok := fun z => RefOK C v (z, (m : Int) + 1)) (fun z hz s hs => ih z hz s hs) (rd_T68 C k).f2 (seen.set k.toNat (wrap64 (rd seen k + 1))) (fun z hz => by
        rcases hv.kid k hkV z hz with e | e
        · rw [h2, show ((m + 1 : Nat) : Int) + 1 - 1 = (m : Int) + 1 by omega] at e
          exact e
        · cases e) (by simp [hs])
      rw [e2, Option.bind_some]
      simp only [if_true]
      rw [good_node hg (by rw [h2]; omega)]
      exact ⟨_, rfl, hl2⟩
theorem deep_num {m : Nat} : ∀ (ks seen s' : List Int), loopK (deepM C (m + 1)) ks seen = some (true, s') → ∀ z ∈ ks, isNum C.length z = true
  | [], _, _, _ => by simp
  | y :: r, seen, s', h => by
    simp only [loopK] at h
    obtain ⟨⟨b, s1⟩, e1, e2⟩ := Option.bind_eq_some_iff.1 h
    cases b with
    | false => simp at e2
    | true =>
      intro z hz
      rcases List.mem_cons.1 hz with rfl | hz
      · rw [deepM] at e1
        unfold isNum
        by_cases hk : z = -1
        · exact decide_eq_true (by omega)
        · rw [if_neg hk] at e1
          by_cases hin : 0 ≤ z ∧ z ≤ (C.length : Int) - 1
          · exact decide_eq_true (by omega)
          · rw [if_neg hin] at e1
            simp at e1
      · exact deep_num r s1 s' (by simpa using e2) z hz
end
end Go.Proofs.Ytacfalpgmibfnaa.PCow
namespace Go.Proofs.Ytacfalpgmibfnaa.PCow
open Go.RowKit Go.Proofs.YtacfalpgmibfnaaW.PrintWords Go.Proofs.YtacfalpgmibfnaaW.PrintLast Go.Proofs.YtacfalpgmibfnaaW.PrintMore Go.Proofs.Ytacfalpgmibfnaa.E
set_option linter.unusedSimpArgs false
set_option linter.unusedVariables false
section
variable {C : List S68} {roots : List Int} {L : Int}
def LockAt (C : List S68) (roots : List Int) (L : Int) (m : Nat) : Prop := ∀ (k : Int) (seen at_ : List Int) (P : List (Int × Int)) (V : List Int) (seen' : List Int), Inv C roots L V ((k, (m : Int) + 1) :: P) seen at_ → deepM C (m + 1) k seen = some (true, seen') →
  ∃ b at', levM C (m + 1) k at_ = some (b, at') ∧ (b = true → ∃ V', Inv C roots L V' P seen' at') ∧ (b = false → Bad C roots L)
theorem lock_loop {m : Nat} (ih : LockAt C roots L m) : ∀ (ks seen at_ : List Int) (P : List (Int × Int)) (V : List Int) (seen' : List Int), Inv C roots L V (ks.map (fun z => (z, (m : Int) + 1)) ++ P) seen at_ → loopK (deepM C (m + 1)) ks seen = some (true, seen') →
    ∃ b at', loopK (levM C (m + 1)) ks at_ = some (b, at') ∧ (b = true → ∃ V', Inv C roots L V' P seen' at') ∧ (b = false → Bad C roots L)
  | [], seen, at_, P, V, seen', hI, h => by
    simp only [loopK, Option.some.injEq, Prod.mk.injEq, true_and] at h
    subst h
    exact ⟨true, at_, rfl, fun _ => ⟨V, hI⟩, by simp⟩
  | z :: r, seen, at_, P, V, seen', hI, h => by
    simp only [loopK] at h
    obtain ⟨⟨b, s1⟩, e1, e2⟩ := Option.bind_eq_some_iff.1 h
    cases b with
    | false => simp at e2
    | true =>
      obtain ⟨b, a1, f1, f2, f3⟩ := ih z seen at_ (r.map (fun z => (z, (m : Int) + 1)) ++ P) V s1 hI e1
      cases b with
      | false => exact ⟨false, a1, by simp [loopK, f1], by simp, f3⟩
      | true =>
        obtain ⟨V1, hI1⟩ := f2 rfl
        obtain ⟨b, a2, g1, g2, g3⟩ := lock_loop ih r s1 a1 P V1 seen' hI1 (by simpa using e2)
        exact ⟨b, a2, by simp only [loopK, f1, Option.bind_some, if_true]; exact g1, g2, g3⟩
theorem lock (hL : 1 ≤ L) (hr : roots.length ≤ 1000) (hn : C.length ≤ 1000) : ∀ m : Nat, LockAt C roots L m := by
  intro m
  induction m with
  | zero =>
    intro k seen at_ P V seen' hI h
    rw [deepM] at h
    rw [levM]
    have hls := hI.lc
    have hla := hI.ll
    by_cases hk : k = -1
    · subst hk
      rw [if_pos rfl] at h ⊢
      simp only [Option.some.injEq, Prod.mk.injEq, true_and] at h
      subst h
      exact ⟨true, at_, rfl, fun _ => ⟨V, hI.skip⟩, by simp⟩
    by_cases hin : 0 ≤ k ∧ k ≤ (C.length : Int) - 1
    · have h0 : 0 ≤ k := hin.1
      have h1 : k < (C.length : Int) := by omega
      have hb := hI.bound k h0 h1
      rw [if_neg hk, if_pos hin, if_pos (by omega), w64 (by omega) (by omega)] at h
      dsimp only at h
      rw [if_neg hk, if_pos (by omega)]
      by_cases hV : k ∈ V
      · have p := (hI.pos k h0 h1).1 hV
        have p2 := (hI.vl k h0 h1).2 hV
        rw [if_pos (by omega)] at h
        simp only [Option.some.injEq, Prod.mk.injEq, true_and] at h
        subst h
        rw [if_neg p2]
        by_cases he : rd at_ k = ((0 : Nat) : Int) + 1
        · rw [if_pos he]
          exact ⟨true, at_, rfl, fun _ => ⟨V, hI.old h0 h1 he (by omega) rfl⟩, by simp⟩
        · rw [if_neg he]
          refine ⟨false, at_, rfl, by simp, fun _ V' c' v hv => ?_⟩
          rcases hI.refs hv (k, ((0 : Nat) : Int) + 1) (by simp) with e | ⟨_, _, e, _⟩
          · exact hk e
          · exact he ((hI.cons hv k hV).1.symm.trans e)
      · have p := (hI.pos k h0 h1).2 hV
        have p2 : rd at_ k = 0 := by
          by_cases e : rd at_ k = 0
          · exact e
          · exact absurd ((hI.vl k h0 h1).1 e) hV
        rw [if_neg (by omega), if_pos rfl] at h
        simp only [Option.some.injEq, Prod.mk.injEq] at h
        obtain ⟨hg, rfl⟩ := h
        rw [← good_leaf (n := C.length)] at hg
        have hk2 := (goodB_kids hg).2.1 rfl
        rw [if_pos p2, if_pos h1, hk2]
        refine ⟨true, _, rfl, fun _ => ⟨V ++ [k], ?_⟩, by simp⟩
        have := hI.new hL h0 h1 p2 (by simpa using hg) rfl
        unfold kidsOf at this
        rw [hk2] at this
        exact this
    · rw [if_neg hk, if_neg hin] at h
      simp at h
  | succ m ih =>
    intro k seen at_ P V seen' hI h
    rw [deepM] at h
    rw [levM]
    have hls := hI.lc
    have hla := hI.ll
    by_cases hk : k = -1
    · subst hk
      rw [if_pos rfl] at h ⊢
      simp only [Option.some.injEq, Prod.mk.injEq, true_and] at h
      subst h
      exact ⟨true, at_, rfl, fun _ => ⟨V, hI.skip⟩, by simp⟩
    by_cases hin : 0 ≤ k ∧ k ≤ (C.length : Int) - 1
    · have h0 : 0 ≤ k := hin.1
      have h1 : k < (C.length : Int) := by omega
      have hb := hI.bound k h0 h1
      rw [if_neg hk, if_pos hin, if_pos (by omega), w64 (by omega) (by omega)] at h
      dsimp only at h
      rw [if_neg hk, if_pos (by omega)]
      by_cases hV : k ∈ V
      · have p := (hI.pos k h0 h1).1 hV
        have p2 := (hI.vl k h0 h1).2 hV
        rw [if_pos (by omega)] at h
        simp only [Option.some.injEq, Prod.mk.injEq, true_and] at h
        subst h
        rw [if_neg p2]
        by_cases he : rd at_ k = ((m + 1 : Nat) : Int) + 1
        · rw [if_pos he]
          exact ⟨true, at_, rfl, fun _ => ⟨V, hI.old h0 h1 he (by omega) rfl⟩, by simp⟩
        · rw [if_neg he]
          refine ⟨false, at_, rfl, by simp, fun _ V' c' v hv => ?_⟩
          rcases hI.refs hv (k, ((m + 1 : Nat) : Int) + 1) (by simp) with e | ⟨_, _, e, _⟩
          · exact hk e
          · exact he ((hI.cons hv k hV).1.symm.trans e)
      · have p := (hI.pos k h0 h1).2 hV
        have p2 : rd at_ k = 0 := by
          by_cases e : rd at_ k = 0
          · exact e
          · exact absurd ((hI.vl k h0 h1).1 e) hV
        rw [if_neg (by omega), if_neg (by omega)] at h
        obtain ⟨⟨b1, s2⟩, e1, e2⟩ := Option.bind_eq_some_iff.1 h
        cases b1 with
        | false => simp at e2
        | true =>
          simp only [if_true, Option.some.injEq, Prod.mk.injEq] at e2
          obtain ⟨hnode, rfl⟩ := e2
          have hg := node_good (lev := ((m + 1 : Nat) : Int) + 1) hnode (by omega) (deep_num _ _ _ e1)
          rw [if_pos p2, if_pos h1]
          have hI2 := hI.new hL h0 h1 p2 hg rfl
          rw [show ((m + 1 : Nat) : Int) + 1 - 1 = (m : Int) + 1 by omega] at hI2
          exact lock_loop ih _ _ _ P _ _ hI2 e1
    · rw [if_neg hk, if_neg hin] at h
      simp at h
end
end Go.Proofs.Ytacfalpgmibfnaa.PCow
namespace Go.Proofs.Ytacfalpgmibfnaa.PCow
open Go.RowKit Go.Proofs.YtacfalpgmibfnaaW.PrintWords Go.Proofs.YtacfalpgmibfnaaW.PrintLast Go.Proofs.YtacfalpgmibfnaaW.PrintMore Go.Proofs.Ytacfalpgmibfnaa.E
set_option linter.unusedSimpArgs false
set_option linter.unusedVariables false
section
variable {C : List S68} {roots : List Int} {L : Int}
def pend (C : List S68) (lev V : List Int) : List (Int × Int) := V.flatMap fun k => (kidsOf C k).map fun z => (z, rd lev k - 1)
theorem pend_congr {l l' : List Int} : ∀ V : List Int, (∀ k ∈ V, rd l k = rd l' k) → pend C l V = pend C l' V
  | [], _ => rfl
  | a :: r, h => by
    have h1 := pend_congr r (fun k hk => h k (by simp [hk]))
    unfold pend at h1 ⊢
    rw [List.flatMap_cons, List.flatMap_cons, h1, h a (by simp)]
theorem rd_mem {l : List Int} {i : Nat} (h : i < l.length) : rd l (i : Int) ∈ l := by
  unfold rd
  rw [List.getD_eq_getElem?_getD, Int.toNat_natCast, List.getElem?_eq_getElem h]
  exact List.getElem_mem h
theorem rd_app {l t : List Int} {i : Nat} (h : i < l.length) : rd (l ++ t) (i : Int) = rd l (i : Int) := by
  unfold rd
  rw [List.getD_eq_getElem?_getD, List.getD_eq_getElem?_getD, Int.toNat_natCast, List.getElem?_append_left h]
theorem refer_step (hL : 1 ≤ L) (hr : roots.length ≤ 1000) (hn : C.length ≤ 1000) {line cnt lev : List Int} {k own : Int} {Pre : List (Int × Int)} {i : Nat} (hi : i ≤ line.length)
    (hI : Inv C roots L line ((k, own) :: (Pre ++ pend C lev (line.drop i))) cnt lev) : ∃ b c l ln, referM C k own cnt lev line = (b, c, l, ln) ∧
      (b = true → Inv C roots L ln (Pre ++ pend C l (ln.drop i)) c l ∧ (∃ t, ln = line ++ t) ∧ ∀ j ∈ line, rd l j = rd lev j) ∧ (b = false → Bad C roots L) := by
  unfold referM
  by_cases hk : isNum C.length k = true
  · rw [if_pos hk]
    have hk' := of_decide_eq_true hk
    by_cases hneg : k < 0
    · rw [if_pos hneg]
      obtain rfl : k = -1 := by omega
      exact ⟨_, _, _, _, rfl, fun _ => ⟨hI.skip, ⟨[], by simp⟩, fun _ _ => rfl⟩, by simp⟩
    · rw [if_neg hneg]
      have h0 : 0 ≤ k := by omega
      have h1 : k < (C.length : Int) := by omega
      have hb := hI.bound k h0 h1
      obtain ⟨o1, o2⟩ := hI.range hL (k, own) (by simp)
      simp only at o1 o2
      rw [w64 (by omega) (by omega)]
      by_cases hz : rd lev k = 0
      · rw [if_pos hz]
        refine ⟨_, _, _, _, rfl, fun hg => ⟨?_, ⟨[k], rfl⟩, fun j hj => ?_⟩, fun hg V' c' v hv => ?_⟩
        · have hkl : k ∉ line := fun e => (hI.vl k h0 h1).2 e hz
          have hN := hI.new hL h0 h1 hz hg rfl
          refine hN.perm ?_
          have e1 : pend C (lev.set k.toNat own) ((line ++ [k]).drop i) = pend C lev (line.drop i) ++ (kidsOf C k).map (fun z => (z, own - 1)) := by
            rw [List.drop_append_of_le_length hi]
            have e2 := pend_congr (C := C) (l := lev.set k.toNat own) (l' := lev) (line.drop i) (fun j hj => rd_set_ne lev k j own h0 (hI.vin j (List.mem_of_mem_drop hj)).1 (fun e => hkl (e ▸ List.mem_of_mem_drop hj)))
            unfold pend at e2 ⊢
            rw [List.flatMap_append, e2, List.flatMap_cons, List.flatMap_nil, List.append_nil, rd_set_eq lev k own h0 (by have := hI.ll; omega)]
          rw [e1, ← List.append_assoc Pre]
          exact List.perm_append_comm
        · exact rd_set_ne lev k j own h0 (hI.vin j hj).1 (fun e => (hI.vl k h0 h1).2 (e ▸ hj) hz)
        · rcases hI.refs hv (k, own) (by simp) with e | ⟨_, _, e, e2⟩
          · simp only at e; omega
          · simp only at e e2
            have := (hv.good k ((hv.vl k h0 h1).1 (by rw [e]; exact e2))).1
            rw [e, hg] at this
            cases this
      · rw [if_neg hz]
        refine ⟨_, _, _, _, rfl, fun hg => ⟨hI.old h0 h1 (of_decide_eq_true hg) (by omega) rfl, ⟨[], by simp⟩, fun _ _ => rfl⟩, fun hg V' c' v hv => ?_⟩
        rcases hI.refs hv (k, own) (by simp) with e | ⟨_, _, e, e2⟩
        · simp only at e; omega
        · exact of_decide_eq_false hg ((hI.cons hv k ((hI.vl k h0 h1).1 hz)).1.symm.trans e)
  · rw [if_neg hk]
    refine ⟨_, _, _, _, rfl, by simp, fun _ V' c' v hv => hk ?_⟩
    unfold isNum
    rcases hI.refs hv (k, own) (by simp) with e | ⟨e0, e1, _, _⟩
    · simp only at e; exact decide_eq_true (by omega)
    · simp only at e0 e1; exact decide_eq_true (by omega)
theorem kids_loop (hL : 1 ≤ L) (hL3 : L ≤ 3) (hr : roots.length ≤ 1000) (hn : C.length ≤ 1000) {i : Nat} {kk own : Int} : ∀ (ks cnt lev line : List Int), Inv C roots L line (ks.map (fun z => (z, own)) ++ pend C lev (line.drop (i + 1))) cnt lev → i < line.length → rd line (i : Int) = kk → rd lev kk - 1 = own →
    ∃ b c l ln, loopS (kidF C (i : Int)) ks (cnt, lev, line) = some (b, (c, l, ln)) ∧ (b = true → Inv C roots L ln (pend C l (ln.drop (i + 1))) c l ∧ i < ln.length) ∧ (b = false → Bad C roots L)
  | [], cnt, lev, line, hI, hi, _, _ => ⟨true, cnt, lev, line, rfl, fun _ => ⟨hI, hi⟩, by simp⟩
  | z :: r, cnt, lev, line, hI, hi, hkk, hown => by
    have hlen := hI.len
    have hmem : kk ∈ line := by rw [← hkk]; exact rd_mem hi
    have hin := hI.vin kk hmem
    have hgd := hI.good kk hmem
    have hF : kidF C (i : Int) z (cnt, lev, line) = some (referM C z own cnt lev line) := by
      unfold kidF
      simp only
      rw [hkk, if_pos ⟨by omega, by omega, hin.1, hin.2⟩, w64 (by omega) (by omega), hown]
    obtain ⟨b, c, l, ln, e1, e2, e3⟩ := refer_step (Pre := r.map fun z => (z, own)) hL hr hn (by omega : i + 1 ≤ line.length) hI
    cases b with
    | false => exact ⟨false, c, l, ln, by simp [loopS, hF, e1], by simp, e3⟩
    | true =>
      obtain ⟨hI2, ⟨t, rfl⟩, hl⟩ := e2 rfl
      obtain ⟨b, c2, l2, ln2, f1, f2, f3⟩ := kids_loop hL hL3 hr hn (i := i) (kk := kk) (own := own) r c l (line ++ t) hI2 (by rw [List.length_append]; omega) (by rw [rd_app hi]; exact hkk) (by rw [hl kk hmem]; exact hown)
      exact ⟨b, c2, l2, ln2, by simp only [loopS, hF, e1, Option.bind_some, if_true]; exact f1, f2, f3⟩
theorem line_loop (hL : 1 ≤ L) (hL3 : L ≤ 3) (hr : roots.length ≤ 1000) (hn : C.length ≤ 1000) : ∀ (f i : Nat) (cnt lev line : List Int), Inv C roots L line (pend C lev (line.drop i)) cnt lev → i ≤ line.length → C.length + 1 ≤ f + i →
    ∃ b c l ln, lineM C f i (cnt, lev, line) = some (b, (c, l, ln)) ∧ (b = true → Inv C roots L ln [] c l) ∧ (b = false → Bad C roots L)
  | 0, i, cnt, lev, line, hI, hi, hf => by have := hI.len; omega
  | f + 1, i, cnt, lev, line, hI, hi, hf => by
    have hlen := hI.len
    unfold lineM
    by_cases hil : (i : Int) < (line.length : Int)
    · have hil' : i < line.length := by omega
      obtain ⟨kk, hkk⟩ : ∃ kk, rd line (i : Int) = kk := ⟨_, rfl⟩
      have hmem : kk ∈ line := by rw [← hkk]; exact rd_mem hil'
      have hin := hI.vin kk hmem
      have hd : line.drop i = kk :: line.drop (i + 1) := by
        rw [List.drop_eq_getElem_cons hil', ← hkk]
        congr 1
        unfold rd
        rw [List.getD_eq_getElem?_getD, Int.toNat_natCast, List.getElem?_eq_getElem hil']
        rfl
      simp only
      rw [if_pos hil, hkk, if_pos ⟨by omega, hin.1, hin.2⟩]
      have hI2 : Inv C roots L line ((kidsOf C kk).map (fun z => (z, rd lev kk - 1)) ++ pend C lev (line.drop (i + 1))) cnt lev := by
        rw [hd] at hI
        exact hI
      obtain ⟨b, c, l, ln, e1, e2, e3⟩ := kids_loop hL hL3 hr hn (i := i) (kk := kk) (own := rd lev kk - 1) (kidsOf C kk) cnt lev line hI2 hil' hkk rfl
      unfold kidsOf at e1
      rw [e1, Option.bind_some]
      cases b with
      | false => exact ⟨false, c, l, ln, by simp, by simp, e3⟩
      | true =>
        obtain ⟨hI3, hi3⟩ := e2 rfl
        simp only [if_true]
        exact line_loop hL hL3 hr hn f (i + 1) c l ln hI3 (by omega) (by omega)
    · simp only
      rw [if_neg hil]
      rw [List.drop_of_length_le (by omega)] at hI
      exact ⟨true, cnt, lev, line, rfl, fun _ => hI, by simp⟩
theorem roots_loop (hL : 1 ≤ L) (hr : roots.length ≤ 1000) (hn : C.length ≤ 1000) : ∀ (rs cnt lev line : List Int), Inv C roots L line (rs.map (fun z => (z, L)) ++ pend C lev (line.drop 0)) cnt lev →
    ∃ b c l ln, loopS (rootF C L) rs (cnt, lev, line) = some (b, (c, l, ln)) ∧ (b = true → Inv C roots L ln (pend C l (ln.drop 0)) c l) ∧ (b = false → Bad C roots L)
  | [], cnt, lev, line, hI => ⟨true, cnt, lev, line, rfl, fun _ => hI, by simp⟩
  | z :: r, cnt, lev, line, hI => by
    have hlen := hI.len
    have hF : rootF C L z (cnt, lev, line) = some (referM C z L cnt lev line) := by
      unfold rootF
      simp only
      rw [if_pos (by omega)]
    obtain ⟨b, c, l, ln, e1, e2, e3⟩ := refer_step (Pre := r.map fun z => (z, L)) hL hr hn (Nat.zero_le _) hI
    cases b with
    | false => exact ⟨false, c, l, ln, by simp [loopS, hF, e1], by simp, e3⟩
    | true =>
      obtain ⟨hI2, _, _⟩ := e2 rfl
      obtain ⟨b, c2, l2, ln2, f1, f2, f3⟩ := roots_loop hL hr hn r c l ln hI2
      exact ⟨b, c2, l2, ln2, by simp only [loopS, hF, e1, Option.bind_some, if_true]; exact f1, f2, f3⟩
theorem impl_out (hL : 1 ≤ L) (hL3 : L ≤ 3) (hn : C.length ≤ 80) (hr1 : 1 ≤ (roots.length : Int)) (hr8 : (roots.length : Int) ≤ 8) :
    (∃ V c v, Inv C roots L V [] c v ∧ goodC 100 C roots L = some (endM C c C.length 0)) ∨ (Bad C roots L ∧ goodC 100 C roots L = some false) := by
  unfold goodC
  rw [if_pos (by unfold inR; exact decide_eq_true ⟨hL, hL3⟩), if_neg (by omega), if_pos (by unfold inR; exact decide_eq_true ⟨hr1, hr8⟩)]
  have h0 : Inv C roots L [] (roots.map (fun z => (z, L)) ++ pend C (List.replicate C.length 0) (([] : List Int).drop 0)) (List.replicate C.length 0) (List.replicate C.length 0) := by
    have := Inv.start (C := C) (roots := roots) hL
    simpa [pend] using this
  obtain ⟨b, c, l, ln, e1, e2, e3⟩ := roots_loop hL (by omega) (by omega) roots _ _ [] h0
  rw [e1, Option.bind_some]
  cases b with
  | false => exact .inr ⟨e3 rfl, by simp⟩
  | true =>
    obtain ⟨b, c2, l2, ln2, f1, f2, f3⟩ := line_loop hL hL3 (by omega) (by omega) 100 0 c l ln (e2 rfl) (Nat.zero_le _) (by omega)
    simp only [if_true]
    rw [f1, Option.bind_some]
    cases b with
    | false => exact .inr ⟨f3 rfl, by simp⟩
    | true => exact .inl ⟨ln2, c2, l2, f2 rfl, by simp⟩
theorem loopK_refs {m : Nat} {V : List Int} {c v : List Int} (hv : Inv C roots ((m : Int) + 1) V [] c v) : ∃ s', loopK (deepM C (m + 1)) roots (List.replicate C.length 0) = some (true, s') := by
  obtain ⟨s', e, _⟩ := loopK_ok (F := deepM C (m + 1)) (ok := fun z => RefOK C v (z, (m : Int) + 1)) (n := C.length) (fun z hz s hs => deep_ok hv m z hz s hs) roots (List.replicate C.length 0) (fun z hz => by
    rcases hv.rts z hz with e | e
    · exact e
    · cases e) (by simp)
  exact ⟨s', e⟩
end
end Go.Proofs.Ytacfalpgmibfnaa.PCow
namespace Go.Proofs.Ytacfalpgmibfnaa.PCow
open Go.RowKit Go.Proofs.YtacfalpgmibfnaaW.PrintWords Go.Proofs.YtacfalpgmibfnaaW.PrintLast Go.Proofs.YtacfalpgmibfnaaW.PrintMore Go.Proofs.Ytacfalpgmibfnaa.E
set_option linter.unusedSimpArgs false
set_option linter.unusedVariables false
section
variable {C : List S68} {roots : List Int}
theorem spec_out (m : Nat) (hn : C.length ≤ 80) (hr8 : (roots.length : Int) ≤ 8) :
    (∃ V c v, Inv C roots ((m : Int) + 1) V [] c v ∧ loopK (deepM C (m + 1)) roots (List.replicate C.length 0) = some (true, c) ∧ loopK (levM C (m + 1)) roots (List.replicate C.length 0) = some (true, v)) ∨
    (Bad C roots ((m : Int) + 1) ∧ ((∃ s, loopK (deepM C (m + 1)) roots (List.replicate C.length 0) = some (false, s)) ∨ ∃ s a, loopK (deepM C (m + 1)) roots (List.replicate C.length 0) = some (true, s) ∧ loopK (levM C (m + 1)) roots (List.replicate C.length 0) = some (false, a))) := by
  obtain ⟨b, s, e, _⟩ := loopK_tot (F := deepM C (m + 1)) (n := C.length) (deep_tot C m) roots (List.replicate C.length 0) (by simp)
  cases b with
  | false =>
    refine .inr ⟨fun V c v hv => ?_, .inl ⟨s, e⟩⟩
    obtain ⟨s', e'⟩ := loopK_refs hv
    rw [e] at e'
    cases e'
  | true =>
    have h0 := Inv.start (C := C) (roots := roots) (L := (m : Int) + 1) (by omega)
    obtain ⟨b, a, f1, f2, f3⟩ := lock_loop (lock (C := C) (roots := roots) (L := (m : Int) + 1) (by omega) (by omega) (by omega) m) roots _ _ [] [] s (by simpa using h0) e
    cases b with
    | false => exact .inr ⟨f3 rfl, .inr ⟨s, a, e, f1⟩⟩
    | true =>
      obtain ⟨V', hI⟩ := f2 rfl
      exact .inl ⟨V', s, a, hI, e, f1⟩
theorem cow_join (m : Nat) (hm : (m : Int) + 1 ≤ 3) (hn : C.length ≤ 80) (hr1 : 1 ≤ (roots.length : Int)) (hr8 : (roots.length : Int) ≤ 8) :
    (∃ c v, goodC 100 C roots ((m : Int) + 1) = some (endM C c C.length 0) ∧ c.length = C.length ∧ loopK (deepM C (m + 1)) roots (List.replicate C.length 0) = some (true, c) ∧ loopK (levM C (m + 1)) roots (List.replicate C.length 0) = some (true, v)) ∨
    (goodC 100 C roots ((m : Int) + 1) = some false ∧ ((∃ s, loopK (deepM C (m + 1)) roots (List.replicate C.length 0) = some (false, s)) ∨ ∃ s a, loopK (deepM C (m + 1)) roots (List.replicate C.length 0) = some (true, s) ∧ loopK (levM C (m + 1)) roots (List.replicate C.length 0) = some (false, a))) := by
  rcases impl_out (C := C) (roots := roots) (L := (m : Int) + 1) (by omega) hm hn hr1 hr8 with ⟨V, c, v, hI, e⟩ | ⟨hB, e⟩
  · rcases spec_out (C := C) (roots := roots) m hn hr8 with ⟨V', c', v', hI', e1, e2⟩ | ⟨hB, _⟩
    · obtain rfl := hI.unique hI'
      exact .inl ⟨c, v', e, hI.lc, e1, e2⟩
    · exact absurd hI (hB V c v)
  · rcases spec_out (C := C) (roots := roots) m hn hr8 with ⟨V', c', v', hI', e1, e2⟩ | ⟨_, h⟩
    · exact absurd hI' (hB V' c' v')
    · exact .inr ⟨e, h⟩
end
end Go.Proofs.Ytacfalpgmibfnaa.PCow
namespace Go.Proofs.Ytacfalpgmibfnaa.PCow
open Go.RowKit Go.Proofs.YtacfalpgmibfnaaW.PrintWords Go.Proofs.YtacfalpgmibfnaaW.PrintLast Go.Proofs.YtacfalpgmibfnaaW.PrintMore Go.Proofs.Ytacfalpgmibfnaa.E
set_option linter.unusedSimpArgs false
set_option linter.unusedVariables false
theorem l2_ev (C : List S68) (c : List Int) (hn : C.length ≤ 80) (hc : c.length = C.length) : ∀ f i : Nat, i + f = C.length → Ev (fun k => spec_GoodCow.l2 k c C (C.length : Int) (i : Int)) (endM C c f i) := by
  intro f
  induction f with
  | zero =>
    intro i hi
    exact Ev.step (fun _ => spec_GoodCow.l2.eq_2 ..) (ev_neg (by omega) (ev_ret rfl))
  | succ f ih =>
    intro i hi
    have h1 := ih (i + 1) (by omega)
    refine Ev.step (fun _ => spec_GoodCow.l2.eq_2 ..) (ev_pos (by omega) (ev_pos (by omega) (ev_pos (by omega) (ev_pos (by omega) ?_))))
    rw [w64 (x := (i : Int) + 1) (by omega) (by omega)]
    unfold endM okEnd
    by_cases q0 : (rd_T68 C (i : Int)).f0 = rd c (i : Int)
    · refine ev_pos q0 ?_
      rw [if_pos q0]
      by_cases q1 : (rd_T68 C (i : Int)).f0 = 0
      · refine ev_pos q1 ?_
        rw [if_pos q1]
        by_cases q2 : (rd_T68 C (i : Int)).f1.size = 0
        · refine ev_pos (ba_nil.2 q2) ?_
          rw [if_pos q2]
          by_cases q3 : (rd_T68 C (i : Int)).f2.length = 0
          · refine ev_neg (by omega) ?_
            rw [decide_eq_true q3, if_pos rfl]
            exact h1
          · refine ev_pos (by omega) ?_
            rw [decide_eq_false q3, if_neg (by simp)]
            exact ev_ret rfl
        · refine ev_neg (fun e => q2 (ba_nil.1 e)) ?_
          rw [if_neg q2, if_neg (by simp)]
          exact ev_ret rfl
      · refine ev_neg q1 ?_
        rw [if_neg q1, if_pos rfl]
        exact h1
    · refine ev_neg q0 ?_
      rw [if_neg q0, if_neg (by simp)]
      exact ev_ret rfl
theorem l1_ev (C : List S68) (roots s : List Int) (m : Nat) (hm : (m : Int) + 1 ≤ 3) (hn : C.length ≤ 80) (hs : s.length = C.length) (hr : (roots.length : Int) ≤ 8) : ∀ (f i : Nat) (at_ v : List Int) (b : Bool), i + f = roots.length → loopK (levM C (m + 1)) (roots.drop i) at_ = some (b, v) →
    Ev (fun k => spec_GoodCow.l1 k s at_ roots (roots.length : Int) (i : Int) C roots ((m : Int) + 1)) (if b = true then endM C s C.length 0 else false) := by
  intro f
  induction f with
  | zero =>
    intro i at_ v b hi h
    rw [List.drop_of_length_le (by omega)] at h
    simp only [loopK, Option.some.injEq, Prod.mk.injEq] at h
    obtain ⟨rfl, rfl⟩ := h
    exact Ev.step (fun _ => spec_GoodCow.l1.eq_2 ..) (ev_neg (by omega) (l2_ev C s hn hs C.length 0 (by omega)))
  | succ f ih =>
    intro i at_ v b hi h
    have hil : i < roots.length := by omega
    obtain ⟨z, hz⟩ : ∃ z, rd roots (i : Int) = z := ⟨_, rfl⟩
    have hd : roots.drop i = z :: roots.drop (i + 1) := by
      rw [List.drop_eq_getElem_cons hil, ← hz]
      congr 1
      unfold rd
      rw [List.getD_eq_getElem?_getD, Int.toNat_natCast, List.getElem?_eq_getElem hil]
      rfl
    rw [hd] at h
    simp only [loopK] at h
    obtain ⟨⟨b1, a1⟩, e1, e2⟩ := Option.bind_eq_some_iff.1 h
    refine Ev.step (fun _ => spec_GoodCow.l1.eq_2 ..) (ev_pos (by omega) (ev_pos (by omega) (ev_pos (by omega) (ev_bindc (a := (b1, a1)) ?_ ?_))))
    · unfold spec_l14Levels.f
      rw [if_pos (by omega), hz, show ((m : Int) + 1).toNat = m + 1 by omega]
      exact e1
    · rw [w64 (x := (i : Int) + 1) (by omega) (by omega)]
      dsimp only
      cases b1 with
      | true => exact ev_true rfl (ih (i + 1) a1 v b (by omega) (by simpa using e2))
      | false =>
        simp only [Bool.false_eq_true, if_false, Option.some.injEq, Prod.mk.injEq] at e2
        obtain ⟨rfl, rfl⟩ := e2
        exact ev_false rfl (ev_ret rfl)
theorem l0_ev (C : List S68) (roots : List Int) (m : Nat) (hm : (m : Int) + 1 ≤ 3) (hn : C.length ≤ 80) (hr : (roots.length : Int) ≤ 8) (r : Bool) : ∀ (f i : Nat) (seen s : List Int) (b : Bool), i + f = roots.length → loopK (deepM C (m + 1)) (roots.drop i) seen = some (b, s) →
    (b = true → Ev (fun k => spec_GoodCow.l1 k s (List.replicate C.length 0) roots (roots.length : Int) ((0 : Nat) : Int) C roots ((m : Int) + 1)) r) → (b = false → r = false) →
    Ev (fun k => spec_GoodCow.l0 k seen roots (roots.length : Int) (i : Int) C roots ((m : Int) + 1)) r := by
  intro f
  induction f with
  | zero =>
    intro i seen s b hi h hT hF
    rw [List.drop_of_length_le (by omega)] at h
    simp only [loopK, Option.some.injEq, Prod.mk.injEq] at h
    obtain ⟨rfl, rfl⟩ := h
    refine Ev.step (fun _ => spec_GoodCow.l0.eq_2 ..) (ev_neg (by omega) (ev_pos (by omega) (ev_pos (by omega) ?_)))
    rw [Int.toNat_natCast]
    exact hT rfl
  | succ f ih =>
    intro i seen s b hi h hT hF
    have hil : i < roots.length := by omega
    obtain ⟨z, hz⟩ : ∃ z, rd roots (i : Int) = z := ⟨_, rfl⟩
    have hd : roots.drop i = z :: roots.drop (i + 1) := by
      rw [List.drop_eq_getElem_cons hil, ← hz]
      congr 1
      unfold rd
      rw [List.getD_eq_getElem?_getD, Int.toNat_natCast, List.getElem?_eq_getElem hil]
      rfl
    rw [hd] at h
    simp only [loopK] at h
    obtain ⟨⟨b1, a1⟩, e1, e2⟩ := Option.bind_eq_some_iff.1 h
    refine Ev.step (fun _ => spec_GoodCow.l0.eq_2 ..) (ev_pos (by omega) (ev_pos (by omega) (ev_pos (by omega) (ev_bindc (a := (b1, a1)) ?_ ?_))))
    · unfold spec_l14Deep.f
      rw [if_pos (by omega), hz, show ((m : Int) + 1).toNat = m + 1 by omega]
      exact e1
    · rw [w64 (x := (i : Int) + 1) (by omega) (by omega)]
      dsimp only
      cases b1 with
      | true => exact ev_true rfl (ih (i + 1) a1 s b (by omega) (by simpa using e2) hT hF)
      | false =>
        simp only [Bool.false_eq_true, if_false, Option.some.injEq, Prod.mk.injEq] at e2
        obtain ⟨rfl, rfl⟩ := e2
        exact ev_false rfl (ev_ret (hF rfl).symm)
theorem in_dec (a b c : Int) : spec_l1In.f a b c = some (decide (b ≤ a ∧ a ≤ c)) := by
  unfold spec_l1In.f
  by_cases h : a ≥ b
  · rw [if_pos h]
    have h' : b ≤ a := h
    simp [h']
  · rw [if_neg h, decide_eq_false (by omega)]
theorem spec_impl (C : List S68) (roots : List Int) (L : Int) : ∃ b, Ev (fun k => spec_GoodCow.f k C roots L) b ∧ goodC 100 C roots L = some b := by
  unfold spec_GoodCow.f
  by_cases hL : 1 ≤ L ∧ L ≤ 3
  · have hiL : inR L 1 3 = true := by unfold inR; exact decide_eq_true hL
    by_cases h80 : (C.length : Int) > 80
    · refine ⟨false, ev_bindc (in_dec L 1 3) (ev_true (decide_eq_true hL) (ev_pos h80 (Ev.step (fun _ => spec_GoodCow.j0.eq_2 ..) (ev_pos rfl (ev_ret rfl))))), ?_⟩
      unfold goodC
      rw [if_pos hiL, if_pos h80]
    · by_cases hR : 1 ≤ (roots.length : Int) ∧ (roots.length : Int) ≤ 8
      · obtain ⟨m, hm⟩ : ∃ m : Nat, L = (m : Int) + 1 := ⟨(L - 1).toNat, by omega⟩
        subst hm
        have key : ∀ b, Ev (fun k => spec_GoodCow.l0 k (List.replicate C.length 0) roots (roots.length : Int) ((0 : Nat) : Int) C roots ((m : Int) + 1)) b → Ev (fun k => (spec_l1In.f ((m : Int) + 1) 1 3).bind fun t121 => (if t121 = true then (if (C.length : Int) > 80 then (spec_GoodCow.j0 k true C roots ((m : Int) + 1)) else ((spec_l1In.f (roots.length : Int) 1 8).bind fun t122 => (spec_GoodCow.j0 k (!t122) C roots ((m : Int) + 1)))) else (spec_GoodCow.j0 k true C roots ((m : Int) + 1)))) b := fun b hb => by
          refine ev_bindc (in_dec _ 1 3) (ev_true (decide_eq_true hL) (ev_neg h80 (ev_bindc (in_dec _ 1 8) ?_)))
          rw [decide_eq_true hR]
          refine Ev.step (fun _ => spec_GoodCow.j0.eq_2 ..) (ev_neg (by simp) (ev_pos (by omega) (ev_pos (by omega) ?_)))
          rw [Int.toNat_natCast]
          exact hb
        rcases cow_join (C := C) (roots := roots) m hL.2 (by omega) hR.1 hR.2 with ⟨c, v, e, hc, e1, e2⟩ | ⟨e, h⟩
        · exact ⟨_, key _ (l0_ev C roots m hL.2 (by omega) hR.2 _ roots.length 0 _ c true (by omega) (by rw [List.drop_zero]; exact e1) (fun _ => l1_ev C roots c m hL.2 (by omega) hc hR.2 roots.length 0 _ v true (by omega) (by rw [List.drop_zero]; exact e2)) (by simp)), e⟩
        · rcases h with ⟨s, e1⟩ | ⟨s, a, e1, e2⟩
          · exact ⟨false, key _ (l0_ev C roots m hL.2 (by omega) hR.2 _ roots.length 0 _ s false (by omega) (by rw [List.drop_zero]; exact e1) (by simp) (fun _ => rfl)), e⟩
          · obtain ⟨b', s', f1, f2⟩ := loopK_tot (F := deepM C (m + 1)) (n := C.length) (deep_tot C m) roots (List.replicate C.length 0) (by simp)
            rw [e1] at f1
            simp only [Option.some.injEq, Prod.mk.injEq] at f1
            obtain ⟨_, rfl⟩ := f1
            exact ⟨false, key _ (l0_ev C roots m hL.2 (by omega) hR.2 _ roots.length 0 _ s true (by omega) (by rw [List.drop_zero]; exact e1) (fun _ => l1_ev C roots s m hL.2 (by omega) f2 hR.2 roots.length 0 _ a false (by omega) (by rw [List.drop_zero]; exact e2)) (by simp)), e⟩
      · refine ⟨false, ev_bindc (in_dec L 1 3) (ev_true (decide_eq_true hL) (ev_neg h80 (ev_bindc (in_dec _ 1 8) ?_))), ?_⟩
        · rw [decide_eq_false hR]
          exact Ev.step (fun _ => spec_GoodCow.j0.eq_2 ..) (ev_pos rfl (ev_ret rfl))
        · unfold goodC
          rw [if_pos hiL, if_neg h80, if_neg (by unfold inR; rw [decide_eq_false hR]; simp)]
  · refine ⟨false, ev_bindc (in_dec L 1 3) (ev_false (decide_eq_false hL) (Ev.step (fun _ => spec_GoodCow.j0.eq_2 ..) (ev_pos rfl (ev_ret rfl)))), ?_⟩
    unfold goodC
    rw [if_neg (by unfold inR; rw [decide_eq_false hL]; simp)]
end Go.Proofs.Ytacfalpgmibfnaa.PCow
namespace Go.Proofs.Ytacfalpgmibfnaa.PCow
open Go.RowKit Go.Proofs.YtacfalpgmibfnaaW.PrintWords Go.Proofs.YtacfalpgmibfnaaW.PrintLast Go.Proofs.YtacfalpgmibfnaaW.PrintMore Go.Proofs.Ytacfalpgmibfnaa.E
set_option linter.unusedSimpArgs false
set_option linter.unusedVariables false
section
variable {C : List S68} {roots : List Int} {L : Int}
theorem good_tree (h : goodC 100 C roots L = some true) : 1 ≤ L ∧ L ≤ 3 ∧ C.length ≤ 80 ∧ 1 ≤ (roots.length : Int) ∧ (roots.length : Int) ≤ 8 ∧ ∃ V c v, Inv C roots L V [] c v ∧ endM C c C.length 0 = true := by
  have h' := h
  unfold goodC at h'
  by_cases hL : inR L 1 3 = true
  · rw [if_pos hL] at h'
    by_cases h80 : (C.length : Int) > 80
    · rw [if_pos h80] at h'; cases h'
    · rw [if_neg h80] at h'
      by_cases hR : inR (roots.length : Int) 1 8 = true
      · have hL2 := of_decide_eq_true hL
        have hR2 := of_decide_eq_true hR
        refine ⟨hL2.1, hL2.2, by omega, hR2.1, hR2.2, ?_⟩
        rcases impl_out (C := C) (roots := roots) hL2.1 hL2.2 (by omega) hR2.1 hR2.2 with ⟨V, c, v, hI, e⟩ | ⟨_, e⟩
        · rw [h] at e
          exact ⟨V, c, v, hI, (Option.some.inj e).symm⟩
        · rw [h] at e; cases e
      · rw [if_neg hR] at h'; cases h'
  · rw [if_neg hL] at h'; cases h'
theorem Inv.root {V c v : List Int} (h : Inv C roots L V [] c v) : ∀ r ∈ roots, RefOK C v (r, L) := fun r hr => (h.rts r hr).elim id (fun e => by cases e)
theorem Inv.below {V c v : List Int} (h : Inv C roots L V [] c v) {k : Int} {m : Nat} (hk : RefOK C v (k, (m : Int) + 1)) (hne : k ≠ -1) :
    0 ≤ k ∧ k < (C.length : Int) ∧ goodB C.length (rd_T68 C k) ((m : Int) + 1) = true ∧ (rd_T68 C k).f2.length ≤ 4 ∧ (m = 0 → (rd_T68 C k).f2 = []) ∧ (m ≠ 0 → (rd_T68 C k).f2.length = 4) ∧ ∀ z ∈ (rd_T68 C k).f2, RefOK C v (z, (m : Int)) := by
  rcases hk with e | ⟨h0, h1, h2, h3⟩
  · exact absurd e hne
  · simp only at h0 h1 h2 h3
    have hV : k ∈ V := (h.vl k h0 h1).1 (by omega)
    obtain ⟨g, g1, g2⟩ := h.good k hV
    rw [h2] at g
    obtain ⟨q1, q2, q3⟩ := goodB_kids g
    refine ⟨h0, h1, g, q1, fun e => q2 (by omega), fun e => ?_, fun z hz => ?_⟩
    · have := good_node g (by omega)
      unfold okNode at this
      split at this
      · split at this
        · omega
        · cases this
      · cases this
    · rcases h.kid k hV z hz with e | e
      · rw [h2, show (m : Int) + 1 - 1 = (m : Int) by omega] at e
        exact e
      · cases e
theorem RefOK.zero {v : List Int} {k : Int} (h : RefOK C v (k, ((0 : Nat) : Int))) : k = -1 := by
  rcases h with e | ⟨_, _, _, e⟩
  · exact e
  · exact absurd rfl e
theorem rd_getD {l : List Int} {i : Nat} (h : i < l.length) : rd l (i : Int) = l[i] := by
  unfold rd
  rw [List.getD_eq_getElem?_getD, Int.toNat_natCast, List.getElem?_eq_getElem h]
  rfl
end
theorem is_root (C : List S68) (roots : List Int) (L a : Int) (b : Bool) (hr : b = true → (roots.length : Int) ≤ 8) (h : goodC 100 C roots L = some b) : impl_isRoot.f C roots L a = some (b && decide (0 ≤ a ∧ a < (roots.length : Int))) := by
  unfold impl_isRoot.f impl_GoodCow.f
  rw [h, Option.bind_some]
  cases b with
  | false => rfl
  | true =>
    have := hr rfl
    rw [if_pos rfl, within_inR, w64 (by omega) (by omega)]
    unfold inR
    simp only [Option.bind_some, Bool.true_and, Option.some.injEq]
    rw [decide_eq_decide]
    omega
end Go.Proofs.Ytacfalpgmibfnaa.PCow
namespace Go.Proofs.Ytacfalpgmibfnaa.PCow
open Go.RowKit Go.Proofs.YtacfalpgmibfnaaW.PrintWords Go.Proofs.YtacfalpgmibfnaaW.PrintLast Go.Proofs.YtacfalpgmibfnaaW.PrintMore Go.Proofs.Ytacfalpgmibfnaa.E
set_option linter.unusedSimpArgs false
set_option linter.unusedVariables false
theorem size1 (x : Int) : Ev (fun k => spec_l14Size.l0 k 1 x) x := Ev.step (fun _ => spec_l14Size.l0.eq_2 ..) (ev_neg (by omega) (ev_ret rfl))
theorem size_up {n n' x x' r : Int} (h0 : 1 < n) (h1 : n ≤ 4) (hx0 : 0 ≤ x) (hx1 : x ≤ 64) (hn : n' = n - 1) (hx : x' = x * 4) (h : Ev (fun k => spec_l14Size.l0 k n' x') r) : Ev (fun k => spec_l14Size.l0 k n x) r := by
  subst hn hx
  refine Ev.step (fun _ => spec_l14Size.l0.eq_2 ..) (ev_pos (by omega) ?_)
  rw [w64 (x := n - 1) (by omega) (by omega), w64 (x := x * 4) (by omega) (by omega)]
  exact h
theorem size_2 : Ev (fun k => spec_l14Size.f k 2) 4 := by
  unfold spec_l14Size.f
  exact size_up (n' := 1) (x' := 4) (by omega) (by omega) (by omega) (by omega) (by omega) (by omega) (size1 4)
theorem size_3 : Ev (fun k => spec_l14Size.f k 3) 16 := by
  unfold spec_l14Size.f
  exact size_up (n' := 2) (x' := 4) (by omega) (by omega) (by omega) (by omega) (by omega) (by omega) (size_up (n' := 1) (x' := 16) (by omega) (by omega) (by omega) (by omega) (by omega) (by omega) (size1 16))
theorem size_4 : Ev (fun k => spec_l14Size.f k 4) 64 := by
  unfold spec_l14Size.f
  exact size_up (n' := 3) (x' := 4) (by omega) (by omega) (by omega) (by omega) (by omega) (by omega) (size_up (n' := 2) (x' := 16) (by omega) (by omega) (by omega) (by omega) (by omega) (by omega) (size_up (n' := 1) (x' := 64) (by omega) (by omega) (by omega) (by omega) (by omega) (by omega) (size1 64)))
def plc (L : Int) : Int := if L = 1 then 1 else if L = 2 then 4 else 16
theorem places_both (C : List S68) (roots : List Int) (L : Int) (h1 : 1 ≤ L) (h3 : L ≤ 3) : Ev (fun k => spec_l14Places.f k C roots L) (plc L) ∧ impl_Cow_places.f C roots L = some (plc L) := by
  unfold spec_l14Places.f impl_Cow_places.f
  obtain rfl | rfl | rfl : L = 1 ∨ L = 2 ∨ L = 3 := by omega
  · exact ⟨Ev.bind (a := 4) (by rw [show wrap64 (1 + 1) = 2 by decide +kernel]; exact size_2) (ev_ret (by decide +kernel)), by decide +kernel⟩
  · exact ⟨Ev.bind (a := 16) (by rw [show wrap64 (2 + 1) = 3 by decide +kernel]; exact size_3) (ev_ret (by decide +kernel)), by decide +kernel⟩
  · exact ⟨Ev.bind (a := 64) (by rw [show wrap64 (3 + 1) = 4 by decide +kernel]; exact size_4) (ev_ret (by decide +kernel)), by decide +kernel⟩
theorem digit_all : ∀ i : Fin 16, impl_digit.f (((i : Nat) : Int)) 2 = some ((((i : Nat) : Int)) % 4) ∧ impl_digit.f (((i : Nat) : Int)) 3 = some ((((i : Nat) : Int)) / 4) := by decide +kernel
theorem digit_2 (b : Int) (h0 : 0 ≤ b) (h1 : b < 16) : impl_digit.f b 2 = some (b % 4) := by
  have := (digit_all ⟨b.toNat, by omega⟩).1
  simp only [show ((b.toNat : Nat) : Int) = b by omega] at this
  exact this
theorem digit_3 (b : Int) (h0 : 0 ≤ b) (h1 : b < 16) : impl_digit.f b 3 = some (b / 4) := by
  have := (digit_all ⟨b.toNat, by omega⟩).2
  simp only [show ((b.toNat : Nat) : Int) = b by omega] at this
  exact this
section
variable {C : List S68} {roots : List Int} {L : Int}
theorem leaf_none (a b l : Int) : ∃ r, Ev (fun n => spec_l14Leaf.l0 n (-1) a l C roots L) r ∧ Ev (fun n => impl_Cow_leafAt.l0 n b (-1) l C roots L) r :=
  ⟨_, Ev.step (fun _ => spec_l14Leaf.l0.eq_2 ..) (ev_neg (by omega) (ev_pos (by omega) (ev_ret rfl))), Ev.step (fun _ => impl_Cow_leafAt.l0.eq_2 ..) (ev_neg (by omega) (ev_pos (by omega) (ev_ret rfl)))⟩
theorem leaf_one {v : List Int} {k : Int} (hk : RefOK C v (k, 1)) (a b : Int) : ∃ r, Ev (fun n => spec_l14Leaf.l0 n k a 1 C roots L) r ∧ Ev (fun n => impl_Cow_leafAt.l0 n b k 1 C roots L) r := by
  rcases hk with e | ⟨h0, h1, _, _⟩
  · simp only at e
    subst e
    exact leaf_none a b 1
  · simp only at h0 h1
    exact ⟨_, Ev.step (fun _ => spec_l14Leaf.l0.eq_2 ..) (ev_pos h0 (ev_neg (by omega) (ev_neg (by omega) (ev_pos h0 (ev_pos h1 (ev_ret rfl)))))), Ev.step (fun _ => impl_Cow_leafAt.l0.eq_2 ..) (ev_pos h0 (ev_neg (by omega) (ev_neg (by omega) (ev_pos h0 (ev_pos h1 (ev_ret rfl))))))⟩
theorem leaf_two {V c v : List Int} (hI : Inv C roots L V [] c v) {k : Int} (hk : RefOK C v (k, 2)) (a b : Int) (h0 : 0 ≤ b) (h1 : b < 16) (hb : b % 4 = a) : ∃ r, Ev (fun n => spec_l14Leaf.l0 n k a 2 C roots L) r ∧ Ev (fun n => impl_Cow_leafAt.l0 n b k 2 C roots L) r := by
  by_cases hk1 : k = -1
  · subst hk1; exact leaf_none a b 2
  · obtain ⟨k0, k1, _, _, _, k6, k7⟩ := hI.below (m := 1) hk hk1
    have kl := k6 (by omega)
    have ha : a.toNat < (rd_T68 C k).f2.length := by omega
    have hz : RefOK C v (rd (rd_T68 C k).f2 a, 1) := by
      have := k7 _ (List.getElem_mem ha)
      rw [← rd_getD ha, show ((a.toNat : Nat) : Int) = a by omega] at this
      exact this
    have e1 : wrap64 (Int.tdiv 4 4) = 1 := by decide +kernel
    have e2 : wrap64 (2 - 1) = 1 := by decide +kernel
    have e3 : wrap64 (Int.tdiv a 1) = a := by rw [tdiv_pos (by omega), Int.ediv_one, w64 (by omega) (by omega)]
    obtain ⟨r, r1, r2⟩ := leaf_one (roots := roots) (L := L) hz (Int.tmod a 1) b
    refine ⟨r, Ev.step (fun _ => spec_l14Leaf.l0.eq_2 ..) (ev_pos k0 (ev_pos (by omega) (Ev.bind (a := 4) size_2 (ev_pos k0 (ev_pos k1 ?_))))), Ev.step (fun _ => impl_Cow_leafAt.l0.eq_2 ..) (ev_pos k0 (ev_pos (by omega) (ev_pos k0 (ev_pos k1 (ev_bindc (digit_2 b h0 h1) ?_)))))⟩
    · rw [e1, e2, e3]
      exact ev_neg (by omega) (ev_pos (by omega) (ev_pos (by omega) r1))
    · rw [hb, e2]
      exact ev_pos (by omega) (ev_pos (by omega) r2)
theorem leaf_three {V c v : List Int} (hI : Inv C roots L V [] c v) {k : Int} (hk : RefOK C v (k, 3)) (a : Int) (h0 : 0 ≤ a) (h1 : a < 16) : ∃ r, Ev (fun n => spec_l14Leaf.l0 n k a 3 C roots L) r ∧ Ev (fun n => impl_Cow_leafAt.l0 n a k 3 C roots L) r := by
  by_cases hk1 : k = -1
  · subst hk1; exact leaf_none a a 3
  · obtain ⟨k0, k1, _, _, _, k6, k7⟩ := hI.below (m := 2) hk hk1
    have kl := k6 (by omega)
    have ha : (a / 4).toNat < (rd_T68 C k).f2.length := by omega
    have hz : RefOK C v (rd (rd_T68 C k).f2 (a / 4), 2) := by
      have := k7 _ (List.getElem_mem ha)
      rw [← rd_getD ha, show (((a / 4).toNat : Nat) : Int) = a / 4 by omega] at this
      exact this
    have e1 : wrap64 (Int.tdiv 16 4) = 4 := by decide +kernel
    have e2 : wrap64 (3 - 1) = 2 := by decide +kernel
    have e3 : wrap64 (Int.tdiv a 4) = a / 4 := by rw [tdiv_pos (by omega), w64 (by omega) (by omega)]
    obtain ⟨r, r1, r2⟩ := leaf_two hI hz (a % 4) a h0 h1 rfl
    refine ⟨r, Ev.step (fun _ => spec_l14Leaf.l0.eq_2 ..) (ev_pos k0 (ev_pos (by omega) (Ev.bind (a := 16) size_3 (ev_pos k0 (ev_pos k1 ?_))))), Ev.step (fun _ => impl_Cow_leafAt.l0.eq_2 ..) (ev_pos k0 (ev_pos (by omega) (ev_pos k0 (ev_pos k1 (ev_bindc (digit_3 a h0 h1) ?_)))))⟩
    · rw [e1, e2, e3, tmod_pos h0]
      exact ev_neg (by omega) (ev_pos (by omega) (ev_pos (by omega) r1))
    · rw [e2]
      exact ev_pos (by omega) (ev_pos (by omega) r2)
theorem leaf_both {V c v : List Int} (hI : Inv C roots L V [] c v) (h1 : 1 ≤ L) (h3 : L ≤ 3) (a q : Int) (ha : 0 ≤ a ∧ a < (roots.length : Int)) (hq0 : 0 ≤ q) (hq1 : q < plc L) : ∃ r, Ev (fun n => spec_l14Leaf.f n C roots L (rd roots a) q) r ∧ Ev (fun n => impl_Cow_leafAt.f n C roots L a q) r := by
  unfold spec_l14Leaf.f impl_Cow_leafAt.f
  have hk : RefOK C v (rd roots a, L) := by
    have hl : a.toNat < roots.length := by omega
    have := hI.root _ (List.getElem_mem hl)
    rw [← rd_getD hl, show ((a.toNat : Nat) : Int) = a by omega] at this
    exact this
  obtain ⟨r, r1, r2⟩ : ∃ r, Ev (fun n => spec_l14Leaf.l0 n (rd roots a) q L C roots L) r ∧ Ev (fun n => impl_Cow_leafAt.l0 n q (rd roots a) L C roots L) r := by
    unfold plc at hq1
    obtain rfl | rfl | rfl : L = 1 ∨ L = 2 ∨ L = 3 := by omega
    · exact leaf_one hk q q
    · exact leaf_two hI hk q q hq0 (by simp at hq1; omega) (by simp at hq1; omega)
    · exact leaf_three hI hk q hq0 (by simp at hq1; omega)
  exact ⟨r, r1, ev_pos ha.1 (ev_pos ha.2 r2)⟩
end
end Go.Proofs.Ytacfalpgmibfnaa.PCow
namespace Go.Proofs.Ytacfalpgmibfnaa.PCow
open Go.RowKit Go.Proofs.YtacfalpgmibfnaaW.PrintWords Go.Proofs.YtacfalpgmibfnaaW.PrintLast Go.Proofs.YtacfalpgmibfnaaW.PrintMore Go.Proofs.Ytacfalpgmibfnaa.E
set_option linter.unusedSimpArgs false
set_option linter.unusedVariables false
theorem sz2 (m : Nat) : spec_l14Size.f (m + 10) 2 = some 4 := by
 unfold spec_l14Size.f
 rw [spec_l14Size.l0.eq_2, if_pos (by omega), show wrap64 (2 - 1) = 1 by decide +kernel, show wrap64 (1 * 4) = 4 by decide +kernel, spec_l14Size.l0.eq_2, if_neg (by omega)]
theorem sz3 (m : Nat) : spec_l14Size.f (m + 10) 3 = some 16 := by
 unfold spec_l14Size.f
 rw [spec_l14Size.l0.eq_2, if_pos (by omega), show wrap64 (3 - 1) = 2 by decide +kernel, show wrap64 (1 * 4) = 4 by decide +kernel, spec_l14Size.l0.eq_2, if_pos (by omega), show wrap64 (2 - 1) = 1 by decide +kernel, show wrap64 (4 * 4) = 16 by decide +kernel, spec_l14Size.l0.eq_2, if_neg (by omega)]
theorem digs2 (m : Nat) (dg : Nat → Int) (a : Int) (h0 : 0 ≤ a) (h1 : a < 4) (h : dg 2 = a) : DigS (m + 10) dg 2 a :=
 ⟨4, 1, sz2 m, by decide +kernel, by omega, by rw [tdiv_pos (by omega), Int.ediv_one, w64 (by omega) (by omega)]; exact h.symm, trivial⟩
theorem digs (k : Nat) (L a : Int) (hk : 10 ≤ k) (h1 : 1 ≤ L) (h3 : L ≤ 3) (h0 : 0 ≤ a) (hp : a < plc L) : DigS k (dgI a) L.toNat a := by
 obtain ⟨m, rfl⟩ : ∃ m, k = m + 10 := ⟨k - 10, by omega⟩
 obtain rfl | rfl | rfl : L = 1 ∨ L = 2 ∨ L = 3 := by omega
 ·exact trivial
 ·have hp' : a < 4 := by simpa [plc] using hp
  refine digs2 m _ a h0 hp' ?_
  unfold dgI
  rw [show ((2 : Nat) : Int) = 2 by rfl, digit_2 a h0 (by omega)]
  show a % 4 = a
  omega
 ·have hp' : a < 16 := by simpa [plc] using hp
  have e2 : dgI a 2 = a % 4 := by
   unfold dgI
   rw [show ((2 : Nat) : Int) = 2 by rfl, digit_2 a h0 (by omega)]
   rfl
  have e3 : dgI a 3 = a / 4 := by
   unfold dgI
   rw [show ((3 : Nat) : Int) = 3 by rfl, digit_3 a h0 (by omega)]
   rfl
  refine ⟨16, 4, sz3 m, by decide +kernel, by omega, ?_, ?_⟩
  ·rw [tdiv_pos (by omega), w64 (by omega) (by omega)]
   exact e3.symm
  ·have et : Int.tmod a 4 = a % 4 := Int.tmod_eq_emod_of_nonneg h0
   rw [et]
   exact digs2 m _ (a % 4) (by omega) (by omega) e2
def putSd (K : Nat) (C : List CL) (R : List Int) (L root at_ : Int) (leaf : ByteArray) (o : List CL × List Int × Int) : Option (List CL × List Int × Int × Bool) :=
 if root < (o.2.1.length : Int) then ((putM (dgI at_) leaf L.toNat o.1 (rd R root)).bind fun q => (spec_GoodCow.f K q.1 (o.2.1.set root.toNat q.2) o.2.2).bind fun g => if g = true then some (q.1, o.2.1.set root.toNat q.2, o.2.2, true) else some ([], [], 0, false)) else none
def putSp (K : Nat) (C : List CL) (R : List Int) (L root at_ : Int) (leaf : ByteArray) : Option (List CL × List Int × Int × Bool) :=
 if 0 ≤ root ∧ root < (R.length : Int) then ((spec_l14Leaf.f K C R L (rd R root) at_).bind fun lf => if lf = leaf then ((spec_l14Own.f K C R L).bind fun o => some (o.1, o.2.1, o.2.2, true)) else (if 10 ≤ K ∧ 1 ≤ L ∧ L ≤ 3 ∧ 0 ≤ at_ ∧ at_ < plc L then ((spec_l14Own.f K C R L).bind fun o => putSd K C R L root at_ leaf o) else none)) else none
def spec_PutLeaf.f (K : Nat) (C : List CL) (R : List Int) (L root at_ : Int) (leaf : ByteArray) : Option (List CL × List Int × Int × Bool) :=
 (spec_GoodCow.f K C R L).bind fun b => if b = true then ((spec_l1In.f root 0 (wrap64 ((R.length : Int) - 1))).bind fun t => if t = true then ((spec_l14Places.f K C R L).bind fun p => (spec_l1In.f at_ 0 (wrap64 (p - 1))).bind fun t2 => if t2 = true then (if (leaf.size : Int) > 8 then some ([], [], 0, false) else putSp K C R L root at_ leaf) else some ([], [], 0, false)) else some ([], [], 0, false)) else some ([], [], 0, false)
set_option maxHeartbeats 16000000 in
set_option maxRecDepth 100000 in
theorem spec_PutLeaf.calls (k_ : Nat) (A0 : Option Addr) (c0 : Nat) (C : List CL) (A1 : Option Addr) (c1 : Nat) (R : List Int) (L root at_ : Int) (leaf : ByteArray) (r1 : List CL) (r2 : List Int) (r3 : Int) (r4 : Bool) (w : World) (hr0 : Kd.C k68 w A0 C.length C) (hc0 : C.length ≤ c0) (hr1 : Kd.C (Kd.int .i64) w A1 R.length R) (hc1 : R.length ≤ c1) (h : spec_PutLeaf.f k_ C R L root at_ leaf = some (r1, r2, r3, r4)) :
  Calls Try.prog 38 #[.agg #[.slice A0 C.length c0, .slice A1 R.length c1, .int .i64 L], .int .i64 root, .int .i64 at_, .string leaf] w fun e w' => ∃ v0_ v1_ : Value, e = .returned (.tuple #[.agg #[v0_, v1_, .int .i64 r3], .bool r4]) ∧ Kd.S k68 68 w' w.heap.size (fun k_ => some k_ ≠ (v1_ : Value).ownBlock) v0_ r1 ∧ Kd.R (Kd.int .i64) 3 w' w.heap.size (fun _ => True) v1_ r2 ∧ Below w.heap.size w w' := by
 have hu25 := Try.underlying25
 have hu68 := Try.underlying68
 have hu22 := Try.underlying22
 have HR0 := Aside0.mk hr0
 have HR1 := Aside0.mk hr1
 have HC0 := Aside0.mk hc0
 have HC1 := Aside0.mk hc1
 have hl : R.length ≤ 9223372036854775807 := hr1.2.1
 have hlc : C.length ≤ 9223372036854775807 := hr0.2.1
 clear hr0 hr1 hc0 hc1
 obtain ⟨b, hb, h⟩ := Option.bind_eq_some_iff.1 h
 have HBB := Aside0.mk hb
 clear hb
 obtain ⟨W1, hW1⟩ : ∃ W, w.alloc (.cells #[.slice A0 C.length c0, .slice A1 R.length c1, .int .i64 L] 25) = W := ⟨_, rfl⟩
 obtain ⟨W2, hW2⟩ : ∃ W, W1.alloc (.cells #[.slice none 0 0, .slice none 0 0, .int .i64 0] 25) = W := ⟨_, rfl⟩
 have hb1 : Below w.heap.size w W1 := by rw [← hW1]; exact below_alloc (Below.refl _ _) _
 have hb2 : Below W1.heap.size W1 W2 := by rw [← hW2]; exact below_alloc (Below.refl _ _) _
 have X1 : W1.heap[w.heap.size]? = some (.cells #[.slice A0 C.length c0, .slice A1 R.length c1, .int .i64 L] 25 (0, 0)) := by rw [← hW1]; exact heap_alloc_new w _
 have Z1 : W2.heap[W1.heap.size]? = some (.cells #[.slice none 0 0, .slice none 0 0, .int .i64 0] 25 (0, 0)) := by rw [← hW2]; exact heap_alloc_new W1 _
 have B2 := Aside0.mk (below_step hb1 hb2)
 have X2 := Aside0.mk (blk_below X1 hb2)
 have Z2 := Aside0.mk Z1
 have ZG := Aside0.mk (show w.heap.size ≤ W1.heap.size from hb1.size)
 have ZN := Aside0.mk (show w.heap.size ≠ W1.heap.size by have := blk_lt X1; omega)
 clear hb1 hb2 X1 Z1
 have d0 : W2.cell? ⟨w.heap.size, 0, none⟩ = some (.slice A0 C.length c0) := (blk_cell X2.out 0).trans rfl
 have d1 : W2.cell? ⟨w.heap.size, 1, none⟩ = some (.slice A1 R.length c1) := (blk_cell X2.out 1).trans rfl
 have d2 : W2.cell? ⟨w.heap.size, 2, none⟩ = some (.int .i64 L) := (blk_cell X2.out 2).trans rfl
 have TT := Aside0.mk (spec_GoodCow.calls k_ A0 c0 C A1 c1 R L b W2 (Kd.C_below HR0.out B2.out) HC0.out (Kd.C_below HR1.out B2.out) HC1.out HBB.out)
 have HH := Aside0.mk h
 clear h
 go_enter Try.func38, Try.ntmps38
 go_wp2_with (go_at_call 20; refine TT.out.mono ?_)
 (first | rintro e w3 rfl hb | rintro e w3 ⟨rfl, hb⟩)
 clear TT hW1 d0 d1 d2
 generalize hgz : W1.heap.size = gz at *
 clear hgz hW2
 have B3 := Aside0.mk (below_step B2.out hb)
 have X3 := Aside0.mk (blk_below X2.out hb)
 have Z3 := Aside0.mk (blk_below Z2.out hb)
 clear B2 X2 Z2 hb
 have d0 : w3.cell? ⟨w.heap.size, 0, none⟩ = some (.slice A0 C.length c0) := (blk_cell X3.out 0).trans rfl
 have d1 : w3.cell? ⟨w.heap.size, 1, none⟩ = some (.slice A1 R.length c1) := (blk_cell X3.out 1).trans rfl
 have d2 : w3.cell? ⟨w.heap.size, 2, none⟩ = some (.int .i64 L) := (blk_cell X3.out 2).trans rfl
 have z0 : w3.cell? ⟨gz, 0, none⟩ = some (.slice none 0 0) := (blk_cell Z3.out 0).trans rfl
 have z1 : w3.cell? ⟨gz, 1, none⟩ = some (.slice none 0 0) := (blk_cell Z3.out 1).trans rfl
 have z2 : w3.cell? ⟨gz, 2, none⟩ = some (.int .i64 0) := (blk_cell Z3.out 2).trans rfl
 have y0 := blk_frozen Z3.out 0
 have y1 := blk_frozen Z3.out 1
 have y2 := blk_frozen Z3.out 2
 cases b with
 | false =>
  have h : some (([] : List CL), ([] : List Int), (0 : Int), false) = some (r1, r2, r3, r4) := HH.out
  simp only [Option.some.injEq, Prod.mk.injEq] at h
  obtain ⟨rfl, rfl, rfl, rfl⟩ := h
  go_wp2
  refine bodyPost_ret (results_ct rfl _ _ gz 25 #[.slice none 0 0, .slice none 0 0, .int .i64 0] (0, 0) _ rfl (put3 Z3.out _ _ _) Try.underlying25 rfl (by kernel_rfl)) rfl ?_
  exact ⟨_, _, rfl, Kd.S_nil _ _ _ _ _, Kd.R_nil _ _ _ _ _, below_set (below_set (below_set B3.out ZG.out) ZG.out) ZG.out⟩
 | true =>
  have h : ((spec_l1In.f root 0 (wrap64 ((R.length : Int) - 1))).bind fun t => if t = true then ((spec_l14Places.f k_ C R L).bind fun p => (spec_l1In.f at_ 0 (wrap64 (p - 1))).bind fun t2 => if t2 = true then (if (leaf.size : Int) > 8 then some (([] : List CL), ([] : List Int), (0 : Int), false) else putSp k_ C R L root at_ leaf) else some (([] : List CL), ([] : List Int), (0 : Int), false)) else some (([] : List CL), ([] : List Int), (0 : Int), false)) = some (r1, r2, r3, r4) := HH.out
  obtain ⟨t, ht, h⟩ := Option.bind_eq_some_iff.1 h
  rw [w64 (x := (R.length : Int) - 1) (by omega) (by omega)] at ht
  have TT := Aside0.mk (spec_l1In.calls root 0 ((R.length : Int) - 1) t w3 ht)
  replace HH := Aside0.mk h
  clear h ht
  go_wp2_with (go_at_call 44; refine TT.out.mono ?_)
  (first | rintro e w4 rfl hd | rintro e w4 ⟨rfl, hd⟩)
  have hb := hd.below
  have B4 := Aside0.mk (below_step B3.out hb)
  have X4 := Aside0.mk (blk_below X3.out hb)
  have Z4 := Aside0.mk (blk_below Z3.out hb)
  clear TT hd hb d0 d1 d2 z0 z1 z2 y0 y1 y2 B3 X3 Z3
  have d0 : w4.cell? ⟨w.heap.size, 0, none⟩ = some (.slice A0 C.length c0) := (blk_cell X4.out 0).trans rfl
  have d1 : w4.cell? ⟨w.heap.size, 1, none⟩ = some (.slice A1 R.length c1) := (blk_cell X4.out 1).trans rfl
  have d2 : w4.cell? ⟨w.heap.size, 2, none⟩ = some (.int .i64 L) := (blk_cell X4.out 2).trans rfl
  have z0 : w4.cell? ⟨gz, 0, none⟩ = some (.slice none 0 0) := (blk_cell Z4.out 0).trans rfl
  have z1 : w4.cell? ⟨gz, 1, none⟩ = some (.slice none 0 0) := (blk_cell Z4.out 1).trans rfl
  have z2 : w4.cell? ⟨gz, 2, none⟩ = some (.int .i64 0) := (blk_cell Z4.out 2).trans rfl
  have y0 := blk_frozen Z4.out 0
  have y1 := blk_frozen Z4.out 1
  have y2 := blk_frozen Z4.out 2
  cases t with
  | false =>
   have h : some (([] : List CL), ([] : List Int), (0 : Int), false) = some (r1, r2, r3, r4) := HH.out
   simp only [Option.some.injEq, Prod.mk.injEq] at h
   obtain ⟨rfl, rfl, rfl, rfl⟩ := h
   go_wp2
   refine bodyPost_ret (results_ct rfl _ _ gz 25 #[.slice none 0 0, .slice none 0 0, .int .i64 0] (0, 0) _ rfl (put3 Z4.out _ _ _) Try.underlying25 rfl (by kernel_rfl)) rfl ?_
   exact ⟨_, _, rfl, Kd.S_nil _ _ _ _ _, Kd.R_nil _ _ _ _ _, below_set (below_set (below_set B4.out ZG.out) ZG.out) ZG.out⟩
  | true =>
   have h : ((spec_l14Places.f k_ C R L).bind fun p => (spec_l1In.f at_ 0 (wrap64 (p - 1))).bind fun t2 => if t2 = true then (if (leaf.size : Int) > 8 then some (([] : List CL), ([] : List Int), (0 : Int), false) else putSp k_ C R L root at_ leaf) else some (([] : List CL), ([] : List Int), (0 : Int), false)) = some (r1, r2, r3, r4) := HH.out
   obtain ⟨p, hp, h⟩ := Option.bind_eq_some_iff.1 h
   obtain ⟨t2, ht, h⟩ := Option.bind_eq_some_iff.1 h
   have TT := Aside0.mk (spec_l14Places.calls k_ A0 c0 C A1 c1 R L p w4 (Kd.C_below HR0.out B4.out) HC0.out (Kd.C_below HR1.out B4.out) HC1.out hp)
   replace HH := Aside0.mk h
   have HT := Aside0.mk ht
   clear h hp ht
   go_wp2_with (go_at_call 61; refine TT.out.mono ?_)
   (first | rintro e w5 rfl hb | rintro e w5 ⟨rfl, hb⟩)
   have B5 := Aside0.mk (below_step B4.out hb)
   have X5 := Aside0.mk (blk_below X4.out hb)
   have Z5 := Aside0.mk (blk_below Z4.out hb)
   clear TT hb d0 d1 d2 z0 z1 z2 y0 y1 y2 B4 X4 Z4
   have TT := Aside0.mk (spec_l1In.calls at_ 0 (wrap64 (p - 1)) t2 w5 HT.out)
   go_wp2_with (go_at_call 44; refine TT.out.mono ?_)
   (first | rintro e w6 rfl hd | rintro e w6 ⟨rfl, hd⟩)
   have hb := hd.below
   have B6 := Aside0.mk (below_step B5.out hb)
   have X6 := Aside0.mk (blk_below X5.out hb)
   have Z6 := Aside0.mk (blk_below Z5.out hb)
   clear TT hb hd HT B5 X5 Z5
   have d0 : w6.cell? ⟨w.heap.size, 0, none⟩ = some (.slice A0 C.length c0) := (blk_cell X6.out 0).trans rfl
   have d1 : w6.cell? ⟨w.heap.size, 1, none⟩ = some (.slice A1 R.length c1) := (blk_cell X6.out 1).trans rfl
   have d2 : w6.cell? ⟨w.heap.size, 2, none⟩ = some (.int .i64 L) := (blk_cell X6.out 2).trans rfl
   have z0 : w6.cell? ⟨gz, 0, none⟩ = some (.slice none 0 0) := (blk_cell Z6.out 0).trans rfl
   have z1 : w6.cell? ⟨gz, 1, none⟩ = some (.slice none 0 0) := (blk_cell Z6.out 1).trans rfl
   have z2 : w6.cell? ⟨gz, 2, none⟩ = some (.int .i64 0) := (blk_cell Z6.out 2).trans rfl
   have y0 := blk_frozen Z6.out 0
   have y1 := blk_frozen Z6.out 1
   have y2 := blk_frozen Z6.out 2
   cases t2 with
   | false =>
    have h : some (([] : List CL), ([] : List Int), (0 : Int), false) = some (r1, r2, r3, r4) := HH.out
    simp only [Option.some.injEq, Prod.mk.injEq] at h
    obtain ⟨rfl, rfl, rfl, rfl⟩ := h
    go_wp2
    refine bodyPost_ret (results_ct rfl _ _ gz 25 #[.slice none 0 0, .slice none 0 0, .int .i64 0] (0, 0) _ rfl (put3 Z6.out _ _ _) Try.underlying25 rfl (by kernel_rfl)) rfl ?_
    exact ⟨_, _, rfl, Kd.S_nil _ _ _ _ _, Kd.R_nil _ _ _ _ _, below_set (below_set (below_set B6.out ZG.out) ZG.out) ZG.out⟩
   | true =>
    have h : (if (leaf.size : Int) > 8 then some (([] : List CL), ([] : List Int), (0 : Int), false) else putSp k_ C R L root at_ leaf) = some (r1, r2, r3, r4) := HH.out
    by_cases h8 : (leaf.size : Int) > 8
    ·rw [if_pos h8] at h
     have q1 : ((leaf.size : Int) > 8) = True := eq_true h8
     have q2 : (8 < (leaf.size : Int)) = True := eq_true h8
     have q3 : (8 < leaf.size) = True := eq_true (by omega)
     clear h8 HH
     simp only [Option.some.injEq, Prod.mk.injEq] at h
     obtain ⟨rfl, rfl, rfl, rfl⟩ := h
     go_wp2
     refine bodyPost_ret (results_ct rfl _ _ gz 25 #[.slice none 0 0, .slice none 0 0, .int .i64 0] (0, 0) _ rfl (put3 Z6.out _ _ _) Try.underlying25 rfl (by kernel_rfl)) rfl ?_
     exact ⟨_, _, rfl, Kd.S_nil _ _ _ _ _, Kd.R_nil _ _ _ _ _, below_set (below_set (below_set B6.out ZG.out) ZG.out) ZG.out⟩
    ·rw [if_neg h8] at h
     have q1 : ((leaf.size : Int) > 8) = False := eq_false h8
     have q2 : (8 < (leaf.size : Int)) = False := eq_false h8
     have q3 : (8 < leaf.size) = False := eq_false (by omega)
     clear h8 HH
     unfold putSp at h
     split at h
     ·rename_i hrt
      obtain ⟨lf, hlf, h⟩ := Option.bind_eq_some_iff.1 h
      have HLF := Aside0.mk hlf
      have HH := Aside0.mk h
      obtain ⟨ri, hri⟩ : ∃ ri : Nat, root = (ri : Int) := ⟨root.toNat, by omega⟩
      subst hri
      have HRT := Aside0.mk (show ri < R.length by omega)
      obtain ⟨k, hk⟩ : ∃ k, rd R (ri : Int) = k := ⟨_, rfl⟩
      rw [hk] at HLF
      obtain ⟨ad, e5, hx⟩ := Kd.at_int (Kd.C_below HR1.out B6.out) (ri : Int) (by omega) (by omega)
      subst e5
      have HIX := Aside0.mk (show ∀ W, Below w.heap.size w W → W.cell? (ad.add ri) = some (.int .i64 k) from fun W hW => by
       obtain ⟨ad', e', hx'⟩ := Kd.at_int (Kd.C_below HR1.out hW) (ri : Int) (by omega) (by have := HRT.out; omega)
       cases e'
       rw [hk, Int.toNat_natCast] at hx'
       exact hx')
      have HKK := Aside0.mk hk
      have p1 : (0 ≤ (ri : Int)) = True := eq_true (by omega)
      have p2 : ((ri : Int) < (R.length : Int)) = True := eq_true (by omega)
      clear hlf h hrt hk hx
      go_wp2
      clear d0 d1 d2 z0 z1 z2 y0 y1 y2
      refine start_ (n := 10) (S := fun w' => w'.cell? ⟨w.heap.size, 0, none⟩ = some (.slice A0 C.length c0) ∧ w'.cell? ⟨w.heap.size, 1, none⟩ = some (.slice (some ad) R.length c1) ∧ w'.cell? ⟨w.heap.size, 2, none⟩ = some (.int .i64 L) ∧ w'.cell? (ad.add ri) = some (.int .i64 k)) (ds := []) #[false, false, false, false, false, false, false, false, false, false] (by kernel_rfl) rfl rfl ⟨(blk_cell X6.out 0).trans rfl, (blk_cell X6.out 1).trans rfl, (blk_cell X6.out 2).trans rfl, HIX.out w6 B6.out⟩ (fun hHeld => ?_)
      replace B6 := Aside0.mk (below_drew1 B6.out)
      replace X6 := Aside0.mk (blk_drew X6.out)
      replace Z6 := Aside0.mk (blk_drew Z6.out)
      generalize w6.drew = w7 at B6 X6 Z6 hHeld ⊢
      refine take_ (i := 0) (N := some 38) (v := ?_) (a' := ?_) #[true, false, false, false, false, false, false, false, false, false] rfl rfl (by kernel_rfl) (fun _ _ _ h => h) (Or.inl ⟨by rfl, ?_⟩) hHeld ?_ ?_
      rotate_left
      ·rintro w' ⟨s0, s1, s2, s3⟩
       go_simp
       with_reducible rfl
      rotate_left
      ·simp only [Act.put, List.setIfInBounds_toArray, List.set_cons_zero, List.set_cons_succ, i64_w, i32_w]
       rfl
      refine take_ (i := 1) (N := some 39) (v := ?_) (a' := ?_) #[true, true, false, false, false, false, false, false, false, false] rfl rfl (by kernel_rfl) (fun _ _ _ h => h) (Or.inl ⟨by rfl, ?_⟩) hHeld ?_ ?_
      rotate_left
      ·rintro w' ⟨s0, s1, s2, s3⟩
       go_simp
       with_reducible rfl
      rotate_left
      ·simp only [Act.put, List.setIfInBounds_toArray, List.set_cons_zero, List.set_cons_succ, i64_w, i32_w]
       rfl
      refine take_ (i := 2) (N := some 40) (v := ?_) (a' := ?_) #[true, true, true, false, false, false, false, false, false, false] rfl rfl (by kernel_rfl) (fun _ _ _ h => h) (Or.inl ⟨by rfl, ?_⟩) hHeld ?_ ?_
      rotate_left
      ·rintro w' ⟨s0, s1, s2, s3⟩
       go_simp
       with_reducible rfl
      rotate_left
      ·simp only [Act.put, List.setIfInBounds_toArray, List.set_cons_zero, List.set_cons_succ, i64_w, i32_w]
       rfl
      refine take_ (i := 3) (N := some 41) (v := ?_) (a' := ?_) #[true, true, true, true, false, false, false, false, false, false] rfl rfl (by kernel_rfl) (fun _ _ _ h => h) (Or.inl ⟨by rfl, ?_⟩) hHeld ?_ ?_
      rotate_left
      ·rintro w' ⟨s0, s1, s2, s3⟩
       go_simp
       with_reducible rfl
      rotate_left
      ·simp only [Act.put, List.setIfInBounds_toArray, List.set_cons_zero, List.set_cons_succ, i64_w, i32_w]
       rfl
      refine take_ (i := 4) (N := some 42) (v := ?_) (a' := ?_) #[true, true, true, true, true, false, false, false, false, false] rfl rfl (by kernel_rfl) (fun _ _ _ h => h) (Or.inl ⟨by rfl, ?_⟩) hHeld ?_ ?_
      rotate_left
      ·rintro w' ⟨s0, s1, s2, s3⟩
       go_simp
       with_reducible rfl
      rotate_left
      ·simp only [Act.put, List.setIfInBounds_toArray, List.set_cons_zero, List.set_cons_succ, i64_w, i32_w]
       rfl
      refine take_ (i := 5) (N := some 43) (v := ?_) (a' := ?_) #[true, true, true, true, true, true, false, false, false, false] rfl rfl (by kernel_rfl) (fun _ _ _ h => h) (Or.inl ⟨by rfl, ?_⟩) hHeld ?_ ?_
      rotate_left
      ·rintro w' ⟨s0, s1, s2, s3⟩
       go_simp
       with_reducible rfl
      rotate_left
      ·simp only [Act.put, List.setIfInBounds_toArray, List.set_cons_zero, List.set_cons_succ, i64_w, i32_w]
       rfl
      refine take_ (i := 6) (N := some 44) (v := ?_) (a' := ?_) #[true, true, true, true, true, true, true, false, false, false] rfl rfl (by kernel_rfl) (fun _ _ _ h => h) (Or.inl ⟨by rfl, ?_⟩) hHeld ?_ ?_
      rotate_left
      ·rintro w' ⟨s0, s1, s2, s3⟩
       go_simp
       with_reducible rfl
      rotate_left
      ·simp only [Act.put, List.setIfInBounds_toArray, List.set_cons_zero, List.set_cons_succ, i64_w, i32_w]
       rfl
      refine take_ (i := 8) (N := some 46) (v := ?_) (a' := ?_) #[true, true, true, true, true, true, true, false, true, false] rfl rfl (by kernel_rfl) (fun _ _ _ h => h) (Or.inl ⟨by rfl, ?_⟩) hHeld ?_ ?_
      rotate_left
      ·rintro w' ⟨s0, s1, s2, s3⟩
       go_simp
       with_reducible rfl
      rotate_left
      ·simp only [Act.put, List.setIfInBounds_toArray, List.set_cons_zero, List.set_cons_succ, i64_w, i32_w]
       rfl
      refine one_ (i := 7) (N := some 45) #[true, true, true, true, true, true, true, true, true, false] rfl rfl (by kernel_rfl) (by decide) (fun K hK => ?_)
      refine goes_ Try.func62 (by kernel_rfl) rfl #[.agg #[.slice A0 C.length c0, .slice (some ad) R.length c1, .int .i64 L], .int .i64 k, .int .i64 at_] (by rfl) rfl rfl (by (try simp only [List.map_toArray, List.map_cons, List.map_nil]); first | done | rfl | (simp only [List.length_drop, List.length_take]; rfl)) ?_
      refine (spec_l14Leaf.calls k_ A0 c0 C (some ad) c1 R L k at_ lf w7 (Kd.C_below HR0.out B6.out) HC0.out (Kd.C_below HR1.out B6.out) HC1.out HLF.out).mono ?_
      (first | rintro e w8 rfl hb | rintro e w8 ⟨rfl, hb⟩)
      refine ⟨_, rfl, ?_⟩
      have B8 := Aside0.mk (below_step B6.out hb)
      have X8 := Aside0.mk (blk_below X6.out hb)
      have Z8 := Aside0.mk (blk_below Z6.out hb)
      clear hb B6 X6 Z6
      refine hK.out _ _ ⟨(blk_cell X8.out 0).trans rfl, (blk_cell X8.out 1).trans rfl, (blk_cell X8.out 2).trans rfl, HIX.out w8 B8.out⟩ (fun hHeld => ?_)
      clear hK K
      refine norm_ (a' := ?_) ?_ ?_
      rotate_left
      ·show Act.put _ (some 45) _ = _
       simp only [Act.put, List.setIfInBounds_toArray, List.set_cons_zero, List.set_cons_succ, i64_w, i32_w]
       rfl
      have h := HH.out
      by_cases hle : lf = leaf
      ·rw [if_pos hle] at h
       obtain ⟨⟨C1, R1, L1⟩, ho, h⟩ := Option.bind_eq_some_iff.1 h
       simp only [Option.some.injEq, Prod.mk.injEq] at h
       obtain ⟨rfl, rfl, rfl, rfl⟩ := h
       subst hle
       have n1 : (lf.toList == lf.toList) = true := by simp
       have TT := Aside0.mk (spec_l14Own.calls k_ A0 c0 C (some ad) c1 R L C1 R1 L1 w8 (Kd.C_below HR0.out B8.out) HC0.out (Kd.C_below HR1.out B8.out) HC1.out ho)
       clear ho HH
       refine pure_ (i := 9) (N := some 47) (v := ?_) (a' := ?_) #[true, true, true, true, true, true, true, true, true, true] rfl rfl (by kernel_rfl) (fun _ _ _ h => h) (Or.inl ⟨by rfl, ?_⟩) ?_ ?_
       rotate_left
       ·intro w'
        go_simp
        with_reducible rfl
       rotate_left
       ·simp only [Act.put, List.setIfInBounds_toArray, List.set_cons_zero, List.set_cons_succ, i64_w, i32_w, n1]
        rfl
       refine done_ (by kernel_rfl) ?_
       clear hHeld
       have d0 : w8.cell? ⟨w.heap.size, 0, none⟩ = some (.slice A0 C.length c0) := (blk_cell X8.out 0).trans rfl
       have d1 : w8.cell? ⟨w.heap.size, 1, none⟩ = some (.slice (some ad) R.length c1) := (blk_cell X8.out 1).trans rfl
       have d2 : w8.cell? ⟨w.heap.size, 2, none⟩ = some (.int .i64 L) := (blk_cell X8.out 2).trans rfl
       have z0 : w8.cell? ⟨gz, 0, none⟩ = some (.slice none 0 0) := (blk_cell Z8.out 0).trans rfl
       have z1 : w8.cell? ⟨gz, 1, none⟩ = some (.slice none 0 0) := (blk_cell Z8.out 1).trans rfl
       have z2 : w8.cell? ⟨gz, 2, none⟩ = some (.int .i64 0) := (blk_cell Z8.out 2).trans rfl
       have y0 := blk_frozen Z8.out 0
       have y1 := blk_frozen Z8.out 1
       have y2 := blk_frozen Z8.out 2
       go_wp2_with (go_at_call 69; refine TT.out.mono ?_; (first | rintro e w9 v0 v1 rfl hs hr hb | rintro e w9 ⟨v0, v1, rfl, hs, hr, hb⟩); (obtain ⟨A5, c5, rfl⟩ := Kd.S_slice hs); (obtain ⟨A6, c6, rfl⟩ := Kd.R_slice hr); (have B9 := Aside0.mk (below_step B8.out hb)); (have Z9 := Aside0.mk (blk_below Z8.out hb)); (have S9 := Aside0.mk (Kd.S_lower hs B8.out.size)); (have R9 := Aside0.mk (Kd.R_lower hr B8.out.size)); clear hs hr hb z0 z1 z2 y0 y1 y2; (have z0 : w9.cell? ⟨gz, 0, none⟩ = some (.slice none 0 0) := (blk_cell Z9.out 0).trans rfl); (have z1 : w9.cell? ⟨gz, 1, none⟩ = some (.slice none 0 0) := (blk_cell Z9.out 1).trans rfl); (have z2 : w9.cell? ⟨gz, 2, none⟩ = some (.int .i64 0) := (blk_cell Z9.out 2).trans rfl); (have y0 := blk_frozen Z9.out 0); (have y1 := blk_frozen Z9.out 1); (have y2 := blk_frozen Z9.out 2))
       refine bodyPost_ret (results_ct rfl _ _ gz 25 #[.slice A5 C1.length c5, .slice A6 R1.length c6, .int .i64 L1] (0, 0) _ rfl (put3 Z9.out _ _ _) Try.underlying25 rfl (by kernel_rfl)) rfl ?_
       obtain ⟨r1_, r2_, r3_⟩ := ret_cow (x := .slice A5 C1.length c5) (y := .slice A6 R1.length c6) (z := .int .i64 L1) Z9.out ZG.out S9.out (fun k_ h_ => h_) R9.out B9.out
       exact ⟨_, _, rfl, r1_, r2_, r3_⟩
      ·rw [if_neg hle] at h
       have n0 : lf.toList ≠ leaf.toList := fun e_ => hle (ba_eq.1 e_)
       have n1 : (lf.toList == leaf.toList) = false := beq_eq_false_iff_ne.2 n0
       have n2 : (lf.toList = leaf.toList) = False := eq_false n0
       refine pure_ (i := 9) (N := some 47) (v := ?_) (a' := ?_) #[true, true, true, true, true, true, true, true, true, true] rfl rfl (by kernel_rfl) (fun _ _ _ h => h) (Or.inl ⟨by rfl, ?_⟩) ?_ ?_
       rotate_left
       ·intro w'
        go_simp
        with_reducible rfl
       rotate_left
       ·simp only [Act.put, List.setIfInBounds_toArray, List.set_cons_zero, List.set_cons_succ, i64_w, i32_w, n1]
        rfl
       refine done_ (by kernel_rfl) ?_
       clear hHeld
       clear hle n0
       split at h
       ·rename_i hcd
        have DIG := Aside0.mk (digs k_ L at_ hcd.1 hcd.2.1 hcd.2.2.1 hcd.2.2.2.1 hcd.2.2.2.2)
        have LL := Aside0.mk (show L = ((L.toNat : Nat) : Int) ∧ L.toNat ≤ 1000 by omega)
        obtain ⟨⟨C1, R1, L1⟩, ho, h⟩ := Option.bind_eq_some_iff.1 h
        have HO := Aside0.mk ho
        unfold putSd at h
        simp only at h
        split at h
        ·rename_i hr1
         rw [HKK.out] at h
         obtain ⟨⟨C2, zq⟩, hq, h⟩ := Option.bind_eq_some_iff.1 h
         obtain ⟨g, hg, h⟩ := Option.bind_eq_some_iff.1 h
         simp only [Int.toNat_natCast] at hg h
         have HQ := Aside0.mk hq
         have HG := Aside0.mk hg
         replace HH := Aside0.mk h
         have HR1L := Aside0.mk (show ri < R1.length by omega)
         clear hcd ho hr1 hq hg h
         go_wp2
         refine start_ (n := 18) (S := fun w' => w'.cell? ⟨w.heap.size, 0, none⟩ = some (.slice A0 C.length c0) ∧ w'.cell? ⟨w.heap.size, 1, none⟩ = some (.slice (some ad) R.length c1) ∧ w'.cell? ⟨w.heap.size, 2, none⟩ = some (.int .i64 L) ∧ w'.cell? (ad.add ri) = some (.int .i64 k)) (ds := [16]) #[false, false, false, false, false, false, false, false, false, false, false, false, false, false, false, false, false, false] (by kernel_rfl) rfl rfl ⟨(blk_cell X8.out 0).trans rfl, (blk_cell X8.out 1).trans rfl, (blk_cell X8.out 2).trans rfl, HIX.out w8 B8.out⟩ (fun hHeld => ?_)
         replace B8 := Aside0.mk (below_drew1 B8.out)
         replace X8 := Aside0.mk (blk_drew X8.out)
         replace Z8 := Aside0.mk (blk_drew Z8.out)
         generalize w8.drew = wa at B8 X8 Z8 hHeld ⊢
         clear n1 n2
         refine take_ (i := 0) (N := some 51) (v := ?_) (a' := ?_) #[true, false, false, false, false, false, false, false, false, false, false, false, false, false, false, false, false, false] rfl rfl (by kernel_rfl) (fun _ _ _ h => h) (Or.inl ⟨by rfl, ?_⟩) hHeld ?_ ?_
         rotate_left
         ·rintro w' ⟨s0, s1, s2, s3⟩
          go_simp
          with_reducible rfl
         rotate_left
         ·simp only [Act.put, List.setIfInBounds_toArray, List.set_cons_zero, List.set_cons_succ, i64_w, i32_w]
          rfl
         refine take_ (i := 2) (N := some 53) (v := ?_) (a' := ?_) #[true, false, true, false, false, false, false, false, false, false, false, false, false, false, false, false, false, false] rfl rfl (by kernel_rfl) (fun _ _ _ h => h) (Or.inl ⟨by rfl, ?_⟩) hHeld ?_ ?_
         rotate_left
         ·rintro w' ⟨s0, s1, s2, s3⟩
          go_simp
          with_reducible rfl
         rotate_left
         ·simp only [Act.put, List.setIfInBounds_toArray, List.set_cons_zero, List.set_cons_succ, i64_w, i32_w]
          rfl
         refine take_ (i := 3) (N := some 54) (v := ?_) (a' := ?_) #[true, false, true, true, false, false, false, false, false, false, false, false, false, false, false, false, false, false] rfl rfl (by kernel_rfl) (fun _ _ _ h => h) (Or.inl ⟨by rfl, ?_⟩) hHeld ?_ ?_
         rotate_left
         ·rintro w' ⟨s0, s1, s2, s3⟩
          go_simp
          with_reducible rfl
         rotate_left
         ·simp only [Act.put, List.setIfInBounds_toArray, List.set_cons_zero, List.set_cons_succ, i64_w, i32_w]
          rfl
         refine take_ (i := 4) (N := some 55) (v := ?_) (a' := ?_) #[true, false, true, true, true, false, false, false, false, false, false, false, false, false, false, false, false, false] rfl rfl (by kernel_rfl) (fun _ _ _ h => h) (Or.inl ⟨by rfl, ?_⟩) hHeld ?_ ?_
         rotate_left
         ·rintro w' ⟨s0, s1, s2, s3⟩
          go_simp
          with_reducible rfl
         rotate_left
         ·simp only [Act.put, List.setIfInBounds_toArray, List.set_cons_zero, List.set_cons_succ, i64_w, i32_w]
          rfl
         refine take_ (i := 5) (N := some 56) (v := ?_) (a' := ?_) #[true, false, true, true, true, true, false, false, false, false, false, false, false, false, false, false, false, false] rfl rfl (by kernel_rfl) (fun _ _ _ h => h) (Or.inl ⟨by rfl, ?_⟩) hHeld ?_ ?_
         rotate_left
         ·rintro w' ⟨s0, s1, s2, s3⟩
          go_simp
          with_reducible rfl
         rotate_left
         ·simp only [Act.put, List.setIfInBounds_toArray, List.set_cons_zero, List.set_cons_succ, i64_w, i32_w]
          rfl
         refine take_ (i := 6) (N := some 57) (v := ?_) (a' := ?_) #[true, false, true, true, true, true, true, false, false, false, false, false, false, false, false, false, false, false] rfl rfl (by kernel_rfl) (fun _ _ _ h => h) (Or.inl ⟨by rfl, ?_⟩) hHeld ?_ ?_
         rotate_left
         ·rintro w' ⟨s0, s1, s2, s3⟩
          go_simp
          with_reducible rfl
         rotate_left
         ·simp only [Act.put, List.setIfInBounds_toArray, List.set_cons_zero, List.set_cons_succ, i64_w, i32_w]
          rfl
         refine take_ (i := 7) (N := some 58) (v := ?_) (a' := ?_) #[true, false, true, true, true, true, true, true, false, false, false, false, false, false, false, false, false, false] rfl rfl (by kernel_rfl) (fun _ _ _ h => h) (Or.inl ⟨by rfl, ?_⟩) hHeld ?_ ?_
         rotate_left
         ·rintro w' ⟨s0, s1, s2, s3⟩
          go_simp
          with_reducible rfl
         rotate_left
         ·simp only [Act.put, List.setIfInBounds_toArray, List.set_cons_zero, List.set_cons_succ, i64_w, i32_w]
          rfl
         refine take_ (i := 8) (N := some 59) (v := ?_) (a' := ?_) #[true, false, true, true, true, true, true, true, true, false, false, false, false, false, false, false, false, false] rfl rfl (by kernel_rfl) (fun _ _ _ h => h) (Or.inl ⟨by rfl, ?_⟩) hHeld ?_ ?_
         rotate_left
         ·rintro w' ⟨s0, s1, s2, s3⟩
          go_simp
          with_reducible rfl
         rotate_left
         ·simp only [Act.put, List.setIfInBounds_toArray, List.set_cons_zero, List.set_cons_succ, i64_w, i32_w]
          rfl
         refine take_ (i := 9) (N := some 60) (v := ?_) (a' := ?_) #[true, false, true, true, true, true, true, true, true, true, false, false, false, false, false, false, false, false] rfl rfl (by kernel_rfl) (fun _ _ _ h => h) (Or.inl ⟨by rfl, ?_⟩) hHeld ?_ ?_
         rotate_left
         ·rintro w' ⟨s0, s1, s2, s3⟩
          go_simp
          with_reducible rfl
         rotate_left
         ·simp only [Act.put, List.setIfInBounds_toArray, List.set_cons_zero, List.set_cons_succ, i64_w, i32_w]
          rfl
         refine take_ (i := 10) (N := some 61) (v := ?_) (a' := ?_) #[true, false, true, true, true, true, true, true, true, true, true, false, false, false, false, false, false, false] rfl rfl (by kernel_rfl) (fun _ _ _ h => h) (Or.inl ⟨by rfl, ?_⟩) hHeld ?_ ?_
         rotate_left
         ·rintro w' ⟨s0, s1, s2, s3⟩
          go_simp
          with_reducible rfl
         rotate_left
         ·simp only [Act.put, List.setIfInBounds_toArray, List.set_cons_zero, List.set_cons_succ, i64_w, i32_w]
          rfl
         refine join_ (σ := Nat × (Option Addr × Nat) × (Option Addr × Nat) × (Option Addr × Nat)) 2 #[true, true, true, true, true, true, true, true, true, true, true, true, true, true, true, true, false, false] (fun s_ => [(52, .agg #[.slice s_.2.1.1 C1.length s_.2.1.2, .slice s_.2.2.1.1 R1.length s_.2.2.1.2, .int .i64 L1]), (62, .tuple #[.agg #[.slice s_.2.2.2.1 C2.length s_.2.2.2.2, .slice s_.2.2.1.1 R1.length s_.2.2.1.2, .int .i64 L1], .int .i64 zq]), (50, .tuple #[.agg #[.slice s_.2.2.2.1 C2.length s_.2.2.2.2, .slice s_.2.2.1.1 R1.length s_.2.2.1.2, .int .i64 L1], .int .i64 zq]), (63, .agg #[.slice s_.2.2.2.1 C2.length s_.2.2.2.2, .slice s_.2.2.1.1 R1.length s_.2.2.1.2, .int .i64 L1]), (64, .int .i64 zq), (10, .pointer (some ⟨s_.1, 0, none⟩))]) (fun s_ w' => w'.heap[s_.1]? = some (.cells #[.slice none 0 0, .slice none 0 0, .int .i64 0] 25 (0, 0)) ∧ w'.heap[gz]? = some (.cells #[.slice none 0 0, .slice none 0 0, .int .i64 0] 25 (0, 0)) ∧ CS w' w.heap.size (fun j => some j ≠ (Value.slice s_.2.2.1.1 R1.length s_.2.2.1.2).ownBlock ∧ j ≠ s_.1) (.slice s_.2.2.2.1 C2.length s_.2.2.2.2) C2 ∧ IR w' w.heap.size (fun j => j ≠ s_.1) (.slice s_.2.2.1.1 R1.length s_.2.2.1.2) R1 ∧ Below w.heap.size w w' ∧ gz < s_.1) ?_ ?_
         rotate_left
         ·intro hCont
          refine two_ (i := 1) (j := 15) (Ni := some 52) (Nj := some 10) #[true, true, true, true, true, true, true, true, true, true, true, false, false, false, false, false, false, false] #[true, false, true, true, true, true, true, true, true, true, true, false, false, false, false, true, false, false] rfl rfl rfl rfl (by kernel_rfl) (by decide) (by decide) (fun K hK => ?_) (fun K hK => ?_)
          ·skip
           refine goes_ Try.func69 (by kernel_rfl) rfl #[.agg #[.slice A0 C.length c0, .slice (some ad) R.length c1, .int .i64 L]] (by rfl) rfl rfl (by (try simp only [List.map_toArray, List.map_cons, List.map_nil]); first | done | rfl) ?_
           refine (spec_l14Own.calls k_ A0 c0 C (some ad) c1 R L C1 R1 L1 wa (Kd.C_below HR0.out B8.out) HC0.out (Kd.C_below HR1.out B8.out) HC1.out HO.out).mono ?_
           (first | rintro e wb v0 v1 rfl hs hr hb | rintro e wb ⟨v0, v1, rfl, hs, hr, hb⟩)
           refine ⟨_, rfl, ?_⟩
           obtain ⟨A5, c5, rfl⟩ := Kd.S_slice hs
           obtain ⟨A6, c6, rfl⟩ := Kd.R_slice hr
           have BB := Aside0.mk (below_step B8.out hb)
           have XB := Aside0.mk (blk_below X8.out hb)
           have ZB := Aside0.mk (blk_below Z8.out hb)
           have SB := Aside0.mk (Kd.S_lower (Kd.S_mono (Kd.S_bound hs) (fun j h_ => (⟨h_.1, h_.2.1⟩ : some j ≠ (Value.slice A6 R1.length c6).ownBlock ∧ wa.heap.size ≤ j))) B8.out.size)
           have RB := Aside0.mk (Kd.R_lower (Kd.R_mono (Kd.R_bound hr) (fun j h_ => h_.2.1)) B8.out.size : IR wb w.heap.size (fun j => wa.heap.size ≤ j) (.slice A6 R1.length c6) R1)
           have LX := Aside0.mk (show w.heap.size < wa.heap.size from blk_lt X8.out)
           have LZ := Aside0.mk (show gz < wa.heap.size from blk_lt Z8.out)
           have WSZ := Aside0.mk (show wa.heap.size ≤ wb.heap.size from hb.size)
           clear hs hr hb
           refine hK.out _ _ ⟨(blk_cell XB.out 0).trans rfl, (blk_cell XB.out 1).trans rfl, (blk_cell XB.out 2).trans rfl, HIX.out wb BB.out⟩ (fun hHeld => ?_)
           clear hK K
           refine norm_ (a' := ?_) ?_ ?_
           rotate_left
           ·show Act.put _ (some 52) _ = _
            simp only [Act.put, List.setIfInBounds_toArray, List.set_cons_zero, List.set_cons_succ, i64_w, i32_w]
            rfl
           refine two_ (i := 11) (j := 15) (Ni := some 62) (Nj := some 10) #[true, true, true, true, true, true, true, true, true, true, true, true, false, false, false, false, false, false] #[true, true, true, true, true, true, true, true, true, true, true, false, false, false, false, true, false, false] rfl rfl rfl rfl (by kernel_rfl) (by decide) (by decide) (fun K hK => ?_) (fun K hK => ?_)
           ·skip
            refine goes_ Try.func74 (by kernel_rfl) rfl #[.agg #[.slice A5 C1.length c5, .slice A6 R1.length c6, .int .i64 L1], .int .i64 k, .int .i64 L, .int .i64 at_, .string leaf] (by rfl) rfl rfl (by (try simp only [List.map_toArray, List.map_cons, List.map_nil]); first | done | rfl) ?_
            refine (sput_calls L1 R1.length c6 A6 leaf k_ (dgI at_) L.toNat A5 c5 C1 k L at_ (fun j => (some j ≠ (Value.slice A6 R1.length c6).ownBlock ∧ wa.heap.size ≤ j) ∧ True) (C2, zq) w wb LL.out.1 LL.out.2 DIG.out BB.out (Kd.S_mono SB.out (fun j hj => ⟨hj, trivial⟩)) (fun j hj => ⟨⟨fun e_ => by have := Kd.R_lt RB.out j e_.symm; omega, by have := WSZ.out; omega⟩, trivial⟩) HQ.out).mono ?_
            (first | rintro e wc v9 rfl hs hb hk | rintro e wc ⟨v9, rfl, hs, hb, hk⟩)
            refine ⟨_, rfl, ?_⟩
            obtain ⟨A9, c9, rfl⟩ := Kd.S_slice hs
            have BC := Aside0.mk hb
            have XC := Aside0.mk (blk_kept XB.out hk (fun h_ => by have := h_.1.2; have := LX.out; omega))
            have ZC := Aside0.mk (blk_kept ZB.out hk (fun h_ => by have := h_.1.2; have := LZ.out; omega))
            have SC := Aside0.mk (show CS wc w.heap.size (fun j => (some j ≠ (Value.slice A6 R1.length c6).ownBlock ∧ wa.heap.size ≤ j) ∧ True) (.slice A9 C2.length c9) C2 from hs)
            have hR_ := RB.out.1
            have RC := Aside0.mk (Kd.R_mono (Kd.R_kept (Kd.R_of_own (Kd.own_of_R RB.out) (fun j hj => hj.symm) : IR wb w.heap.size (fun j => some j = (Value.slice A6 R1.length c6).ownBlock) (.slice A6 R1.length c6) R1) hk (fun j hj h_ => h_.1.1 hj)) (fun j hj => hR_ j hj.symm) : IR wc w.heap.size (fun j => wa.heap.size ≤ j) (.slice A6 R1.length c6) R1)
            clear hs hb hk hR_
            refine hK.out _ _ ⟨(blk_cell XC.out 0).trans rfl, (blk_cell XC.out 1).trans rfl, (blk_cell XC.out 2).trans rfl, HIX.out wc BC.out⟩ (fun hHeld => ?_)
            clear hK K
            refine norm_ (a' := ?_) ?_ ?_
            rotate_left
            ·show Act.put _ (some 62) _ = _
             simp only [Act.put, List.setIfInBounds_toArray, List.set_cons_zero, List.set_cons_succ, i64_w, i32_w]
             rfl
            refine pure_ (i := 12) (N := some 50) (v := ?_) (a' := ?_) #[true, true, true, true, true, true, true, true, true, true, true, true, true, false, false, false, false, false] rfl rfl (by kernel_rfl) (fun _ _ _ h => h) (Or.inl ⟨by rfl, ?_⟩) ?_ ?_
            rotate_left
            ·intro w'
             go_simp
             with_reducible rfl
            rotate_left
            ·simp only [Act.put, List.setIfInBounds_toArray, List.set_cons_zero, List.set_cons_succ, i64_w, i32_w]
             rfl
            refine pure_ (i := 13) (N := some 63) (v := ?_) (a' := ?_) #[true, true, true, true, true, true, true, true, true, true, true, true, true, true, false, false, false, false] rfl rfl (by kernel_rfl) (fun _ _ _ h => h) (Or.inl ⟨by rfl, ?_⟩) ?_ ?_
            rotate_left
            ·intro w'
             go_simp
             with_reducible rfl
            rotate_left
            ·simp only [Act.put, List.setIfInBounds_toArray, List.set_cons_zero, List.set_cons_succ, i64_w, i32_w]
             rfl
            refine pure_ (i := 14) (N := some 64) (v := ?_) (a' := ?_) #[true, true, true, true, true, true, true, true, true, true, true, true, true, true, true, false, false, false] rfl rfl (by kernel_rfl) (fun _ _ _ h => h) (Or.inl ⟨by rfl, ?_⟩) ?_ ?_
            rotate_left
            ·intro w'
             go_simp
             with_reducible rfl
            rotate_left
            ·simp only [Act.put, List.setIfInBounds_toArray, List.set_cons_zero, List.set_cons_succ, i64_w, i32_w]
             rfl
            refine one_ (i := 15) (N := some 10) #[true, true, true, true, true, true, true, true, true, true, true, true, true, true, true, true, false, false] rfl rfl (by kernel_rfl) (by decide) (fun K hK => ?_)
            refine event_step (by rfl) (v := .pointer (some ⟨wc.heap.size, 0, none⟩)) (w1 := wc.alloc (.cells #[.slice none 0 0, .slice none 0 0, .int .i64 0] 25)) (by first | (go_simp; done) | (go_simp; rfl)) ?_
            have hba := below_alloc (Below.refl wc.heap.size wc) (.cells #[.slice none 0 0, .slice none 0 0, .int .i64 0] 25)
            have DD := Aside0.mk (heap_alloc_new wc (.cells #[.slice none 0 0, .slice none 0 0, .int .i64 0] 25))
            have BD := Aside0.mk (below_step BC.out hba)
            have XD := Aside0.mk (blk_below XC.out hba)
            have ZD := Aside0.mk (blk_below ZC.out hba)
            have SD := Aside0.mk (Kd.S_below (Kd.S_mono (Kd.S_bound SC.out) (fun j h_ => (⟨h_.1.1, Nat.ne_of_lt h_.2.2.1⟩ : (some j ≠ (Value.slice A6 R1.length c6).ownBlock ∧ wa.heap.size ≤ j) ∧ j ≠ wc.heap.size))) hba)
            have RD := Aside0.mk (Kd.R_below RC.out hba)
            refine hK.out _ _ ⟨(blk_cell XD.out 0).trans rfl, (blk_cell XD.out 1).trans rfl, (blk_cell XD.out 2).trans rfl, HIX.out _ BD.out⟩ (fun hHeld => ?_)
            clear hK K
            refine norm_ (a' := ?_) ?_ ?_
            rotate_left
            ·show Act.put _ (some 10) _ = _
             simp only [Act.put, List.setIfInBounds_toArray, List.set_cons_zero, List.set_cons_succ, i64_w, i32_w]
             rfl
            exact hCont (wc.heap.size, (A5, c5), (A6, c6), (A9, c9)) _ ⟨DD.out, ZD.out, Kd.S_mono SD.out (fun j hj => ⟨hj.1.1, hj.2⟩), Kd.R_below (Kd.R_mono (Kd.R_bound RC.out) (fun j hj => Nat.ne_of_lt hj.2.2.1)) hba, BD.out, blk_lt ZC.out⟩
           ·skip
            refine event_step (by rfl) (v := .pointer (some ⟨wb.heap.size, 0, none⟩)) (w1 := wb.alloc (.cells #[.slice none 0 0, .slice none 0 0, .int .i64 0] 25)) (by first | (go_simp; done) | (go_simp; rfl)) ?_
            have hba := below_alloc (Below.refl wb.heap.size wb) (.cells #[.slice none 0 0, .slice none 0 0, .int .i64 0] 25)
            have DC := Aside0.mk (heap_alloc_new wb (.cells #[.slice none 0 0, .slice none 0 0, .int .i64 0] 25))
            have BC := Aside0.mk (below_step BB.out hba)
            have XC := Aside0.mk (blk_below XB.out hba)
            have ZC := Aside0.mk (blk_below ZB.out hba)
            have SC := Aside0.mk (Kd.S_below (Kd.S_mono (Kd.S_bound SB.out) (fun j h_ => (⟨h_.1, Nat.ne_of_lt h_.2.2.1⟩ : (some j ≠ (Value.slice A6 R1.length c6).ownBlock ∧ wa.heap.size ≤ j) ∧ j ≠ wb.heap.size))) hba)
            have RC := Aside0.mk (Kd.R_below RB.out hba)
            refine hK.out _ _ ⟨(blk_cell XC.out 0).trans rfl, (blk_cell XC.out 1).trans rfl, (blk_cell XC.out 2).trans rfl, HIX.out _ BC.out⟩ (fun hHeld => ?_)
            clear hK K
            refine norm_ (a' := ?_) ?_ ?_
            rotate_left
            ·show Act.put _ (some 10) _ = _
             simp only [Act.put, List.setIfInBounds_toArray, List.set_cons_zero, List.set_cons_succ, i64_w, i32_w]
             rfl
            have RNE := Aside0.mk (show ∀ j, some j = (Value.slice A6 R1.length c6).ownBlock → j ≠ wb.heap.size from fun j hj => Nat.ne_of_lt (Kd.R_lt RB.out j hj.symm))
            obtain ⟨wc, hwc⟩ : ∃ W, wb.alloc (.cells #[.slice none 0 0, .slice none 0 0, .int .i64 0] 25) = W := ⟨_, rfl⟩
            rw [hwc] at DC BC XC ZC SC RC hHeld hba ⊢
            have WSC := Aside0.mk (show wa.heap.size ≤ wc.heap.size from Nat.le_trans WSZ.out hba.size)
            replace WSZ := WSC
            refine one_ (i := 11) (N := some 62) #[true, true, true, true, true, true, true, true, true, true, true, true, false, false, false, true, false, false] rfl rfl (by kernel_rfl) (by decide) (fun K hK => ?_)
            refine goes_ Try.func74 (by kernel_rfl) rfl #[.agg #[.slice A5 C1.length c5, .slice A6 R1.length c6, .int .i64 L1], .int .i64 k, .int .i64 L, .int .i64 at_, .string leaf] (by rfl) rfl rfl (by (try simp only [List.map_toArray, List.map_cons, List.map_nil]); first | done | rfl) ?_
            refine (sput_calls L1 R1.length c6 A6 leaf k_ (dgI at_) L.toNat A5 c5 C1 k L at_ (fun j => (some j ≠ (Value.slice A6 R1.length c6).ownBlock ∧ wa.heap.size ≤ j) ∧ j ≠ wb.heap.size) (C2, zq) w wc LL.out.1 LL.out.2 DIG.out BC.out (SC.out) (fun j hj => ⟨⟨fun e_ => by have := Kd.R_lt RC.out j e_.symm; omega, by have := WSZ.out; omega⟩, by have := blk_lt DC.out; omega⟩) HQ.out).mono ?_
            (first | rintro e wd v9 rfl hs hb hk | rintro e wd ⟨v9, rfl, hs, hb, hk⟩)
            refine ⟨_, rfl, ?_⟩
            obtain ⟨A9, c9, rfl⟩ := Kd.S_slice hs
            have BD := Aside0.mk hb
            have XD := Aside0.mk (blk_kept XC.out hk (fun h_ => by have := h_.1.2; have := LX.out; omega))
            have ZD := Aside0.mk (blk_kept ZC.out hk (fun h_ => by have := h_.1.2; have := LZ.out; omega))
            have SD := Aside0.mk (show CS wd w.heap.size (fun j => (some j ≠ (Value.slice A6 R1.length c6).ownBlock ∧ wa.heap.size ≤ j) ∧ j ≠ wb.heap.size) (.slice A9 C2.length c9) C2 from hs)
            have hR_ := RC.out.1
            have RD := Aside0.mk (Kd.R_mono (Kd.R_kept (Kd.R_of_own (Kd.own_of_R RC.out) (fun j hj => hj.symm) : IR wc w.heap.size (fun j => some j = (Value.slice A6 R1.length c6).ownBlock) (.slice A6 R1.length c6) R1) hk (fun j hj h_ => h_.1.1 hj)) (fun j hj => hR_ j hj.symm) : IR wd w.heap.size (fun j => wa.heap.size ≤ j) (.slice A6 R1.length c6) R1)
            have DD := Aside0.mk (blk_kept DC.out hk (fun h_ => h_.2 rfl))
            clear hs hb hk hR_
            refine hK.out _ _ ⟨(blk_cell XD.out 0).trans rfl, (blk_cell XD.out 1).trans rfl, (blk_cell XD.out 2).trans rfl, HIX.out wd BD.out⟩ (fun hHeld => ?_)
            clear hK K
            refine norm_ (a' := ?_) ?_ ?_
            rotate_left
            ·show Act.put _ (some 62) _ = _
             simp only [Act.put, List.setIfInBounds_toArray, List.set_cons_zero, List.set_cons_succ, i64_w, i32_w]
             rfl
            refine pure_ (i := 12) (N := some 50) (v := ?_) (a' := ?_) #[true, true, true, true, true, true, true, true, true, true, true, true, true, false, false, true, false, false] rfl rfl (by kernel_rfl) (fun _ _ _ h => h) (Or.inl ⟨by rfl, ?_⟩) ?_ ?_
            rotate_left
            ·intro w'
             go_simp
             with_reducible rfl
            rotate_left
            ·simp only [Act.put, List.setIfInBounds_toArray, List.set_cons_zero, List.set_cons_succ, i64_w, i32_w]
             rfl
            refine pure_ (i := 13) (N := some 63) (v := ?_) (a' := ?_) #[true, true, true, true, true, true, true, true, true, true, true, true, true, true, false, true, false, false] rfl rfl (by kernel_rfl) (fun _ _ _ h => h) (Or.inl ⟨by rfl, ?_⟩) ?_ ?_
            rotate_left
            ·intro w'
             go_simp
             with_reducible rfl
            rotate_left
            ·simp only [Act.put, List.setIfInBounds_toArray, List.set_cons_zero, List.set_cons_succ, i64_w, i32_w]
             rfl
            refine pure_ (i := 14) (N := some 64) (v := ?_) (a' := ?_) #[true, true, true, true, true, true, true, true, true, true, true, true, true, true, true, true, false, false] rfl rfl (by kernel_rfl) (fun _ _ _ h => h) (Or.inl ⟨by rfl, ?_⟩) ?_ ?_
            rotate_left
            ·intro w'
             go_simp
             with_reducible rfl
            rotate_left
            ·simp only [Act.put, List.setIfInBounds_toArray, List.set_cons_zero, List.set_cons_succ, i64_w, i32_w]
             rfl
            exact hCont (wb.heap.size, (A5, c5), (A6, c6), (A9, c9)) _ ⟨DD.out, ZD.out, Kd.S_mono SD.out (fun j hj => ⟨hj.1.1, hj.2⟩), Kd.R_mono (Kd.R_of_own (Kd.own_of_R RD.out) (fun j hj => hj.symm)) (fun j hj => RNE.out j hj), BD.out, blk_lt ZB.out⟩
          ·skip
           refine event_step (by rfl) (v := .pointer (some ⟨wa.heap.size, 0, none⟩)) (w1 := wa.alloc (.cells #[.slice none 0 0, .slice none 0 0, .int .i64 0] 25)) (by first | (go_simp; done) | (go_simp; rfl)) ?_
           have hba := below_alloc (Below.refl wa.heap.size wa) (.cells #[.slice none 0 0, .slice none 0 0, .int .i64 0] 25)
           have DB := Aside0.mk (heap_alloc_new wa (.cells #[.slice none 0 0, .slice none 0 0, .int .i64 0] 25))
           have BB := Aside0.mk (below_step B8.out hba)
           have XB := Aside0.mk (blk_below X8.out hba)
           have ZB := Aside0.mk (blk_below Z8.out hba)
           refine hK.out _ _ ⟨(blk_cell XB.out 0).trans rfl, (blk_cell XB.out 1).trans rfl, (blk_cell XB.out 2).trans rfl, HIX.out _ BB.out⟩ (fun hHeld => ?_)
           clear hK K
           refine norm_ (a' := ?_) ?_ ?_
           rotate_left
           ·show Act.put _ (some 10) _ = _
            simp only [Act.put, List.setIfInBounds_toArray, List.set_cons_zero, List.set_cons_succ, i64_w, i32_w]
            rfl
           obtain ⟨wb, hwb⟩ : ∃ W, wa.alloc (.cells #[.slice none 0 0, .slice none 0 0, .int .i64 0] 25) = W := ⟨_, rfl⟩
           rw [hwb] at DB BB XB ZB hHeld hba ⊢
           refine one_ (i := 1) (N := some 52) #[true, true, true, true, true, true, true, true, true, true, true, false, false, false, false, true, false, false] rfl rfl (by kernel_rfl) (by decide) (fun K hK => ?_)
           refine goes_ Try.func69 (by kernel_rfl) rfl #[.agg #[.slice A0 C.length c0, .slice (some ad) R.length c1, .int .i64 L]] (by rfl) rfl rfl (by (try simp only [List.map_toArray, List.map_cons, List.map_nil]); first | done | rfl) ?_
           refine (spec_l14Own.calls k_ A0 c0 C (some ad) c1 R L C1 R1 L1 wb (Kd.C_below HR0.out BB.out) HC0.out (Kd.C_below HR1.out BB.out) HC1.out HO.out).mono ?_
           (first | rintro e wc v0 v1 rfl hs hr hb | rintro e wc ⟨v0, v1, rfl, hs, hr, hb⟩)
           refine ⟨_, rfl, ?_⟩
           obtain ⟨A5, c5, rfl⟩ := Kd.S_slice hs
           obtain ⟨A6, c6, rfl⟩ := Kd.R_slice hr
           have BC := Aside0.mk (below_step BB.out hb)
           have XC := Aside0.mk (blk_below XB.out hb)
           have ZC := Aside0.mk (blk_below ZB.out hb)
           have SC := Aside0.mk (Kd.S_lower (Kd.S_mono (Kd.S_bound hs) (fun j h_ => (⟨h_.1, h_.2.1⟩ : some j ≠ (Value.slice A6 R1.length c6).ownBlock ∧ wb.heap.size ≤ j))) BB.out.size)
           have RC := Aside0.mk (Kd.R_lower (Kd.R_mono (Kd.R_bound hr) (fun j h_ => h_.2.1)) BB.out.size : IR wc w.heap.size (fun j => wb.heap.size ≤ j) (.slice A6 R1.length c6) R1)
           have LX := Aside0.mk (show w.heap.size < wb.heap.size from blk_lt XB.out)
           have LZ := Aside0.mk (show gz < wb.heap.size from blk_lt ZB.out)
           have WSZ := Aside0.mk (show wb.heap.size ≤ wc.heap.size from hb.size)
           have LD := Aside0.mk (show wa.heap.size < wb.heap.size from blk_lt DB.out)
           have DC := Aside0.mk (blk_below DB.out hb)
           clear hs hr hb
           refine hK.out _ _ ⟨(blk_cell XC.out 0).trans rfl, (blk_cell XC.out 1).trans rfl, (blk_cell XC.out 2).trans rfl, HIX.out wc BC.out⟩ (fun hHeld => ?_)
           clear hK K
           refine norm_ (a' := ?_) ?_ ?_
           rotate_left
           ·show Act.put _ (some 52) _ = _
            simp only [Act.put, List.setIfInBounds_toArray, List.set_cons_zero, List.set_cons_succ, i64_w, i32_w]
            rfl
           refine one_ (i := 11) (N := some 62) #[true, true, true, true, true, true, true, true, true, true, true, true, false, false, false, true, false, false] rfl rfl (by kernel_rfl) (by decide) (fun K hK => ?_)
           refine goes_ Try.func74 (by kernel_rfl) rfl #[.agg #[.slice A5 C1.length c5, .slice A6 R1.length c6, .int .i64 L1], .int .i64 k, .int .i64 L, .int .i64 at_, .string leaf] (by rfl) rfl rfl (by (try simp only [List.map_toArray, List.map_cons, List.map_nil]); first | done | rfl) ?_
           refine (sput_calls L1 R1.length c6 A6 leaf k_ (dgI at_) L.toNat A5 c5 C1 k L at_ (fun j => (some j ≠ (Value.slice A6 R1.length c6).ownBlock ∧ wb.heap.size ≤ j) ∧ True) (C2, zq) w wc LL.out.1 LL.out.2 DIG.out BC.out (Kd.S_mono SC.out (fun j hj => ⟨hj, trivial⟩)) (fun j hj => ⟨⟨fun e_ => by have := Kd.R_lt RC.out j e_.symm; omega, by have := WSZ.out; omega⟩, trivial⟩) HQ.out).mono ?_
           (first | rintro e wd v9 rfl hs hb hk | rintro e wd ⟨v9, rfl, hs, hb, hk⟩)
           refine ⟨_, rfl, ?_⟩
           obtain ⟨A9, c9, rfl⟩ := Kd.S_slice hs
           have BD := Aside0.mk hb
           have XD := Aside0.mk (blk_kept XC.out hk (fun h_ => by have := h_.1.2; have := LX.out; omega))
           have ZD := Aside0.mk (blk_kept ZC.out hk (fun h_ => by have := h_.1.2; have := LZ.out; omega))
           have SD := Aside0.mk (show CS wd w.heap.size (fun j => (some j ≠ (Value.slice A6 R1.length c6).ownBlock ∧ wb.heap.size ≤ j) ∧ True) (.slice A9 C2.length c9) C2 from hs)
           have hR_ := RC.out.1
           have RD := Aside0.mk (Kd.R_mono (Kd.R_kept (Kd.R_of_own (Kd.own_of_R RC.out) (fun j hj => hj.symm) : IR wc w.heap.size (fun j => some j = (Value.slice A6 R1.length c6).ownBlock) (.slice A6 R1.length c6) R1) hk (fun j hj h_ => h_.1.1 hj)) (fun j hj => hR_ j hj.symm) : IR wd w.heap.size (fun j => wb.heap.size ≤ j) (.slice A6 R1.length c6) R1)
           have DD := Aside0.mk (blk_kept DC.out hk (fun h_ => by have := h_.1.2; have := LD.out; omega))
           clear hs hb hk hR_
           refine hK.out _ _ ⟨(blk_cell XD.out 0).trans rfl, (blk_cell XD.out 1).trans rfl, (blk_cell XD.out 2).trans rfl, HIX.out wd BD.out⟩ (fun hHeld => ?_)
           clear hK K
           refine norm_ (a' := ?_) ?_ ?_
           rotate_left
           ·show Act.put _ (some 62) _ = _
            simp only [Act.put, List.setIfInBounds_toArray, List.set_cons_zero, List.set_cons_succ, i64_w, i32_w]
            rfl
           refine pure_ (i := 12) (N := some 50) (v := ?_) (a' := ?_) #[true, true, true, true, true, true, true, true, true, true, true, true, true, false, false, true, false, false] rfl rfl (by kernel_rfl) (fun _ _ _ h => h) (Or.inl ⟨by rfl, ?_⟩) ?_ ?_
           rotate_left
           ·intro w'
            go_simp
            with_reducible rfl
           rotate_left
           ·simp only [Act.put, List.setIfInBounds_toArray, List.set_cons_zero, List.set_cons_succ, i64_w, i32_w]
            rfl
           refine pure_ (i := 13) (N := some 63) (v := ?_) (a' := ?_) #[true, true, true, true, true, true, true, true, true, true, true, true, true, true, false, true, false, false] rfl rfl (by kernel_rfl) (fun _ _ _ h => h) (Or.inl ⟨by rfl, ?_⟩) ?_ ?_
           rotate_left
           ·intro w'
            go_simp
            with_reducible rfl
           rotate_left
           ·simp only [Act.put, List.setIfInBounds_toArray, List.set_cons_zero, List.set_cons_succ, i64_w, i32_w]
            rfl
           refine pure_ (i := 14) (N := some 64) (v := ?_) (a' := ?_) #[true, true, true, true, true, true, true, true, true, true, true, true, true, true, true, true, false, false] rfl rfl (by kernel_rfl) (fun _ _ _ h => h) (Or.inl ⟨by rfl, ?_⟩) ?_ ?_
           rotate_left
           ·intro w'
            go_simp
            with_reducible rfl
           rotate_left
           ·simp only [Act.put, List.setIfInBounds_toArray, List.set_cons_zero, List.set_cons_succ, i64_w, i32_w]
            rfl
           exact hCont (wa.heap.size, (A5, c5), (A6, c6), (A9, c9)) _ ⟨DD.out, ZD.out, Kd.S_mono SD.out (fun j hj => ⟨hj.1.1, by have := hj.1.2; have := LD.out; omega⟩), Kd.R_mono RD.out (fun j hj => by have := LD.out; omega), BD.out, blk_lt Z8.out⟩
         rintro ⟨db, ⟨A5, c5⟩, ⟨A6, c6⟩, ⟨A9, c9⟩⟩ we ⟨hD, hZ, hS, hR, hB, hgd⟩
         dsimp only at hD hS hR hgd
         dsimp only [putAll]
         clear hHeld X8 Z8 B8
         refine norm_ (a' := ?_) ?_ ?_
         rotate_left
         ·simp only [Act.put, List.setIfInBounds_toArray, List.set_cons_zero, List.set_cons_succ, i64_w, i32_w]
          rfl
         have r0 : we.cell? ⟨db, 0, none⟩ = some (.slice none 0 0) := (blk_cell hD 0).trans rfl
         have r1 : we.cell? ⟨db, 1, none⟩ = some (.slice none 0 0) := (blk_cell hD 1).trans rfl
         have r2 : we.cell? ⟨db, 2, none⟩ = some (.int .i64 0) := (blk_cell hD 2).trans rfl
         have u0 := blk_frozen hD 0
         have u1 := blk_frozen hD 1
         have u2 := blk_frozen hD 2
         refine last_ (i := 16) (N := none) #[true, true, true, true, true, true, true, true, true, true, true, true, true, true, true, true, true, false] rfl rfl (by kernel_rfl) (by decide) (fun K hK => ?_)
         refine skip_ (w1 := ((we.setCell ⟨db, 0, none⟩ (.slice A9 C2.length c9)).setCell ⟨db, 1, none⟩ (.slice A6 R1.length c6)).setCell ⟨db, 2, none⟩ (.int .i64 L1)) (by rfl) rfl ?_ ?_
         ·first | (go_simp; done) | (go_simp; rfl)
         refine hK.out _ _ ?_
         clear hK K r0 r1 r2 u0 u1 u2
         have KK := keep3 (a := .slice A9 C2.length c9) (b := .slice A6 R1.length c6) (c := .int .i64 L1) (Kept.refl we (fun j => j = db)) (.inl rfl)
         have hwd : w.heap.size ≤ db := Nat.le_trans ZG.out (Nat.le_of_lt hgd)
         have DF := Aside0.mk (put3 hD (.slice A9 C2.length c9) (.slice A6 R1.length c6) (.int .i64 L1))
         have ZF := Aside0.mk (blk_kept hZ KK (Nat.ne_of_lt hgd))
         have SF := Aside0.mk (Kd.S_kept hS KK (fun j hj => hj.2))
         have RF := Aside0.mk (Kd.R_kept hR KK (fun j hj => hj))
         have BF := Aside0.mk (below3 (a := .slice A9 C2.length c9) (b := .slice A6 R1.length c6) (c := .int .i64 L1) hB hwd)
         have HWD := Aside0.mk hwd
         have HGD := Aside0.mk hgd
         clear KK hD hZ hS hR hB hwd hgd
         generalize ((we.setCell ⟨db, 0, none⟩ (.slice A9 C2.length c9)).setCell ⟨db, 1, none⟩ (.slice A6 R1.length c6)).setCell ⟨db, 2, none⟩ (.int .i64 L1) = wf at DF ZF SF RF BF ⊢
         refine pure_ (i := 17) (N := some 11) (v := ?_) (a' := ?_) #[true, true, true, true, true, true, true, true, true, true, true, true, true, true, true, true, true, true] rfl rfl (by kernel_rfl) (fun _ _ _ h => h) (Or.inl ⟨by rfl, ?_⟩) ?_ ?_
         rotate_left
         ·intro w'
          go_simp
          with_reducible rfl
         rotate_left
         ·simp only [Act.put, List.setIfInBounds_toArray, List.set_cons_zero, List.set_cons_succ, i64_w, i32_w]
          rfl
         refine done_ (by kernel_rfl) ?_
         obtain ⟨gr, cap6, hv6, _, _, _⟩ := Kd.R_form RF.out (by have := HR1L.out; omega)
         injection hv6 with hA6 hn6 hc6
         subst hA6 hc6
         clear hn6
         obtain ⟨o_, ho_⟩ : ∃ o_, rd R1 (ri : Int) = o_ := ⟨_, rfl⟩
         obtain ⟨ad9, e9, hy9⟩ := Kd.at_int (Kd.R_reads' RF.out).2.2 (ri : Int) (by omega) (by have := HR1L.out; omega)
         injection e9 with e9
         subst e9
         rw [show (⟨gr, 0, none⟩ : Addr).add ((ri : Int).toNat) = ⟨gr, ri, none⟩ by by_cases h : ri = 0 <;> simp [Addr.add, h], ho_] at hy9
         obtain ⟨g_, c_, e_, _, _, cells9, hcl9⟩ := Kd.R_form RF.out (by have := HR1L.out; omega)
         obtain rfl : gr = g_ := by injection e_ with e_ _ _; injection e_ with e_; injection e_
         have f9 := blk_frozen hcl9 ri
         have p3 : ((ri : Int) < (R1.length : Int)) = True := eq_true (by have := HR1L.out; omega)
         have d1 : wf.cell? ⟨db, 1, none⟩ = some (.slice (some ⟨gr, 0, none⟩) R1.length c6) := (blk_cell DF.out 1).trans rfl
         obtain ⟨wA, hwA⟩ : ∃ W, wf.setCell ⟨gr, ri, none⟩ (.int .i64 zq) = W := ⟨_, rfl⟩
         have hgr2 := RF.out.1 gr rfl
         have RA := Aside0.mk (show IR wA w.heap.size (fun j => j ≠ db) (.slice (some ⟨gr, 0, none⟩) R1.length c6) (R1.set ri zq) by rw [← hwA]; exact Kd.R_putn RF.out ri zq)
         have KKA : Kept wf wA (fun j => j = gr) := by rw [← hwA]; exact (Kept.refl wf (fun j => j = gr)).setCell (p := ⟨gr, ri, none⟩) (.inl rfl) _
         have BA := Aside0.mk (show Below w.heap.size w wA by rw [← hwA]; exact below_set BF.out (Kd.R_base RF.out gr rfl))
         have DA := Aside0.mk (blk_kept DF.out KKA (fun e_ => hgr2 e_.symm))
         have ZA := Aside0.mk (blk_kept ZF.out KKA (fun e_ => by
          have h1_ := hcl9
          rw [← e_, ZF.out] at h1_
          injection h1_ with h1_
          injection h1_ with _ h2_
          exact absurd h2_ (by decide)))
         have SA := Aside0.mk (Kd.S_kept SF.out KKA (fun j hj e_ => hj.1 (by rw [e_]; rfl)))
         have HZX := Aside0.mk (show gz ≠ db from Nat.ne_of_lt HGD.out)
         clear hcl9 e_ hgr2 KKA SF RF BF ZF ho_
         have g0 : wA.cell? ⟨db, 0, none⟩ = some (.slice A9 C2.length c9) := (blk_cell DA.out 0).trans rfl
         have g1 : wA.cell? ⟨db, 1, none⟩ = some (.slice (some ⟨gr, 0, none⟩) R1.length c6) := (blk_cell DA.out 1).trans rfl
         have g2 : wA.cell? ⟨db, 2, none⟩ = some (.int .i64 L1) := (blk_cell DA.out 2).trans rfl
         have z0 : wA.cell? ⟨gz, 0, none⟩ = some (.slice none 0 0) := (blk_cell ZA.out 0).trans rfl
         have z1 : wA.cell? ⟨gz, 1, none⟩ = some (.slice none 0 0) := (blk_cell ZA.out 1).trans rfl
         have z2 : wA.cell? ⟨gz, 2, none⟩ = some (.int .i64 0) := (blk_cell ZA.out 2).trans rfl
         have y0 := blk_frozen ZA.out 0
         have y1 := blk_frozen ZA.out 1
         have y2 := blk_frozen ZA.out 2
         have TT := Aside0.mk (spec_GoodCow.calls k_ _ c9 C2 _ c6 (R1.set ri zq) L1 g wA (Kd.S_reads' SA.out).2.2 (Kd.S_reads' SA.out).2.1 (Kd.R_reads' RA.out).2.2 (by have h_ := (Kd.R_reads' RA.out).2.1; simpa using h_) HG.out)
         clear HG
         rw [List.length_set] at TT
         go_wp2_with (go_at_call 20; with_reducible refine TT.out.mono ?_)
         (first | rintro e w20 rfl hb | rintro e w20 ⟨rfl, hb⟩)
         clear g0 g1 g2 z0 z1 z2 y0 y1 y2 TT
         have B20 := Aside0.mk (below_step BA.out hb)
         have Z20 := Aside0.mk (blk_below ZA.out hb)
         have D20 := Aside0.mk (blk_below DA.out hb)
         have S20 := Aside0.mk (Kd.S_below SA.out hb)
         have R20 := Aside0.mk (Kd.R_below RA.out hb)
         clear hb BA ZA DA SA RA
         have g0 : w20.cell? ⟨db, 0, none⟩ = some (.slice A9 C2.length c9) := (blk_cell D20.out 0).trans rfl
         have g1 : w20.cell? ⟨db, 1, none⟩ = some (.slice (some ⟨gr, 0, none⟩) R1.length c6) := (blk_cell D20.out 1).trans rfl
         have g2 : w20.cell? ⟨db, 2, none⟩ = some (.int .i64 L1) := (blk_cell D20.out 2).trans rfl
         have z0 : w20.cell? ⟨gz, 0, none⟩ = some (.slice none 0 0) := (blk_cell Z20.out 0).trans rfl
         have z1 : w20.cell? ⟨gz, 1, none⟩ = some (.slice none 0 0) := (blk_cell Z20.out 1).trans rfl
         have z2 : w20.cell? ⟨gz, 2, none⟩ = some (.int .i64 0) := (blk_cell Z20.out 2).trans rfl
         have y0 := blk_frozen Z20.out 0
         have y1 := blk_frozen Z20.out 1
         have y2 := blk_frozen Z20.out 2
         cases g with
         | false =>
          have h : some (([] : List CL), ([] : List Int), (0 : Int), false) = some (r1, r2, r3, r4) := HH.out
          simp only [Option.some.injEq, Prod.mk.injEq] at h
          obtain ⟨rfl, rfl, rfl, rfl⟩ := h
          go_wp2
          refine bodyPost_ret (results_ct rfl _ _ gz 25 #[.slice none 0 0, .slice none 0 0, .int .i64 0] (0, 0) _ rfl (put3 Z20.out _ _ _) Try.underlying25 rfl (by kernel_rfl)) rfl ?_
          exact ⟨_, _, rfl, Kd.S_nil _ _ _ _ _, Kd.R_nil _ _ _ _ _, below_set (below_set (below_set B20.out ZG.out) ZG.out) ZG.out⟩
         | true =>
          have h : some (C2, (R1.set ri zq), L1, true) = some (r1, r2, r3, r4) := HH.out
          simp only [Option.some.injEq, Prod.mk.injEq] at h
          obtain ⟨rfl, rfl, rfl, rfl⟩ := h
          go_wp2
          refine bodyPost_ret (results_ct rfl _ _ gz 25 #[.slice A9 C2.length c9, .slice (some ⟨gr, 0, none⟩) R1.length c6, .int .i64 L1] (0, 0) _ rfl (put3 Z20.out _ _ _) Try.underlying25 rfl (by kernel_rfl)) rfl ?_
          obtain ⟨r1_, r2_, r3_⟩ := ret_cow (x := .slice A9 C2.length c9) (y := .slice (some ⟨gr, 0, none⟩) R1.length c6) (z := .int .i64 L1) Z20.out ZG.out S20.out (fun k_ h_ => h_.1) R20.out B20.out
          exact ⟨_, _, rfl, r1_, r2_, r3_⟩
        ·cases h
       ·cases h
     ·cases h
end Go.Proofs.Ytacfalpgmibfnaa.PCow
namespace Go.Proofs.Ytacfalpgmibfnaa.PCow
open Go.RowKit Go.Proofs.YtacfalpgmibfnaaW.PrintWords Go.Proofs.YtacfalpgmibfnaaW.PrintLast Go.Proofs.YtacfalpgmibfnaaW.PrintMore Go.Proofs.Ytacfalpgmibfnaa.E
set_option linter.unusedSimpArgs false
set_option linter.unusedVariables false
def laws_FnExactPutLeaf.ok (k : Nat) (l0_0 : List S99) (l0_1 : List Int) (a0_2 : Int) (a1 : Int) (a2 : Int) (a3 : ByteArray) : Prop :=
 ((a3.size : Int) > 1048576) ∨ ¬ ((a3.size : Int) > 1048576) ∧ ((∃ s, laws_szCow.f k l0_0 l0_1 a0_2 1048576 = some s ∧ s < 0) ∨
 ∃ s C R L C1 R1 L1 wb k1 C2 R2 m C3 R3, laws_szCow.f k l0_0 l0_1 a0_2 1048576 = some s ∧ ¬ s < 0 ∧ laws_toCow.f k l0_0 l0_1 a0_2 = some (C, R, L) ∧ spec_PutLeaf.f k C R L a1 a2 a3 = some (C1, R1, L1, wb) ∧ impl_PutLeaf.f k C R L a1 a2 a3 = some (C1, R1, L1, wb) ∧ laws_eqCow.f k C1 R1 L1 C1 R1 L1 = some true ∧
  laws_eqCow.f k C R L C R L = some true ∧ laws_markCow.f k C R 1 = some (k1, C2, R2) ∧ ¬ k1 < 0 ∧ laws_markCow.f k C1 R1 1 = some (m, C3, R3) ∧ laws_heldCow.f k C3 R3 L1 1 = some m ∧ ¬ m < 0)
set_option maxHeartbeats 16000000 in
set_option maxRecDepth 100000 in
theorem laws_FnExactPutLeaf.calls (k : Nat) (A0_0 : Option Addr) (c0_0 : Nat) (l0_0 : List (S99)) (A0_1 : Option Addr) (c0_1 : Nat) (l0_1 : List Int) (a0_2 : Int) (a1 : Int) (a2 : Int) (a3 : ByteArray) (_r : Bool) (w : World) (hr0_0 : Kd.C k99 w A0_0 l0_0.length l0_0) (hc0_0 : l0_0.length ≤ c0_0) (hr0_1 : Kd.C (Kd.int .i64) w A0_1 l0_1.length l0_1) (hc0_1 : l0_1.length ≤ c0_1) (h : laws_FnExactPutLeaf.ok k l0_0 l0_1 a0_2 a1 a2 a3) :
  Calls Try.prog 11 #[.agg #[.slice A0_0 l0_0.length c0_0, .slice A0_1 l0_1.length c0_1, .int .i64 a0_2], .int .i64 a1, .int .i64 a2, .string a3] w fun e w' => e = .returned (.bool true) ∧ Below w.heap.size w w' := by
 have hu33 := Try.underlying33
 have hu25 := Try.underlying25
 have HR0 := Aside0.mk hr0_0
 have HR1 := Aside0.mk hr0_1
 have HC0 := Aside0.mk hc0_0
 have HC1 := Aside0.mk hc0_1
 clear hr0_0 hr0_1 hc0_0 hc0_1
 rcases h with hz | ⟨hz, h⟩
 ·have z1 : ((a3.size : Int) > 1048576) = True := eq_true hz
  have z2 : (1048576 < (a3.size : Int)) = True := eq_true hz
  have z3 : (1048576 < a3.size) = True := eq_true (by omega)
  clear hz
  go_enter Try.func11, Try.ntmps11
  go_wp2
  go_ret
  exact ⟨rfl, below_alloc (Below.refl _ _) _⟩
 have z1 : ((a3.size : Int) > 1048576) = False := eq_false hz
 have z2 : (1048576 < (a3.size : Int)) = False := eq_false hz
 have z3 : (1048576 < a3.size) = False := eq_false (by omega)
 clear hz
 rcases h with ⟨s, h1, h2⟩ | ⟨s, C, R, L, C1, R1, L1, wb, k1, C2, R2, m, C3, R3, h1, h2, h3, h4, h5, h6, h7, h8, h9, h10, h11, h12⟩
 ·have H1 := Aside0.mk h1
  have c1 : decide (s < 0) = true := decide_eq_true h2
  have c2 : (s < 0) = True := eq_true h2
  clear h1 h2
  have B := Aside0.mk (Below.refl w.heap.size w)
  obtain ⟨V1, hV1⟩ : ∃ W, w.alloc (.cells #[.slice A0_0 l0_0.length c0_0, .slice A0_1 l0_1.length c0_1, .int .i64 a0_2] 33 (0, 0)) = W := ⟨_, rfl⟩
  have hb : Below w.heap.size w V1 := by rw [← hV1]; exact below_alloc (Below.refl _ _) _
  have LE1 := Aside0.mk (show V1.heap.size = w.heap.size + 1 by rw [← hV1]; simp)
  replace B := Aside0.mk (below_step B.out hb)
  have X0 := Aside0.mk (show V1.heap[w.heap.size]? = some (.cells #[.slice A0_0 l0_0.length c0_0, .slice A0_1 l0_1.length c0_1, .int .i64 a0_2] 33 (0, 0)) by rw [← hV1]; exact heap_alloc_new w _)
  clear hb
  go_enter Try.func11, Try.ntmps11
  have dX0_0 : V1.cell? ⟨w.heap.size, 0, none⟩ = some (.slice A0_0 l0_0.length c0_0) := (blk_cell X0.out 0).trans rfl
  have dX0_1 : V1.cell? ⟨w.heap.size, 1, none⟩ = some (.slice A0_1 l0_1.length c0_1) := (blk_cell X0.out 1).trans rfl
  have dX0_2 : V1.cell? ⟨w.heap.size, 2, none⟩ = some (.int .i64 a0_2) := (blk_cell X0.out 2).trans rfl
  have TT := Aside0.mk (laws_szCow.calls k A0_0 c0_0 l0_0 A0_1 c0_1 l0_1 a0_2 1048576 s V1 (Kd.C_below HR0.out B.out) HC0.out (Kd.C_below HR1.out B.out) HC1.out H1.out)
  go_wp2_with (go_at_call 19; refine TT.out.mono ?_)
  rintro e w2 ⟨rfl, hb⟩
  clear TT
  clear dX0_0 dX0_1 dX0_2
  clear hV1
  replace B := Aside0.mk (below_step B.out hb)
  replace X0 := Aside0.mk (blk_below X0.out hb)
  go_wp2
  go_ret
  exact ⟨rfl, B.out⟩
 ·have c1 : decide (s < 0) = false := decide_eq_false h2
  have c2 : (s < 0) = False := eq_false h2
  have c3 : decide (k1 < 0) = false := decide_eq_false h9
  have c4 : (k1 < 0) = False := eq_false h9
  have c5 : decide (m < 0) = false := decide_eq_false h12
  have c6 : (m < 0) = False := eq_false h12
  have H1 := Aside0.mk h1
  have H3 := Aside0.mk h3
  have H4 := Aside0.mk h4
  have H5 := Aside0.mk h5
  have H6 := Aside0.mk h6
  have H7 := Aside0.mk h7
  have H8 := Aside0.mk h8
  have H10 := Aside0.mk h10
  have H11 := Aside0.mk h11
  clear h1 h2 h3 h4 h5 h6 h7 h8 h9 h10 h11 h12
  have B := Aside0.mk (Below.refl w.heap.size w)
  obtain ⟨V1, hV1⟩ : ∃ W, w.alloc (.cells #[.slice A0_0 l0_0.length c0_0, .slice A0_1 l0_1.length c0_1, .int .i64 a0_2] 33 (0, 0)) = W := ⟨_, rfl⟩
  have hb : Below w.heap.size w V1 := by rw [← hV1]; exact below_alloc (Below.refl _ _) _
  have LE1 := Aside0.mk (show V1.heap.size = w.heap.size + 1 by rw [← hV1]; simp)
  replace B := Aside0.mk (below_step B.out hb)
  have X0 := Aside0.mk (show V1.heap[w.heap.size]? = some (.cells #[.slice A0_0 l0_0.length c0_0, .slice A0_1 l0_1.length c0_1, .int .i64 a0_2] 33 (0, 0)) by rw [← hV1]; exact heap_alloc_new w _)
  clear hb
  go_enter Try.func11, Try.ntmps11
  have dX0_0 : V1.cell? ⟨w.heap.size, 0, none⟩ = some (.slice A0_0 l0_0.length c0_0) := (blk_cell X0.out 0).trans rfl
  have dX0_1 : V1.cell? ⟨w.heap.size, 1, none⟩ = some (.slice A0_1 l0_1.length c0_1) := (blk_cell X0.out 1).trans rfl
  have dX0_2 : V1.cell? ⟨w.heap.size, 2, none⟩ = some (.int .i64 a0_2) := (blk_cell X0.out 2).trans rfl
  have TT := Aside0.mk (laws_szCow.calls k A0_0 c0_0 l0_0 A0_1 c0_1 l0_1 a0_2 1048576 s V1 (Kd.C_below HR0.out B.out) HC0.out (Kd.C_below HR1.out B.out) HC1.out H1.out)
  go_wp2_with (go_at_call 19; refine TT.out.mono ?_)
  rintro e w2 ⟨rfl, hb⟩
  clear TT
  clear dX0_0 dX0_1 dX0_2
  clear hV1
  have LS1 := Aside0.mk (show V1.heap.size ≤ w2.heap.size from hb.size)
  replace B := Aside0.mk (below_step B.out hb)
  replace X0 := Aside0.mk (blk_below X0.out hb)
  clear hb
  have dX0_0 : w2.cell? ⟨w.heap.size, 0, none⟩ = some (.slice A0_0 l0_0.length c0_0) := (blk_cell X0.out 0).trans rfl
  have dX0_1 : w2.cell? ⟨w.heap.size, 1, none⟩ = some (.slice A0_1 l0_1.length c0_1) := (blk_cell X0.out 1).trans rfl
  have dX0_2 : w2.cell? ⟨w.heap.size, 2, none⟩ = some (.int .i64 a0_2) := (blk_cell X0.out 2).trans rfl
  have TT := Aside0.mk (laws_toCow.calls k A0_0 c0_0 l0_0 A0_1 c0_1 l0_1 a0_2 C R L w2 (Kd.C_below HR0.out B.out) HC0.out (Kd.C_below HR1.out B.out) HC1.out H3.out)
  go_wp2_with (go_at_call 21; refine TT.out.mono ?_)
  rintro e w3 ⟨t0, t1, rfl, hs, hr, hb⟩
  clear TT
  clear dX0_0 dX0_1 dX0_2
  have LS2 := Aside0.mk (show w2.heap.size ≤ w3.heap.size from hb.size)
  replace B := Aside0.mk (below_step B.out hb)
  replace X0 := Aside0.mk (blk_below X0.out hb)
  obtain ⟨tA0, tc0, rfl⟩ := Kd.S_slice hs
  obtain ⟨tA1, tc1, rfl⟩ := Kd.R_slice hr
  have tS := Aside0.mk (S_iv hs)
  have tR := Aside0.mk (R_iv hr)
  clear hs hr hb
  have TT := Aside0.mk (spec_PutLeaf.calls k _ _ C _ _ R L a1 a2 a3 C1 R1 L1 wb w3 (Kd.S_reads' tS.out).2.2 (Kd.S_reads' tS.out).2.1 (Kd.R_reads' tR.out).2.2 (Kd.R_reads' tR.out).2.1 H4.out)
  go_wp2_with (go_at_call 38; refine TT.out.mono ?_)
  rintro e w4 ⟨u0, u1, rfl, hs, hr, hb⟩
  clear TT
  have LS3 := Aside0.mk (show w3.heap.size ≤ w4.heap.size from hb.size)
  replace B := Aside0.mk (below_step B.out hb)
  replace X0 := Aside0.mk (blk_below X0.out hb)
  replace tS := Aside0.mk (Kd.S_below tS.out hb)
  replace tR := Aside0.mk (Kd.R_below tR.out hb)
  obtain ⟨uA0, uc0, rfl⟩ := Kd.S_slice hs
  obtain ⟨uA1, uc1, rfl⟩ := Kd.R_slice hr
  have uS := Aside0.mk (S_iv hs)
  have uR := Aside0.mk (R_iv hr)
  clear hb hr hs
  clear tS
  clear tR
  obtain ⟨V2, hV2⟩ : ∃ W, w4.alloc (.cells #[.slice uA0 C1.length uc0, .slice uA1 R1.length uc1, .int .i64 L1] 25 (0, 0)) = W := ⟨_, rfl⟩
  have hb : Below w4.heap.size w4 V2 := by rw [← hV2]; exact below_alloc (Below.refl _ _) _
  have LE2 := Aside0.mk (show V2.heap.size = w4.heap.size + 1 by rw [← hV2]; simp)
  replace B := Aside0.mk (below_step B.out hb)
  replace X0 := Aside0.mk (blk_below X0.out hb)
  replace uS := Aside0.mk (Kd.S_below uS.out hb)
  replace uR := Aside0.mk (Kd.R_below uR.out hb)
  have XW := Aside0.mk (show V2.heap[w4.heap.size]? = some (.cells #[.slice uA0 C1.length uc0, .slice uA1 R1.length uc1, .int .i64 L1] 25 (0, 0)) by rw [← hV2]; exact heap_alloc_new w4 _)
  clear hb
  have dX0_0 : V2.cell? ⟨w.heap.size, 0, none⟩ = some (.slice A0_0 l0_0.length c0_0) := (blk_cell X0.out 0).trans rfl
  have dX0_1 : V2.cell? ⟨w.heap.size, 1, none⟩ = some (.slice A0_1 l0_1.length c0_1) := (blk_cell X0.out 1).trans rfl
  have dX0_2 : V2.cell? ⟨w.heap.size, 2, none⟩ = some (.int .i64 a0_2) := (blk_cell X0.out 2).trans rfl
  have TT := Aside0.mk (laws_toCow.calls k A0_0 c0_0 l0_0 A0_1 c0_1 l0_1 a0_2 C R L V2 (Kd.C_below HR0.out B.out) HC0.out (Kd.C_below HR1.out B.out) HC1.out H3.out)
  go_wp2_with (go_at_call 21; refine TT.out.mono ?_)
  rintro e w5 ⟨x0, x1, rfl, hs, hr, hb⟩
  clear TT
  clear dX0_0 dX0_1 dX0_2
  have LS4 := Aside0.mk (show V2.heap.size ≤ w5.heap.size from hb.size)
  replace B := Aside0.mk (below_step B.out hb)
  replace X0 := Aside0.mk (blk_below X0.out hb)
  replace uS := Aside0.mk (Kd.S_below uS.out hb)
  replace uR := Aside0.mk (Kd.R_below uR.out hb)
  replace XW := Aside0.mk (blk_below XW.out hb)
  obtain ⟨xA0, xc0, rfl⟩ := Kd.S_slice hs
  obtain ⟨xA1, xc1, rfl⟩ := Kd.R_slice hr
  clear hV2
  have xS := Aside0.mk (S_iv hs)
  have xR := Aside0.mk (R_iv hr)
  clear hs hr hb
  obtain ⟨V3, hV3⟩ : ∃ W, w5.alloc (.cells #[.slice xA0 C.length xc0, .slice xA1 R.length xc1, .int .i64 L] 25 (0, 0)) = W := ⟨_, rfl⟩
  have hb : Below w5.heap.size w5 V3 := by rw [← hV3]; exact below_alloc (Below.refl _ _) _
  have LE3 := Aside0.mk (show V3.heap.size = w5.heap.size + 1 by rw [← hV3]; simp)
  replace B := Aside0.mk (below_step B.out hb)
  replace X0 := Aside0.mk (blk_below X0.out hb)
  replace uS := Aside0.mk (Kd.S_below uS.out hb)
  replace uR := Aside0.mk (Kd.R_below uR.out hb)
  replace XW := Aside0.mk (blk_below XW.out hb)
  replace xS := Aside0.mk (Kd.S_below xS.out hb)
  replace xR := Aside0.mk (Kd.R_below xR.out hb)
  have X1 := Aside0.mk (show V3.heap[w5.heap.size]? = some (.cells #[.slice xA0 C.length xc0, .slice xA1 R.length xc1, .int .i64 L] 25 (0, 0)) by rw [← hV3]; exact heap_alloc_new w5 _)
  clear hb
  have dX0_0 : V3.cell? ⟨w.heap.size, 0, none⟩ = some (.slice A0_0 l0_0.length c0_0) := (blk_cell X0.out 0).trans rfl
  have dX0_1 : V3.cell? ⟨w.heap.size, 1, none⟩ = some (.slice A0_1 l0_1.length c0_1) := (blk_cell X0.out 1).trans rfl
  have dX0_2 : V3.cell? ⟨w.heap.size, 2, none⟩ = some (.int .i64 a0_2) := (blk_cell X0.out 2).trans rfl
  have dXW_0 : V3.cell? ⟨w4.heap.size, 0, none⟩ = some (.slice uA0 C1.length uc0) := (blk_cell XW.out 0).trans rfl
  have dXW_1 : V3.cell? ⟨w4.heap.size, 1, none⟩ = some (.slice uA1 R1.length uc1) := (blk_cell XW.out 1).trans rfl
  have dXW_2 : V3.cell? ⟨w4.heap.size, 2, none⟩ = some (.int .i64 L1) := (blk_cell XW.out 2).trans rfl
  have dX1_0 : V3.cell? ⟨w5.heap.size, 0, none⟩ = some (.slice xA0 C.length xc0) := (blk_cell X1.out 0).trans rfl
  have dX1_1 : V3.cell? ⟨w5.heap.size, 1, none⟩ = some (.slice xA1 R.length xc1) := (blk_cell X1.out 1).trans rfl
  have dX1_2 : V3.cell? ⟨w5.heap.size, 2, none⟩ = some (.int .i64 L) := (blk_cell X1.out 2).trans rfl
  have TT := Aside0.mk (impl_PutLeaf.calls k _ _ C _ _ R L a1 a2 a3 C1 R1 L1 wb V3 (Kd.S_reads' xS.out).2.2 (Kd.S_reads' xS.out).2.1 (Kd.R_reads' xR.out).2.2 (Kd.R_reads' xR.out).2.1 H5.out)
  go_wp2_with (go_at_call 39; refine TT.out.mono ?_)
  rintro e w6 ⟨g0, g1, rfl, hs, hr, hb⟩
  clear TT
  clear dX0_0 dX0_1 dX0_2 dXW_0 dXW_1 dXW_2 dX1_0 dX1_1 dX1_2
  have LS5 := Aside0.mk (show V3.heap.size ≤ w6.heap.size from hb.size)
  replace B := Aside0.mk (below_step B.out hb)
  replace X0 := Aside0.mk (blk_below X0.out hb)
  replace uS := Aside0.mk (Kd.S_below uS.out hb)
  replace uR := Aside0.mk (Kd.R_below uR.out hb)
  replace XW := Aside0.mk (blk_below XW.out hb)
  replace xS := Aside0.mk (Kd.S_below xS.out hb)
  replace xR := Aside0.mk (Kd.R_below xR.out hb)
  replace X1 := Aside0.mk (blk_below X1.out hb)
  obtain ⟨gA0, gc0, rfl⟩ := Kd.S_slice hs
  obtain ⟨gA1, gc1, rfl⟩ := Kd.R_slice hr
  have gS := Aside0.mk (S_iv hs)
  have gR := Aside0.mk (R_iv hr)
  clear hb hr hs
  clear hV3
  obtain ⟨V4, hV4⟩ : ∃ W, w6.alloc (.cells #[.slice gA0 C1.length gc0, .slice gA1 R1.length gc1, .int .i64 L1] 25 (0, 0)) = W := ⟨_, rfl⟩
  have hb : Below w6.heap.size w6 V4 := by rw [← hV4]; exact below_alloc (Below.refl _ _) _
  have LE4 := Aside0.mk (show V4.heap.size = w6.heap.size + 1 by rw [← hV4]; simp)
  replace B := Aside0.mk (below_step B.out hb)
  replace X0 := Aside0.mk (blk_below X0.out hb)
  replace uS := Aside0.mk (Kd.S_below uS.out hb)
  replace uR := Aside0.mk (Kd.R_below uR.out hb)
  replace XW := Aside0.mk (blk_below XW.out hb)
  replace xS := Aside0.mk (Kd.S_below xS.out hb)
  replace xR := Aside0.mk (Kd.R_below xR.out hb)
  replace X1 := Aside0.mk (blk_below X1.out hb)
  replace gS := Aside0.mk (Kd.S_below gS.out hb)
  replace gR := Aside0.mk (Kd.R_below gR.out hb)
  have XG := Aside0.mk (show V4.heap[w6.heap.size]? = some (.cells #[.slice gA0 C1.length gc0, .slice gA1 R1.length gc1, .int .i64 L1] 25 (0, 0)) by rw [← hV4]; exact heap_alloc_new w6 _)
  clear hb
  have dXW_0 : V4.cell? ⟨w4.heap.size, 0, none⟩ = some (.slice uA0 C1.length uc0) := (blk_cell XW.out 0).trans rfl
  have dXW_1 : V4.cell? ⟨w4.heap.size, 1, none⟩ = some (.slice uA1 R1.length uc1) := (blk_cell XW.out 1).trans rfl
  have dXW_2 : V4.cell? ⟨w4.heap.size, 2, none⟩ = some (.int .i64 L1) := (blk_cell XW.out 2).trans rfl
  have dXG_0 : V4.cell? ⟨w6.heap.size, 0, none⟩ = some (.slice gA0 C1.length gc0) := (blk_cell XG.out 0).trans rfl
  have dXG_1 : V4.cell? ⟨w6.heap.size, 1, none⟩ = some (.slice gA1 R1.length gc1) := (blk_cell XG.out 1).trans rfl
  have dXG_2 : V4.cell? ⟨w6.heap.size, 2, none⟩ = some (.int .i64 L1) := (blk_cell XG.out 2).trans rfl
  have TT := Aside0.mk (laws_eqCow.calls k _ _ C1 _ _ R1 L1 _ _ C1 _ _ R1 L1 true V4 (Kd.S_reads' gS.out).2.2 (Kd.S_reads' gS.out).2.1 (Kd.R_reads' gR.out).2.2 (Kd.R_reads' gR.out).2.1 (Kd.S_reads' uS.out).2.2 (Kd.S_reads' uS.out).2.1 (Kd.R_reads' uR.out).2.2 (Kd.R_reads' uR.out).2.1 H6.out)
  go_wp2_with (go_at_call 16; refine TT.out.mono ?_)
  (first | rintro e w7 rfl hb | rintro e w7 ⟨rfl, hb⟩)
  clear TT
  clear dXW_0 dXW_1 dXW_2 dXG_0 dXG_1 dXG_2
  clear hV4
  have LS6 := Aside0.mk (show V4.heap.size ≤ w7.heap.size from hb.size)
  replace B := Aside0.mk (below_step B.out hb)
  replace X0 := Aside0.mk (blk_below X0.out hb)
  replace uS := Aside0.mk (Kd.S_below uS.out hb)
  replace uR := Aside0.mk (Kd.R_below uR.out hb)
  replace XW := Aside0.mk (blk_below XW.out hb)
  replace xS := Aside0.mk (Kd.S_below xS.out hb)
  replace xR := Aside0.mk (Kd.R_below xR.out hb)
  replace X1 := Aside0.mk (blk_below X1.out hb)
  replace gS := Aside0.mk (Kd.S_below gS.out hb)
  replace gR := Aside0.mk (Kd.R_below gR.out hb)
  replace XG := Aside0.mk (blk_below XG.out hb)
  clear hb
  have dX0_0 : w7.cell? ⟨w.heap.size, 0, none⟩ = some (.slice A0_0 l0_0.length c0_0) := (blk_cell X0.out 0).trans rfl
  have dX0_1 : w7.cell? ⟨w.heap.size, 1, none⟩ = some (.slice A0_1 l0_1.length c0_1) := (blk_cell X0.out 1).trans rfl
  have dX0_2 : w7.cell? ⟨w.heap.size, 2, none⟩ = some (.int .i64 a0_2) := (blk_cell X0.out 2).trans rfl
  have dXW_0 : w7.cell? ⟨w4.heap.size, 0, none⟩ = some (.slice uA0 C1.length uc0) := (blk_cell XW.out 0).trans rfl
  have dXW_1 : w7.cell? ⟨w4.heap.size, 1, none⟩ = some (.slice uA1 R1.length uc1) := (blk_cell XW.out 1).trans rfl
  have dXW_2 : w7.cell? ⟨w4.heap.size, 2, none⟩ = some (.int .i64 L1) := (blk_cell XW.out 2).trans rfl
  have dX1_0 : w7.cell? ⟨w5.heap.size, 0, none⟩ = some (.slice xA0 C.length xc0) := (blk_cell X1.out 0).trans rfl
  have dX1_1 : w7.cell? ⟨w5.heap.size, 1, none⟩ = some (.slice xA1 R.length xc1) := (blk_cell X1.out 1).trans rfl
  have dX1_2 : w7.cell? ⟨w5.heap.size, 2, none⟩ = some (.int .i64 L) := (blk_cell X1.out 2).trans rfl
  have dXG_0 : w7.cell? ⟨w6.heap.size, 0, none⟩ = some (.slice gA0 C1.length gc0) := (blk_cell XG.out 0).trans rfl
  have dXG_1 : w7.cell? ⟨w6.heap.size, 1, none⟩ = some (.slice gA1 R1.length gc1) := (blk_cell XG.out 1).trans rfl
  have dXG_2 : w7.cell? ⟨w6.heap.size, 2, none⟩ = some (.int .i64 L1) := (blk_cell XG.out 2).trans rfl
  go_wp2
  clear dX0_0 dX0_1 dX0_2 dXW_0 dXW_1 dXW_2 dX1_0 dX1_1 dX1_2 dXG_0 dXG_1 dXG_2
  replace B := Aside0.mk (below_drew1 B.out)
  replace X0 := Aside0.mk (blk_drew X0.out)
  replace uS := Aside0.mk (Kd.S_drew uS.out)
  replace uR := Aside0.mk (Kd.R_drew uR.out)
  replace XW := Aside0.mk (blk_drew XW.out)
  replace xS := Aside0.mk (Kd.S_drew xS.out)
  replace xR := Aside0.mk (Kd.R_drew xR.out)
  replace X1 := Aside0.mk (blk_drew X1.out)
  replace gS := Aside0.mk (Kd.S_drew gS.out)
  replace gR := Aside0.mk (Kd.R_drew gR.out)
  replace XG := Aside0.mk (blk_drew XG.out)
  refine start_ (n := 5) (S := fun w' => w'.cell? ⟨w5.heap.size, 0, none⟩ = some (.slice xA0 C.length xc0) ∧ w'.cell? ⟨w5.heap.size, 1, none⟩ = some (.slice xA1 R.length xc1) ∧ w'.cell? ⟨w5.heap.size, 2, none⟩ = some (.int .i64 L) ∧ w'.cell? ⟨w.heap.size, 0, none⟩ = some (.slice A0_0 l0_0.length c0_0) ∧ w'.cell? ⟨w.heap.size, 1, none⟩ = some (.slice A0_1 l0_1.length c0_1) ∧ w'.cell? ⟨w.heap.size, 2, none⟩ = some (.int .i64 a0_2)) (ds := []) #[false, false, false, false, false] (by kernel_rfl) rfl rfl ⟨(blk_cell X1.out 0).trans rfl, (blk_cell X1.out 1).trans rfl, (blk_cell X1.out 2).trans rfl, (blk_cell X0.out 0).trans rfl, (blk_cell X0.out 1).trans rfl, (blk_cell X0.out 2).trans rfl⟩ (fun hHeld => ?_)
  have LD := Aside0.mk (show w7.drew.heap.size = w7.heap.size from rfl)
  generalize w7.drew = w8 at B X0 uS uR XW xS xR X1 gS gR XG LD hHeld ⊢
  refine take_ (i := 0) (N := some 56) (v := ?_) (a' := ?_) #[true, false, false, false, false] rfl rfl (by kernel_rfl) (fun _ _ _ h => h) (Or.inl ⟨by rfl, ?_⟩) hHeld ?_ ?_
  rotate_left
  ·rintro w' ⟨s0, s1, s2, s3, s4, s5⟩
   go_simp
   with_reducible rfl
  rotate_left
  ·simp only [Act.put, List.setIfInBounds_toArray, List.set_cons_zero, List.set_cons_succ, i64_w, i32_w]
   rfl
  refine take_ (i := 1) (N := some 57) (v := ?_) (a' := ?_) #[true, true, false, false, false] rfl rfl (by kernel_rfl) (fun _ _ _ h => h) (Or.inl ⟨by rfl, ?_⟩) hHeld ?_ ?_
  rotate_left
  ·rintro w' ⟨s0, s1, s2, s3, s4, s5⟩
   go_simp
   with_reducible rfl
  rotate_left
  ·simp only [Act.put, List.setIfInBounds_toArray, List.set_cons_zero, List.set_cons_succ, i64_w, i32_w]
   rfl
  refine one_ (i := 2) (N := some 58) #[true, true, true, false, false] rfl rfl (by kernel_rfl) (by decide) (fun K hK => ?_)
  refine goes_ Try.func21 (by kernel_rfl) rfl #[.agg #[.slice A0_0 l0_0.length c0_0, .slice A0_1 l0_1.length c0_1, .int .i64 a0_2]] (by rfl) rfl rfl (by (try simp only [List.map_toArray, List.map_cons, List.map_nil]); first | done | rfl | (simp only [List.length_drop, List.length_take]; rfl)) ?_
  with_reducible refine (laws_toCow.calls k A0_0 c0_0 l0_0 A0_1 c0_1 l0_1 a0_2 C R L w8 (Kd.C_below HR0.out B.out) HC0.out (Kd.C_below HR1.out B.out) HC1.out H3.out).mono ?_
  rintro e w9 ⟨y0, y1, rfl, hs, hr, hb⟩
  refine ⟨_, rfl, ?_⟩
  have LS7 := Aside0.mk (show w8.heap.size ≤ w9.heap.size from hb.size)
  replace B := Aside0.mk (below_step B.out hb)
  replace X0 := Aside0.mk (blk_below X0.out hb)
  replace uS := Aside0.mk (Kd.S_below uS.out hb)
  replace uR := Aside0.mk (Kd.R_below uR.out hb)
  replace XW := Aside0.mk (blk_below XW.out hb)
  replace xS := Aside0.mk (Kd.S_below xS.out hb)
  replace xR := Aside0.mk (Kd.R_below xR.out hb)
  replace X1 := Aside0.mk (blk_below X1.out hb)
  replace gS := Aside0.mk (Kd.S_below gS.out hb)
  replace gR := Aside0.mk (Kd.R_below gR.out hb)
  replace XG := Aside0.mk (blk_below XG.out hb)
  obtain ⟨yA0, yc0, rfl⟩ := Kd.S_slice hs
  obtain ⟨yA1, yc1, rfl⟩ := Kd.R_slice hr
  have yS := Aside0.mk (S_iv hs)
  have yR := Aside0.mk (R_iv hr)
  clear hs hr hb
  refine hK.out _ _ ⟨(blk_cell X1.out 0).trans rfl, (blk_cell X1.out 1).trans rfl, (blk_cell X1.out 2).trans rfl, (blk_cell X0.out 0).trans rfl, (blk_cell X0.out 1).trans rfl, (blk_cell X0.out 2).trans rfl⟩ (fun hHeld => ?_)
  clear hK K
  refine norm_ (a' := ?_) ?_ ?_
  rotate_left
  ·show Act.put _ (some 58) _ = _
   simp only [Act.put, List.setIfInBounds_toArray, List.set_cons_zero, List.set_cons_succ, i64_w, i32_w]
   rfl
  refine one_ (i := 3) (N := some 59) #[true, true, true, true, false] rfl rfl (by kernel_rfl) (by decide) (fun K hK => ?_)
  refine goes_ Try.func16 (by kernel_rfl) rfl #[.agg #[.slice xA0 C.length xc0, .slice xA1 R.length xc1, .int .i64 L], .agg #[.slice yA0 C.length yc0, .slice yA1 R.length yc1, .int .i64 L]] (by rfl) rfl rfl (by (try simp only [List.map_toArray, List.map_cons, List.map_nil]); first | done | rfl | (simp only [List.length_drop, List.length_take]; rfl)) ?_
  with_reducible refine (laws_eqCow.calls k _ _ C _ _ R L _ _ C _ _ R L true w9 (Kd.S_reads' xS.out).2.2 (Kd.S_reads' xS.out).2.1 (Kd.R_reads' xR.out).2.2 (Kd.R_reads' xR.out).2.1 (Kd.S_reads' yS.out).2.2 (Kd.S_reads' yS.out).2.1 (Kd.R_reads' yR.out).2.2 (Kd.R_reads' yR.out).2.1 H7.out).mono ?_
  rintro e w10 ⟨rfl, hb⟩
  refine ⟨_, rfl, ?_⟩
  clear yS
  clear yR
  have LS8 := Aside0.mk (show w9.heap.size ≤ w10.heap.size from hb.size)
  replace B := Aside0.mk (below_step B.out hb)
  replace X0 := Aside0.mk (blk_below X0.out hb)
  replace uS := Aside0.mk (Kd.S_below uS.out hb)
  replace uR := Aside0.mk (Kd.R_below uR.out hb)
  replace XW := Aside0.mk (blk_below XW.out hb)
  replace xS := Aside0.mk (Kd.S_below xS.out hb)
  replace xR := Aside0.mk (Kd.R_below xR.out hb)
  replace X1 := Aside0.mk (blk_below X1.out hb)
  replace gS := Aside0.mk (Kd.S_below gS.out hb)
  replace gR := Aside0.mk (Kd.R_below gR.out hb)
  replace XG := Aside0.mk (blk_below XG.out hb)
  clear hb
  refine hK.out _ _ ⟨(blk_cell X1.out 0).trans rfl, (blk_cell X1.out 1).trans rfl, (blk_cell X1.out 2).trans rfl, (blk_cell X0.out 0).trans rfl, (blk_cell X0.out 1).trans rfl, (blk_cell X0.out 2).trans rfl⟩ (fun hHeld => ?_)
  clear hK K
  refine norm_ (a' := ?_) ?_ ?_
  rotate_left
  ·show Act.put _ (some 59) _ = _
   simp only [Act.put, List.setIfInBounds_toArray, List.set_cons_zero, List.set_cons_succ, i64_w, i32_w]
   rfl
  refine pure_ (i := 4) (N := some 60) (v := ?_) (a' := ?_) #[true, true, true, true, true] rfl rfl (by kernel_rfl) (fun _ _ _ h => h) (Or.inl ⟨by rfl, ?_⟩) ?_ ?_
  rotate_left
  ·intro w'
   go_simp
   with_reducible rfl
  rotate_left
  ·simp only [Act.put, List.setIfInBounds_toArray, List.set_cons_zero, List.set_cons_succ, i64_w, i32_w]
   rfl
  refine done_ (by kernel_rfl) ?_
  clear hHeld
  have lo0_ := True.intro
  have hp1 := Aside0.mk (show ∀ k_, some k_ = (Value.slice xA1 R.length xc1).ownBlock → V2.heap.size ≤ k_ ∧ k_ < w5.heap.size from fun k_ h_ => xR.out.1 k_ h_.symm)
  have dX1_0 : w10.cell? ⟨w5.heap.size, 0, none⟩ = some (.slice xA0 C.length xc0) := (blk_cell X1.out 0).trans rfl
  have dX1_1 : w10.cell? ⟨w5.heap.size, 1, none⟩ = some (.slice xA1 R.length xc1) := (blk_cell X1.out 1).trans rfl
  have dX1_2 : w10.cell? ⟨w5.heap.size, 2, none⟩ = some (.int .i64 L) := (blk_cell X1.out 2).trans rfl
  have TT := Aside0.mk (laws_markCow.calls k (fun k_ => (V2.heap.size ≤ k_ ∧ k_ < w5.heap.size) ∧ some k_ ≠ (Value.slice xA1 R.length xc1).ownBlock) (fun k_ => some k_ = (Value.slice xA1 R.length xc1).ownBlock) _ _ L C R 1 k1 C2 R2 w w10 B.out (Kd.S_lower (Kd.S_mono xS.out (fun k_ h_ => ⟨⟨h_.2.1, h_.2.2⟩, h_.1⟩)) (by have := LE1.out; have := LS1.out; have := LS2.out; have := LS3.out; have := LE2.out; have := LS4.out; have := LE3.out; have := LS5.out; have := LE4.out; have := LS6.out; have := LD.out; have := LS7.out; have := LS8.out; omega)) (Kd.R_lower (Kd.R_of_own (Kd.own_of_R xR.out) (fun k_ h_ => h_.symm)) (by have := LE1.out; have := LS1.out; have := LS2.out; have := LS3.out; have := LE2.out; have := LS4.out; have := LE3.out; have := LS5.out; have := LE4.out; have := LS6.out; have := LD.out; have := LS7.out; have := LS8.out; omega)) (fun k_ h_ h2_ => h_.2 h2_) H8.out)
  go_wp2_with (go_at_call 17; refine TT.out.mono ?_)
  (first | rintro e w11 rfl ho0 ho1 hB2 hk | rintro e w11 ⟨rfl, ho0, ho1, hB2, hk⟩)
  clear TT
  clear dX1_0 dX1_1 dX1_2
  have LKw11 := Aside0.mk (show w10.heap.size ≤ w11.heap.size from hk.1)
  replace B := Aside0.mk hB2
  have hk : Kept w10 w11 (fun k_ => V2.heap.size ≤ k_ ∧ k_ < w5.heap.size) := hk.mono (fun k_ h_ => h_.elim (fun h_ => h_.1) (fun h_ => hp1.out k_ h_))
  replace X0 := Aside0.mk (blk_kept X0.out hk (fun h_ => by have := h_.1; have := h_.2; have := LE1.out; have := LS1.out; have := LS2.out; have := LS3.out; have := LE2.out; have := LS4.out; have := LE3.out; have := LS5.out; have := LE4.out; have := LS6.out; have := LD.out; have := LS7.out; have := LS8.out; have := LKw11.out; omega))
  replace uS := Aside0.mk (Kd.S_kept uS.out hk (fun k_ hk_ h_ => by have := h_.1; have := h_.2; have := LE1.out; have := LS1.out; have := LS2.out; have := LS3.out; have := LE2.out; have := LS4.out; have := LE3.out; have := LS5.out; have := LE4.out; have := LS6.out; have := LD.out; have := LS7.out; have := LS8.out; have := LKw11.out; omega))
  replace uR := Aside0.mk (Kd.R_kept uR.out hk (fun k_ hk_ h_ => by have := h_.1; have := h_.2; have := LE1.out; have := LS1.out; have := LS2.out; have := LS3.out; have := LE2.out; have := LS4.out; have := LE3.out; have := LS5.out; have := LE4.out; have := LS6.out; have := LD.out; have := LS7.out; have := LS8.out; have := LKw11.out; omega))
  replace XW := Aside0.mk (blk_kept XW.out hk (fun h_ => by have := h_.1; have := h_.2; have := LE1.out; have := LS1.out; have := LS2.out; have := LS3.out; have := LE2.out; have := LS4.out; have := LE3.out; have := LS5.out; have := LE4.out; have := LS6.out; have := LD.out; have := LS7.out; have := LS8.out; have := LKw11.out; omega))
  replace X1 := Aside0.mk (blk_kept X1.out hk (fun h_ => by have := h_.1; have := h_.2; have := LE1.out; have := LS1.out; have := LS2.out; have := LS3.out; have := LE2.out; have := LS4.out; have := LE3.out; have := LS5.out; have := LE4.out; have := LS6.out; have := LD.out; have := LS7.out; have := LS8.out; have := LKw11.out; omega))
  replace gS := Aside0.mk (Kd.S_kept gS.out hk (fun k_ hk_ h_ => by have := h_.1; have := h_.2; have := LE1.out; have := LS1.out; have := LS2.out; have := LS3.out; have := LE2.out; have := LS4.out; have := LE3.out; have := LS5.out; have := LE4.out; have := LS6.out; have := LD.out; have := LS7.out; have := LS8.out; have := LKw11.out; omega))
  replace gR := Aside0.mk (Kd.R_kept gR.out hk (fun k_ hk_ h_ => by have := h_.1; have := h_.2; have := LE1.out; have := LS1.out; have := LS2.out; have := LS3.out; have := LE2.out; have := LS4.out; have := LE3.out; have := LS5.out; have := LE4.out; have := LS6.out; have := LD.out; have := LS7.out; have := LS8.out; have := LKw11.out; omega))
  replace XG := Aside0.mk (blk_kept XG.out hk (fun h_ => by have := h_.1; have := h_.2; have := LE1.out; have := LS1.out; have := LS2.out; have := LS3.out; have := LE2.out; have := LS4.out; have := LE3.out; have := LS5.out; have := LE4.out; have := LS6.out; have := LD.out; have := LS7.out; have := LS8.out; have := LKw11.out; omega))
  clear hB2 hk hp1
  clear ho0 ho1 lo0_
  clear xS
  clear xR
  have dXW_0 : w11.cell? ⟨w4.heap.size, 0, none⟩ = some (.slice uA0 C1.length uc0) := (blk_cell XW.out 0).trans rfl
  have dXW_1 : w11.cell? ⟨w4.heap.size, 1, none⟩ = some (.slice uA1 R1.length uc1) := (blk_cell XW.out 1).trans rfl
  have dXW_2 : w11.cell? ⟨w4.heap.size, 2, none⟩ = some (.int .i64 L1) := (blk_cell XW.out 2).trans rfl
  have dXG_0 : w11.cell? ⟨w6.heap.size, 0, none⟩ = some (.slice gA0 C1.length gc0) := (blk_cell XG.out 0).trans rfl
  have dXG_1 : w11.cell? ⟨w6.heap.size, 1, none⟩ = some (.slice gA1 R1.length gc1) := (blk_cell XG.out 1).trans rfl
  have dXG_2 : w11.cell? ⟨w6.heap.size, 2, none⟩ = some (.int .i64 L1) := (blk_cell XG.out 2).trans rfl
  have TT := Aside0.mk (laws_eqCow.calls k _ _ C1 _ _ R1 L1 _ _ C1 _ _ R1 L1 true w11 (Kd.S_reads' gS.out).2.2 (Kd.S_reads' gS.out).2.1 (Kd.R_reads' gR.out).2.2 (Kd.R_reads' gR.out).2.1 (Kd.S_reads' uS.out).2.2 (Kd.S_reads' uS.out).2.1 (Kd.R_reads' uR.out).2.2 (Kd.R_reads' uR.out).2.1 H6.out)
  go_wp2_with (go_at_call 16; refine TT.out.mono ?_)
  (first | rintro e w12 rfl hb | rintro e w12 ⟨rfl, hb⟩)
  clear TT
  clear dXW_0 dXW_1 dXW_2 dXG_0 dXG_1 dXG_2
  have LS9 := Aside0.mk (show w11.heap.size ≤ w12.heap.size from hb.size)
  replace B := Aside0.mk (below_step B.out hb)
  replace X0 := Aside0.mk (blk_below X0.out hb)
  replace uS := Aside0.mk (Kd.S_below uS.out hb)
  replace uR := Aside0.mk (Kd.R_below uR.out hb)
  replace XW := Aside0.mk (blk_below XW.out hb)
  replace X1 := Aside0.mk (blk_below X1.out hb)
  replace gS := Aside0.mk (Kd.S_below gS.out hb)
  replace gR := Aside0.mk (Kd.R_below gR.out hb)
  replace XG := Aside0.mk (blk_below XG.out hb)
  clear hb
  have hp1 := Aside0.mk (show ∀ k_, some k_ = (Value.slice gA1 R1.length gc1).ownBlock → V3.heap.size ≤ k_ ∧ k_ < w6.heap.size from fun k_ h_ => gR.out.1 k_ h_.symm)
  have dXG_0 : w12.cell? ⟨w6.heap.size, 0, none⟩ = some (.slice gA0 C1.length gc0) := (blk_cell XG.out 0).trans rfl
  have dXG_1 : w12.cell? ⟨w6.heap.size, 1, none⟩ = some (.slice gA1 R1.length gc1) := (blk_cell XG.out 1).trans rfl
  have dXG_2 : w12.cell? ⟨w6.heap.size, 2, none⟩ = some (.int .i64 L1) := (blk_cell XG.out 2).trans rfl
  have TT := Aside0.mk (laws_markCow.calls k (fun k_ => (V3.heap.size ≤ k_ ∧ k_ < w6.heap.size) ∧ some k_ ≠ (Value.slice gA1 R1.length gc1).ownBlock) (fun k_ => some k_ = (Value.slice gA1 R1.length gc1).ownBlock) _ _ L1 C1 R1 1 m C3 R3 w w12 B.out (Kd.S_lower (Kd.S_mono gS.out (fun k_ h_ => ⟨⟨h_.2.1, h_.2.2⟩, h_.1⟩)) (by have := LE1.out; have := LS1.out; have := LS2.out; have := LS3.out; have := LE2.out; have := LS4.out; have := LE3.out; have := LS5.out; have := LE4.out; have := LS6.out; have := LD.out; have := LS7.out; have := LS8.out; have := LKw11.out; have := LS9.out; omega)) (Kd.R_lower (Kd.R_of_own (Kd.own_of_R gR.out) (fun k_ h_ => h_.symm)) (by have := LE1.out; have := LS1.out; have := LS2.out; have := LS3.out; have := LE2.out; have := LS4.out; have := LE3.out; have := LS5.out; have := LE4.out; have := LS6.out; have := LD.out; have := LS7.out; have := LS8.out; have := LKw11.out; have := LS9.out; omega)) (fun k_ h_ h2_ => h_.2 h2_) H10.out)
  go_wp2_with (go_at_call 17; refine TT.out.mono ?_)
  (first | rintro e w13 rfl ho0 ho1 hB2 hk | rintro e w13 ⟨rfl, ho0, ho1, hB2, hk⟩)
  clear TT
  clear dXG_0 dXG_1 dXG_2
  have LKw13 := Aside0.mk (show w12.heap.size ≤ w13.heap.size from hk.1)
  replace B := Aside0.mk hB2
  have hk : Kept w12 w13 (fun k_ => V3.heap.size ≤ k_ ∧ k_ < w6.heap.size) := hk.mono (fun k_ h_ => h_.elim (fun h_ => h_.1) (fun h_ => hp1.out k_ h_))
  replace X0 := Aside0.mk (blk_kept X0.out hk (fun h_ => by have := h_.1; have := h_.2; have := LE1.out; have := LS1.out; have := LS2.out; have := LS3.out; have := LE2.out; have := LS4.out; have := LE3.out; have := LS5.out; have := LE4.out; have := LS6.out; have := LD.out; have := LS7.out; have := LS8.out; have := LKw11.out; have := LS9.out; have := LKw13.out; omega))
  replace uS := Aside0.mk (Kd.S_kept uS.out hk (fun k_ hk_ h_ => by have := h_.1; have := h_.2; have := LE1.out; have := LS1.out; have := LS2.out; have := LS3.out; have := LE2.out; have := LS4.out; have := LE3.out; have := LS5.out; have := LE4.out; have := LS6.out; have := LD.out; have := LS7.out; have := LS8.out; have := LKw11.out; have := LS9.out; have := LKw13.out; omega))
  replace uR := Aside0.mk (Kd.R_kept uR.out hk (fun k_ hk_ h_ => by have := h_.1; have := h_.2; have := LE1.out; have := LS1.out; have := LS2.out; have := LS3.out; have := LE2.out; have := LS4.out; have := LE3.out; have := LS5.out; have := LE4.out; have := LS6.out; have := LD.out; have := LS7.out; have := LS8.out; have := LKw11.out; have := LS9.out; have := LKw13.out; omega))
  replace XW := Aside0.mk (blk_kept XW.out hk (fun h_ => by have := h_.1; have := h_.2; have := LE1.out; have := LS1.out; have := LS2.out; have := LS3.out; have := LE2.out; have := LS4.out; have := LE3.out; have := LS5.out; have := LE4.out; have := LS6.out; have := LD.out; have := LS7.out; have := LS8.out; have := LKw11.out; have := LS9.out; have := LKw13.out; omega))
  replace X1 := Aside0.mk (blk_kept X1.out hk (fun h_ => by have := h_.1; have := h_.2; have := LE1.out; have := LS1.out; have := LS2.out; have := LS3.out; have := LE2.out; have := LS4.out; have := LE3.out; have := LS5.out; have := LE4.out; have := LS6.out; have := LD.out; have := LS7.out; have := LS8.out; have := LKw11.out; have := LS9.out; have := LKw13.out; omega))
  replace XG := Aside0.mk (blk_kept XG.out hk (fun h_ => by have := h_.1; have := h_.2; have := LE1.out; have := LS1.out; have := LS2.out; have := LS3.out; have := LE2.out; have := LS4.out; have := LE3.out; have := LS5.out; have := LE4.out; have := LS6.out; have := LD.out; have := LS7.out; have := LS8.out; have := LKw11.out; have := LS9.out; have := LKw13.out; omega))
  clear hB2 hk hp1
  replace gS := Aside0.mk ho0
  replace gR := Aside0.mk ho1
  clear ho0 ho1
  have dXG_0 : w13.cell? ⟨w6.heap.size, 0, none⟩ = some (.slice gA0 C1.length gc0) := (blk_cell XG.out 0).trans rfl
  have dXG_1 : w13.cell? ⟨w6.heap.size, 1, none⟩ = some (.slice gA1 R1.length gc1) := (blk_cell XG.out 1).trans rfl
  have dXG_2 : w13.cell? ⟨w6.heap.size, 2, none⟩ = some (.int .i64 L1) := (blk_cell XG.out 2).trans rfl
  have TT := Aside0.mk (held_cow (Kd.S_reads' gS.out) (Kd.R_reads' gR.out) H11.out)
  go_wp2_with (go_at_call 18; refine TT.out.mono ?_)
  (first | rintro e w14 rfl hb | rintro e w14 ⟨rfl, hb⟩)
  clear TT
  clear dXG_0 dXG_1 dXG_2
  have LS10 := Aside0.mk (show w13.heap.size ≤ w14.heap.size from hb.size)
  replace B := Aside0.mk (below_step B.out hb)
  replace X0 := Aside0.mk (blk_below X0.out hb)
  replace uS := Aside0.mk (Kd.S_below uS.out hb)
  replace uR := Aside0.mk (Kd.R_below uR.out hb)
  replace XW := Aside0.mk (blk_below XW.out hb)
  replace X1 := Aside0.mk (blk_below X1.out hb)
  replace gS := Aside0.mk (Kd.S_below gS.out hb)
  replace gR := Aside0.mk (Kd.R_below gR.out hb)
  replace XG := Aside0.mk (blk_below XG.out hb)
  clear hb
  have hmm : (m == m) = true := beq_self_eq_true m
  have hmn : (m != m) = false := by simp
  have dX0_0 : w14.cell? ⟨w.heap.size, 0, none⟩ = some (.slice A0_0 l0_0.length c0_0) := (blk_cell X0.out 0).trans rfl
  have dX0_1 : w14.cell? ⟨w.heap.size, 1, none⟩ = some (.slice A0_1 l0_1.length c0_1) := (blk_cell X0.out 1).trans rfl
  have dX0_2 : w14.cell? ⟨w.heap.size, 2, none⟩ = some (.int .i64 a0_2) := (blk_cell X0.out 2).trans rfl
  have TT := Aside0.mk (laws_toCow.calls k A0_0 c0_0 l0_0 A0_1 c0_1 l0_1 a0_2 C R L w14 (Kd.C_below HR0.out B.out) HC0.out (Kd.C_below HR1.out B.out) HC1.out H3.out)
  go_wp2_with (go_at_call 21; refine TT.out.mono ?_)
  rintro e w15 ⟨z0, z1, rfl, hs, hr, hb⟩
  clear TT
  clear dX0_0 dX0_1 dX0_2
  have LS11 := Aside0.mk (show w14.heap.size ≤ w15.heap.size from hb.size)
  replace B := Aside0.mk (below_step B.out hb)
  replace X0 := Aside0.mk (blk_below X0.out hb)
  replace uS := Aside0.mk (Kd.S_below uS.out hb)
  replace uR := Aside0.mk (Kd.R_below uR.out hb)
  replace XW := Aside0.mk (blk_below XW.out hb)
  replace X1 := Aside0.mk (blk_below X1.out hb)
  replace gS := Aside0.mk (Kd.S_below gS.out hb)
  replace gR := Aside0.mk (Kd.R_below gR.out hb)
  replace XG := Aside0.mk (blk_below XG.out hb)
  obtain ⟨zA0, zc0, rfl⟩ := Kd.S_slice hs
  obtain ⟨zA1, zc1, rfl⟩ := Kd.R_slice hr
  have zS := Aside0.mk (S_iv hs)
  have zR := Aside0.mk (R_iv hr)
  clear hs hr hb
  have TT := Aside0.mk (impl_PutLeaf.calls k _ _ C _ _ R L a1 a2 a3 C1 R1 L1 wb w15 (Kd.S_reads' zS.out).2.2 (Kd.S_reads' zS.out).2.1 (Kd.R_reads' zR.out).2.2 (Kd.R_reads' zR.out).2.1 H5.out)
  go_wp2_with (go_at_call 39; refine TT.out.mono ?_)
  rintro e w16 ⟨h0, h1, rfl, hs, hr, hb⟩
  clear TT
  have LS12 := Aside0.mk (show w15.heap.size ≤ w16.heap.size from hb.size)
  replace B := Aside0.mk (below_step B.out hb)
  replace X0 := Aside0.mk (blk_below X0.out hb)
  replace uS := Aside0.mk (Kd.S_below uS.out hb)
  replace uR := Aside0.mk (Kd.R_below uR.out hb)
  replace XW := Aside0.mk (blk_below XW.out hb)
  replace X1 := Aside0.mk (blk_below X1.out hb)
  replace gS := Aside0.mk (Kd.S_below gS.out hb)
  replace gR := Aside0.mk (Kd.R_below gR.out hb)
  replace XG := Aside0.mk (blk_below XG.out hb)
  replace zS := Aside0.mk (Kd.S_below zS.out hb)
  replace zR := Aside0.mk (Kd.R_below zR.out hb)
  obtain ⟨hA0, hc0, rfl⟩ := Kd.S_slice hs
  obtain ⟨hA1, hc1, rfl⟩ := Kd.R_slice hr
  have hS := Aside0.mk (S_iv hs)
  have hR := Aside0.mk (R_iv hr)
  clear hb hr hs
  clear zS
  clear zR
  obtain ⟨V5, hV5⟩ : ∃ W, w16.alloc (.cells #[.slice hA0 C1.length hc0, .slice hA1 R1.length hc1, .int .i64 L1] 25 (0, 0)) = W := ⟨_, rfl⟩
  have hb : Below w16.heap.size w16 V5 := by rw [← hV5]; exact below_alloc (Below.refl _ _) _
  have LE5 := Aside0.mk (show V5.heap.size = w16.heap.size + 1 by rw [← hV5]; simp)
  replace B := Aside0.mk (below_step B.out hb)
  replace X0 := Aside0.mk (blk_below X0.out hb)
  replace uS := Aside0.mk (Kd.S_below uS.out hb)
  replace uR := Aside0.mk (Kd.R_below uR.out hb)
  replace XW := Aside0.mk (blk_below XW.out hb)
  replace X1 := Aside0.mk (blk_below X1.out hb)
  replace gS := Aside0.mk (Kd.S_below gS.out hb)
  replace gR := Aside0.mk (Kd.R_below gR.out hb)
  replace XG := Aside0.mk (blk_below XG.out hb)
  replace hS := Aside0.mk (Kd.S_below hS.out hb)
  replace hR := Aside0.mk (Kd.R_below hR.out hb)
  have XH := Aside0.mk (show V5.heap[w16.heap.size]? = some (.cells #[.slice hA0 C1.length hc0, .slice hA1 R1.length hc1, .int .i64 L1] 25 (0, 0)) by rw [← hV5]; exact heap_alloc_new w16 _)
  clear hb
  have dXW_0 : V5.cell? ⟨w4.heap.size, 0, none⟩ = some (.slice uA0 C1.length uc0) := (blk_cell XW.out 0).trans rfl
  have dXW_1 : V5.cell? ⟨w4.heap.size, 1, none⟩ = some (.slice uA1 R1.length uc1) := (blk_cell XW.out 1).trans rfl
  have dXW_2 : V5.cell? ⟨w4.heap.size, 2, none⟩ = some (.int .i64 L1) := (blk_cell XW.out 2).trans rfl
  have dXH_0 : V5.cell? ⟨w16.heap.size, 0, none⟩ = some (.slice hA0 C1.length hc0) := (blk_cell XH.out 0).trans rfl
  have dXH_1 : V5.cell? ⟨w16.heap.size, 1, none⟩ = some (.slice hA1 R1.length hc1) := (blk_cell XH.out 1).trans rfl
  have dXH_2 : V5.cell? ⟨w16.heap.size, 2, none⟩ = some (.int .i64 L1) := (blk_cell XH.out 2).trans rfl
  have TT := Aside0.mk (laws_eqCow.calls k _ _ C1 _ _ R1 L1 _ _ C1 _ _ R1 L1 true V5 (Kd.S_reads' hS.out).2.2 (Kd.S_reads' hS.out).2.1 (Kd.R_reads' hR.out).2.2 (Kd.R_reads' hR.out).2.1 (Kd.S_reads' uS.out).2.2 (Kd.S_reads' uS.out).2.1 (Kd.R_reads' uR.out).2.2 (Kd.R_reads' uR.out).2.1 H6.out)
  go_wp2_with (go_at_call 16; refine TT.out.mono ?_)
  (first | rintro e w17 rfl hb | rintro e w17 ⟨rfl, hb⟩)
  clear TT
  clear dXW_0 dXW_1 dXW_2 dXH_0 dXH_1 dXH_2
  clear hV5
  have LS13 := Aside0.mk (show V5.heap.size ≤ w17.heap.size from hb.size)
  replace B := Aside0.mk (below_step B.out hb)
  replace X0 := Aside0.mk (blk_below X0.out hb)
  replace uS := Aside0.mk (Kd.S_below uS.out hb)
  replace uR := Aside0.mk (Kd.R_below uR.out hb)
  replace XW := Aside0.mk (blk_below XW.out hb)
  replace X1 := Aside0.mk (blk_below X1.out hb)
  replace gS := Aside0.mk (Kd.S_below gS.out hb)
  replace gR := Aside0.mk (Kd.R_below gR.out hb)
  replace XG := Aside0.mk (blk_below XG.out hb)
  replace hS := Aside0.mk (Kd.S_below hS.out hb)
  replace hR := Aside0.mk (Kd.R_below hR.out hb)
  replace XH := Aside0.mk (blk_below XH.out hb)
  clear hb
  have dXG_0 : w17.cell? ⟨w6.heap.size, 0, none⟩ = some (.slice gA0 C1.length gc0) := (blk_cell XG.out 0).trans rfl
  have dXG_1 : w17.cell? ⟨w6.heap.size, 1, none⟩ = some (.slice gA1 R1.length gc1) := (blk_cell XG.out 1).trans rfl
  have dXG_2 : w17.cell? ⟨w6.heap.size, 2, none⟩ = some (.int .i64 L1) := (blk_cell XG.out 2).trans rfl
  have TT := Aside0.mk (held_cow (Kd.S_reads' gS.out) (Kd.R_reads' gR.out) H11.out)
  go_wp2_with (go_at_call 18; refine TT.out.mono ?_)
  (first | rintro e w18 rfl hb | rintro e w18 ⟨rfl, hb⟩)
  clear TT
  clear dXG_0 dXG_1 dXG_2
  have LS14 := Aside0.mk (show w17.heap.size ≤ w18.heap.size from hb.size)
  replace B := Aside0.mk (below_step B.out hb)
  replace X0 := Aside0.mk (blk_below X0.out hb)
  replace uS := Aside0.mk (Kd.S_below uS.out hb)
  replace uR := Aside0.mk (Kd.R_below uR.out hb)
  replace XW := Aside0.mk (blk_below XW.out hb)
  replace X1 := Aside0.mk (blk_below X1.out hb)
  replace gS := Aside0.mk (Kd.S_below gS.out hb)
  replace gR := Aside0.mk (Kd.R_below gR.out hb)
  replace XG := Aside0.mk (blk_below XG.out hb)
  replace hS := Aside0.mk (Kd.S_below hS.out hb)
  replace hR := Aside0.mk (Kd.R_below hR.out hb)
  replace XH := Aside0.mk (blk_below XH.out hb)
  clear hb
  go_wp2
  go_ret
  exact ⟨rfl, B.out⟩
end Go.Proofs.Ytacfalpgmibfnaa.PCow
namespace Go.Proofs.Ytacfalpgmibfnaa.PCow
open Go.RowKit Go.Proofs.YtacfalpgmibfnaaW.PrintWords Go.Proofs.YtacfalpgmibfnaaW.PrintLast Go.Proofs.YtacfalpgmibfnaaW.PrintMore Go.Proofs.Ytacfalpgmibfnaa.E
set_option linter.unusedSimpArgs false
set_option linter.unusedVariables false
theorem own_l (C : List CL) (R : List Int) (L : Int) (hn : C.length ≤ 1048576) (hk : ∀ x ∈ C, x.f2.length ≤ 1048576) (hr : R.length ≤ 1048576) : ∀ f i : Nat, i + f = C.length → Ev (fun k => spec_l14Own.l0 k (C.take i) C (C.length : Int) (i : Int) C R L) (C, R, L) := by
  intro f
  induction f with
  | zero =>
    intro i hi
    rw [List.take_of_length_le (by omega)]
    exact Ev.step (fun _ => spec_l14Own.l0.eq_2 ..) (ev_neg (by omega) (ev_some (ev_pos (by simp; omega) (ev_ret rfl))))
  | succ f ih =>
    intro i hi
    have hil : i < C.length := by omega
    have e : rd_T68 C (i : Int) = C[i] := by rw [rd_cl, Int.toNat_natCast, List.getD_eq_getElem?_getD, List.getElem?_eq_getElem hil]; rfl
    have hx := hk _ (List.getElem_mem hil)
    rw [← e] at hx
    have h1 := ih (i + 1) (by omega)
    rw [List.take_succ_eq_append_getElem hil, ← e] at h1
    refine Ev.step (fun _ => spec_l14Own.l0.eq_2 ..) (ev_pos (by omega) (ev_pos (by omega) (ev_pos (by omega) (ev_some (ev_pos (by simp; omega) (ev_pos (by rw [List.length_take]; omega) ?_))))))
    rw [w64 (x := (i : Int) + 1) (by omega) (by omega)]
    exact h1
theorem own_ev (C : List CL) (R : List Int) (L : Int) (hn : C.length ≤ 1048576) (hk : ∀ x ∈ C, x.f2.length ≤ 1048576) (hr : R.length ≤ 1048576) : Ev (fun k => spec_l14Own.f k C R L) (C, R, L) := by
  unfold spec_l14Own.f
  exact own_l C R L hn hk hr C.length 0 (by omega)
theorem l1In_root (a : Int) (roots : List Int) (h : (roots.length : Int) ≤ 8) : spec_l1In.f a 0 (wrap64 ((roots.length : Int) - 1)) = some (decide (0 ≤ a ∧ a < (roots.length : Int))) := by
  rw [w64 (x := (roots.length : Int) - 1) (by omega) (by omega), in_dec]
  congr 1
  rw [decide_eq_decide]
  omega
theorem root_ref {C : List CL} {roots : List Int} {L : Int} {V c v : List Int} (hI : Inv C roots L V [] c v) (a : Int) (h0 : 0 ≤ a) (h1 : a < (roots.length : Int)) : RefOK C v (rd roots a, L) := by
  have hl : a.toNat < roots.length := by omega
  have := hI.root _ (List.getElem_mem hl)
  rw [← rd_getD hl, show ((a.toNat : Nat) : Int) = a by omega] at this
  exact this
end Go.Proofs.Ytacfalpgmibfnaa.PCow
namespace Go.Proofs.Ytacfalpgmibfnaa.PCow
open Go.RowKit Go.Proofs.YtacfalpgmibfnaaW.PrintWords Go.Proofs.YtacfalpgmibfnaaW.PrintLast Go.Proofs.YtacfalpgmibfnaaW.PrintMore Go.Proofs.Ytacfalpgmibfnaa.E
set_option linter.unusedSimpArgs false
set_option linter.unusedVariables false
def rdn (C : List CL) (j : Nat) : CL := rd_T68 C (j : Int)
theorem rdn_at {C : List CL} {j : Nat} (h : j < C.length) : rdn C j = C[j] := rd_cl_nat h
theorem rdn_int (C : List CL) {k : Int} (h : 0 ≤ k) : rd_T68 C k = rdn C k.toNat := by
  unfold rdn
  rw [show ((k.toNat : Nat) : Int) = k by omega]
theorem rdn_set {C : List CL} {k : Nat} (h : k < C.length) (x : CL) (j : Nat) : rdn (C.set k x) j = if j = k then x else rdn C j := by
  unfold rdn
  simp only [rd_cl, Int.toNat_natCast, List.getD_eq_getElem?_getD, List.getElem?_set]
  by_cases e : k = j
  · subst e
    rw [if_pos rfl, if_pos h, if_pos rfl]
    rfl
  · rw [if_neg e, if_neg (Ne.symm e)]
theorem rdn_push (C : List CL) (x : CL) (j : Nat) (h : j < C.length) : rdn (C ++ [x]) j = rdn C j := by
  rw [rdn_at (by simp; omega), rdn_at h, List.getElem_append_left h]
theorem rdn_last (C : List CL) (x : CL) : rdn (C ++ [x]) C.length = x := by
  rw [rdn_at (by simp)]
  simp
def Ref (C : List CL) (v : Nat → Nat) (n : Int) (m : Nat) : Prop := n < 0 ∨ (0 ≤ n ∧ n < (C.length : Int) ∧ v n.toNat = m ∧ m ≠ 0)
structure Typed (C : List CL) (v : Nat → Nat) (N : Int) : Prop where
  cnt : ∀ j, j < C.length → v j ≠ 0 → 1 ≤ (rdn C j).f0 ∧ (rdn C j).f0 ≤ N
  one : ∀ j, j < C.length → v j = 1 → (rdn C j).f2 = []
  two : ∀ j, j < C.length → 2 ≤ v j → (rdn C j).f2.length = 4 ∧ (rdn C j).f1.size = 0 ∧ ∀ n ∈ (rdn C j).f2, Ref C v n (v j - 1)
  out : ∀ j, C.length ≤ j → v j = 0
theorem inc_some (v : Nat → Nat) : ∀ (ks : List Int) (C : List CL) (N : Int), (∀ j, j < C.length → v j ≠ 0 → 1 ≤ (rdn C j).f0 ∧ (rdn C j).f0 ≤ N) → N + ks.length ≤ 100000 → (∀ n ∈ ks, n < 0 ∨ (n < (C.length : Int) ∧ v n.toNat ≠ 0)) →
    ∃ D, incL ks C = some D ∧ D.length = C.length ∧ (∀ j, (rdn D j).f1 = (rdn C j).f1 ∧ (rdn D j).f2 = (rdn C j).f2) ∧ (∀ j, j < C.length → v j ≠ 0 → 1 ≤ (rdn D j).f0 ∧ (rdn D j).f0 ≤ N + ks.length) := by
  intro ks
  induction ks with
  | nil => intro C N hc hN hk; exact ⟨C, rfl, rfl, fun j => ⟨rfl, rfl⟩, fun j h1 h2 => by have := hc j h1 h2; simp; omega⟩
  | cons n r ih =>
    intro C N hc hN hk
    simp only [List.length_cons] at hN ⊢
    by_cases h0 : 0 ≤ n
    · rcases hk n (by simp) with e | ⟨h1, h2⟩
      · omega
      · have hl : n.toNat < C.length := by omega
        have hcn := hc n.toNat hl h2
        have ew : wrap64 ((rdn C n.toNat).f0 + 1) = (rdn C n.toNat).f0 + 1 := w64 (by omega) (by omega)
        have hset := rdn_set hl (⟨(rdn C n.toNat).f0 + 1, (rdn C n.toNat).f1, (rdn C n.toNat).f2⟩ : CL)
        obtain ⟨D, e1, e2, e3, e4⟩ := ih (C.set n.toNat ⟨(rdn C n.toNat).f0 + 1, (rdn C n.toNat).f1, (rdn C n.toNat).f2⟩) (N + 1) (fun j hj hv => by
          rw [List.length_set] at hj
          rw [hset]
          split
          · exact ⟨by show 1 ≤ (rdn C n.toNat).f0 + 1; omega, by show (rdn C n.toNat).f0 + 1 ≤ N + 1; omega⟩
          · have := hc j hj hv; omega) (by omega) (fun m hm => by rw [List.length_set]; exact hk m (by simp [hm]))
        refine ⟨D, ?_, by rw [e2, List.length_set], fun j => ?_, fun j hj hv => by have := e4 j (by rw [List.length_set]; exact hj) hv; omega⟩
        · simp only [incL]
          rw [if_pos h0, if_pos h1, rdn_int C h0, ew]
          exact e1
        · rw [(e3 j).1, (e3 j).2, hset]
          split
          · rename_i e; subst e; exact ⟨rfl, rfl⟩
          · exact ⟨rfl, rfl⟩
    · obtain ⟨D, e1, e2, e3, e4⟩ := ih C N hc (by omega) (fun m hm => hk m (by simp [hm]))
      refine ⟨D, ?_, e2, e3, fun j hj hv => by have := e4 j hj hv; omega⟩
      simp only [incL]
      rw [if_neg h0]
      exact e1
theorem new_some {D : List CL} {v : Nat → Nat} {N : Int} (hT : Typed D v N) (hN : 1 ≤ N) (x : CL) (l : Nat) (hl : 1 ≤ l) (hx0 : x.f0 = 1) (hx1 : l = 1 → x.f2 = []) (hx2 : 2 ≤ l → x.f2.length = 4 ∧ x.f1.size = 0 ∧ ∀ n ∈ x.f2, Ref D v n (l - 1)) :
    ∃ v1, Typed (newC D x).1 v1 N ∧ v1 (newC D x).2 = l ∧ (∀ j, j < D.length → v j ≠ 0 → v1 j = v j ∧ rdn (newC D x).1 j = rdn D j) ∧ rdn (newC D x).1 (newC D x).2 = x := by
  have key : ∀ (E : List CL) (k1 : Nat), D.length ≤ E.length → k1 < E.length → v k1 = 0 → (∀ j, j < E.length → j ≠ k1 → j < D.length) → (∀ j, j < D.length → j ≠ k1 → rdn E j = rdn D j) → rdn E k1 = x → ∃ v1 : Nat → Nat, Typed E v1 N ∧ v1 k1 = l ∧ (∀ j, j < D.length → v j ≠ 0 → v1 j = v j ∧ rdn E j = rdn D j) ∧ rdn E k1 = x := by
    intro E k1 h1 h2 h3 h4 h5 h6
    have hne : ∀ j, v j ≠ 0 → j ≠ k1 := fun j hj e => hj (e ▸ h3)
    have href : ∀ n m, Ref D v n m → Ref E (fun j => if j = k1 then l else v j) n m := fun n m hr => by
      rcases hr with e | ⟨r0, r1, r2, r3⟩
      · exact .inl e
      · refine .inr ⟨r0, by omega, ?_, r3⟩
        show (if n.toNat = k1 then l else v n.toNat) = m
        rw [if_neg (hne _ (by omega))]
        exact r2
    refine ⟨fun j => if j = k1 then l else v j, ⟨fun j hj hv => ?_, fun j hj hv => ?_, fun j hj hv => ?_, fun j hj => ?_⟩, if_pos rfl, fun j hj hv => ⟨if_neg (hne j hv), h5 j hj (hne j hv)⟩, h6⟩
    · by_cases e : j = k1
      · subst e; rw [h6, hx0]; omega
      · simp only [if_neg e] at hv
        rw [h5 j (h4 j hj e) e]
        exact hT.cnt j (h4 j hj e) hv
    · by_cases e : j = k1
      · subst e; simp only [if_pos] at hv; rw [h6]; exact hx1 hv
      · simp only [if_neg e] at hv
        rw [h5 j (h4 j hj e) e]
        exact hT.one j (h4 j hj e) hv
    · by_cases e : j = k1
      · subst e
        simp only [if_pos] at hv ⊢
        rw [h6]
        obtain ⟨a, b, c⟩ := hx2 hv
        exact ⟨a, b, fun n hn => href _ _ (c n hn)⟩
      · simp only [if_neg e] at hv ⊢
        rw [h5 j (h4 j hj e) e]
        obtain ⟨a, b, c⟩ := hT.two j (h4 j hj e) hv
        exact ⟨a, b, fun n hn => href _ _ (c n hn)⟩
    · show (if j = k1 then l else v j) = 0
      rw [if_neg (by omega)]
      exact hT.out j (by omega)
  unfold newC
  split
  · rename_i hf
    exact key _ _ (by simp) (by simp) (hT.out _ (Nat.le_refl _)) (fun j hj hne => by simp at hj; omega) (fun j hj _ => rdn_push D x j hj) (rdn_last D x)
  · rename_i hf
    have hlt := freeK_lt D hf
    refine key _ _ (by simp) (by simpa using hlt) ?_ (fun j hj _ => by simpa using hj) (fun j hj hne => ?_) ?_
    · rcases freeFrom_lt D 0 with e | ⟨j, hj, e, he⟩
      · exact absurd (show freeK D < 0 by unfold freeK; omega) hf
      · have ej : (freeK D).toNat = j := by unfold freeK; omega
        rw [ej]
        by_cases hv : v j = 0
        · exact hv
        · have := hT.cnt j hj hv
          rw [rdn_at hj, he] at this
          omega
    · rw [rdn_set hlt, if_neg hne]
    · rw [rdn_set hlt, if_pos rfl]
theorem own_some {C : List CL} {v : Nat → Nat} {N : Int} (hT : Typed C v N) (hN : 1 ≤ N ∧ N ≤ 90000) (hn : C.length ≤ 1000000) {k : Int} {l : Nat} (hl : 1 ≤ l) (hk : Ref C v k l) :
    ∃ C1 k1 v1, ownM C k l = some (C1, k1) ∧ Typed C1 v1 (N + 4) ∧ C.length ≤ C1.length ∧ C1.length ≤ C.length + 1 ∧ k1 < C1.length ∧ v1 k1 = l ∧ (∀ j, j < C.length → v j ≠ 0 → v1 j = v j ∧ (rdn C1 j).f1 = (rdn C j).f1 ∧ (rdn C1 j).f2 = (rdn C j).f2) ∧ (0 ≤ k → (rdn C1 k1).f2 = (rdn C k.toNat).f2) := by
  have hw : ∀ {D : List CL} {w : Nat → Nat} {M M' : Int}, Typed D w M → M ≤ M' → Typed D w M' := fun h hM => ⟨fun j hj hv => by have := h.cnt j hj hv; omega, h.one, h.two, h.out⟩
  by_cases h0 : k < 0
  · obtain ⟨v1, t1, t2, t3, t4⟩ := new_some hT hN.1 ⟨1, ⟨#[]⟩, if l = 1 then [] else [-1, -1, -1, -1]⟩ l hl rfl (fun e => by rw [if_pos e]) (fun e => by rw [if_neg (by omega)]; exact ⟨rfl, rfl, fun n hn => .inl (by simp at hn; omega)⟩)
    have hlen := newC_len C ⟨1, ⟨#[]⟩, if l = 1 then [] else [-1, -1, -1, -1]⟩
    refine ⟨_, _, v1, by unfold ownM; rw [if_pos hn, if_pos h0], hw t1 (by omega), hlen.1, hlen.2, newC_lt _ _, t2, fun j hj hv => ⟨(t3 j hj hv).1, by rw [(t3 j hj hv).2], by rw [(t3 j hj hv).2]⟩, fun h => by omega⟩
  · obtain ⟨r0, r1, r2, r3⟩ : 0 ≤ k ∧ k < (C.length : Int) ∧ v k.toNat = l ∧ l ≠ 0 := hk.resolve_left h0
    have hkl : k.toNat < C.length := by omega
    have hcn := hT.cnt k.toNat hkl (by omega)
    have hrd := rdn_int C r0
    by_cases h1 : (rdn C k.toNat).f0 = 1
    · exact ⟨C, k.toNat, v, by unfold ownM; rw [if_pos hn, if_neg h0, if_pos r1, hrd, if_pos h1], hw hT (by omega), Nat.le_refl _, by omega, hkl, r2, fun j hj hv => ⟨rfl, rfl, rfl⟩, fun _ => rfl⟩
    · have hkids : (rdn C k.toNat).f2.length ≤ 4 ∧ (∀ n ∈ (rdn C k.toNat).f2, Ref C v n (l - 1)) := by
        by_cases e1 : l = 1
        · rw [hT.one k.toNat hkl (by omega)]; simp
        · obtain ⟨a, _, c⟩ := hT.two k.toNat hkl (by omega)
          rw [r2] at c
          exact ⟨by omega, c⟩
      have ew : wrap64 ((rdn C k.toNat).f0 - 1) = (rdn C k.toNat).f0 - 1 := w64 (by omega) (by omega)
      have hset := rdn_set hkl (⟨(rdn C k.toNat).f0 - 1, (rdn C k.toNat).f1, (rdn C k.toNat).f2⟩ : CL)
      obtain ⟨D, e1, e2, e3, e4⟩ := inc_some v (rdn C k.toNat).f2 (C.set k.toNat ⟨(rdn C k.toNat).f0 - 1, (rdn C k.toNat).f1, (rdn C k.toNat).f2⟩) N (fun j hj hv => by
        rw [List.length_set] at hj
        rw [hset]
        split
        · exact ⟨by show 1 ≤ (rdn C k.toNat).f0 - 1; omega, by show (rdn C k.toNat).f0 - 1 ≤ N; omega⟩
        · exact hT.cnt j hj hv) (by omega) (fun n hn => by
        rw [List.length_set]
        rcases hkids.2 n hn with e | ⟨a, b, c, d⟩
        · exact .inl e
        · exact .inr ⟨b, by omega⟩)
      rw [List.length_set] at e2
      have hf : ∀ j, (rdn D j).f1 = (rdn C j).f1 ∧ (rdn D j).f2 = (rdn C j).f2 := fun j => by
        rw [(e3 j).1, (e3 j).2, hset]
        split
        · rename_i e; subst e; exact ⟨rfl, rfl⟩
        · exact ⟨rfl, rfl⟩
      have hrefD : ∀ n m, Ref C v n m → Ref D v n m := fun n m h => by unfold Ref at h ⊢; rw [e2]; exact h
      have hTD : Typed D v (N + 4) := ⟨fun j hj hv => by have := e4 j (by rw [List.length_set]; omega) hv; omega, fun j hj hv => by rw [(hf j).2]; exact hT.one j (by omega) hv, fun j hj hv => by
        rw [(hf j).1, (hf j).2]
        obtain ⟨a, b, c⟩ := hT.two j (by omega) hv
        exact ⟨a, b, fun n hn => hrefD _ _ (c n hn)⟩, fun j hj => hT.out j (by omega)⟩
      obtain ⟨v1, t1, t2, t3, t4⟩ := new_some hTD (by omega) ⟨1, (rdn C k.toNat).f1, (rdn C k.toNat).f2⟩ l hl rfl (fun e => hT.one k.toNat hkl (by omega)) (fun e => by
        obtain ⟨a, b, c⟩ := hT.two k.toNat hkl (by omega)
        rw [r2] at c
        exact ⟨a, b, fun n hn => hrefD _ _ (c n hn)⟩)
      have hlen := newC_len D ⟨1, (rdn C k.toNat).f1, (rdn C k.toNat).f2⟩
      refine ⟨_, _, v1, ?_, t1, by omega, by omega, newC_lt _ _, t2, fun j hj hv => ⟨(t3 j (by omega) hv).1, by rw [(t3 j (by omega) hv).2]; exact (hf j).1, by rw [(t3 j (by omega) hv).2]; exact (hf j).2⟩, fun _ => by rw [t4]⟩
      unfold ownM
      rw [if_pos hn, if_neg h0, if_pos r1, hrd, if_neg h1, if_pos (by omega), ew, e1]
      rfl
def leafZ (dg : Nat → Int) (C : List CL) : Nat → Int → Prop
  | 0, _ => True
  | l + 1, k => 0 ≤ k ∧ (l = 0 ∨ leafZ dg C l (rd (rdn C k.toNat).f2 (dg (l + 1))))
theorem rd_memI {ks : List Int} {d : Int} (h0 : 0 ≤ d) (h : d < (ks.length : Int)) : rd ks d ∈ ks := by
  have hl : d.toNat < ks.length := by omega
  have e := rd_getD hl
  rw [show ((d.toNat : Nat) : Int) = d by omega] at e
  rw [e]
  exact List.getElem_mem hl
theorem leafZ_eq (dg : Nat → Int) {C C1 : List CL} {v : Nat → Nat} {N : Int} (hT : Typed C v N) (hd : ∀ j, 2 ≤ j → j ≤ 3 → 0 ≤ dg j ∧ dg j < 4) (hf : ∀ j, j < C.length → v j ≠ 0 → (rdn C1 j).f2 = (rdn C j).f2) : ∀ (l : Nat) (k : Int), l ≤ 3 → Ref C v k l → leafZ dg C l k → leafZ dg C1 l k := by
  intro l
  induction l with
  | zero => intro k _ _ _; trivial
  | succ l ih =>
    rintro k hl hk ⟨h0, h1⟩
    refine ⟨h0, h1.imp id (fun h2 => ?_)⟩
    obtain ⟨r0, r1, r2, r3⟩ : 0 ≤ k ∧ k < (C.length : Int) ∧ v k.toNat = l + 1 ∧ l + 1 ≠ 0 := hk.resolve_left (by omega)
    rw [hf k.toNat (by omega) (by omega)]
    by_cases e : l = 0
    · subst e; trivial
    · obtain ⟨a, _, c⟩ := hT.two k.toNat (by omega) (by omega)
      have hdg := hd (l + 1) (by omega) (by omega)
      have h3 := c _ (rd_memI hdg.1 (by omega))
      rw [r2] at h3
      exact ih _ (by omega) h3 h2
theorem put_some (dg : Nat → Int) (leaf : ByteArray) (hd : ∀ j, 2 ≤ j → j ≤ 3 → 0 ≤ dg j ∧ dg j < 4) : ∀ (l : Nat) (C : List CL) (v : Nat → Nat) (k : Int) (N : Int), 1 ≤ l → l ≤ 3 → Typed C v N → 1 ≤ N ∧ N + 4 * l ≤ 90000 → C.length + l ≤ 1000000 → Ref C v k l → (leaf.size = 0 → leafZ dg C l k) →
    ∃ C2 z2, putM dg leaf l C k = some (C2, z2) ∧ C.length ≤ C2.length ∧ ∀ j, j < C.length → l < v j → (rdn C2 j).f1 = (rdn C j).f1 ∧ (rdn C2 j).f2 = (rdn C j).f2 := by
  intro l
  induction l with
  | zero => intro C v k N h1; omega
  | succ l ih =>
    intro C v k N _ hl3 hT hN hn hk hz
    obtain ⟨C1, k1, v1, e1, t1, t2, t3, t4, t5, t6, t7⟩ := own_some hT ⟨hN.1, by omega⟩ (by omega) (l := l + 1) (by omega) hk
    have hlk : ¬ (leaf.size = 0 ∧ k < 0) := fun h => by have := (hz h.1).1; omega
    simp only [putM]
    rw [if_neg hlk, e1, Option.bind_some]
    simp only
    have far : ∀ j, j < C.length → l + 1 < v j → j ≠ k1 := fun j hj hv e => by have := (t6 j hj (by omega)).1; rw [e, t5] at this; rw [e] at hv; omega
    have rk : rd_T68 C1 (k1 : Int) = rdn C1 k1 := rfl
    by_cases h0 : l = 0
    · rw [if_pos h0]
      have fin : ∀ x : CL, C.length ≤ (C1.set k1 x).length ∧ ∀ j, j < C.length → l + 1 < v j → (rdn (C1.set k1 x) j).f1 = (rdn C j).f1 ∧ (rdn (C1.set k1 x) j).f2 = (rdn C j).f2 := fun x => ⟨by rw [List.length_set]; exact t2, fun j hj hv => by rw [rdn_set t4, if_neg (far j hj hv)]; exact (t6 j hj (by omega)).2⟩
      split
      · exact ⟨_, _, rfl, fin _⟩
      · exact ⟨_, _, rfl, fin _⟩
    · rw [if_neg h0]
      have hdg := hd (l + 1) (by omega) (by omega)
      obtain ⟨a, b, c⟩ := t1.two k1 t4 (by omega)
      rw [t5] at c
      rw [rk, if_pos ⟨hdg.1, hdg.2, a⟩]
      have hkid := c _ (rd_memI hdg.1 (by omega))
      obtain ⟨C2, z2, q1, q2, q3⟩ := ih C1 v1 (rd (rdn C1 k1).f2 (dg (l + 1))) (N + 4) (by omega) (by omega) t1 ⟨by omega, by omega⟩ (by omega) hkid (fun h => by
        obtain ⟨p0, p1⟩ := hz h
        rw [t7 p0]
        obtain ⟨r0, r1, r2, r3⟩ : 0 ≤ k ∧ k < (C.length : Int) ∧ v k.toNat = l + 1 ∧ l + 1 ≠ 0 := hk.resolve_left (by omega)
        obtain ⟨a', _, c'⟩ := hT.two k.toNat (by omega) (by omega)
        have h3 := c' _ (rd_memI hdg.1 (by omega))
        rw [r2] at h3
        exact leafZ_eq dg hT hd (fun j hj hv => (t6 j hj hv).2.2) l _ (by omega) h3 (p1.resolve_left h0))
      rw [q1, Option.bind_some]
      simp only
      obtain ⟨s1, s2⟩ := q3 k1 t4 (by omega)
      have rk2 : rd_T68 C2 (k1 : Int) = rdn C2 k1 := rfl
      have hk2 : k1 < C2.length := by omega
      rw [rk2, if_pos ⟨hk2, by rw [s2]; exact a, by rw [s1]; exact b⟩]
      have fin : ∀ x : CL, C.length ≤ (C2.set k1 x).length ∧ ∀ j, j < C.length → l + 1 < v j → (rdn (C2.set k1 x) j).f1 = (rdn C j).f1 ∧ (rdn (C2.set k1 x) j).f2 = (rdn C j).f2 := fun x => ⟨by rw [List.length_set]; omega, fun j hj hv => by
        rw [rdn_set hk2, if_neg (far j hj hv)]
        have h6 := t6 j hj (by omega)
        have h7 := q3 j (by omega) (by omega)
        exact ⟨h7.1.trans h6.2.1, h7.2.trans h6.2.2⟩⟩
      split
      · exact ⟨_, _, rfl, fin _⟩
      · exact ⟨_, _, rfl, fin _⟩
section
variable {C : List CL} {roots : List Int} {L : Int} {V c v : List Int}
theorem cnt_le (hI : Inv C roots L V [] c v) (hn : C.length ≤ 80) (hr : roots.length ≤ 8) (k : Int) (h0 : 0 ≤ k) (h1 : k < (C.length : Int)) : rd c k ≤ 328 := by
  have h2 := hI.cnts k h0 h1
  have h3 : roots.count k ≤ roots.length := List.count_le_length
  have h4 : (V.flatMap (kidsOf C)).count k ≤ (V.flatMap (kidsOf C)).length := List.count_le_length
  have h5 := flat_len (kidsOf C) V (fun z hz => by
    obtain ⟨z0, z1⟩ := hI.vin z hz
    have hg := hI.good z hz
    exact (goodB_kids hg.1).1)
  have h6 := hI.len
  simp only [List.map_nil, List.count_nil] at h2
  omega
def vOf (C : List CL) (v : List Int) (j : Nat) : Nat := if j < C.length then (rd v (j : Int)).toNat else 0
theorem ref_of {m : Nat} {k : Int} (hk : RefOK C v (k, (m : Int))) : Ref C (vOf C v) k m := by
  rcases hk with e | ⟨h0, h1, h2, h3⟩
  · simp only at e; exact .inl (by omega)
  · simp only at h0 h1 h2 h3
    refine .inr ⟨h0, h1, ?_, by omega⟩
    unfold vOf
    rw [if_pos (by omega), show ((k.toNat : Nat) : Int) = k by omega, h2]
    omega
theorem typed_of (hI : Inv C roots L V [] c v) (hE : endM C c C.length 0 = true) (hn : C.length ≤ 80) (hr : roots.length ≤ 8) (h1 : 1 ≤ L) : Typed C (vOf C v) 328 := by
  have hc : ∀ j, j < C.length → (rdn C j).f0 = rd c (j : Int) := by
    have gen : ∀ f i, endM C c f i = true → ∀ j, i ≤ j → j < i + f → (rdn C j).f0 = rd c (j : Int) := by
      intro f
      induction f with
      | zero => intro i _ j h1 h2; omega
      | succ f ih =>
        intro i h j h1 h2
        unfold endM at h
        split at h
        · rename_i ho
          by_cases e : j = i
          · subst e
            unfold okEnd at ho
            split at ho
            · assumption
            · cases ho
          · exact ih (i + 1) h j (by omega) (by omega)
        · cases h
    exact fun j hj => gen _ _ hE j (by omega) (by omega)
  have hv : ∀ j, j < C.length → vOf C v j ≠ 0 → (j : Int) ∈ V ∧ 1 ≤ rd v (j : Int) ∧ vOf C v j = (rd v (j : Int)).toNat := fun j hj h => by
    unfold vOf at h ⊢
    rw [if_pos hj] at h ⊢
    have hm := (hI.vl (j : Int) (by omega) (by omega)).1 (by omega)
    exact ⟨hm, (hI.good _ hm).2.1, rfl⟩
  refine ⟨fun j hj h => ?_, fun j hj h => ?_, fun j hj h => ?_, fun j hj => by unfold vOf; rw [if_neg (by omega)]⟩
  · rw [hc j hj]
    exact ⟨(hI.pos (j : Int) (by omega) (by omega)).1 (hv j hj h).1, cnt_le hI hn hr _ (by omega) (by omega)⟩
  · obtain ⟨hm, h2, h3⟩ := hv j hj (by omega)
    have hk : RefOK C v ((j : Int), ((0 : Nat) : Int) + 1) := .inr ⟨by show (0 : Int) ≤ j; omega, by show (j : Int) < C.length; omega, by show rd v (j : Int) = _; omega, by show ((0 : Nat) : Int) + 1 ≠ 0; omega⟩
    exact (hI.below hk (by omega)).2.2.2.2.1 rfl
  · obtain ⟨hm, h2, h3⟩ := hv j hj (by omega)
    obtain ⟨m, hm2⟩ : ∃ m : Nat, rd v (j : Int) = (m : Int) + 1 := ⟨(rd v (j : Int)).toNat - 1, by omega⟩
    have hk : RefOK C v ((j : Int), (m : Int) + 1) := .inr ⟨by show (0 : Int) ≤ j; omega, by show (j : Int) < C.length; omega, hm2, by show (m : Int) + 1 ≠ 0; omega⟩
    obtain ⟨_, _, g, _, _, g2, g3⟩ := hI.below hk (by omega)
    refine ⟨g2 (by omega), ?_, fun n hn => ?_⟩
    · have := good_node g (by omega)
      unfold okNode at this
      split at this
      · split at this
        · exact of_decide_eq_true this
        · cases this
      · cases this
    · rw [h3, show (rd v (j : Int)).toNat - 1 = m by omega]
      exact ref_of (g3 n hn)
theorem kids_of (hI : Inv C roots L V [] c v) (hE : endM C c C.length 0 = true) : ∀ x ∈ C, x.f2.length ≤ 4 := by
  have gen : ∀ f i, endM C c f i = true → ∀ j, i ≤ j → j < i + f → okEnd (rdn C j) (rd c (j : Int)) = true := by
    intro f
    induction f with
    | zero => intro i _ j h1 h2; omega
    | succ f ih =>
      intro i h j h1 h2
      unfold endM at h
      split at h
      · rename_i ho
        by_cases e : j = i
        · subst e; exact ho
        · exact ih (i + 1) h j (by omega) (by omega)
      · cases h
  intro x hx
  obtain ⟨j, hj, rfl⟩ := List.mem_iff_getElem.1 hx
  rw [← rdn_at hj]
  have ho := gen _ _ hE j (by omega) (by omega)
  by_cases hm : (j : Int) ∈ V
  · exact (goodB_kids (hI.good _ hm).1).1
  · have h0 := (hI.pos (j : Int) (by omega) (by omega)).2 hm
    unfold okEnd at ho
    split at ho
    · rename_i e
      rw [h0] at e
      rw [if_pos e] at ho
      split at ho
      · have := of_decide_eq_true ho; omega
      · cases ho
    · cases ho
theorem dg_bound (q : Int) (h0 : 0 ≤ q) (h1 : q < 16) : ∀ j, 2 ≤ j → j ≤ 3 → 0 ≤ dgI q j ∧ dgI q j < 4 := by
  intro j h2 h3
  obtain rfl | rfl : j = 2 ∨ j = 3 := by omega
  · unfold dgI
    rw [show ((2 : Nat) : Int) = 2 by rfl, digit_2 q h0 h1]
    show 0 ≤ q % 4 ∧ q % 4 < 4
    omega
  · unfold dgI
    rw [show ((3 : Nat) : Int) = 3 by rfl, digit_3 q h0 h1]
    show 0 ≤ q / 4 ∧ q / 4 < 4
    omega
theorem path_empty (hI : Inv C roots L V [] c v) (q : Int) (h0 : 0 ≤ q) (h1 : q < 16) : ∀ (l : Nat) (k : Int), 1 ≤ l → l ≤ 3 → RefOK C v (k, (l : Int)) → ¬ leafZ (dgI q) C l k → Ev (fun n => impl_Cow_leafAt.l0 n q k (l : Int) C roots L) ⟨#[]⟩ := by
  intro l
  induction l with
  | zero => intro k h; omega
  | succ l ih =>
    intro k _ hl hk hz
    by_cases hk0 : k < 0
    · exact Ev.step (fun _ => impl_Cow_leafAt.l0.eq_2 ..) (ev_neg (by omega) (ev_pos (by omega) (ev_ret rfl)))
    · by_cases e : l = 0
      · subst e
        exact absurd ⟨by omega, .inl rfl⟩ hz
      · obtain ⟨k0, k1, _, _, _, k6, k7⟩ := hI.below (m := l) (by simpa using hk) (by omega)
        have kl := k6 e
        have hdg := dg_bound q h0 h1 (l + 1) (by omega) (by omega)
        have hm := rd_memI hdg.1 (by rw [kl]; omega : dgI q (l + 1) < ((rd_T68 C k).f2.length : Int))
        have ew : wrap64 (((l + 1 : Nat) : Int) - 1) = (l : Int) := by rw [w64 (by omega) (by omega)]; omega
        have hr := ih _ (by omega) (by omega) (k7 _ hm) (fun h => hz ⟨by omega, .inr (by rw [rdn_int C k0] at h; exact h)⟩)
        refine Ev.step (fun _ => impl_Cow_leafAt.l0.eq_2 ..) (ev_pos k0 (ev_pos (by omega) (ev_pos k0 (ev_pos k1 (ev_bindc (dgI_some q (l + 1) (by omega) (by omega)) (ev_pos hdg.1 (ev_pos (by rw [kl]; omega) ?_)))))))
        rw [ew]
        exact hr
end
theorem ev_ten {α : Type} {f : Nat → Option α} {A : Prop} [Decidable A] {r : α} (hA : A) (h : Ev f r) : Ev (fun k => if 10 ≤ k ∧ A then f k else none) r := by
  obtain ⟨k0, h⟩ := h
  exact ⟨max k0 10, fun k hk => by
    show (if 10 ≤ k ∧ A then f k else none) = some r
    rw [if_pos ⟨by omega, hA⟩]
    exact h k (by omega)⟩
theorem put_both (C : List CL) (roots : List Int) (L a q : Int) (leaf : ByteArray) (hk : ∀ x ∈ C, x.f2.length ≤ 1048576) : ∃ C1 R1 L1 b, C1.length ≤ 80 ∧ R1.length ≤ 8 ∧ (∀ x ∈ C1, x.f2.length ≤ 1048576) ∧ Ev (fun k => spec_PutLeaf.f k C roots L a q leaf) (C1, R1, L1, b) ∧ Ev (fun k => impl_PutLeaf.f k C roots L a q leaf) (C1, R1, L1, b) := by
  obtain ⟨g, hb1, hb2⟩ := spec_impl C roots L
  unfold spec_PutLeaf.f impl_PutLeaf.f
  cases g with
  | false => exact ⟨[], [], 0, false, by simp, by simp, by simp, Ev.bind hb1 (ev_false rfl (ev_ret rfl)), ev_bindc (is_root C roots L a false (by simp) hb2) (ev_false rfl (ev_ret rfl))⟩
  | true =>
    obtain ⟨hL1, hL3, hn, hr1, hr8, V, c, v, hI, hE⟩ := good_tree hb2
    have hR := is_root C roots L a true (fun _ => hr8) hb2
    have hS := l1In_root a roots hr8
    by_cases ha : 0 ≤ a ∧ a < (roots.length : Int)
    · have da := decide_eq_true ha
      obtain ⟨hp1, hp2⟩ := places_both C roots L hL1 hL3
      have hpl : 1 ≤ plc L ∧ plc L ≤ 16 := by
        unfold plc
        split
        · omega
        · split <;> omega
      have ep : wrap64 (plc L - 1) = plc L - 1 := w64 (by omega) (by omega)
      by_cases hq : 0 ≤ q ∧ q ≤ plc L - 1
      · have eS : spec_l1In.f q 0 (wrap64 (plc L - 1)) = some true := by rw [ep, in_dec, decide_eq_true hq]
        have eI : impl_within.f q 0 (wrap64 (plc L - 1)) = some true := by rw [ep, within_inR]; unfold inR; rw [decide_eq_true hq]
        by_cases h8 : (leaf.size : Int) > 8
        · exact ⟨[], [], 0, false, by simp, by simp, by simp, Ev.bind hb1 (ev_true rfl (ev_bindc hS (ev_true da (Ev.bind hp1 (ev_bindc eS (ev_true rfl (ev_pos h8 (ev_ret rfl)))))))), ev_bindc hR (ev_true (by rw [da]; rfl) (ev_bindc hp2 (ev_bindc eI (ev_true rfl (ev_pos h8 (ev_ret rfl))))))⟩
        · obtain ⟨r, er1, er2⟩ := leaf_both hI hL1 hL3 a q ha hq.1 (by omega)
          have hcond : ownB C roots = true ∧ 0 ≤ L ∧ L ≤ 1000 := ⟨ownB_of (by omega) (by omega) hk, by omega, by omega⟩
          suffices h : ∃ C1 R1 L1 b, C1.length ≤ 80 ∧ R1.length ≤ 8 ∧ (∀ x ∈ C1, x.f2.length ≤ 1048576) ∧ Ev (fun k => putSp k C roots L a q leaf) (C1, R1, L1, b) ∧ Ev (fun k => putI k C roots L a q leaf) (C1, R1, L1, b) by
            obtain ⟨C1, R1, L1, b, u1, u2, u3, u4, u5⟩ := h
            exact ⟨C1, R1, L1, b, u1, u2, u3, Ev.bind hb1 (ev_true rfl (ev_bindc hS (ev_true da (Ev.bind hp1 (ev_bindc eS (ev_true rfl (ev_neg h8 u4))))))), ev_bindc hR (ev_true (by rw [da]; rfl) (ev_bindc hp2 (ev_bindc eI (ev_true rfl (ev_neg h8 u5)))))⟩
          unfold putSp putI
          by_cases hle : r = leaf
          · refine ⟨C, roots, L, true, hn, by omega, hk, ev_pos ha (Ev.bind er1 (ev_pos hle (Ev.bind (own_ev C roots L (by omega) hk (by omega)) (ev_ret rfl)))), ev_pos hcond (Ev.bind er2 (ev_bindc (a := (C, roots)) (by unfold putR; rw [if_pos hle]) (ev_bindc (a := true) hb2 (ev_true rfl (ev_ret rfl)))))⟩
          · have hkr := root_ref hI a ha.1 ha.2
            have hLn : ((L.toNat : Nat) : Int) = L := by omega
            obtain ⟨C2, z2, e2, e3, _⟩ := put_some (dgI q) leaf (dg_bound q hq.1 (by omega)) L.toNat C (vOf C v) (rd roots a) 328 (by omega) (by omega) (typed_of hI hE hn (by omega) hL1) ⟨by omega, by omega⟩ (by omega) (ref_of (by rw [hLn]; exact hkr)) (fun h => by
              refine Classical.byContradiction fun hz => hle ?_
              have hp := path_empty hI q hq.1 (by omega) L.toNat (rd roots a) (by omega) (by omega) (by rw [hLn]; exact hkr) hz
              rw [hLn] at hp
              have hp2 : Ev (fun n => impl_Cow_leafAt.f n C roots L a q) ⟨#[]⟩ := by
                unfold impl_Cow_leafAt.f
                exact ev_pos ha.1 (ev_pos ha.2 hp)
              rw [ev_unique er2 hp2, empty_of_size h])
            obtain ⟨g2, f1, f2⟩ := spec_impl C2 (roots.set a.toNat z2) L
            have fI : impl_GoodCow.f C2 (roots.set a.toNat z2) L = some g2 := f2
            have eR : putR q leaf r C roots L a = some (C2, roots.set a.toNat z2) := by
              unfold putR
              rw [if_neg hle, if_pos ha, e2]
              rfl
            have hd2 : 1 ≤ L ∧ L ≤ 3 ∧ 0 ≤ q ∧ q < plc L := ⟨hL1, hL3, hq.1, by omega⟩
            cases g2 with
            | false =>
              refine ⟨[], [], 0, false, by simp, by simp, by simp, ev_pos ha (Ev.bind er1 (ev_neg hle (ev_ten hd2 (Ev.bind (own_ev C roots L (by omega) hk (by omega)) ?_)))), ev_pos hcond (Ev.bind er2 (ev_bindc eR (ev_bindc fI (ev_false rfl (ev_ret rfl)))))⟩
              unfold putSd
              exact ev_pos ha.2 (ev_bindc e2 (Ev.bind f1 (ev_false rfl (ev_ret rfl))))
            | true =>
              obtain ⟨_, _, hn2, _, hr82, V2, c2, v2, hI2, hE2⟩ := good_tree f2
              refine ⟨C2, roots.set a.toNat z2, L, true, hn2, by omega, fun x hx => by have := kids_of hI2 hE2 x hx; omega, ev_pos ha (Ev.bind er1 (ev_neg hle (ev_ten hd2 (Ev.bind (own_ev C roots L (by omega) hk (by omega)) ?_)))), ev_pos hcond (Ev.bind er2 (ev_bindc eR (ev_bindc fI (ev_true rfl (ev_ret rfl)))))⟩
              unfold putSd
              exact ev_pos ha.2 (ev_bindc e2 (Ev.bind f1 (ev_true rfl (ev_ret rfl))))
      · have eS : spec_l1In.f q 0 (wrap64 (plc L - 1)) = some false := by rw [ep, in_dec, decide_eq_false hq]
        have eI : impl_within.f q 0 (wrap64 (plc L - 1)) = some false := by rw [ep, within_inR]; unfold inR; rw [decide_eq_false hq]
        exact ⟨[], [], 0, false, by simp, by simp, by simp, Ev.bind hb1 (ev_true rfl (ev_bindc hS (ev_true da (Ev.bind hp1 (ev_bindc eS (ev_false rfl (ev_ret rfl))))))), ev_bindc hR (ev_true (by rw [da]; rfl) (ev_bindc hp2 (ev_bindc eI (ev_false rfl (ev_ret rfl)))))⟩
    · have da := decide_eq_false ha
      exact ⟨[], [], 0, false, by simp, by simp, by simp, Ev.bind hb1 (ev_true rfl (ev_bindc hS (ev_false da (ev_ret rfl)))), ev_bindc hR (ev_false (by rw [da]; rfl) (ev_ret rfl))⟩
end Go.Proofs.Ytacfalpgmibfnaa.PCow
namespace Go.Proofs.Ytacfalpgmibfnaa.ZCow
open Go.RowKit Go.Proofs.Ytacfalpgmibfnaa.PCow Go.Proofs.YtacfalpgmibfnaaW.PrintWords Go.Proofs.YtacfalpgmibfnaaW.PrintLast Go.Proofs.YtacfalpgmibfnaaW.PrintMore Go.Proofs.Ytacfalpgmibfnaa.E
set_option linter.unusedSimpArgs false
set_option linter.unusedVariables false
theorem str_size (xs : List Int) : (strOfNums xs).size = xs.length := by
  simp [strOfNums, ByteArray.size]
theorem mt_l : ∀ (f : Nat) (x : Int) (s : ByteArray), 0 ≤ x → x ≤ 100000000000000 → x < 2 ^ f → s.size + f ≤ 1000 → ∃ v, Ev (fun k => laws_markText.l0 k x s) v := by
  intro f
  induction f with
  | zero =>
    intro x s h0 hm h1 h2
    refine ⟨_, Ev.step (fun _ => laws_markText.l0.eq_2 ..) (ev_neg (by simp at h1; omega) (ev_pos (by omega) (ev_ret rfl)))⟩
  | succ f ih =>
    intro x s h0 hm h1 h2
    by_cases h : x > 0
    · have hp : (2 : Int) ^ (f + 1) = 2 * 2 ^ f := by rw [Int.pow_succ]; omega
      have hx : x / 10 < 2 ^ f := by omega
      have e : wrap64 (Int.tdiv x 10) = x / 10 := by
        rw [tdiv_pos h0]
        exact w64 (by omega) (by omega)
      obtain ⟨v, hv⟩ := ih (x / 10) (strOfNums ([(wrap64 (48 + (Int.tmod x 10))) % 256] : List Int) ++ s) (by omega) (by omega) hx (by rw [ByteArray.size_append, str_size]; simp; omega)
      refine ⟨v, Ev.step (fun _ => laws_markText.l0.eq_2 ..) (ev_pos h (ev_some (ev_pos ?_ ?_)))⟩
      · rw [str_size]; simp; omega
      · rw [e]; exact hv
    · exact ⟨_, Ev.step (fun _ => laws_markText.l0.eq_2 ..) (ev_neg h (ev_pos (by omega) (ev_ret rfl)))⟩
theorem mt (m : Int) (h0 : 0 ≤ m) (h1 : m < 100000000000000) : ∃ v, Ev (fun k => laws_markText.f k m) v := by
  obtain ⟨v, hv⟩ := mt_l 64 m ⟨#[]⟩ h0 (by omega) (by simp; omega) (by simp [ByteArray.size])
  by_cases h : m ≤ 0
  · exact ⟨_, by unfold laws_markText.f; exact ev_pos h (ev_ret rfl)⟩
  · exact ⟨v, by unfold laws_markText.f; exact ev_neg h hv⟩
theorem mhInt_l (f : Nat) : ∀ (l : List Int) (m i : Int), 0 ≤ i → i + f = l.length → (l.length : Int) ≤ 10000000000000 → 0 ≤ m → m + f ≤ 10000000000000 →
    ∃ l', l'.length = l.length ∧ (∀ j : Nat, j < i → l'[j]? = l[j]?) ∧ Ev (fun k => laws_markIntS.l0 k l m i) (m + f, l') ∧ Ev (fun k => laws_heldIntS.l0 k l' m i) (m + f) := by
  induction f with
  | zero =>
    intro l m i h0 h1 hL h2 h3
    refine ⟨l, rfl, fun _ _ => rfl, ?_, ?_⟩
    · exact Ev.step (fun _ => laws_markIntS.l0.eq_2 ..) (ev_neg (by omega) (ev_ret (by simp)))
    · exact Ev.step (fun _ => laws_heldIntS.l0.eq_2 ..) (ev_neg (by omega) (ev_ret (by simp)))
  | succ f ih =>
    intro l m i h0 h1 hL h2 h3
    obtain ⟨l', hl, hk, hm, hh⟩ := ih (l.set i.toNat m) (m + 1) (i + 1) (by omega) (by simp; omega) (by simp; omega) (by omega) (by omega)
    have e : m + 1 + (f : Int) = m + ((f + 1 : Nat) : Int) := by omega
    rw [e] at hm hh
    refine ⟨l', by simpa using hl, ?_, ?_, ?_⟩
    · intro j hj
      rw [hk j (by omega), List.getElem?_set_ne (by omega)]
    · refine Ev.step (fun _ => laws_markIntS.l0.eq_2 ..) (ev_pos (by omega) (ev_pos h0 ?_))
      rw [w64 (x := m + 1) (by omega) (by omega), w64 (x := i + 1) (by omega) (by omega)]
      exact hm
    · have er : rd l' i = m := by
        unfold rd
        rw [List.getD_eq_getElem?_getD, hk i.toNat (by omega), List.getElem?_set_self (by omega)]
        rfl
      refine Ev.step (fun _ => laws_heldIntS.l0.eq_2 ..) (ev_pos (by simp at hl; omega) (ev_pos h0 (ev_pos er ?_)))
      rw [w64 (x := m + 1) (by omega) (by omega), w64 (x := i + 1) (by omega) (by omega)]
      exact hh
theorem mhInt (l : List Int) (m : Int) (h0 : 0 ≤ m) (h1 : m + l.length ≤ 10000000000000) :
    ∃ l', l'.length = l.length ∧ Ev (fun k => laws_markIntS.f k l m) (m + l.length, l') ∧ Ev (fun k => laws_heldIntS.f k l' m) (m + l.length) := by
  obtain ⟨l', hl, _, hm, hh⟩ := mhInt_l l.length l m 0 (by omega) (by omega) (by omega) h0 h1
  exact ⟨l', hl, hm, hh⟩
theorem mhCell_l (n : Nat) (hn : (n : Int) ≤ 1048576) (f : Nat) : ∀ (l : List CL) (m i : Int), l.length = n → (∀ x ∈ l, x.f2.length ≤ 1048576) → 0 ≤ i → i + f = n → 0 ≤ m → m + f * 1048600 ≤ 10000000000000 →
    ∃ l' m', l'.length = n ∧ (∀ j : Nat, j < i → l'[j]? = l[j]?) ∧ m ≤ m' ∧ m' ≤ m + f * 1048600 ∧ Ev (fun k => markCM k n f i m l) (m', l') ∧ Ev (fun k => laws_heldCellS.l0 k l' m i) m' := by
  induction f with
  | zero =>
    intro l m i hl hk h0 h1 h2 h3
    refine ⟨l, m, hl, fun _ _ => rfl, by omega, by omega, ?_, ?_⟩
    · exact ev_neg (by omega) (ev_ret rfl)
    · exact Ev.step (fun _ => laws_heldCellS.l0.eq_2 ..) (ev_neg (by omega) (ev_ret rfl))
  | succ f ih =>
    intro l m i hl hk h0 h1 h2 h3
    have hil : i.toNat < l.length := by omega
    have er : rd_T68 l i = l[i.toNat] := by
      rw [rd_cl, List.getD_eq_getElem?_getD, List.getElem?_eq_getElem hil]
      rfl
    have hx := hk _ (List.getElem_mem hil)
    rw [← er] at hx
    have e1 : wrap64 (m + 1) = m + 1 := w64 (by omega) (by omega)
    have e2 : wrap64 (m + 1 + 1) = m + 2 := by rw [w64 (by omega) (by omega)]; omega
    have e3 : wrap64 (i + 1) = i + 1 := w64 (by omega) (by omega)
    obtain ⟨v, hv⟩ := mt (m + 1) (by omega) (by omega)
    obtain ⟨q, hq, hq1, hq2⟩ := mhInt (rd_T68 l i).f2 (m + 2) (by omega) (by omega)
    obtain ⟨l', m', hl', hkp, hm1, hm2, hm, hh⟩ := ih (l.set i.toNat ⟨m, v, q⟩) (m + 2 + (rd_T68 l i).f2.length) (i + 1) (by simpa using hl) (fun x hx2 => by
      rcases List.mem_or_eq_of_mem_set hx2 with h4 | h4
      · exact hk x h4
      · subst h4
        show q.length ≤ 1048576
        omega) (by omega) (by omega) (by omega) (by omega)
    refine ⟨l', m', hl', fun j hj => ?_, by omega, by omega, ?_, ?_⟩
    · rw [hkp j (by omega), List.getElem?_set_ne (by omega)]
    · refine ev_pos (by omega) ?_
      rw [e1, e2]
      exact Ev.bind hv (Ev.bind hq1 hm)
    · have er2 : rd_T68 l' i = ⟨m, v, q⟩ := by
        rw [rd_cl, List.getD_eq_getElem?_getD, hkp i.toNat (by omega), List.getElem?_set_self (by omega)]
        rfl
      refine Ev.step (fun _ => laws_heldCellS.l0.eq_2 ..) (ev_pos (by omega) (ev_pos h0 ?_))
      rw [er2, e1, e2, e3]
      exact ev_pos rfl (Ev.bind hv (ev_pos rfl (Ev.bind hq2 (ev_neg (by omega) hh))))
theorem mhCow (l : List CL) (r : List Int) (L : Int) (h0 : (l.length : Int) ≤ 1048576) (hk : ∀ x ∈ l, x.f2.length ≤ 1048576) (h1 : (r.length : Int) ≤ 1048576) :
    ∃ m l' r', 0 ≤ m ∧ Ev (fun k => laws_markCow.f k l r 1) (m, l', r') ∧ Ev (fun k => laws_heldCow.f k l' r' L 1) m := by
  obtain ⟨l', m', hl, _, hm1, hm2, hm, hh⟩ := mhCell_l l.length h0 l.length l 1 0 rfl hk (by omega) (by omega) (by omega) (by omega)
  obtain ⟨r', _, hr1, hr2⟩ := mhInt r m' (by omega) (by omega)
  refine ⟨m' + r.length, l', r', by omega, ?_, ?_⟩
  · unfold laws_markCow.f laws_markCellS.f
    exact Ev.bind hm (Ev.bind hr1 (ev_ret rfl))
  · unfold laws_heldCow.f laws_heldCellS.f
    exact Ev.bind hh (ev_neg (by omega) (Ev.bind hr2 (ev_neg (by omega) (ev_ret rfl))))
end Go.Proofs.Ytacfalpgmibfnaa.ZCow
namespace Go.Proofs.Ytacfalpgmibfnaa.ZCow
open Go.RowKit Go.Proofs.Ytacfalpgmibfnaa.PCow Go.Proofs.YtacfalpgmibfnaaW.PrintWords Go.Proofs.YtacfalpgmibfnaaW.PrintLast Go.Proofs.YtacfalpgmibfnaaW.PrintMore Go.Proofs.Ytacfalpgmibfnaa.E
set_option linter.unusedSimpArgs false
set_option linter.unusedVariables false
abbrev LC := S99
abbrev IC := S68
theorem szCell1 (x : LC) (s : Int) (h0 : 0 ≤ s) (h1 : s ≤ 1048576) (hw : x.f1.size ≤ 9223372036854775807) (hv : x.f2.length ≤ 9223372036854775807) :
    ∃ r, laws_szCell.f x.f0 x.f1 x.f2 s = some r ∧ (r < 0 ∨ (0 ≤ r ∧ r ≤ s ∧ x.f2.length ≤ 1048576)) := by
  unfold laws_szCell.f laws_szIntS.f
  rw [w64 (x := s - (x.f1.size : Int)) (by omega) (by omega)]
  by_cases hn : s - (x.f1.size : Int) < 0
  · rw [if_pos hn]; exact ⟨-1, rfl, .inl (by omega)⟩
  · rw [if_neg hn, w64 (x := s - (x.f1.size : Int) - (x.f2.length : Int)) (by omega) (by omega)]
    by_cases hm : s - (x.f1.size : Int) - (x.f2.length : Int) < 0
    · rw [if_pos hm]; exact ⟨-1, rfl, .inl (by omega)⟩
    · rw [if_neg hm]
      refine ⟨s - (x.f1.size : Int) - (x.f2.length : Int), ?_, .inr ⟨by omega, by omega, by omega⟩⟩
      simp only [Option.bind_some]
      rw [if_neg hm]
theorem szCellS (l : List LC) (a : Int) (h0 : 0 ≤ a) (h1 : a ≤ 1048576) (hm : l.length ≤ 9223372036854775807) (hw : ∀ x ∈ l, x.f1.size ≤ 9223372036854775807 ∧ x.f2.length ≤ 9223372036854775807) :
    ∃ r, (r < 0 ∨ (0 ≤ r ∧ r ≤ 1048576 ∧ (l.length : Int) ≤ 1048576 ∧ ∀ x ∈ l, x.f2.length ≤ 1048576)) ∧ Ev (fun k => laws_szCellS.f k l a) r := by
  unfold laws_szCellS.f
  rw [w64 (x := a - (l.length : Int)) (by omega) (by omega)]
  by_cases hn : a - (l.length : Int) < 0
  · exact ⟨-1, .inl (by omega), ev_pos hn (ev_ret rfl)⟩
  · obtain ⟨r, hp, hr⟩ := ex_loop (fun k (a : Int) i => laws_szCellS.l0 k l a i) l.length (fun i a => 0 ≤ a ∧ a ≤ 1048576 ∧ ∀ j : Nat, (j : Int) < i → ∀ x, l[j]? = some x → x.f2.length ≤ 1048576)
      (fun r => r < 0 ∨ (0 ≤ r ∧ r ≤ 1048576 ∧ (l.length : Int) ≤ 1048576 ∧ ∀ x ∈ l, x.f2.length ≤ 1048576))
      (fun s hs => ⟨s, .inr ⟨hs.1, hs.2.1, by omega, fun x hx => by
        obtain ⟨j, hj, rfl⟩ := List.getElem_of_mem hx
        exact hs.2.2 j (by omega) _ (List.getElem?_eq_getElem hj)⟩, Ev.step (fun _ => laws_szCellS.l0.eq_2 ..) (ev_neg (by omega) (ev_ret rfl))⟩)
      (fun s i h2 h3 hs => by
        have hi : i.toNat < l.length := by omega
        have er : rd_T99 l i = l[i.toNat] := getD_at l _ i hi
        have hx := hw _ (List.getElem_mem hi)
        rw [← er] at hx
        obtain ⟨q, e, hq⟩ := szCell1 (rd_T99 l i) s hs.1 hs.2.1 hx.1 hx.2
        by_cases hn : q < 0
        · exact .inl ⟨-1, .inl (by omega), Ev.step (fun _ => laws_szCellS.l0.eq_2 ..) (ev_pos (by omega) (ev_pos h2 (ev_bindc e (ev_pos hn (ev_ret rfl)))))⟩
        · obtain ⟨q1, q2, q3⟩ := hq.resolve_left hn
          refine .inr ⟨q, ⟨q1, by omega, fun j hj x hjx => ?_⟩, fun r hr => Ev.step (fun _ => laws_szCellS.l0.eq_2 ..) (ev_pos (by omega) (ev_pos h2 (ev_bindc e (ev_neg hn ?_))))⟩
          · by_cases hji : j = i.toNat
            · subst hji
              rw [List.getElem?_eq_getElem hi] at hjx
              obtain rfl := Option.some.inj hjx
              rw [← er]; exact q3
            · exact hs.2.2 j (by omega) x hjx
          · rw [w64 (x := i + 1) (by omega) (by omega)]
            exact hr) (a - (l.length : Int)) ⟨by omega, by omega, fun j hj => by omega⟩
    exact ⟨r, hp, ev_neg hn hr⟩
def Small (l0 : List LC) (l1 : List Int) : Prop := ((l0.length : Int) ≤ 1048576 ∧ ∀ x ∈ l0, x.f2.length ≤ 1048576) ∧ (l1.length : Int) ≤ 1048576
theorem szCow (l0 : List LC) (l1 : List Int) (a : Int) (hm0 : l0.length ≤ 9223372036854775807) (hw0 : ∀ x ∈ l0, x.f1.size ≤ 9223372036854775807 ∧ x.f2.length ≤ 9223372036854775807) (hm1 : l1.length ≤ 9223372036854775807) :
    ∃ r, (r < 0 ∨ Small l0 l1) ∧ Ev (fun k => laws_szCow.f k l0 l1 a 1048576) r := by
  unfold laws_szCow.f
  obtain ⟨r, hp, hr⟩ := szCellS l0 1048576 (by omega) (by omega) hm0 hw0
  by_cases hn : r < 0
  · exact ⟨-1, .inl (by omega), Ev.bind hr (ev_pos hn (ev_ret rfl))⟩
  · obtain ⟨a1, a2, a3, a4⟩ := hp.resolve_left hn
    have e : laws_szIntS.f l1 r = some (if r - (l1.length : Int) < 0 then -1 else r - (l1.length : Int)) := by
      unfold laws_szIntS.f
      rw [w64 (x := r - (l1.length : Int)) (by omega) (by omega)]
      split <;> rfl
    by_cases hn2 : r - (l1.length : Int) < 0
    · rw [if_pos hn2] at e
      exact ⟨-1, .inl (by omega), Ev.bind hr (ev_neg hn (ev_bindc e (ev_pos (by omega) (ev_ret rfl))))⟩
    · rw [if_neg hn2] at e
      exact ⟨_, .inr ⟨⟨a3, a4⟩, by omega⟩, Ev.bind hr (ev_neg hn (ev_bindc e (ev_neg hn2 (ev_ret rfl))))⟩
def cC (x : LC) : IC := ⟨x.f0, x.f1, x.f2⟩
theorem toIntS (l : List Int) (hl : (l.length : Int) ≤ 1048576) : Ev (fun k => laws_toIntS.f k l) l := by
  unfold laws_toIntS.f
  refine ev_pos (by omega) (ev_pos (by omega) ?_)
  refine to_loop l (fun x => x) (fun k x i => laws_toIntS.l0 k l x i) _ (by simp) (fun x i hi h0 h1 hx r hr => ?_) _ (Ev.step (fun _ => laws_toIntS.l0.eq_2 ..) (ev_neg (by omega) (ev_ret (by simp))))
  have er : rd l i = l[i.toNat] := getD_at l _ i hi
  refine Ev.step (fun _ => laws_toIntS.l0.eq_2 ..) (ev_pos (by omega) (ev_pos h0 (ev_pos (by omega) ?_)))
  rw [w64 (x := i + 1) (by omega) (by omega), er]
  exact hr
theorem toCellS (l : List LC) (hl : (l.length : Int) ≤ 1048576) (hw : ∀ x ∈ l, x.f2.length ≤ 1048576) : Ev (fun k => laws_toCellS.f k l) (l.map cC) := by
  unfold laws_toCellS.f
  refine ev_pos (by omega) (ev_pos (by omega) ?_)
  refine to_loop l cC (fun k x i => laws_toCellS.l0 k l x i) _ (by simp) (fun x i hi h0 h1 hx r hr => ?_) _ (Ev.step (fun _ => laws_toCellS.l0.eq_2 ..) (ev_neg (by omega) (ev_ret rfl)))
  have er : rd_T99 l i = l[i.toNat] := getD_at l _ i hi
  have h2 := hw _ (List.getElem_mem hi)
  rw [← er] at h2
  refine Ev.step (fun _ => laws_toCellS.l0.eq_2 ..) (ev_pos (by omega) (ev_pos h0 (Ev.bind (a := ((rd_T99 l i).f0, (rd_T99 l i).f1, (rd_T99 l i).f2)) ?_ (ev_pos (by omega) ?_))))
  · unfold laws_toCell.f
    exact Ev.bind (toIntS _ (by omega)) (ev_ret rfl)
  · rw [w64 (x := i + 1) (by omega) (by omega), er]
    exact hr
theorem toCow (l0 : List LC) (l1 : List Int) (a : Int) (h : Small l0 l1) : Ev (fun k => laws_toCow.f k l0 l1 a) (l0.map cC, l1, a) := by
  unfold laws_toCow.f
  exact Ev.bind (toCellS l0 h.1.1 h.1.2) (Ev.bind (toIntS l1 h.2) (ev_ret rfl))
theorem eqIntS (l : List Int) (h : (l.length : Int) ≤ 100000000000) : Ev (fun k => laws_eqIntS.f k l l) true := by
  unfold laws_eqIntS.f
  refine ev_pos rfl (up_loop (fun k i => laws_eqIntS.l0 k l l i) l.length true (Ev.step (fun _ => laws_eqIntS.l0.eq_2 ..) (ev_neg (by omega) (ev_ret rfl))) (fun i h0 h1 hr => ?_))
  refine Ev.step (fun _ => laws_eqIntS.l0.eq_2 ..) (ev_pos (by omega) (ev_pos h0 (ev_pos (by omega) (ev_pos rfl ?_))))
  rw [w64 (x := i + 1) (by omega) (by omega)]
  exact hr
theorem eqCellS (l : List IC) (h : (l.length : Int) ≤ 100000000000) (hw : ∀ x ∈ l, (x.f2.length : Int) ≤ 100000000000) : Ev (fun k => laws_eqCellS.f k l l) true := by
  unfold laws_eqCellS.f
  refine ev_pos rfl (up_loop (fun k i => laws_eqCellS.l0 k l l i) l.length true (Ev.step (fun _ => laws_eqCellS.l0.eq_2 ..) (ev_neg (by omega) (ev_ret rfl))) (fun i h0 h1 hr => ?_))
  have hi : i.toNat < l.length := by omega
  have er : rd_T68 l i = l[i.toNat] := getD_at l _ i hi
  have h2 := hw _ (List.getElem_mem hi)
  rw [← er] at h2
  refine Ev.step (fun _ => laws_eqCellS.l0.eq_2 ..) (ev_pos (by omega) (ev_pos h0 (ev_pos (by omega) (Ev.bind (a := true) ?_ (ev_true rfl ?_)))))
  · unfold laws_eqCell.f
    exact ev_pos rfl (ev_pos rfl (Ev.bind (eqIntS _ h2) (ev_true rfl (ev_ret rfl))))
  · rw [w64 (x := i + 1) (by omega) (by omega)]
    exact hr
theorem eqCow (l0 : List IC) (l1 : List Int) (a : Int) (h0 : (l0.length : Int) ≤ 100000000000) (h1 : (l1.length : Int) ≤ 100000000000) (hw : ∀ x ∈ l0, (x.f2.length : Int) ≤ 100000000000) : Ev (fun k => laws_eqCow.f k l0 l1 a l0 l1 a) true := by
  unfold laws_eqCow.f
  exact Ev.bind (eqCellS l0 h0 hw) (ev_true rfl (Ev.bind (eqIntS l1 h1) (ev_true rfl (ev_pos rfl (ev_ret rfl)))))
end Go.Proofs.Ytacfalpgmibfnaa.ZCow
namespace Go.Proofs.Ytacfalpgmibfnaa.Pure
open Go.RowKit Go.Proofs.Ytacfalpgmibfnaa.PCow Go.Proofs.YtacfalpgmibfnaaW.PrintWords Go.Proofs.YtacfalpgmibfnaaW.PrintLast Go.Proofs.Ytacfalpgmibfnaa.E Go.Proofs.Ytacfalpgmibfnaa.ZCow
set_option linter.unusedSimpArgs false
set_option linter.unusedVariables false
theorem core_FnExactPutLeaf (l0 : List LC) (l1 : List Int) (a b q : Int) (leaf : ByteArray) (hm0 : l0.length ≤ 9223372036854775807) (hw0 : ∀ x ∈ l0, x.f1.size ≤ 9223372036854775807 ∧ x.f2.length ≤ 9223372036854775807) (hm1 : l1.length ≤ 9223372036854775807) : ∃ k, laws_FnExactPutLeaf.ok k l0 l1 a b q leaf := by
  by_cases hz : (leaf.size : Int) > 1048576
  · exact ⟨0, .inl hz⟩
  suffices h : ∃ k, (∃ s, laws_szCow.f k l0 l1 a 1048576 = some s ∧ s < 0) ∨ _ by
    obtain ⟨k, h⟩ := h
    exact ⟨k, .inr ⟨hz, h⟩⟩
  obtain ⟨r, hp, hr⟩ := szCow l0 l1 a hm0 hw0 hm1
  obtain ⟨K1, e1⟩ := hr
  by_cases hn : r < 0
  · exact ⟨K1, .inl ⟨r, e1 _ (Nat.le_refl _), hn⟩⟩
  · have hs := hp.resolve_left hn
    have hs0 := hs.1.1
    have hs1 := hs.2
    have hkid : ∀ x ∈ l0.map cC, x.f2.length ≤ 1048576 := fun x hx => by
      obtain ⟨y, hy, rfl⟩ := List.mem_map.1 hx
      exact hs.1.2 y hy
    obtain ⟨C1, R1, L1, wb, hc1, hr1, hk1, ⟨K2, e2⟩, ⟨K3, e3⟩⟩ := put_both (l0.map cC) l1 a b q leaf hkid
    obtain ⟨K4, e4⟩ := toCow l0 l1 a hs
    obtain ⟨K5, e5⟩ := eqCow C1 R1 L1 (by omega) (by omega) (fun x hx => by have := hk1 x hx; omega)
    obtain ⟨K6, e6⟩ := eqCow (l0.map cC) l1 a (by simp; omega) (by omega) (fun x hx => by have := hkid x hx; omega)
    obtain ⟨m, l', r', hm, ⟨K7, e7⟩, _⟩ := mhCow (l0.map cC) l1 a (by simp; omega) hkid (by omega)
    obtain ⟨m2, l2, r2, hm2, ⟨K8, e8⟩, ⟨K9, e9⟩⟩ := mhCow C1 R1 L1 (by omega) hk1 (by omega)
    exact ⟨K1 + K2 + K3 + K4 + K5 + K6 + K7 + K8 + K9, .inr ⟨r, _, _, _, C1, R1, L1, wb, m, l', r', m2, l2, r2, e1 _ (by omega), hn, e4 _ (by omega), e2 _ (by omega), e3 _ (by omega), e5 _ (by omega), e6 _ (by omega), e7 _ (by omega), by omega, e8 _ (by omega), e9 _ (by omega), by omega⟩⟩
theorem FnExactPutLeaf (l0 : List LC) (l1 : List Int) (a b q : Int) (leaf : ByteArray) (h : (l0.length ≤ 9223372036854775807 ∧ ∀ y ∈ l0, ((Lit.int .i64 y.f0).wf = true) ∧ (y.f1.size ≤ 9223372036854775807) ∧ (y.f2.length ≤ 9223372036854775807 ∧ ∀ y_1 ∈ y.f2, (Lit.int .i64 y_1).wf = true)) ∧ (l1.length ≤ 9223372036854775807 ∧ ∀ y ∈ l1, (Lit.int .i64 y).wf = true) ∧ ((Lit.int .i64 a).wf = true)) (_hb : (Lit.int .i64 b).wf = true) (_hq : (Lit.int .i64 q).wf = true) (_hl : leaf.size ≤ 140737488351232) : ∃ k, laws_FnExactPutLeaf.ok k l0 l1 a b q leaf :=
  core_FnExactPutLeaf l0 l1 a b q leaf h.1.1 (fun x hx => ⟨(h.1.2 x hx).2.1, (h.1.2 x hx).2.2.1⟩) h.2.1.1
end Go.Proofs.Ytacfalpgmibfnaa.Pure
namespace Go.Proofs.Ytacfalpgmibfnaa.fnExactPutLeaf
open Go.ChangeShapes Go.WideShapes Go.ChangeAt Go.RowKit
open Go.ChangeMaps (open_string shut_string)
open Go.Proofs.Ytacfalpgmibfnaa.PCow Go.Proofs.YtacfalpgmibfnaaW.PrintWords Go.Proofs.Ytacfalpgmibfnaa.O
set_option linter.unusedVariables false
set_option linter.unusedSimpArgs false
theorem own : ownKnob Try.prog.godebug = none := by kernel_rfl
theorem laidOut : laidOutB Try.prog = true := by kernel_rfl
set_option maxRecDepth 100000 in
theorem opens_T99 {H : Type} {enc : TypeId × Value → H} {w : World} {base : Nat} {spare : Nat → Bool} {held : Bool} :
    Opens enc Try.prog w base spare held k99 99 (fun x => ((Lit.int .i64 x.f0).wf = true) ∧ (x.f1.size ≤ 9223372036854775807) ∧ (x.f2.length ≤ 9223372036854775807 ∧ ∀ y0 ∈ x.f2, (Lit.int .i64 y0).wf = true)) := by
  have h : Opens enc Try.prog w base spare held (Kd.pair (Kd.int .i64) (Kd.pair Kd.string (Kd.slice 3 (Kd.int .i64)))) 99 (fun x => ((Lit.int .i64 x.1).wf = true) ∧ (x.2.1.size ≤ 9223372036854775807) ∧ (x.2.2.length ≤ 9223372036854775807 ∧ ∀ y0 ∈ x.2.2, (Lit.int .i64 y0).wf = true)) :=
    opens_struct Try.underlying99 (by kernel_rfl) (openss_cons rfl (by kernel_rfl) (opens_int Try.underlying3) (openss_cons rfl (by kernel_rfl) (opens_string Try.underlying9) (openss_one rfl (by kernel_rfl) (opens_slice 3 Try.underlying23 (by kernel_rfl) (opens_int Try.underlying3)))))
  exact opens_iso (fun x : S99 => (x.f0, x.f1, x.f2)) (fun a => ⟨a.1, a.2.1, a.2.2⟩) (fun _ => rfl) h
set_option maxRecDepth 100000 in
theorem lifted (os : Os) (started : os.Started) (H : Type) (enc : TypeId × Value → H) :
    ReturnsInHanded {} Try.checked os 11 .any (Rows.fnExactPutLeafSpec.pre6 enc Try.prog Try.f11 Rows.fnExactPutLeafRow.domain false) (Rows.fnExactPutLeafSpec.post enc Try.prog Try.f11 false true false false) := by
  refine returnsInHanded_of_change_sized (C := Try.checked) own started (by kernel_rfl) Try.func11
    (ChangeSpec.witness6 (enc := enc) (C := Try.checked) false ⟨#[], #[.agg #[.slice none 0 0, .slice none 0 0, .int .i64 0], .int .i64 0, .int .i64 0, .string ByteArray.empty], []⟩ 8 (by kernel_rfl) (by kernel_rfl) (by kernel_rfl) (by kernel_rfl)) ?_
  intro W base args ds gs before hval0 hW hcnd hsz0 _
  have hsz : (DataW.weightsEach Try.prog (Try.f11.params.toList ++ Rows.fnExactPutLeafSpec.plain.varTypes Try.prog) (ds ++ gs)).all (· ≤ reachBytes) = true := hsz0
  have hval : ∀ (j : Nat) t v, Try.f11.params[j]? = some t → args[j]? = some v → Value.okWide Try.prog W .any base t v := hval0
  have hW' := hW
  obtain ⟨p, q, hA0, hV, rfl, hfz, hnd⟩ := hW
  have hA : DataW.TrodAll enc Try.prog W 0 (fun _ => true) true Try.f11.params.toList args.toList ds p := hA0
  rw [Try.params11] at hA hval hsz
  obtain ⟨v0, vs0, d0, ds0, p0, q0, hargs, rfl, rfl, h0, r0⟩ := trodAll_cons hA
  obtain ⟨v1, vs1, d1, ds1, p1, q1, rfl, rfl, rfl, h1, r1⟩ := trodAll_cons r0
  obtain ⟨v2, vs2, d2, ds2, p2, q2, rfl, rfl, rfl, h2, r2⟩ := trodAll_cons r1
  obtain ⟨v3, vs3, d3, ds3, p3, q3, rfl, rfl, rfl, h3, r3⟩ := trodAll_cons r2
  obtain ⟨rfl, rfl, rfl⟩ := trodAll_nil r3
  obtain rfl : args = #[v0, v1, v2, v3] := by cases args; simp_all
  obtain ⟨rfl, rfl⟩ := trodVars_none hV
  have lt0 : ∀ x ∈ p0, x.block < W.heap.size := by obtain ⟨m, hm⟩ := h0; exact DataW.trod_lt m _ _ _ hm
  have H0 := h0
  obtain ⟨cs0, rfl, hcs0⟩ := okWide_struct Try.underlying33 (hval 0 33 v0 rfl rfl)
  obtain ⟨fu0, hf0⟩ := h0
  have hO0 : Opens enc Try.prog W 0 (fun _ => true) true (Kd.pair (Kd.slice 99 k99) (Kd.pair (Kd.slice 3 (Kd.int .i64)) (Kd.int .i64))) 33 (fun x => (x.1.length ≤ 9223372036854775807 ∧ ∀ y0 ∈ x.1, ((Lit.int .i64 y0.f0).wf = true) ∧ (y0.f1.size ≤ 9223372036854775807) ∧ (y0.f2.length ≤ 9223372036854775807 ∧ ∀ y1 ∈ y0.f2, (Lit.int .i64 y1).wf = true)) ∧ (x.2.1.length ≤ 9223372036854775807 ∧ ∀ y0 ∈ x.2.1, (Lit.int .i64 y0).wf = true) ∧ ((Lit.int .i64 x.2.2).wf = true)) := opens_struct Try.underlying33 (by kernel_rfl) (openss_cons rfl (by kernel_rfl) (opens_slice 99 Try.underlying31 (by kernel_rfl) opens_T99) (openss_cons rfl (by kernel_rfl) (opens_slice 3 Try.underlying23 (by kernel_rfl) (opens_int Try.underlying3)) (openss_one rfl (by kernel_rfl) (opens_int Try.underlying3))))
  obtain ⟨x0, hK0, hw0⟩ := hO0 _ _ _ hf0
  obtain ⟨l0_0, l0_1, l0_2⟩ := x0
  obtain ⟨_, _, hcs0_0, ⟨A0_0, c0_0, rfl, hc0_0, hC0_0⟩, ⟨_, _, hcs0_1, ⟨A0_1, c0_1, rfl, hc0_1, hC0_1⟩, rfl⟩⟩ := hK0
  obtain rfl : cs0 = #[.slice A0_0 l0_0.length c0_0, .slice A0_1 l0_1.length c0_1, .int .i64 l0_2] := by
    cases cs0 with | mk L => simp only [Value.cells] at hcs0_0; subst hcs0_1; simpa using hcs0_0
  obtain ⟨a1, rfl, rfl, rfl, w1⟩ := open_int Try.underlying3 (hval 1 3 v1 rfl rfl) h1
  obtain ⟨a2, rfl, rfl, rfl, w2⟩ := open_int Try.underlying3 (hval 2 3 v2 rfl rfl) h2
  obtain ⟨a3, rfl, rfl, rfl, y3⟩ := open_string Try.underlying9 (hval 3 9 v3 rfl rfl) h3
  have w3 : a3.size ≤ 140737488351232 := by
    have z := sized_string hsz (j := 3) (t := 9) rfl rfl
    rw [Array.length_toList] at z
    exact z
  clear hA0 hval0 hsz0 hsz
  obtain ⟨k, hk⟩ := Pure.FnExactPutLeaf l0_0 l0_1 l0_2 a1 a2 a3 hw0 w1 w2 w3
  refine (laws_FnExactPutLeaf.calls k A0_0 c0_0 l0_0 A0_1 c0_1 l0_1 l0_2 a1 a2 a3 true W hC0_0 hc0_0 hC0_1 hc0_1 hk).mono fun e W' ⟨he, bel⟩ => ?_
  subst he
  exact ⟨_, rfl, _, _, _, [], _, [], hW', trodAll_mk1 (shut_bool Try.underlying4 _), (trodAll_cons_mk (Below.trod laidOut (by kernel_rfl) (of_decide_eq_true (by kernel_rfl)) H0 bel lt0) (trodAll_cons_mk (shut_int Try.underlying3 w1) (trodAll_cons_mk (shut_int Try.underlying3 w2) (trodAll_cons_mk (shut_string Try.underlying9 y3) trodAll_mk0)))), rfl, bel.frame _, fun h => by cases h⟩
theorem over : Rows.fnExactPutLeafRow.holds Try.pinned (OpenSpec.ofChange Rows.fnExactPutLeafSpec) :=
  OpenClaim.holds_of_wide 11 Try.f11 rfl rfl rfl rfl rfl rfl rfl ⟨rfl, rfl, rfl, rfl, rfl⟩ rfl rfl rfl rfl rfl (by kernel_rfl) Try.func11 (by kernel_rfl)
    (of_decide_eq_true (by kernel_rfl)) (by unfold Func.isWrapper; first | (rw [if_pos (by decide +kernel)]; kernel_rfl) | (rw [if_neg (by decide +kernel)]; exact ⟨rfl, rfl⟩))
    (fun os started H enc _ => lifted os started H enc)
theorem proved : Rows.FnExactPutLeafSaid := over
#print axioms proved
end Go.Proofs.Ytacfalpgmibfnaa.fnExactPutLeaf
namespace Go.Proofs.Ytacfalpgmibfnaa
theorem fnExactPutLeaf_holds : Rows.FnExactPutLeafSaid := fnExactPutLeaf.proved
end Go.Proofs.Ytacfalpgmibfnaa
