import Derived.Test.YtacfalpgmibfnaaFPic2
import Derived.Lib.SliceRun
import Derived.StillTailTactics
import Derived.Shelf.Slices.Delete
import Derived.Test.YtacfalpgmibfnaaProg
namespace Go.Proofs.Ytacfalpgmibfnaa.PCow
open Go.RowKit Go.Proofs.YtacfalpgmibfnaaW.PrintWords Go.Proofs.YtacfalpgmibfnaaW.PrintLast Go.Proofs.YtacfalpgmibfnaaW.PrintMore Go.Proofs.Ytacfalpgmibfnaa.E
set_option linter.unusedSimpArgs false
set_option linter.unusedVariables false
theorem rd_set_eq (l : List Int) (k x : Int) (h0 : 0 ≤ k) (h1 : k < (l.length : Int)) : rd (l.set k.toNat x) k = x := by
  unfold rd
  rw [List.getD_eq_getElem?_getD, List.getElem?_set, if_pos rfl, if_pos (by omega)]
  rfl
theorem rd_set_ne (l : List Int) (k j x : Int) (h0 : 0 ≤ k) (h1 : 0 ≤ j) (hne : j ≠ k) : rd (l.set k.toNat x) j = rd l j := by
  unfold rd
  rw [List.getD_eq_getElem?_getD, List.getElem?_set, if_neg (by omega), List.getD_eq_getElem?_getD]
theorem ext_rd (a b : List Int) (n : Nat) (ha : a.length = n) (hb : b.length = n) (h : ∀ k : Int, 0 ≤ k → k < (n : Int) → rd a k = rd b k) : a = b := by
  refine List.ext_getElem (by omega) (fun i h1 h2 => ?_)
  have := h (i : Int) (by omega) (by omega)
  unfold rd at this
  rw [List.getD_eq_getElem?_getD, List.getD_eq_getElem?_getD, Int.toNat_natCast, List.getElem?_eq_getElem h1, List.getElem?_eq_getElem h2] at this
  exact this
theorem nodup_len : ∀ (n : Nat) (V : List Int), V.Nodup → (∀ k ∈ V, 0 ≤ k ∧ k < (n : Int)) → V.length ≤ n
  | 0, V, _, h => by
    cases V with
    | nil => simp
    | cons a r => have := h a (by simp); omega
  | n + 1, V, hd, h => by
    by_cases hm : (n : Int) ∈ V
    · have h1 := nodup_len n (V.erase (n : Int)) (hd.erase _) (fun k hk => by
        have h2 := (List.Nodup.mem_erase_iff hd).1 hk
        have h3 := h k h2.2
        have h4 := h2.1
        omega)
      have h2 := List.length_erase_of_mem hm
      omega
    · have h1 := nodup_len n V hd (fun k hk => by
        have h3 := h k hk
        have h4 : k ≠ (n : Int) := fun e => hm (e ▸ hk)
        omega)
      omega
theorem flat_len (f : Int → List Int) : ∀ V : List Int, (∀ k ∈ V, (f k).length ≤ 4) → (V.flatMap f).length ≤ 4 * V.length
  | [], _ => by simp
  | a :: r, h => by
    have h1 := flat_len f r (fun k hk => h k (by simp [hk]))
    have h2 := h a (by simp)
    rw [List.flatMap_cons, List.length_append, List.length_cons]
    omega
theorem goodB_kids {n : Nat} {x : S68} {lev : Int} (h : goodB n x lev = true) : x.f2.length ≤ 4 ∧ (lev = 1 → x.f2 = []) ∧ ∀ z ∈ x.f2, isNum n z = true := by
  unfold goodB at h
  split at h
  · split at h
    · have h1 : x.f2 = [] := List.length_eq_zero_iff.1 (of_decide_eq_true h)
      rw [h1]
      simp
    · cases h
  · rename_i hl
    split at h
    · split at h
      · rename_i h4
        split at h
        · cases h
        · rename_i hb
          refine ⟨by omega, fun e => absurd e hl, fun z hz => ?_⟩
          cases hi : isNum n z with
          | true => rfl
          | false => exact absurd (List.any_eq_true.2 ⟨z, hz, by simp [hi]⟩) hb
      · cases h
    · cases h
def kidsOf (C : List S68) (k : Int) : List Int := (rd_T68 C k).f2
def RefOK (C : List S68) (v : List Int) (q : Int × Int) : Prop := q.1 = -1 ∨ (0 ≤ q.1 ∧ q.1 < (C.length : Int) ∧ rd v q.1 = q.2 ∧ q.2 ≠ 0)
structure Inv (C : List S68) (roots : List Int) (L : Int) (V : List Int) (P : List (Int × Int)) (cnt lev : List Int) : Prop where
  lc : cnt.length = C.length
  ll : lev.length = C.length
  nd : V.Nodup
  vin : ∀ k ∈ V, 0 ≤ k ∧ k < (C.length : Int)
  vl : ∀ k, 0 ≤ k → k < (C.length : Int) → (rd lev k ≠ 0 ↔ k ∈ V)
  good : ∀ k ∈ V, goodB C.length (rd_T68 C k) (rd lev k) = true ∧ 1 ≤ rd lev k ∧ rd lev k ≤ L
  kid : ∀ k ∈ V, ∀ z ∈ kidsOf C k, RefOK C lev (z, rd lev k - 1) ∨ (z, rd lev k - 1) ∈ P
  rts : ∀ r ∈ roots, RefOK C lev (r, L) ∨ (r, L) ∈ P
  wit : ∀ k ∈ V, (k ∈ roots ∧ rd lev k = L) ∨ ∃ p ∈ V, rd lev p = rd lev k + 1 ∧ k ∈ kidsOf C p
  pwit : ∀ q ∈ P, (q.1 ∈ roots ∧ q.2 = L) ∨ ∃ p ∈ V, q.2 = rd lev p - 1 ∧ q.1 ∈ kidsOf C p
  cnts : ∀ k, 0 ≤ k → k < (C.length : Int) → rd cnt k + ((P.map Prod.fst).count k : Int) = (roots.count k : Int) + ((V.flatMap (kidsOf C)).count k : Int)
  pos : ∀ k, 0 ≤ k → k < (C.length : Int) → (k ∈ V → 1 ≤ rd cnt k) ∧ (k ∉ V → rd cnt k = 0)
section
variable {C : List S68} {roots : List Int} {L : Int} {V V' : List Int} {P P' : List (Int × Int)} {c l c' v : List Int} {k o x : Int}
theorem Inv.range (h : Inv C roots L V P c l) (hL : 1 ≤ L) : ∀ q ∈ P, 1 ≤ q.2 ∧ q.2 ≤ L := by
  intro q hq
  rcases h.pwit q hq with ⟨_, e⟩ | ⟨p, hp, e, hz⟩
  · omega
  · obtain ⟨g, l1, l2⟩ := h.good p hp
    by_cases e1 : rd l p = 1
    · have := (goodB_kids g).2.1 e1
      unfold kidsOf at hz
      rw [this] at hz
      cases hz
    · omega
theorem Inv.perm (h : Inv C roots L V P c l) (hp : P.Perm P') : Inv C roots L V P' c l :=
  ⟨h.lc, h.ll, h.nd, h.vin, h.vl, h.good, fun k hk z hz => (h.kid k hk z hz).imp id hp.mem_iff.1, fun r hr => (h.rts r hr).imp id hp.mem_iff.1, h.wit, fun q hq => h.pwit q (hp.mem_iff.2 hq),
    fun k h0 h1 => by rw [← (hp.map Prod.fst).count_eq]; exact h.cnts k h0 h1, h.pos⟩
theorem Inv.skip (h : Inv C roots L V ((-1, o) :: P) c l) : Inv C roots L V P c l := by
  have hm : ∀ q : Int × Int, q ∈ (-1, o) :: P → RefOK C l q ∨ q ∈ P := fun q hq => by
    rcases List.mem_cons.1 hq with e | e
    · exact .inl (.inl (by rw [e]))
    · exact .inr e
  refine ⟨h.lc, h.ll, h.nd, h.vin, h.vl, h.good, fun k hk z hz => (h.kid k hk z hz).elim .inl (hm _), fun r hr => (h.rts r hr).elim .inl (hm _), h.wit, fun q hq => h.pwit q (List.mem_cons_of_mem _ hq), fun k h0 h1 => ?_, h.pos⟩
  have := h.cnts k h0 h1
  rw [List.map_cons, List.count_cons_of_ne (by show (-1 : Int) ≠ k; omega)] at this
  exact this
theorem Inv.old (h : Inv C roots L V ((k, o) :: P) c l) (h0 : 0 ≤ k) (h1 : k < (C.length : Int)) (hk : rd l k = o) (ho : o ≠ 0) (hx : x = rd c k + 1) : Inv C roots L V P (c.set k.toNat x) l := by
  have hm : ∀ q : Int × Int, q ∈ (k, o) :: P → RefOK C l q ∨ q ∈ P := fun q hq => by
    rcases List.mem_cons.1 hq with e | e
    · exact .inl (.inr (by rw [e]; exact ⟨h0, h1, hk, ho⟩))
    · exact .inr e
  have hkV : k ∈ V := (h.vl k h0 h1).1 (by rw [hk]; exact ho)
  have hlc := h.lc
  refine ⟨by rw [List.length_set]; exact h.lc, h.ll, h.nd, h.vin, h.vl, h.good, fun k hk z hz => (h.kid k hk z hz).elim .inl (hm _), fun r hr => (h.rts r hr).elim .inl (hm _), h.wit, fun q hq => h.pwit q (List.mem_cons_of_mem _ hq), fun j j0 j1 => ?_, fun j j0 j1 => ?_⟩
  · have := h.cnts j j0 j1
    by_cases e : j = k
    · subst e
      rw [List.map_cons, List.count_cons_self] at this
      rw [rd_set_eq c j x h0 (by omega), hx]
      omega
    · rw [List.map_cons, List.count_cons_of_ne (by show k ≠ j; omega)] at this
      rw [rd_set_ne c k j x h0 j0 e]
      exact this
  · by_cases e : j = k
    · subst e
      rw [rd_set_eq c j x h0 (by omega)]
      have := (h.pos j j0 j1).1 hkV
      exact ⟨fun _ => by omega, fun e => absurd hkV e⟩
    · rw [rd_set_ne c k j x h0 j0 e]
      exact h.pos j j0 j1
theorem Inv.new (h : Inv C roots L V ((k, o) :: P) c l) (hL : 1 ≤ L) (h0 : 0 ≤ k) (h1 : k < (C.length : Int)) (hk : rd l k = 0) (hg : goodB C.length (rd_T68 C k) o = true) (hx : x = rd c k + 1) :
    Inv C roots L (V ++ [k]) ((kidsOf C k).map (fun z => (z, o - 1)) ++ P) (c.set k.toNat x) (l.set k.toNat o) := by
  have hkV : k ∉ V := fun e => (h.vl k h0 h1).2 e hk
  obtain ⟨o1, o2⟩ := h.range hL (k, o) (by simp)
  simp only at o1 o2
  have hlc := h.lc
  have hll := h.ll
  have ek : rd (l.set k.toNat o) k = o := rd_set_eq l k o h0 (by omega)
  have ej : ∀ j ∈ V, rd (l.set k.toNat o) j = rd l j := fun j hj => rd_set_ne l k j o h0 (h.vin j hj).1 (fun e => hkV (e ▸ hj))
  have hmono : ∀ q, RefOK C l q → RefOK C (l.set k.toNat o) q := by
    rintro q (e | ⟨e0, e1, e2, e3⟩)
    · exact .inl e
    · refine .inr ⟨e0, e1, ?_, e3⟩
      rw [rd_set_ne l k q.1 o h0 e0 (fun e => e3 (by rw [← e2, e]; exact hk))]
      exact e2
  have hm : ∀ q : Int × Int, (RefOK C l q ∨ q ∈ (k, o) :: P) → RefOK C (l.set k.toNat o) q ∨ q ∈ (kidsOf C k).map (fun z => (z, o - 1)) ++ P := by
    rintro q (hq | hq)
    · exact .inl (hmono q hq)
    · rcases List.mem_cons.1 hq with e | e
      · exact .inl (.inr (by rw [e]; exact ⟨h0, h1, ek, by show o ≠ 0; omega⟩))
      · exact .inr (List.mem_append_right _ e)
  refine ⟨by rw [List.length_set]; exact h.lc, by rw [List.length_set]; exact h.ll, (List.perm_append_singleton k V).nodup_iff.2 (List.nodup_cons.2 ⟨hkV, h.nd⟩), fun j hj => ?_, fun j j0 j1 => ?_, fun j hj => ?_, fun j hj z hz => ?_, fun r hr => hm _ (h.rts r hr), fun j hj => ?_, fun q hq => ?_, fun j j0 j1 => ?_, fun j j0 j1 => ?_⟩
  · rcases List.mem_append.1 hj with e | e
    · exact h.vin j e
    · obtain rfl := List.mem_singleton.1 e
      exact ⟨h0, h1⟩
  · by_cases e : j = k
    · subst e
      rw [ek]
      exact ⟨fun _ => by simp, fun _ => by omega⟩
    · rw [rd_set_ne l k j o h0 j0 e, h.vl j j0 j1]
      simp [e]
  · rcases List.mem_append.1 hj with e | e
    · rw [ej j e]; exact h.good j e
    · obtain rfl := List.mem_singleton.1 e
      rw [ek]; exact ⟨hg, o1, o2⟩
  · rcases List.mem_append.1 hj with e | e
    · rw [ej j e]; exact hm _ (h.kid j e z hz)
    · obtain rfl := List.mem_singleton.1 e
      rw [ek]; exact .inr (List.mem_append_left _ (List.mem_map.2 ⟨z, hz, rfl⟩))
  · rcases List.mem_append.1 hj with e | e
    · rw [ej j e]
      rcases h.wit j e with e1 | ⟨p, hp, e2, e3⟩
      · exact .inl e1
      · exact .inr ⟨p, List.mem_append_left _ hp, by rw [ej p hp]; exact e2, e3⟩
    · obtain rfl := List.mem_singleton.1 e
      rw [ek]
      rcases h.pwit (j, o) (by simp) with e1 | ⟨p, hp, e2, e3⟩
      · exact .inl e1
      · exact .inr ⟨p, List.mem_append_left _ hp, by rw [ej p hp]; simp only at e2; omega, e3⟩
  · rcases List.mem_append.1 hq with e | e
    · obtain ⟨z, hz, rfl⟩ := List.mem_map.1 e
      exact .inr ⟨k, by simp, by rw [ek], hz⟩
    · rcases h.pwit q (List.mem_cons_of_mem _ e) with e1 | ⟨p, hp, e2, e3⟩
      · exact .inl e1
      · exact .inr ⟨p, List.mem_append_left _ hp, by rw [ej p hp]; exact e2, e3⟩
  · have := h.cnts j j0 j1
    have hmm : ((kidsOf C k).map (fun z => (z, o - 1))).map Prod.fst = kidsOf C k := by rw [List.map_map]; exact List.map_id _
    rw [List.map_append, List.count_append, hmm, List.flatMap_append, List.count_append, List.flatMap_cons, List.flatMap_nil, List.append_nil]
    by_cases e : j = k
    · subst e
      rw [List.map_cons, List.count_cons_self] at this
      rw [rd_set_eq c j x h0 (by omega), hx]
      omega
    · rw [List.map_cons, List.count_cons_of_ne (by show k ≠ j; omega)] at this
      rw [rd_set_ne c k j x h0 j0 e]
      omega
  · by_cases e : j = k
    · subst e
      rw [rd_set_eq c j x h0 (by omega), hx, (h.pos j j0 j1).2 hkV]
      exact ⟨fun _ => by omega, fun e => absurd (by simp) e⟩
    · rw [rd_set_ne c k j x h0 j0 e]
      have := h.pos j j0 j1
      simpa [e] using this
theorem Inv.cons (h : Inv C roots L V P c l) (hv : Inv C roots L V' [] c' v) : ∀ k ∈ V, rd v k = rd l k ∧ k ∈ V' := by
  have key : ∀ m : Nat, ∀ k ∈ V, L - rd l k ≤ (m : Int) → rd v k = rd l k ∧ k ∈ V' := by
    have root : ∀ k ∈ V, k ∈ roots → rd l k = L → rd v k = rd l k ∧ k ∈ V' := fun k hk hr e => by
      have hin := h.vin k hk
      rcases hv.rts k hr with (e1 | ⟨_, _, e2, e3⟩) | e1
      · simp only at e1; omega
      · simp only at e2 e3
        exact ⟨e2.trans e.symm, (hv.vl k hin.1 hin.2).1 (by rw [e2]; exact e3)⟩
      · cases e1
    have par : ∀ k ∈ V, ∀ p, rd l p = rd l k + 1 → k ∈ kidsOf C p → (rd v p = rd l p ∧ p ∈ V') → rd v k = rd l k ∧ k ∈ V' := fun k hk p e hz hp => by
      have hin := h.vin k hk
      rcases hv.kid p hp.2 k hz with (e1 | ⟨_, _, e2, e3⟩) | e1
      · simp only at e1; omega
      · simp only at e2 e3
        exact ⟨by rw [e2, hp.1]; omega, (hv.vl k hin.1 hin.2).1 (by rw [e2]; exact e3)⟩
      · cases e1
    intro m
    induction m with
    | zero =>
      intro k hk hm
      rcases h.wit k hk with ⟨hr, e⟩ | ⟨p, hp, e, hz⟩
      · exact root k hk hr e
      · have := (h.good p hp).2.2
        omega
    | succ m ih =>
      intro k hk hm
      rcases h.wit k hk with ⟨hr, e⟩ | ⟨p, hp, e, hz⟩
      · exact root k hk hr e
      · exact par k hk p e hz (ih p hp (by omega))
  intro k hk
  exact key (L - rd l k).toNat k hk (by omega)
theorem Inv.refs (h : Inv C roots L V P c l) (hv : Inv C roots L V' [] c' v) : ∀ q ∈ P, RefOK C v q := by
  intro q hq
  rcases h.pwit q hq with ⟨e1, e2⟩ | ⟨p, hp, e1, e2⟩
  · rcases hv.rts q.1 e1 with e | e
    · rw [← e2] at e; exact e
    · cases e
  · obtain ⟨f1, f2⟩ := h.cons hv p hp
    rcases hv.kid p f2 q.1 e2 with e | e
    · rw [f1, ← e1] at e; exact e
    · cases e
theorem Inv.unique (h : Inv C roots L V [] c l) (hv : Inv C roots L V' [] c' v) : c = c' := by
  have hp : V.Perm V' := (List.perm_ext_iff_of_nodup h.nd hv.nd).2 (fun k => ⟨fun hk => (h.cons hv k hk).2, fun hk => (hv.cons h k hk).2⟩)
  refine ext_rd c c' C.length h.lc hv.lc (fun k h0 h1 => ?_)
  have e1 := h.cnts k h0 h1
  have e2 := hv.cnts k h0 h1
  rw [(hp.flatMap_right (kidsOf C)).count_eq] at e1
  simp only [List.map_nil, List.count_nil] at e1 e2
  omega
theorem Inv.len (h : Inv C roots L V P c l) : V.length ≤ C.length := nodup_len _ V h.nd h.vin
theorem Inv.bound (h : Inv C roots L V P c l) (k : Int) (h0 : 0 ≤ k) (h1 : k < (C.length : Int)) : 0 ≤ rd c k ∧ rd c k ≤ (roots.length : Int) + 4 * (C.length : Int) := by
  have e1 := h.cnts k h0 h1
  have e2 := h.len
  have e3 := flat_len (kidsOf C) V (fun k hk => (goodB_kids (h.good k hk).1).1)
  have e4 : (V.flatMap (kidsOf C)).count k ≤ (V.flatMap (kidsOf C)).length := List.count_le_length
  have e5 : roots.count k ≤ roots.length := List.count_le_length
  have e6 := h.pos k h0 h1
  refine ⟨?_, by omega⟩
  by_cases hk : k ∈ V
  · have := e6.1 hk; omega
  · have := e6.2 hk; omega
theorem Inv.start (hL : 1 ≤ L) : Inv C roots L [] (roots.map fun r => (r, L)) (List.replicate C.length 0) (List.replicate C.length 0) := by
  have hz : ∀ k : Int, rd (List.replicate C.length 0) k = 0 := fun k => by
    unfold rd
    rw [List.getD_eq_getElem?_getD, List.getElem?_replicate]
    split <;> rfl
  refine ⟨by simp, by simp, by simp, by simp, fun k _ _ => by simp [hz], by simp, by simp, fun r hr => .inr (List.mem_map.2 ⟨r, hr, rfl⟩), by simp, fun q hq => ?_, fun k _ _ => ?_, fun k _ _ => by simp [hz]⟩
  · obtain ⟨r, hr, rfl⟩ := List.mem_map.1 hq
    exact .inl ⟨hr, rfl⟩
  · have : (roots.map fun r => (r, L)).map Prod.fst = roots := by rw [List.map_map]; exact List.map_id _
    rw [this, hz]
    simp
end
def Bad (C : List S68) (roots : List Int) (L : Int) : Prop := ∀ V c v, ¬ Inv C roots L V [] c v
theorem loopK_ok {F : Int → List Int → Option (Bool × List Int)} {ok : Int → Prop} {n : Nat} (hF : ∀ z, ok z → ∀ s : List Int, s.length = n → ∃ s', F z s = some (true, s') ∧ s'.length = n) :
    ∀ (ks : List Int) (s : List Int), (∀ z ∈ ks, ok z) → s.length = n → ∃ s', loopK F ks s = some (true, s') ∧ s'.length = n
  | [], s, _, hs => ⟨s, rfl, hs⟩
  | z :: r, s, h, hs => by
    obtain ⟨s1, e1, h1⟩ := hF z (h z (by simp)) s hs
    obtain ⟨s2, e2, h2⟩ := loopK_ok hF r s1 (fun y hy => h y (by simp [hy])) h1
    exact ⟨s2, by simp only [loopK, e1, Option.bind_some, if_true]; exact e2, h2⟩
theorem loopK_tot {F : Int → List Int → Option (Bool × List Int)} {n : Nat} (hF : ∀ z, ∀ s : List Int, s.length = n → ∃ b s', F z s = some (b, s') ∧ s'.length = n) :
    ∀ (ks : List Int) (s : List Int), s.length = n → ∃ b s', loopK F ks s = some (b, s') ∧ s'.length = n
  | [], s, hs => ⟨true, s, rfl, hs⟩
  | z :: r, s, hs => by
    obtain ⟨b, s1, e1, h1⟩ := hF z s hs
    cases b with
    | true =>
      obtain ⟨b2, s2, e2, h2⟩ := loopK_tot hF r s1 h1
      exact ⟨b2, s2, by simp only [loopK, e1, Option.bind_some, if_true]; exact e2, h2⟩
    | false => exact ⟨false, s1, by simp [loopK, e1], h1⟩
theorem deep_tot (C : List S68) : ∀ (lev : Nat) (k : Int) (seen : List Int), seen.length = C.length → ∃ b s', deepM C (lev + 1) k seen = some (b, s') ∧ s'.length = C.length := by
  intro lev
  induction lev with
  | zero =>
    intro k seen hs
    simp only [deepM]
    by_cases hk : k = -1
    · rw [if_pos hk]; exact ⟨_, _, rfl, hs⟩
    rw [if_neg hk]
    by_cases hin : 0 ≤ k ∧ k ≤ (C.length : Int) - 1
    · rw [if_pos hin, if_pos (by omega)]
      split
      · exact ⟨_, _, rfl, by simp [hs]⟩
      · exact ⟨_, _, rfl, by simp [hs]⟩
    · rw [if_neg hin]; exact ⟨_, _, rfl, hs⟩
  | succ m ih =>
    intro k seen hs
    rw [deepM]
    by_cases hk : k = -1
    · rw [if_pos hk]; exact ⟨_, _, rfl, hs⟩
    rw [if_neg hk]
    by_cases hin : 0 ≤ k ∧ k ≤ (C.length : Int) - 1
    · rw [if_pos hin, if_pos (by omega)]
      dsimp only
      split
      · exact ⟨_, _, rfl, by simp [hs]⟩
      · rw [if_neg (by omega)]
        obtain ⟨b, s2, e2, h2⟩ := loopK_tot (F := deepM C (m + 1)) ih (rd_T68 C k).f2 (seen.set k.toNat (wrap64 (rd seen k + 1))) (by simp [hs])
        rw [e2, Option.bind_some]
        cases b with
        | true => exact ⟨_, _, rfl, h2⟩
        | false => exact ⟨_, _, rfl, h2⟩
    · rw [if_neg hin]; exact ⟨_, _, rfl, hs⟩
section
variable {C : List S68} {roots : List Int} {L : Int}
theorem good_leaf {n : Nat} {x : S68} : goodB n x 1 = okLeaf x := by
  unfold goodB okLeaf
  rw [if_pos rfl]
  by_cases h : x.f2.length = 0 <;> by_cases h2 : 1 ≤ (x.f1.size : Int) ∧ (x.f1.size : Int) ≤ 8 <;> simp [h, h2]
theorem good_node {n : Nat} {x : S68} {lev : Int} (h : goodB n x lev = true) (hl : lev ≠ 1) : okNode x = true := by
  unfold goodB at h
  rw [if_neg hl] at h
  unfold okNode
  by_cases h0 : x.f1.size = 0
  · rw [if_pos h0] at h
    by_cases h4 : (x.f2.length : Int) = 4
    · rw [if_pos h4] at h
      cases hb : badKid n x.f2 with
      | true => rw [hb, if_pos rfl] at h; cases h
      | false => rw [hb, if_neg (by simp)] at h; rw [h, if_pos rfl, if_pos h4, decide_eq_true h0]
    · rw [if_neg h4] at h; cases h
  · rw [if_neg h0] at h; cases h
theorem node_good {n : Nat} {x : S68} {lev : Int} (h : okNode x = true) (hl : lev ≠ 1) (hb : ∀ z ∈ x.f2, isNum n z = true) : goodB n x lev = true := by
  unfold okNode at h
  cases hs : someKid x.f2 with
  | false => rw [hs, if_neg (by simp)] at h; cases h
  | true =>
    rw [hs, if_pos rfl] at h
    by_cases h4 : (x.f2.length : Int) = 4
    · rw [if_pos h4] at h
      unfold goodB
      have hbk : badKid n x.f2 = false := by
        cases hbb : badKid n x.f2 with
        | false => rfl
        | true =>
          obtain ⟨z, hz, e⟩ := List.any_eq_true.1 hbb
          rw [hb z hz] at e
          cases e
      rw [if_neg hl, if_pos (of_decide_eq_true h), if_pos h4, hbk, if_neg (by simp), hs]
    · rw [if_neg h4] at h; cases h
theorem deep_ok {V : List Int} {c v : List Int} (hv : Inv C roots L V [] c v) : ∀ (lev : Nat) (k : Int), RefOK C v (k, (lev : Int) + 1) → ∀ (seen : List Int), seen.length = C.length → ∃ s', deepM C (lev + 1) k seen = some (true, s') ∧ s'.length = C.length := by
  intro lev
  induction lev with
  | zero =>
    intro k hk seen hs
    rw [deepM]
    rcases hk with hk | ⟨h0, h1, h2, h3⟩
    · simp only at hk; rw [if_pos hk]; exact ⟨_, rfl, hs⟩
    simp only at h0 h1 h2 h3
    rw [if_neg (by omega), if_pos (by omega), if_pos (by omega)]
    dsimp only
    split
    · exact ⟨_, rfl, by simp [hs]⟩
    · have hg := (hv.good k ((hv.vl k h0 h1).1 (by rw [h2]; exact h3))).1
      rw [h2, show ((0 : Nat) : Int) + 1 = 1 by omega, good_leaf] at hg
      rw [if_pos rfl, hg]
      exact ⟨_, rfl, by simp [hs]⟩
  | succ m ih =>
    intro k hk seen hs
    rw [deepM]
    rcases hk with hk | ⟨h0, h1, h2, h3⟩
    · simp only at hk; rw [if_pos hk]; exact ⟨_, rfl, hs⟩
    simp only at h0 h1 h2 h3
    rw [if_neg (by omega), if_pos (by omega), if_pos (by omega)]
    dsimp only
    split
    · exact ⟨_, rfl, by simp [hs]⟩
    · rw [if_neg (by omega)]
      have hkV := (hv.vl k h0 h1).1 (by rw [h2]; exact h3)
      have hg := (hv.good k hkV).1
      obtain ⟨s2, e2, hl2⟩ := loopK_ok (F := deepM C (m + 1)) (ok := fun z => RefOK C v (z, (m : Int) + 1)) (fun z hz s hs => ih z hz s hs) (rd_T68 C k).f2 (seen.set k.toNat (wrap64 (rd seen k + 1))) (fun z hz => by
        rcases hv.kid k hkV z hz with e | e
        · rw [h2, show ((m + 1 : Nat) : Int) + 1 - 1 = (m : Int) + 1 by omega] at e
          exact e
        · cases e) (by simp [hs])
      rw [e2, Option.bind_some]
      simp only [if_true]
      rw [good_node hg (by rw [h2]; omega)]
      exact ⟨_, rfl, hl2⟩
theorem deep_num {m : Nat} : ∀ (ks seen s' : List Int), loopK (deepM C (m + 1)) ks seen = some (true, s') → ∀ z ∈ ks, isNum C.length z = true
  | [], _, _, _ => by simp
  | y :: r, seen, s', h => by
    simp only [loopK] at h
    obtain ⟨⟨b, s1⟩, e1, e2⟩ := Option.bind_eq_some_iff.1 h
    cases b with
    | false => simp at e2
    | true =>
      intro z hz
      rcases List.mem_cons.1 hz with rfl | hz
      · rw [deepM] at e1
        unfold isNum
        by_cases hk : z = -1
        · exact decide_eq_true (by omega)
        · rw [if_neg hk] at e1
          by_cases hin : 0 ≤ z ∧ z ≤ (C.length : Int) - 1
          · exact decide_eq_true (by omega)
          · rw [if_neg hin] at e1
            simp at e1
      · exact deep_num r s1 s' (by simpa using e2) z hz
end
section
variable {C : List S68} {roots : List Int} {L : Int}
def LockAt (C : List S68) (roots : List Int) (L : Int) (m : Nat) : Prop := ∀ (k : Int) (seen at_ : List Int) (P : List (Int × Int)) (V : List Int) (seen' : List Int), Inv C roots L V ((k, (m : Int) + 1) :: P) seen at_ → deepM C (m + 1) k seen = some (true, seen') →
  ∃ b at', levM C (m + 1) k at_ = some (b, at') ∧ (b = true → ∃ V', Inv C roots L V' P seen' at') ∧ (b = false → Bad C roots L)
theorem lock_loop {m : Nat} (ih : LockAt C roots L m) : ∀ (ks seen at_ : List Int) (P : List (Int × Int)) (V : List Int) (seen' : List Int), Inv C roots L V (ks.map (fun z => (z, (m : Int) + 1)) ++ P) seen at_ → loopK (deepM C (m + 1)) ks seen = some (true, seen') →
    ∃ b at', loopK (levM C (m + 1)) ks at_ = some (b, at') ∧ (b = true → ∃ V', Inv C roots L V' P seen' at') ∧ (b = false → Bad C roots L)
  | [], seen, at_, P, V, seen', hI, h => by
    simp only [loopK, Option.some.injEq, Prod.mk.injEq, true_and] at h
    subst h
    exact ⟨true, at_, rfl, fun _ => ⟨V, hI⟩, by simp⟩
  | z :: r, seen, at_, P, V, seen', hI, h => by
    simp only [loopK] at h
    obtain ⟨⟨b, s1⟩, e1, e2⟩ := Option.bind_eq_some_iff.1 h
    cases b with
    | false => simp at e2
    | true =>
      obtain ⟨b, a1, f1, f2, f3⟩ := ih z seen at_ (r.map (fun z => (z, (m : Int) + 1)) ++ P) V s1 hI e1
      cases b with
      | false => exact ⟨false, a1, by simp [loopK, f1], by simp, f3⟩
      | true =>
        obtain ⟨V1, hI1⟩ := f2 rfl
        obtain ⟨b, a2, g1, g2, g3⟩ := lock_loop ih r s1 a1 P V1 seen' hI1 (by simpa using e2)
        exact ⟨b, a2, by simp only [loopK, f1, Option.bind_some, if_true]; exact g1, g2, g3⟩
theorem lock (hL : 1 ≤ L) (hr : roots.length ≤ 1000) (hn : C.length ≤ 1000) : ∀ m : Nat, LockAt C roots L m := by
  intro m
  induction m with
  | zero =>
    intro k seen at_ P V seen' hI h
    rw [deepM] at h
    rw [levM]
    have hls := hI.lc
    have hla := hI.ll
    by_cases hk : k = -1
    · subst hk
      rw [if_pos rfl] at h ⊢
      simp only [Option.some.injEq, Prod.mk.injEq, true_and] at h
      subst h
      exact ⟨true, at_, rfl, fun _ => ⟨V, hI.skip⟩, by simp⟩
    by_cases hin : 0 ≤ k ∧ k ≤ (C.length : Int) - 1
    · have h0 : 0 ≤ k := hin.1
      have h1 : k < (C.length : Int) := by omega
      have hb := hI.bound k h0 h1
      rw [if_neg hk, if_pos hin, if_pos (by omega), w64 (by omega) (by omega)] at h
      dsimp only at h
      rw [if_neg hk, if_pos (by omega)]
      by_cases hV : k ∈ V
      · have p := (hI.pos k h0 h1).1 hV
        have p2 := (hI.vl k h0 h1).2 hV
        rw [if_pos (by omega)] at h
        simp only [Option.some.injEq, Prod.mk.injEq, true_and] at h
        subst h
        rw [if_neg p2]
        by_cases he : rd at_ k = ((0 : Nat) : Int) + 1
        · rw [if_pos he]
          exact ⟨true, at_, rfl, fun _ => ⟨V, hI.old h0 h1 he (by omega) rfl⟩, by simp⟩
        · rw [if_neg he]
          refine ⟨false, at_, rfl, by simp, fun _ V' c' v hv => ?_⟩
          rcases hI.refs hv (k, ((0 : Nat) : Int) + 1) (by simp) with e | ⟨_, _, e, _⟩
          · exact hk e
          · exact he ((hI.cons hv k hV).1.symm.trans e)
      · have p := (hI.pos k h0 h1).2 hV
        have p2 : rd at_ k = 0 := by
          by_cases e : rd at_ k = 0
          · exact e
          · exact absurd ((hI.vl k h0 h1).1 e) hV
        rw [if_neg (by omega), if_pos rfl] at h
        simp only [Option.some.injEq, Prod.mk.injEq] at h
        obtain ⟨hg, rfl⟩ := h
        rw [← good_leaf (n := C.length)] at hg
        have hk2 := (goodB_kids hg).2.1 rfl
        rw [if_pos p2, if_pos h1, hk2]
        refine ⟨true, _, rfl, fun _ => ⟨V ++ [k], ?_⟩, by simp⟩
        have := hI.new hL h0 h1 p2 (by simpa using hg) rfl
        unfold kidsOf at this
        rw [hk2] at this
        exact this
    · rw [if_neg hk, if_neg hin] at h
      simp at h
  | succ m ih =>
    intro k seen at_ P V seen' hI h
    rw [deepM] at h
    rw [levM]
    have hls := hI.lc
    have hla := hI.ll
    by_cases hk : k = -1
    · subst hk
      rw [if_pos rfl] at h ⊢
      simp only [Option.some.injEq, Prod.mk.injEq, true_and] at h
      subst h
      exact ⟨true, at_, rfl, fun _ => ⟨V, hI.skip⟩, by simp⟩
    by_cases hin : 0 ≤ k ∧ k ≤ (C.length : Int) - 1
    · have h0 : 0 ≤ k := hin.1
      have h1 : k < (C.length : Int) := by omega
      have hb := hI.bound k h0 h1
      rw [if_neg hk, if_pos hin, if_pos (by omega), w64 (by omega) (by omega)] at h
      dsimp only at h
      rw [if_neg hk, if_pos (by omega)]
      by_cases hV : k ∈ V
      · have p := (hI.pos k h0 h1).1 hV
        have p2 := (hI.vl k h0 h1).2 hV
        rw [if_pos (by omega)] at h
        simp only [Option.some.injEq, Prod.mk.injEq, true_and] at h
        subst h
        rw [if_neg p2]
        by_cases he : rd at_ k = ((m + 1 : Nat) : Int) + 1
        · rw [if_pos he]
          exact ⟨true, at_, rfl, fun _ => ⟨V, hI.old h0 h1 he (by omega) rfl⟩, by simp⟩
        · rw [if_neg he]
          refine ⟨false, at_, rfl, by simp, fun _ V' c' v hv => ?_⟩
          rcases hI.refs hv (k, ((m + 1 : Nat) : Int) + 1) (by simp) with e | ⟨_, _, e, _⟩
          · exact hk e
          · exact he ((hI.cons hv k hV).1.symm.trans e)
      · have p := (hI.pos k h0 h1).2 hV
        have p2 : rd at_ k = 0 := by
          by_cases e : rd at_ k = 0
          · exact e
          · exact absurd ((hI.vl k h0 h1).1 e) hV
        rw [if_neg (by omega), if_neg (by omega)] at h
        obtain ⟨⟨b1, s2⟩, e1, e2⟩ := Option.bind_eq_some_iff.1 h
        cases b1 with
        | false => simp at e2
        | true =>
          simp only [if_true, Option.some.injEq, Prod.mk.injEq] at e2
          obtain ⟨hnode, rfl⟩ := e2
          have hg := node_good (lev := ((m + 1 : Nat) : Int) + 1) hnode (by omega) (deep_num _ _ _ e1)
          rw [if_pos p2, if_pos h1]
          have hI2 := hI.new hL h0 h1 p2 hg rfl
          rw [show ((m + 1 : Nat) : Int) + 1 - 1 = (m : Int) + 1 by omega] at hI2
          exact lock_loop ih _ _ _ P _ _ hI2 e1
    · rw [if_neg hk, if_neg hin] at h
      simp at h
end
section
variable {C : List S68} {roots : List Int} {L : Int}
def pend (C : List S68) (lev V : List Int) : List (Int × Int) := V.flatMap fun k => (kidsOf C k).map fun z => (z, rd lev k - 1)
theorem pend_congr {l l' : List Int} : ∀ V : List Int, (∀ k ∈ V, rd l k = rd l' k) → pend C l V = pend C l' V
  | [], _ => rfl
  | a :: r, h => by
    have h1 := pend_congr r (fun k hk => h k (by simp [hk]))
    unfold pend at h1 ⊢
    rw [List.flatMap_cons, List.flatMap_cons, h1, h a (by simp)]
theorem rd_mem {l : List Int} {i : Nat} (h : i < l.length) : rd l (i : Int) ∈ l := by
  unfold rd
  rw [List.getD_eq_getElem?_getD, Int.toNat_natCast, List.getElem?_eq_getElem h]
  exact List.getElem_mem h
theorem rd_app {l t : List Int} {i : Nat} (h : i < l.length) : rd (l ++ t) (i : Int) = rd l (i : Int) := by
  unfold rd
  rw [List.getD_eq_getElem?_getD, List.getD_eq_getElem?_getD, Int.toNat_natCast, List.getElem?_append_left h]
theorem refer_step (hL : 1 ≤ L) (hr : roots.length ≤ 1000) (hn : C.length ≤ 1000) {line cnt lev : List Int} {k own : Int} {Pre : List (Int × Int)} {i : Nat} (hi : i ≤ line.length)
    (hI : Inv C roots L line ((k, own) :: (Pre ++ pend C lev (line.drop i))) cnt lev) : ∃ b c l ln, referM C k own cnt lev line = (b, c, l, ln) ∧
      (b = true → Inv C roots L ln (Pre ++ pend C l (ln.drop i)) c l ∧ (∃ t, ln = line ++ t) ∧ ∀ j ∈ line, rd l j = rd lev j) ∧ (b = false → Bad C roots L) := by
  unfold referM
  by_cases hk : isNum C.length k = true
  · rw [if_pos hk]
    have hk' := of_decide_eq_true hk
    by_cases hneg : k < 0
    · rw [if_pos hneg]
      obtain rfl : k = -1 := by omega
      exact ⟨_, _, _, _, rfl, fun _ => ⟨hI.skip, ⟨[], by simp⟩, fun _ _ => rfl⟩, by simp⟩
    · rw [if_neg hneg]
      have h0 : 0 ≤ k := by omega
      have h1 : k < (C.length : Int) := by omega
      have hb := hI.bound k h0 h1
      obtain ⟨o1, o2⟩ := hI.range hL (k, own) (by simp)
      simp only at o1 o2
      rw [w64 (by omega) (by omega)]
      by_cases hz : rd lev k = 0
      · rw [if_pos hz]
        refine ⟨_, _, _, _, rfl, fun hg => ⟨?_, ⟨[k], rfl⟩, fun j hj => ?_⟩, fun hg V' c' v hv => ?_⟩
        · have hkl : k ∉ line := fun e => (hI.vl k h0 h1).2 e hz
          have hN := hI.new hL h0 h1 hz hg rfl
          refine hN.perm ?_
          have e1 : pend C (lev.set k.toNat own) ((line ++ [k]).drop i) = pend C lev (line.drop i) ++ (kidsOf C k).map (fun z => (z, own - 1)) := by
            rw [List.drop_append_of_le_length hi]
            have e2 := pend_congr (C := C) (l := lev.set k.toNat own) (l' := lev) (line.drop i) (fun j hj => rd_set_ne lev k j own h0 (hI.vin j (List.mem_of_mem_drop hj)).1 (fun e => hkl (e ▸ List.mem_of_mem_drop hj)))
            unfold pend at e2 ⊢
            rw [List.flatMap_append, e2, List.flatMap_cons, List.flatMap_nil, List.append_nil, rd_set_eq lev k own h0 (by have := hI.ll; omega)]
          rw [e1, ← List.append_assoc Pre]
          exact List.perm_append_comm
        · exact rd_set_ne lev k j own h0 (hI.vin j hj).1 (fun e => (hI.vl k h0 h1).2 (e ▸ hj) hz)
        · rcases hI.refs hv (k, own) (by simp) with e | ⟨_, _, e, e2⟩
          · simp only at e; omega
          · simp only at e e2
            have := (hv.good k ((hv.vl k h0 h1).1 (by rw [e]; exact e2))).1
            rw [e, hg] at this
            cases this
      · rw [if_neg hz]
        refine ⟨_, _, _, _, rfl, fun hg => ⟨hI.old h0 h1 (of_decide_eq_true hg) (by omega) rfl, ⟨[], by simp⟩, fun _ _ => rfl⟩, fun hg V' c' v hv => ?_⟩
        rcases hI.refs hv (k, own) (by simp) with e | ⟨_, _, e, e2⟩
        · simp only at e; omega
        · exact of_decide_eq_false hg ((hI.cons hv k ((hI.vl k h0 h1).1 hz)).1.symm.trans e)
  · rw [if_neg hk]
    refine ⟨_, _, _, _, rfl, by simp, fun _ V' c' v hv => hk ?_⟩
    unfold isNum
    rcases hI.refs hv (k, own) (by simp) with e | ⟨e0, e1, _, _⟩
    · simp only at e; exact decide_eq_true (by omega)
    · simp only at e0 e1; exact decide_eq_true (by omega)
theorem kids_loop (hL : 1 ≤ L) (hL3 : L ≤ 3) (hr : roots.length ≤ 1000) (hn : C.length ≤ 1000) {i : Nat} {kk own : Int} : ∀ (ks cnt lev line : List Int), Inv C roots L line (ks.map (fun z => (z, own)) ++ pend C lev (line.drop (i + 1))) cnt lev → i < line.length → rd line (i : Int) = kk → rd lev kk - 1 = own →
    ∃ b c l ln, loopS (kidF C (i : Int)) ks (cnt, lev, line) = some (b, (c, l, ln)) ∧ (b = true → Inv C roots L ln (pend C l (ln.drop (i + 1))) c l ∧ i < ln.length) ∧ (b = false → Bad C roots L)
  | [], cnt, lev, line, hI, hi, _, _ => ⟨true, cnt, lev, line, rfl, fun _ => ⟨hI, hi⟩, by simp⟩
  | z :: r, cnt, lev, line, hI, hi, hkk, hown => by
    have hlen := hI.len
    have hmem : kk ∈ line := by rw [← hkk]; exact rd_mem hi
    have hin := hI.vin kk hmem
    have hgd := hI.good kk hmem
    have hF : kidF C (i : Int) z (cnt, lev, line) = some (referM C z own cnt lev line) := by
      unfold kidF
      simp only
      rw [hkk, if_pos ⟨by omega, by omega, hin.1, hin.2⟩, w64 (by omega) (by omega), hown]
    obtain ⟨b, c, l, ln, e1, e2, e3⟩ := refer_step (Pre := r.map fun z => (z, own)) hL hr hn (by omega : i + 1 ≤ line.length) hI
    cases b with
    | false => exact ⟨false, c, l, ln, by simp [loopS, hF, e1], by simp, e3⟩
    | true =>
      obtain ⟨hI2, ⟨t, rfl⟩, hl⟩ := e2 rfl
      obtain ⟨b, c2, l2, ln2, f1, f2, f3⟩ := kids_loop hL hL3 hr hn (i := i) (kk := kk) (own := own) r c l (line ++ t) hI2 (by rw [List.length_append]; omega) (by rw [rd_app hi]; exact hkk) (by rw [hl kk hmem]; exact hown)
      exact ⟨b, c2, l2, ln2, by simp only [loopS, hF, e1, Option.bind_some, if_true]; exact f1, f2, f3⟩
theorem line_loop (hL : 1 ≤ L) (hL3 : L ≤ 3) (hr : roots.length ≤ 1000) (hn : C.length ≤ 1000) : ∀ (f i : Nat) (cnt lev line : List Int), Inv C roots L line (pend C lev (line.drop i)) cnt lev → i ≤ line.length → C.length + 1 ≤ f + i →
    ∃ b c l ln, lineM C f i (cnt, lev, line) = some (b, (c, l, ln)) ∧ (b = true → Inv C roots L ln [] c l) ∧ (b = false → Bad C roots L)
  | 0, i, cnt, lev, line, hI, hi, hf => by have := hI.len; omega
  | f + 1, i, cnt, lev, line, hI, hi, hf => by
    have hlen := hI.len
    unfold lineM
    by_cases hil : (i : Int) < (line.length : Int)
    · have hil' : i < line.length := by omega
      obtain ⟨kk, hkk⟩ : ∃ kk, rd line (i : Int) = kk := ⟨_, rfl⟩
      have hmem : kk ∈ line := by rw [← hkk]; exact rd_mem hil'
      have hin := hI.vin kk hmem
      have hd : line.drop i = kk :: line.drop (i + 1) := by
        rw [List.drop_eq_getElem_cons hil', ← hkk]
        congr 1
        unfold rd
        rw [List.getD_eq_getElem?_getD, Int.toNat_natCast, List.getElem?_eq_getElem hil']
        rfl
      simp only
      rw [if_pos hil, hkk, if_pos ⟨by omega, hin.1, hin.2⟩]
      have hI2 : Inv C roots L line ((kidsOf C kk).map (fun z => (z, rd lev kk - 1)) ++ pend C lev (line.drop (i + 1))) cnt lev := by
        rw [hd] at hI
        exact hI
      obtain ⟨b, c, l, ln, e1, e2, e3⟩ := kids_loop hL hL3 hr hn (i := i) (kk := kk) (own := rd lev kk - 1) (kidsOf C kk) cnt lev line hI2 hil' hkk rfl
      unfold kidsOf at e1
      rw [e1, Option.bind_some]
      cases b with
      | false => exact ⟨false, c, l, ln, by simp, by simp, e3⟩
      | true =>
        obtain ⟨hI3, hi3⟩ := e2 rfl
        simp only [if_true]
        exact line_loop hL hL3 hr hn f (i + 1) c l ln hI3 (by omega) (by omega)
    · simp only
      rw [if_neg hil]
      rw [List.drop_of_length_le (by omega)] at hI
      exact ⟨true, cnt, lev, line, rfl, fun _ => hI, by simp⟩
theorem roots_loop (hL : 1 ≤ L) (hr : roots.length ≤ 1000) (hn : C.length ≤ 1000) : ∀ (rs cnt lev line : List Int), Inv C roots L line (rs.map (fun z => (z, L)) ++ pend C lev (line.drop 0)) cnt lev →
    ∃ b c l ln, loopS (rootF C L) rs (cnt, lev, line) = some (b, (c, l, ln)) ∧ (b = true → Inv C roots L ln (pend C l (ln.drop 0)) c l) ∧ (b = false → Bad C roots L)
  | [], cnt, lev, line, hI => ⟨true, cnt, lev, line, rfl, fun _ => hI, by simp⟩
  | z :: r, cnt, lev, line, hI => by
    have hlen := hI.len
    have hF : rootF C L z (cnt, lev, line) = some (referM C z L cnt lev line) := by
      unfold rootF
      simp only
      rw [if_pos (by omega)]
    obtain ⟨b, c, l, ln, e1, e2, e3⟩ := refer_step (Pre := r.map fun z => (z, L)) hL hr hn (Nat.zero_le _) hI
    cases b with
    | false => exact ⟨false, c, l, ln, by simp [loopS, hF, e1], by simp, e3⟩
    | true =>
      obtain ⟨hI2, _, _⟩ := e2 rfl
      obtain ⟨b, c2, l2, ln2, f1, f2, f3⟩ := roots_loop hL hr hn r c l ln hI2
      exact ⟨b, c2, l2, ln2, by simp only [loopS, hF, e1, Option.bind_some, if_true]; exact f1, f2, f3⟩
theorem impl_out (hL : 1 ≤ L) (hL3 : L ≤ 3) (hn : C.length ≤ 80) (hr1 : 1 ≤ (roots.length : Int)) (hr8 : (roots.length : Int) ≤ 8) :
    (∃ V c v, Inv C roots L V [] c v ∧ goodC 100 C roots L = some (endM C c C.length 0)) ∨ (Bad C roots L ∧ goodC 100 C roots L = some false) := by
  unfold goodC
  rw [if_pos (by unfold inR; exact decide_eq_true ⟨hL, hL3⟩), if_neg (by omega), if_pos (by unfold inR; exact decide_eq_true ⟨hr1, hr8⟩)]
  have h0 : Inv C roots L [] (roots.map (fun z => (z, L)) ++ pend C (List.replicate C.length 0) (([] : List Int).drop 0)) (List.replicate C.length 0) (List.replicate C.length 0) := by
    have := Inv.start (C := C) (roots := roots) hL
    simpa [pend] using this
  obtain ⟨b, c, l, ln, e1, e2, e3⟩ := roots_loop hL (by omega) (by omega) roots _ _ [] h0
  rw [e1, Option.bind_some]
  cases b with
  | false => exact .inr ⟨e3 rfl, by simp⟩
  | true =>
    obtain ⟨b, c2, l2, ln2, f1, f2, f3⟩ := line_loop hL hL3 (by omega) (by omega) 100 0 c l ln (e2 rfl) (Nat.zero_le _) (by omega)
    simp only [if_true]
    rw [f1, Option.bind_some]
    cases b with
    | false => exact .inr ⟨f3 rfl, by simp⟩
    | true => exact .inl ⟨ln2, c2, l2, f2 rfl, by simp⟩
theorem loopK_refs {m : Nat} {V : List Int} {c v : List Int} (hv : Inv C roots ((m : Int) + 1) V [] c v) : ∃ s', loopK (deepM C (m + 1)) roots (List.replicate C.length 0) = some (true, s') := by
  obtain ⟨s', e, _⟩ := loopK_ok (F := deepM C (m + 1)) (ok := fun z => RefOK C v (z, (m : Int) + 1)) (n := C.length) (fun z hz s hs => deep_ok hv m z hz s hs) roots (List.replicate C.length 0) (fun z hz => by
    rcases hv.rts z hz with e | e
    · exact e
    · cases e) (by simp)
  exact ⟨s', e⟩
end
section
variable {C : List S68} {roots : List Int}
theorem spec_out (m : Nat) (hn : C.length ≤ 80) (hr8 : (roots.length : Int) ≤ 8) :
    (∃ V c v, Inv C roots ((m : Int) + 1) V [] c v ∧ loopK (deepM C (m + 1)) roots (List.replicate C.length 0) = some (true, c) ∧ loopK (levM C (m + 1)) roots (List.replicate C.length 0) = some (true, v)) ∨
    (Bad C roots ((m : Int) + 1) ∧ ((∃ s, loopK (deepM C (m + 1)) roots (List.replicate C.length 0) = some (false, s)) ∨ ∃ s a, loopK (deepM C (m + 1)) roots (List.replicate C.length 0) = some (true, s) ∧ loopK (levM C (m + 1)) roots (List.replicate C.length 0) = some (false, a))) := by
  obtain ⟨b, s, e, _⟩ := loopK_tot (F := deepM C (m + 1)) (n := C.length) (deep_tot C m) roots (List.replicate C.length 0) (by simp)
  cases b with
  | false =>
    refine .inr ⟨fun V c v hv => ?_, .inl ⟨s, e⟩⟩
    obtain ⟨s', e'⟩ := loopK_refs hv
    rw [e] at e'
    cases e'
  | true =>
    have h0 := Inv.start (C := C) (roots := roots) (L := (m : Int) + 1) (by omega)
    obtain ⟨b, a, f1, f2, f3⟩ := lock_loop (lock (C := C) (roots := roots) (L := (m : Int) + 1) (by omega) (by omega) (by omega) m) roots _ _ [] [] s (by simpa using h0) e
    cases b with
    | false => exact .inr ⟨f3 rfl, .inr ⟨s, a, e, f1⟩⟩
    | true =>
      obtain ⟨V', hI⟩ := f2 rfl
      exact .inl ⟨V', s, a, hI, e, f1⟩
theorem cow_join (m : Nat) (hm : (m : Int) + 1 ≤ 3) (hn : C.length ≤ 80) (hr1 : 1 ≤ (roots.length : Int)) (hr8 : (roots.length : Int) ≤ 8) :
    (∃ c v, goodC 100 C roots ((m : Int) + 1) = some (endM C c C.length 0) ∧ c.length = C.length ∧ loopK (deepM C (m + 1)) roots (List.replicate C.length 0) = some (true, c) ∧ loopK (levM C (m + 1)) roots (List.replicate C.length 0) = some (true, v)) ∨
    (goodC 100 C roots ((m : Int) + 1) = some false ∧ ((∃ s, loopK (deepM C (m + 1)) roots (List.replicate C.length 0) = some (false, s)) ∨ ∃ s a, loopK (deepM C (m + 1)) roots (List.replicate C.length 0) = some (true, s) ∧ loopK (levM C (m + 1)) roots (List.replicate C.length 0) = some (false, a))) := by
  rcases impl_out (C := C) (roots := roots) (L := (m : Int) + 1) (by omega) hm hn hr1 hr8 with ⟨V, c, v, hI, e⟩ | ⟨hB, e⟩
  · rcases spec_out (C := C) (roots := roots) m hn hr8 with ⟨V', c', v', hI', e1, e2⟩ | ⟨hB, _⟩
    · obtain rfl := hI.unique hI'
      exact .inl ⟨c, v', e, hI.lc, e1, e2⟩
    · exact absurd hI (hB V c v)
  · rcases spec_out (C := C) (roots := roots) m hn hr8 with ⟨V', c', v', hI', e1, e2⟩ | ⟨_, h⟩
    · exact absurd hI' (hB V' c' v')
    · exact .inr ⟨e, h⟩
end
theorem l2_ev (C : List S68) (c : List Int) (hn : C.length ≤ 80) (hc : c.length = C.length) : ∀ f i : Nat, i + f = C.length → Ev (fun k => spec_GoodCow.l2 k c C (C.length : Int) (i : Int)) (endM C c f i) := by
  intro f
  induction f with
  | zero =>
    intro i hi
    exact Ev.step (fun _ => spec_GoodCow.l2.eq_2 ..) (ev_neg (by omega) (ev_ret rfl))
  | succ f ih =>
    intro i hi
    have h1 := ih (i + 1) (by omega)
    refine Ev.step (fun _ => spec_GoodCow.l2.eq_2 ..) (ev_pos (by omega) (ev_pos (by omega) (ev_pos (by omega) (ev_pos (by omega) ?_))))
    rw [w64 (x := (i : Int) + 1) (by omega) (by omega)]
    unfold endM okEnd
    by_cases q0 : (rd_T68 C (i : Int)).f0 = rd c (i : Int)
    · refine ev_pos q0 ?_
      rw [if_pos q0]
      by_cases q1 : (rd_T68 C (i : Int)).f0 = 0
      · refine ev_pos q1 ?_
        rw [if_pos q1]
        by_cases q2 : (rd_T68 C (i : Int)).f1.size = 0
        · refine ev_pos (ba_nil.2 q2) ?_
          rw [if_pos q2]
          by_cases q3 : (rd_T68 C (i : Int)).f2.length = 0
          · refine ev_neg (by omega) ?_
            rw [decide_eq_true q3, if_pos rfl]
            exact h1
          · refine ev_pos (by omega) ?_
            rw [decide_eq_false q3, if_neg (by simp)]
            exact ev_ret rfl
        · refine ev_neg (fun e => q2 (ba_nil.1 e)) ?_
          rw [if_neg q2, if_neg (by simp)]
          exact ev_ret rfl
      · refine ev_neg q1 ?_
        rw [if_neg q1, if_pos rfl]
        exact h1
    · refine ev_neg q0 ?_
      rw [if_neg q0, if_neg (by simp)]
      exact ev_ret rfl
theorem l1_ev (C : List S68) (roots s : List Int) (m : Nat) (hm : (m : Int) + 1 ≤ 3) (hn : C.length ≤ 80) (hs : s.length = C.length) (hr : (roots.length : Int) ≤ 8) : ∀ (f i : Nat) (at_ v : List Int) (b : Bool), i + f = roots.length → loopK (levM C (m + 1)) (roots.drop i) at_ = some (b, v) →
    Ev (fun k => spec_GoodCow.l1 k s at_ roots (roots.length : Int) (i : Int) C roots ((m : Int) + 1)) (if b = true then endM C s C.length 0 else false) := by
  intro f
  induction f with
  | zero =>
    intro i at_ v b hi h
    rw [List.drop_of_length_le (by omega)] at h
    simp only [loopK, Option.some.injEq, Prod.mk.injEq] at h
    obtain ⟨rfl, rfl⟩ := h
    exact Ev.step (fun _ => spec_GoodCow.l1.eq_2 ..) (ev_neg (by omega) (l2_ev C s hn hs C.length 0 (by omega)))
  | succ f ih =>
    intro i at_ v b hi h
    have hil : i < roots.length := by omega
    obtain ⟨z, hz⟩ : ∃ z, rd roots (i : Int) = z := ⟨_, rfl⟩
    have hd : roots.drop i = z :: roots.drop (i + 1) := by
      rw [List.drop_eq_getElem_cons hil, ← hz]
      congr 1
      unfold rd
      rw [List.getD_eq_getElem?_getD, Int.toNat_natCast, List.getElem?_eq_getElem hil]
      rfl
    rw [hd] at h
    simp only [loopK] at h
    obtain ⟨⟨b1, a1⟩, e1, e2⟩ := Option.bind_eq_some_iff.1 h
    refine Ev.step (fun _ => spec_GoodCow.l1.eq_2 ..) (ev_pos (by omega) (ev_pos (by omega) (ev_pos (by omega) (ev_bindc (a := (b1, a1)) ?_ ?_))))
    · unfold spec_l14Levels.f
      rw [if_pos (by omega), hz, show ((m : Int) + 1).toNat = m + 1 by omega]
      exact e1
    · rw [w64 (x := (i : Int) + 1) (by omega) (by omega)]
      dsimp only
      cases b1 with
      | true => exact ev_true rfl (ih (i + 1) a1 v b (by omega) (by simpa using e2))
      | false =>
        simp only [Bool.false_eq_true, if_false, Option.some.injEq, Prod.mk.injEq] at e2
        obtain ⟨rfl, rfl⟩ := e2
        exact ev_false rfl (ev_ret rfl)
theorem l0_ev (C : List S68) (roots : List Int) (m : Nat) (hm : (m : Int) + 1 ≤ 3) (hn : C.length ≤ 80) (hr : (roots.length : Int) ≤ 8) (r : Bool) : ∀ (f i : Nat) (seen s : List Int) (b : Bool), i + f = roots.length → loopK (deepM C (m + 1)) (roots.drop i) seen = some (b, s) →
    (b = true → Ev (fun k => spec_GoodCow.l1 k s (List.replicate C.length 0) roots (roots.length : Int) ((0 : Nat) : Int) C roots ((m : Int) + 1)) r) → (b = false → r = false) →
    Ev (fun k => spec_GoodCow.l0 k seen roots (roots.length : Int) (i : Int) C roots ((m : Int) + 1)) r := by
  intro f
  induction f with
  | zero =>
    intro i seen s b hi h hT hF
    rw [List.drop_of_length_le (by omega)] at h
    simp only [loopK, Option.some.injEq, Prod.mk.injEq] at h
    obtain ⟨rfl, rfl⟩ := h
    refine Ev.step (fun _ => spec_GoodCow.l0.eq_2 ..) (ev_neg (by omega) (ev_pos (by omega) (ev_pos (by omega) ?_)))
    rw [Int.toNat_natCast]
    exact hT rfl
  | succ f ih =>
    intro i seen s b hi h hT hF
    have hil : i < roots.length := by omega
    obtain ⟨z, hz⟩ : ∃ z, rd roots (i : Int) = z := ⟨_, rfl⟩
    have hd : roots.drop i = z :: roots.drop (i + 1) := by
      rw [List.drop_eq_getElem_cons hil, ← hz]
      congr 1
      unfold rd
      rw [List.getD_eq_getElem?_getD, Int.toNat_natCast, List.getElem?_eq_getElem hil]
      rfl
    rw [hd] at h
    simp only [loopK] at h
    obtain ⟨⟨b1, a1⟩, e1, e2⟩ := Option.bind_eq_some_iff.1 h
    refine Ev.step (fun _ => spec_GoodCow.l0.eq_2 ..) (ev_pos (by omega) (ev_pos (by omega) (ev_pos (by omega) (ev_bindc (a := (b1, a1)) ?_ ?_))))
    · unfold spec_l14Deep.f
      rw [if_pos (by omega), hz, show ((m : Int) + 1).toNat = m + 1 by omega]
      exact e1
    · rw [w64 (x := (i : Int) + 1) (by omega) (by omega)]
      dsimp only
      cases b1 with
      | true => exact ev_true rfl (ih (i + 1) a1 s b (by omega) (by simpa using e2) hT hF)
      | false =>
        simp only [Bool.false_eq_true, if_false, Option.some.injEq, Prod.mk.injEq] at e2
        obtain ⟨rfl, rfl⟩ := e2
        exact ev_false rfl (ev_ret (hF rfl).symm)
theorem in_dec (a b c : Int) : spec_l1In.f a b c = some (decide (b ≤ a ∧ a ≤ c)) := by
  unfold spec_l1In.f
  by_cases h : a ≥ b
  · rw [if_pos h]
    have h' : b ≤ a := h
    simp [h']
  · rw [if_neg h, decide_eq_false (by omega)]
theorem spec_impl (C : List S68) (roots : List Int) (L : Int) : ∃ b, Ev (fun k => spec_GoodCow.f k C roots L) b ∧ goodC 100 C roots L = some b := by
  unfold spec_GoodCow.f
  by_cases hL : 1 ≤ L ∧ L ≤ 3
  · have hiL : inR L 1 3 = true := by unfold inR; exact decide_eq_true hL
    by_cases h80 : (C.length : Int) > 80
    · refine ⟨false, ev_bindc (in_dec L 1 3) (ev_true (decide_eq_true hL) (ev_pos h80 (Ev.step (fun _ => spec_GoodCow.j0.eq_2 ..) (ev_pos rfl (ev_ret rfl))))), ?_⟩
      unfold goodC
      rw [if_pos hiL, if_pos h80]
    · by_cases hR : 1 ≤ (roots.length : Int) ∧ (roots.length : Int) ≤ 8
      · obtain ⟨m, hm⟩ : ∃ m : Nat, L = (m : Int) + 1 := ⟨(L - 1).toNat, by omega⟩
        subst hm
        have key : ∀ b, Ev (fun k => spec_GoodCow.l0 k (List.replicate C.length 0) roots (roots.length : Int) ((0 : Nat) : Int) C roots ((m : Int) + 1)) b → Ev (fun k => (spec_l1In.f ((m : Int) + 1) 1 3).bind fun t121 => (if t121 = true then (if (C.length : Int) > 80 then (spec_GoodCow.j0 k true C roots ((m : Int) + 1)) else ((spec_l1In.f (roots.length : Int) 1 8).bind fun t122 => (spec_GoodCow.j0 k (!t122) C roots ((m : Int) + 1)))) else (spec_GoodCow.j0 k true C roots ((m : Int) + 1)))) b := fun b hb => by
          refine ev_bindc (in_dec _ 1 3) (ev_true (decide_eq_true hL) (ev_neg h80 (ev_bindc (in_dec _ 1 8) ?_)))
          rw [decide_eq_true hR]
          refine Ev.step (fun _ => spec_GoodCow.j0.eq_2 ..) (ev_neg (by simp) (ev_pos (by omega) (ev_pos (by omega) ?_)))
          rw [Int.toNat_natCast]
          exact hb
        rcases cow_join (C := C) (roots := roots) m hL.2 (by omega) hR.1 hR.2 with ⟨c, v, e, hc, e1, e2⟩ | ⟨e, h⟩
        · exact ⟨_, key _ (l0_ev C roots m hL.2 (by omega) hR.2 _ roots.length 0 _ c true (by omega) (by rw [List.drop_zero]; exact e1) (fun _ => l1_ev C roots c m hL.2 (by omega) hc hR.2 roots.length 0 _ v true (by omega) (by rw [List.drop_zero]; exact e2)) (by simp)), e⟩
        · rcases h with ⟨s, e1⟩ | ⟨s, a, e1, e2⟩
          · exact ⟨false, key _ (l0_ev C roots m hL.2 (by omega) hR.2 _ roots.length 0 _ s false (by omega) (by rw [List.drop_zero]; exact e1) (by simp) (fun _ => rfl)), e⟩
          · obtain ⟨b', s', f1, f2⟩ := loopK_tot (F := deepM C (m + 1)) (n := C.length) (deep_tot C m) roots (List.replicate C.length 0) (by simp)
            rw [e1] at f1
            simp only [Option.some.injEq, Prod.mk.injEq] at f1
            obtain ⟨_, rfl⟩ := f1
            exact ⟨false, key _ (l0_ev C roots m hL.2 (by omega) hR.2 _ roots.length 0 _ s true (by omega) (by rw [List.drop_zero]; exact e1) (fun _ => l1_ev C roots s m hL.2 (by omega) f2 hR.2 roots.length 0 _ a false (by omega) (by rw [List.drop_zero]; exact e2)) (by simp)), e⟩
      · refine ⟨false, ev_bindc (in_dec L 1 3) (ev_true (decide_eq_true hL) (ev_neg h80 (ev_bindc (in_dec _ 1 8) ?_))), ?_⟩
        · rw [decide_eq_false hR]
          exact Ev.step (fun _ => spec_GoodCow.j0.eq_2 ..) (ev_pos rfl (ev_ret rfl))
        · unfold goodC
          rw [if_pos hiL, if_neg h80, if_neg (by unfold inR; rw [decide_eq_false hR]; simp)]
  · refine ⟨false, ev_bindc (in_dec L 1 3) (ev_false (decide_eq_false hL) (Ev.step (fun _ => spec_GoodCow.j0.eq_2 ..) (ev_pos rfl (ev_ret rfl)))), ?_⟩
    unfold goodC
    rw [if_neg (by unfold inR; rw [decide_eq_false hL]; simp)]
section
variable {C : List S68} {roots : List Int} {L : Int}
theorem good_tree (h : goodC 100 C roots L = some true) : 1 ≤ L ∧ L ≤ 3 ∧ C.length ≤ 80 ∧ 1 ≤ (roots.length : Int) ∧ (roots.length : Int) ≤ 8 ∧ ∃ V c v, Inv C roots L V [] c v ∧ endM C c C.length 0 = true := by
  have h' := h
  unfold goodC at h'
  by_cases hL : inR L 1 3 = true
  · rw [if_pos hL] at h'
    by_cases h80 : (C.length : Int) > 80
    · rw [if_pos h80] at h'; cases h'
    · rw [if_neg h80] at h'
      by_cases hR : inR (roots.length : Int) 1 8 = true
      · have hL2 := of_decide_eq_true hL
        have hR2 := of_decide_eq_true hR
        refine ⟨hL2.1, hL2.2, by omega, hR2.1, hR2.2, ?_⟩
        rcases impl_out (C := C) (roots := roots) hL2.1 hL2.2 (by omega) hR2.1 hR2.2 with ⟨V, c, v, hI, e⟩ | ⟨_, e⟩
        · rw [h] at e
          exact ⟨V, c, v, hI, (Option.some.inj e).symm⟩
        · rw [h] at e; cases e
      · rw [if_neg hR] at h'; cases h'
  · rw [if_neg hL] at h'; cases h'
theorem Inv.root {V c v : List Int} (h : Inv C roots L V [] c v) : ∀ r ∈ roots, RefOK C v (r, L) := fun r hr => (h.rts r hr).elim id (fun e => by cases e)
theorem Inv.below {V c v : List Int} (h : Inv C roots L V [] c v) {k : Int} {m : Nat} (hk : RefOK C v (k, (m : Int) + 1)) (hne : k ≠ -1) :
    0 ≤ k ∧ k < (C.length : Int) ∧ goodB C.length (rd_T68 C k) ((m : Int) + 1) = true ∧ (rd_T68 C k).f2.length ≤ 4 ∧ (m = 0 → (rd_T68 C k).f2 = []) ∧ (m ≠ 0 → (rd_T68 C k).f2.length = 4) ∧ ∀ z ∈ (rd_T68 C k).f2, RefOK C v (z, (m : Int)) := by
  rcases hk with e | ⟨h0, h1, h2, h3⟩
  · exact absurd e hne
  · simp only at h0 h1 h2 h3
    have hV : k ∈ V := (h.vl k h0 h1).1 (by omega)
    obtain ⟨g, g1, g2⟩ := h.good k hV
    rw [h2] at g
    obtain ⟨q1, q2, q3⟩ := goodB_kids g
    refine ⟨h0, h1, g, q1, fun e => q2 (by omega), fun e => ?_, fun z hz => ?_⟩
    · have := good_node g (by omega)
      unfold okNode at this
      split at this
      · split at this
        · omega
        · cases this
      · cases this
    · rcases h.kid k hV z hz with e | e
      · rw [h2, show (m : Int) + 1 - 1 = (m : Int) by omega] at e
        exact e
      · cases e
theorem RefOK.zero {v : List Int} {k : Int} (h : RefOK C v (k, ((0 : Nat) : Int))) : k = -1 := by
  rcases h with e | ⟨_, _, _, e⟩
  · exact e
  · exact absurd rfl e
theorem rd_getD {l : List Int} {i : Nat} (h : i < l.length) : rd l (i : Int) = l[i] := by
  unfold rd
  rw [List.getD_eq_getElem?_getD, Int.toNat_natCast, List.getElem?_eq_getElem h]
  rfl
end
theorem is_root (C : List S68) (roots : List Int) (L a : Int) (b : Bool) (hr : b = true → (roots.length : Int) ≤ 8) (h : goodC 100 C roots L = some b) : impl_isRoot.f C roots L a = some (b && decide (0 ≤ a ∧ a < (roots.length : Int))) := by
  unfold impl_isRoot.f impl_GoodCow.f
  rw [h, Option.bind_some]
  cases b with
  | false => rfl
  | true =>
    have := hr rfl
    rw [if_pos rfl, within_inR, w64 (by omega) (by omega)]
    unfold inR
    simp only [Option.bind_some, Bool.true_and, Option.some.injEq]
    rw [decide_eq_decide]
    omega
abbrev CL := S68
abbrev CS (w : World) (base : Nat) (ok : Nat → Prop) (v : Value) (xs : List CL) : Prop := Kd.S k68 68 w base ok v xs
abbrev IR (w : World) (base : Nat) (ok : Nat → Prop) (v : Value) (xs : List Int) : Prop := (Kd.int .i64).R 3 w base ok v xs
theorem cl_M {w : World} {base : Nat} {ok : Nat → Prop} {x : CL} {cs : List Value} : k68.M w base ok x cs ↔ ∃ v, cs = [.int .i64 x.f0, .string x.f1, v] ∧ IR w base ok v x.f2 := by
 constructor
 ·rintro ⟨c0, c1, rfl, h0, c2, c3, rfl, h1, v, rfl, hR⟩
  have e0 : c0 = [.int .i64 x.f0] := h0
  have e1 : c2 = [.string x.f1] := h1
  subst e0 e1
  exact ⟨v, rfl, hR⟩
 ·rintro ⟨v, rfl, hR⟩
  exact ⟨[.int .i64 x.f0], [.string x.f1, v], rfl, rfl, [.string x.f1], [v], rfl, rfl, v, rfl, hR⟩
theorem rd_cl (xs : List CL) (i : Int) : rd_T68 xs i = xs.getD i.toNat z68 := rfl
theorem rd_cl_set {xs : List CL} {q : Nat} (h : q < xs.length) (x : CL) : rd_T68 (xs.set q x) (q : Int) = x := by
 rw [rd_cl, Int.toNat_natCast, List.getD_eq_getElem?_getD, List.getElem?_set_self h]
 rfl
theorem cs_elem {W : World} {base g n cap : Nat} {ok : Nat → Prop} {xs : List CL} (h : CS W base ok (.slice (some ⟨g, 0, none⟩) n cap) xs) (i : Int) (h0 : 0 ≤ i) (h1 : i < n) :
  ∃ (oki : Nat → Prop) (v : Value), W.cell? ⟨g, i.toNat * 3, none⟩ = some (.int .i64 (rd_T68 xs i).f0) ∧ W.cell? ⟨g, i.toNat * 3 + 1, none⟩ = some (.string (rd_T68 xs i).f1) ∧ W.cell? ⟨g, i.toNat * 3 + 2, none⟩ = some v ∧
   (∀ j, W.frozen? ⟨g, i.toNat * 3 + j, none⟩ = false) ∧ (∀ k, oki k → ok k ∧ k ≠ g) ∧ IR W base oki v (rd_T68 xs i).f2 ∧ Kd.H k68 68 W base ok (.slice (some ⟨g, 0, none⟩) n cap) xs i oki [.int .i64 (rd_T68 xs i).f0, .string (rd_T68 xs i).f1, v] := by
 obtain ⟨oki, c, hcl, hM, hcc, hfr, hoki, hH⟩ := Kd.S_elem h z68 i h0 h1
 rw [← rd_cl] at hM
 obtain ⟨v, rfl, hR⟩ := cl_M.1 hM
 exact ⟨oki, v, hcc 0 _ rfl, hcc 1 _ rfl, hcc 2 _ rfl, hfr, hoki, hR, hH⟩
theorem cs_len {W : World} {base : Nat} {ok : Nat → Prop} {A : Option Addr} {n cap : Nat} {xs : List CL} (h : CS W base ok (.slice A n cap) xs) : n = xs.length := (Kd.S_reads' h).1
theorem cs_put {W : World} {base g n cap : Nat} {ok oki okp : Nat → Prop} {xs : List CL} {i : Int} {c : List Value} (hH : Kd.H k68 68 W base ok (.slice (some ⟨g, 0, none⟩) n cap) xs i oki c) (h0 : 0 ≤ i) (h1 : i < n) (j : Nat) (hj : j < 3) (u : Value) (x' : CL)
  (hM : k68.M W base okp x' (c.take j ++ [u] ++ c.drop (j + 1))) (hok : ∀ k, okp k → oki k) :
  CS (W.setCell ⟨g, i.toNat * 3 + j, none⟩ u) base ok (.slice (some ⟨g, 0, none⟩) n cap) (xs.set i.toNat x') := by
 have := (Kd.S_seg (d := k68) (okg := fun _ => False) (seg := [u]) (j := j) (Kd.H_mono hH (fun k hk => ⟨hk, id⟩)) h0 h1 (by show j + 1 ≤ 3; omega) hM (fun k hk => .inl (hok k hk)) (fun _ hk => hk.elim)).1
 exact this
theorem cs_put0 {W : World} {base g n cap : Nat} {ok : Nat → Prop} {xs : List CL} (h : CS W base ok (.slice (some ⟨g, 0, none⟩) n cap) xs) (i : Int) (h0 : 0 ≤ i) (h1 : i < n) (x : Int) :
  CS (W.setCell ⟨g, i.toNat * 3, none⟩ (.int .i64 x)) base ok (.slice (some ⟨g, 0, none⟩) n cap) (xs.set i.toNat ⟨x, (rd_T68 xs i).f1, (rd_T68 xs i).f2⟩) := by
 obtain ⟨oki, v, _, _, _, _, _, hR, hH⟩ := cs_elem h i h0 h1
 exact cs_put hH h0 h1 0 (by omega) _ _ (cl_M.2 ⟨v, rfl, hR⟩) (fun _ hk => hk)
theorem cs_put1 {W : World} {base g n cap : Nat} {ok : Nat → Prop} {xs : List CL} (h : CS W base ok (.slice (some ⟨g, 0, none⟩) n cap) xs) (i : Int) (h0 : 0 ≤ i) (h1 : i < n) (x : ByteArray) :
  CS (W.setCell ⟨g, i.toNat * 3 + 1, none⟩ (.string x)) base ok (.slice (some ⟨g, 0, none⟩) n cap) (xs.set i.toNat ⟨(rd_T68 xs i).f0, x, (rd_T68 xs i).f2⟩) := by
 obtain ⟨oki, v, _, _, _, _, _, hR, hH⟩ := cs_elem h i h0 h1
 exact cs_put hH h0 h1 1 (by omega) _ _ (cl_M.2 ⟨v, rfl, hR⟩) (fun _ hk => hk)
theorem cs_inner {W : World} {base g n cap : Nat} {ok : Nat → Prop} {xs : List CL} (h : CS W base ok (.slice (some ⟨g, 0, none⟩) n cap) xs) (i : Int) (h0 : 0 ≤ i) (h1 : i < n) :
  ∃ v, W.cell? ⟨g, i.toNat * 3 + 2, none⟩ = some v ∧ IR W base (fun k => some k = v.ownBlock) v (rd_T68 xs i).f2 ∧ (∀ k, v.ownBlock = some k → ok k ∧ k ≠ g) ∧
   ∀ w1 r2, Kept W w1 (fun k => some k = v.ownBlock) → IR w1 base (fun _ => True) v r2 → CS w1 base ok (.slice (some ⟨g, 0, none⟩) n cap) (xs.set i.toNat ⟨(rd_T68 xs i).f0, (rd_T68 xs i).f1, r2⟩) := by
 obtain ⟨oki, v, _, _, hv, _, hoki, hR, hH⟩ := cs_elem h i h0 h1
 have hin : ∀ k, v.ownBlock = some k → oki k := fun k hk => hR.1 k hk
 refine ⟨v, hv, Kd.R_of_own (Kd.own_of_R hR) (fun k hk => hk.symm), fun k hk => hoki k (hin k hk), fun w1 r2 hk hR2 => ?_⟩
 refine Kd.H_back (Kd.H_kept hH hk (fun k _ hn hs => hn (hin k hs.symm))) (okp := oki) (cl_M.2 ⟨v, rfl, Kd.R_of_own (Kd.own_of_R hR2) hin⟩) (fun _ hk => hk)
theorem cs_all {W : World} {base g n cap : Nat} {ok okg : Nat → Prop} {xs : List CL} (h : CS W base (fun k => ok k ∧ ¬ okg k) (.slice (some ⟨g, 0, none⟩) n cap) xs) (i : Int) (h0 : 0 ≤ i) (h1 : i < n) (x : CL) (v : Value) (hv : IR W base okg v x.f2) (hg : ∀ k, okg k → ok k ∧ k ≠ g) :
  CS (((W.setCell ⟨g, i.toNat * 3, none⟩ (.int .i64 x.f0)).setCell ⟨g, i.toNat * 3 + 1, none⟩ (.string x.f1)).setCell ⟨g, i.toNat * 3 + 2, none⟩ v) base ok (.slice (some ⟨g, 0, none⟩) n cap) (xs.set i.toNat x) := by
 obtain ⟨oki, u, _, _, _, _, _, _, hH⟩ := cs_elem h i h0 h1
 have := (Kd.S_seg (d := k68) (okg := okg) (seg := [.int .i64 x.f0, .string x.f1, v]) (j := 0) hH h0 h1 (by show 0 + 3 ≤ 3; omega) (cl_M.2 ⟨v, rfl, hv⟩) (fun k hk => .inr hk) hg).1
 exact this
theorem cs_zero {W : World} {base g n cap : Nat} {ok : Nat → Prop} {xs : List CL} (h : CS W base ok (.slice (some ⟨g, 0, none⟩) n cap) xs) (i : Int) (h0 : 0 ≤ i) (h1 : i < n) :
  CS (((W.setCell ⟨g, i.toNat * 3, none⟩ (.int .i64 0)).setCell ⟨g, i.toNat * 3 + 1, none⟩ (.string ⟨#[]⟩)).setCell ⟨g, i.toNat * 3 + 2, none⟩ (.slice none 0 0)) base ok (.slice (some ⟨g, 0, none⟩) n cap) (xs.set i.toNat z68) :=
 cs_all (okg := fun _ => False) (Kd.S_mono h (fun _ hk => ⟨hk, id⟩)) i h0 h1 z68 (.slice none 0 0) (Kd.R_nil _ _ _ _ _) (fun _ hk => hk.elim)
open Go.RowKit Go.Proofs.YtacfalpgmibfnaaW.PrintWords Go.Proofs.YtacfalpgmibfnaaW.PrintLast Go.Proofs.YtacfalpgmibfnaaW.PrintMore
attribute [local go_sem] max2_int min2_int max_two min_two max_three min_three max_four min_four
set_option linter.unusedVariables false
set_option linter.unusedSimpArgs false
def spec_l14Own.l0 : Nat → List (S68) → List (S68) → Int → Int → List (S68) → List Int → Int → Option ((List (S68)) × List Int × Int)
 | 0, _, _, _, _, _, _, _ => none
 | k + 1, x3, x7, x8, x9, x399000, x399001, x399002 => if x9 < x8 then (if 0 ≤ x9 then (if x9 < (x7.length : Int) then ((some (([] : List Int) : List Int)).bind fun y402 => (if y402.length + ((rd_T68 x7 x9).f2).length < 17592186044416 then (if x3.length < 2932031007402 then (spec_l14Own.l0 k (x3 ++ [(⟨(rd_T68 x7 x9).f0, (rd_T68 x7 x9).f1, (y402 ++ ((rd_T68 x7 x9).f2))⟩ : S68)]) x7 x8 (wrap64 (x9 + 1)) x399000 x399001 x399002) else (none)) else (none))) else (none)) else (none)) else ((some (([] : List Int) : List Int)).bind fun y411 => (if y411.length + x399001.length < 17592186044416 then (some (x3, (y411 ++ x399001), x399002)) else (none)))
def spec_l14Own.f (k : Nat) (l0_0 : List (S68)) (l0_1 : List Int) (a0_2 : Int) : Option ((List (S68)) × List Int × Int) := spec_l14Own.l0 k ([] : List (S68)) l0_0 (l0_0.length : Int) 0 l0_0 l0_1 a0_2
set_option maxHeartbeats 8000000 in
set_option maxRecDepth 100000 in
theorem spec_l14Own.calls (k : Nat) (A0_0 : Option Addr) (c0_0 : Nat) (l0_0 : List (S68)) (A0_1 : Option Addr) (c0_1 : Nat) (l0_1 : List Int) (a0_2 : Int) (r1 : List (S68)) (r2 : List Int) (r3 : Int) (w : World) (hr0_0 : Kd.C k68 w A0_0 l0_0.length l0_0) (hc0_0 : l0_0.length ≤ c0_0) (hr0_1 : Kd.C (Kd.int .i64) w A0_1 l0_1.length l0_1) (hc0_1 : l0_1.length ≤ c0_1) (h : spec_l14Own.f k l0_0 l0_1 a0_2 = some (r1, r2, r3)) :
  Calls Try.prog 69 #[.agg #[.slice A0_0 l0_0.length c0_0, .slice A0_1 l0_1.length c0_1, .int .i64 a0_2]] w fun e w' => ∃ v0_ v1_ : Value, e = .returned (.agg #[v0_, v1_, .int .i64 r3]) ∧ Kd.S k68 68 w' w.heap.size (fun k_ => some k_ ≠ (v1_ : Value).ownBlock) v0_ r1 ∧ Kd.R (Kd.int .i64) 3 w' w.heap.size (fun _ => True) v1_ r2 ∧ Below w.heap.size w w' := by
 have hu25 := Try.underlying25
 have hu68 := Try.underlying68
 have HR0_0 := Aside0.mk hr0_0
 have HC0_0 := Aside0.mk hc0_0
 clear hr0_0 hc0_0
 have HR0_1 := Aside0.mk hr0_1
 have HC0_1 := Aside0.mk hc0_1
 clear hr0_1 hc0_1
 have HB := Aside0.mk (Below.refl w.heap.size w)
 have H : (spec_l14Own.l0 k ([] : List (S68)) l0_0 (l0_0.length : Int) 0 l0_0 l0_1 a0_2) = some (r1, r2, r3) := h
 clear h
 have H' := Aside0.mk H
 clear H
 go_enter Try.func69, Try.ntmps69
 go_wp2_with (first | ((with_reducible refine gate_dst (N := 1) rfl ?_); refine box_event ?hg (N := 1) ?hd (cs := #[.slice A0_0 l0_0.length c0_0, .slice A0_1 l0_1.length c0_1, .int .i64 a0_2]) (t := 25) ?hr ?_; (case hd => rfl); (case hg => rfl); (case hr => first | (go_simp; done) | (go_simp; rfl)); intro gb398 hg w2 hbox hb; have BK398 := Aside0.mk (hbox); have GW398 := Aside0.mk ((by rw [hg]; exact (below_size (by with_reducible repeat (first | exact HB.out | apply below_alloc | apply pw_below_drewN | apply below_drew1))) : w.heap.size ≤ gb398)); have GE398 := Aside0.mk ((by rw [hg]; exact (below_size (by with_reducible repeat (first | exact HB.out | apply below_alloc | apply pw_below_drewN | apply below_drew1))) : w.heap.size ≤ gb398)); replace HB := Aside0.mk (below_step (by with_reducible repeat (first | exact HB.out | apply below_alloc | apply pw_below_drewN | apply below_drew1)) hb); clear hb hbox hg) | ((with_reducible refine gate_dst (N := 2) rfl ?_); refine box_event ?hg (N := 2) ?hd (cs := #[.slice none 0 0, .slice none 0 0, .int .i64 0]) (t := 25) ?hr ?_; (case hd => rfl); (case hg => rfl); (case hr => first | (go_simp; done) | (go_simp; rfl)); intro gb399 hg w3 hbox hb; have BK399 := Aside0.mk (hbox); have GW399 := Aside0.mk ((by rw [hg]; exact (below_size (by with_reducible repeat (first | exact HB.out | apply below_alloc | apply pw_below_drewN | apply below_drew1 | refine below_set ?_ GE398.out))) : w.heap.size ≤ gb399)); have GE399 := Aside0.mk ((by rw [hg]; exact (below_size (by with_reducible repeat (first | exact HB.out | apply below_alloc | apply pw_below_drewN | apply below_drew1 | refine below_set ?_ GE398.out))) : w.heap.size ≤ gb399)); replace HB := Aside0.mk (below_step (by with_reducible repeat (first | exact HB.out | apply below_alloc | apply pw_below_drewN | apply below_drew1 | refine below_set ?_ GE398.out)) hb); have NB398_399 := Aside0.mk ((by rw [hg]; exact Nat.ne_of_lt (blk_lt (g := gb398) (o := .cells #[.slice A0_0 l0_0.length c0_0, .slice A0_1 l0_1.length c0_1, .int .i64 a0_2] 25 (0, 0)) (by (with_reducible repeat (first | refine blk_drewN ?_ _ | refine blk_drew ?_ | refine blk_alloc ?_ _)); exact BK398.out)) : gb398 ≠ gb399)); have NB399_398 := Aside0.mk ((by rw [hg]; exact Nat.ne_of_gt (blk_lt (g := gb398) (o := .cells #[.slice A0_0 l0_0.length c0_0, .slice A0_1 l0_1.length c0_1, .int .i64 a0_2] 25 (0, 0)) (by (with_reducible repeat (first | refine blk_drewN ?_ _ | refine blk_drew ?_ | refine blk_alloc ?_ _)); exact BK398.out)) : gb399 ≠ gb398)); replace BK398 := Aside0.mk (blk_below (g := gb398) (o := .cells #[.slice A0_0 l0_0.length c0_0, .slice A0_1 l0_1.length c0_1, .int .i64 a0_2] 25 (0, 0)) (by (with_reducible repeat (first | refine blk_drewN ?_ _ | refine blk_drew ?_ | refine blk_alloc ?_ _)); exact BK398.out) hb); clear hb hbox hg; have hnb4 := NB398_399.out; have hnc4 := NB399_398.out; have hcz5_0 : w3.cell? ⟨gb398, 0, none⟩ = some (.slice A0_0 l0_0.length c0_0) := (blk_cell BK398.out 0).trans rfl; have hcz5_1 : w3.cell? ⟨gb398, 1, none⟩ = some (.slice A0_1 l0_1.length c0_1) := (blk_cell BK398.out 1).trans rfl; have hcz5_2 : w3.cell? ⟨gb398, 2, none⟩ = some (.int .i64 a0_2) := (blk_cell BK398.out 2).trans rfl; have hfz5_0 := blk_frozen BK398.out 0; have hfz5_1 := blk_frozen BK398.out 1; have hfz5_2 := blk_frozen BK398.out 2))
 go_loopg [3, 9] k (fun kq v3 v9 w' => ∃ (x3_1 : List (S68)) (x9_1 : Int), v9 = .int .i64 x9_1 ∧ Aside0 (spec_l14Own.l0 kq x3_1 l0_0 (l0_0.length : Int) x9_1 l0_0 l0_1 a0_2 = some (r1, r2, r3)) ∧ Aside0 (kq ≤ k) ∧ Aside0 (Kd.S k68 68 w' w.heap.size (fun _ => True) v3 x3_1) ∧ Aside0 (w'.heap[gb398]? = some (.cells #[(.slice A0_0 l0_0.length c0_0), (.slice A0_1 l0_1.length c0_1), .int .i64 a0_2] 25 (0, 0))) ∧ Aside0 (w'.heap[gb399]? = some (.cells #[(.slice none 0 0), (.slice none 0 0), .int .i64 0] 25 (0, 0))) ∧ Aside0 (Below w.heap.size w w'))
 case atStart => exact ⟨(([] : List (S68))), (0), (by first | rfl | (simp; done) | (simp [*]; done)), H', ⟨Nat.le_refl _⟩, ⟨by first | exact Kd.S_nil _ _ _ _ _ | exact Kd.N_nil _ _ _ _ _ | exact Kd.V_nil _ _ _ _ _ | exact Kd.Q_nil _ _ _ _ _ | exact Kd.R_nil _ _ _ _ _⟩, ⟨by (with_reducible repeat (first | refine blk_drewN ?_ _ | refine blk_drew ?_ | refine blk_alloc ?_ _)); exact BK398.out⟩, ⟨by (with_reducible repeat (first | refine blk_drewN ?_ _ | refine blk_drew ?_ | refine blk_alloc ?_ _)); exact BK399.out⟩, ⟨by with_reducible repeat (first | exact HB.out | apply below_alloc | apply pw_below_drewN | apply below_drew1 | refine below_set ?_ GE398.out | refine below_set ?_ GE399.out)⟩⟩
 case round =>
  clear H'
  try clear p2
  try clear c4
  try clear hcz5_0
  try clear hcz5_1
  try clear hcz5_2
  try clear hfz5_0
  try clear hfz5_1
  try clear hfz5_2
  obtain ⟨x3_1, x9_1, rfl, HA, HK1, HO_3, BK398, BK399, HB⟩ := hrel
  cases gk with
  | zero => exact absurd HA.out (by simp [spec_l14Own.l0])
  | succ k1 =>
   have H := HA.out
   clear HA
   simp only [spec_l14Own.l0] at H
   by_cases c6 : x9_1 < (l0_0.length : Int)
   ·rw [if_pos c6] at H
    have c6b0 : decide (x9_1 < (l0_0.length : Int)) = true := decide_eq_true c6
    clear c6
    by_cases c7 : 0 ≤ x9_1
    ·rw [if_pos c7] at H
     have c7b0 : decide (0 ≤ x9_1) = true := decide_eq_true c7
     clear c7
     by_cases c8 : x9_1 < (l0_0.length : Int)
     ·rw [if_pos c8] at H
      have c8b0 : decide (x9_1 < (l0_0.length : Int)) = true := decide_eq_true c8
      clear c8
      obtain ⟨y402, hy402⟩ : ∃ y_ : List Int, y_ = (([] : List Int)) := ⟨_, rfl⟩
      replace H : (if y402.length + ((rd_T68 l0_0 x9_1).f2).length < 17592186044416 then (if x3_1.length < 2932031007402 then (spec_l14Own.l0 k1 (x3_1 ++ [(⟨(rd_T68 l0_0 x9_1).f0, (rd_T68 l0_0 x9_1).f1, (y402 ++ ((rd_T68 l0_0 x9_1).f2))⟩ : S68)]) l0_0 (l0_0.length : Int) (wrap64 (x9_1 + 1)) l0_0 l0_1 a0_2) else (none)) else (none)) = some (r1, r2, r3) := by first | (rw [hy402]; with_reducible exact H) | (have H2_ := (Option.bind_some _ _).symm.trans H; rw [hy402]; with_reducible exact H2_) | (have H2_ := (Option.bind_some _ _).symm.trans H; with_reducible exact H2_) | with_reducible exact H | (rw [hy402]; exact H) | exact H
      have Ny402 := Aside0.mk hy402
      clear hy402
      by_cases c9 : y402.length + ((rd_T68 l0_0 x9_1).f2).length < 17592186044416
      ·rw [if_pos c9] at H
       have LMc9 := Aside0.mk c9
       clear c9
       obtain ⟨y405, hy405⟩ : ∃ y_ : List Int, y_ = (y402 ++ ((rd_T68 l0_0 x9_1).f2)) := ⟨_, rfl⟩
       replace H : (if x3_1.length < 2932031007402 then (spec_l14Own.l0 k1 (x3_1 ++ [(⟨(rd_T68 l0_0 x9_1).f0, (rd_T68 l0_0 x9_1).f1, y405⟩ : S68)]) l0_0 (l0_0.length : Int) (wrap64 (x9_1 + 1)) l0_0 l0_1 a0_2) else (none)) = some (r1, r2, r3) := by first | (rw [hy405]; with_reducible exact H) | (have H2_ := (Option.bind_some _ _).symm.trans H; rw [hy405]; with_reducible exact H2_) | (have H2_ := (Option.bind_some _ _).symm.trans H; with_reducible exact H2_) | with_reducible exact H | (rw [hy405]; exact H) | exact H
       have Ny405 := Aside0.mk hy405
       clear hy405
       by_cases c10 : x3_1.length < 2932031007402
       ·rw [if_pos c10] at H
        have LMc10 := Aside0.mk c10
        clear c10
        obtain ⟨y408, hy408⟩ : ∃ y_ : List (S68), y_ = (x3_1 ++ [(⟨(rd_T68 l0_0 x9_1).f0, (rd_T68 l0_0 x9_1).f1, y405⟩ : S68)]) := ⟨_, rfl⟩
        replace H : (spec_l14Own.l0 k1 y408 l0_0 (l0_0.length : Int) (wrap64 (x9_1 + 1)) l0_0 l0_1 a0_2) = some (r1, r2, r3) := by first | (rw [hy408]; with_reducible exact H) | (have H2_ := (Option.bind_some _ _).symm.trans H; rw [hy408]; with_reducible exact H2_) | (have H2_ := (Option.bind_some _ _).symm.trans H; with_reducible exact H2_) | with_reducible exact H | (rw [hy408]; exact H) | exact H
        have Ny408 := Aside0.mk hy408
        clear hy408
        have H' := Aside0.mk H
        clear H
        have p400 : 0 ≤ (x9_1 : Int) := of_decide_eq_true (by assumption)
        have q400 : x9_1 < (l0_0.length : Int) := of_decide_eq_true (by assumption)
        obtain ⟨ad400, A400_2, c400_2, e400, hx400_0, hx400_1, hx400_2, hl400_2, hi400_2⟩ := at_T68 HR0_0.out x9_1 p400 q400
        cases e400
        replace hx400_0 := (HB.out.cell (World.block_lt_of_cell? w _ hx400_0)).trans hx400_0
        replace hx400_1 := (HB.out.cell (World.block_lt_of_cell? w _ hx400_1)).trans hx400_1
        replace hx400_2 := (HB.out.cell (World.block_lt_of_cell? w _ hx400_2)).trans hx400_2
        have HR400_2 := Aside0.mk hi400_2
        have HC400_2 := Aside0.mk hl400_2
        clear hi400_2 hl400_2
        replace p400 := eq_true p400
        replace q400 := eq_true q400
        go_wp2_with (first | ((with_reducible refine gate_dst (N := 5) rfl ?_); refine box_event ?hg (N := 5) ?hd (cs := #[.int .i64 0, .string (⟨#[]⟩ : ByteArray), .slice none 0 0]) (t := 68) ?hr ?_; (case hd => rfl); (case hg => rfl); (case hr => first | (go_simp; done) | (go_simp; rfl)); intro gb401 hg w11 hbox hb; replace HO_3 := Aside0.mk (Kd.S_below (Kd.S_elderB (by (with_reducible repeat (first | apply Kd.S_alloc | apply Kd.S_drewN | apply Kd.S_drew)); exact HO_3.out) gb401 (Nat.le_of_eq hg.symm)) hb); have BK401 := Aside0.mk (hbox); have GW401 := Aside0.mk ((by rw [hg]; exact (below_size (by with_reducible repeat (first | exact HB.out | apply below_alloc | apply pw_below_drewN | apply below_drew1 | refine below_set ?_ GE398.out | refine below_set ?_ GE399.out))) : w.heap.size ≤ gb401)); have GE401 := Aside0.mk ((by rw [hg]; exact (below_size (by with_reducible repeat (first | exact HB.out | apply below_alloc | apply pw_below_drewN | apply below_drew1 | refine below_set ?_ GE398.out | refine below_set ?_ GE399.out))) : w.heap.size ≤ gb401)); replace HB := Aside0.mk (below_step (by with_reducible repeat (first | exact HB.out | apply below_alloc | apply pw_below_drewN | apply below_drew1 | refine below_set ?_ GE398.out | refine below_set ?_ GE399.out)) hb); have NB398_401 := Aside0.mk ((by rw [hg]; exact Nat.ne_of_lt (blk_lt (g := gb398) (o := .cells #[.slice (some ad400) l0_0.length c0_0, .slice A0_1 l0_1.length c0_1, .int .i64 a0_2] 25 (0, 0)) (by (with_reducible repeat (first | refine blk_drewN ?_ _ | refine blk_drew ?_ | refine blk_alloc ?_ _)); exact BK398.out)) : gb398 ≠ gb401)); have NB401_398 := Aside0.mk ((by rw [hg]; exact Nat.ne_of_gt (blk_lt (g := gb398) (o := .cells #[.slice (some ad400) l0_0.length c0_0, .slice A0_1 l0_1.length c0_1, .int .i64 a0_2] 25 (0, 0)) (by (with_reducible repeat (first | refine blk_drewN ?_ _ | refine blk_drew ?_ | refine blk_alloc ?_ _)); exact BK398.out)) : gb401 ≠ gb398)); replace BK398 := Aside0.mk (blk_below (g := gb398) (o := .cells #[.slice (some ad400) l0_0.length c0_0, .slice A0_1 l0_1.length c0_1, .int .i64 a0_2] 25 (0, 0)) (by (with_reducible repeat (first | refine blk_drewN ?_ _ | refine blk_drew ?_ | refine blk_alloc ?_ _)); exact BK398.out) hb); have NB399_401 := Aside0.mk ((by rw [hg]; exact Nat.ne_of_lt (blk_lt (g := gb399) (o := .cells #[.slice none 0 0, .slice none 0 0, .int .i64 0] 25 (0, 0)) (by (with_reducible repeat (first | refine blk_drewN ?_ _ | refine blk_drew ?_ | refine blk_alloc ?_ _)); exact BK399.out)) : gb399 ≠ gb401)); have NB401_399 := Aside0.mk ((by rw [hg]; exact Nat.ne_of_gt (blk_lt (g := gb399) (o := .cells #[.slice none 0 0, .slice none 0 0, .int .i64 0] 25 (0, 0)) (by (with_reducible repeat (first | refine blk_drewN ?_ _ | refine blk_drew ?_ | refine blk_alloc ?_ _)); exact BK399.out)) : gb401 ≠ gb399)); replace BK399 := Aside0.mk (blk_below (g := gb399) (o := .cells #[.slice none 0 0, .slice none 0 0, .int .i64 0] 25 (0, 0)) (by (with_reducible repeat (first | refine blk_drewN ?_ _ | refine blk_drew ?_ | refine blk_alloc ?_ _)); exact BK399.out) hb); clear hb hbox hg; have hnb12 := NB401_398.out; have hnc12 := NB398_401.out; have hnb13 := NB401_399.out; have hnc13 := NB399_401.out; have hcz14_0 : w11.cell? ⟨gb401, 0, none⟩ = some (.int .i64 0) := (blk_cell BK401.out 0).trans rfl; have hcz14_1 : w11.cell? ⟨gb401, 1, none⟩ = some (.string (⟨#[]⟩ : ByteArray)) := (blk_cell BK401.out 1).trans rfl; have hcz14_2 : w11.cell? ⟨gb401, 2, none⟩ = some (.slice none 0 0) := (blk_cell BK401.out 2).trans rfl; have hfz14_0 := blk_frozen BK401.out 0; have hfz14_1 := blk_frozen BK401.out 1; have hfz14_2 := blk_frozen BK401.out 2) | ((with_reducible refine gate_dst (N := 13) rfl ?_); refine Kd.R_lit (Kd.int .i64) _ 3 ?hg (N := 13) ?hd (xs := ([] : List Int)) (inner := []) (ok := fun _ => True) (okp := fun _ => True) ?hr ?hp (fun _ hk => hk) trivial (Below.refl _ _) (Nat.le_refl _) (by simp) ?_; (case hd => rfl); (case hg => rfl); (case hr => first | (go_simp; done) | (go_simp; rfl)); (case hp => exact (Reps.none _ _)); intro v403 w15 ho16 hb hg_ hnew_; clear hg_ hnew_; (first | rw [← Ny402.out] at ho16 | (simp only [Int.reduceToNat] at ho16; rw [← Ny402.out] at ho16)); replace HO_3 := Aside0.mk (Kd.S_elder' (by (with_reducible repeat (first | apply Kd.S_alloc | apply Kd.S_drewN | apply Kd.S_drew)); exact (Kd.S_mono (Kd.S_far (p := ⟨gb401, 2, none⟩) (Kd.S_far (p := ⟨gb401, 1, none⟩) (Kd.S_far (p := ⟨gb401, 0, none⟩) (Kd.S_mono HO_3.out (fun k_ hk => (⟨hk, hk.2⟩ : _ ∧ k_ ≠ gb401))) (fun _ hk => hk.2) (.int .i64 ((rd_T68 l0_0 x9_1).f0))) (fun _ hk => hk.2) (.string ((rd_T68 l0_0 x9_1).f1))) (fun _ hk => hk.2) (.slice A400_2 ((rd_T68 l0_0 x9_1).f2).length c400_2)) (fun _ h_ => h_.1))) (Kd.R_base ho16) hb); have HO404 := Aside0.mk (Kd.R_lower ho16 (below_size (by with_reducible repeat (first | exact HB.out | apply below_alloc | apply pw_below_drewN | apply below_drew1 | refine below_set ?_ GE398.out | refine below_set ?_ GE399.out | refine below_set ?_ GE401.out)))); replace BK398 := Aside0.mk (blk_below (g := gb398) (o := .cells #[.slice (some ad400) l0_0.length c0_0, .slice A0_1 l0_1.length c0_1, .int .i64 a0_2] 25 (0, 0)) (by (with_reducible repeat (first | refine blk_drewN ?_ _ | refine blk_drew ?_ | refine blk_alloc ?_ _)); refine blk_far ?_ NB398_401.out _; (with_reducible repeat (first | refine blk_drewN ?_ _ | refine blk_drew ?_ | refine blk_alloc ?_ _)); refine blk_far ?_ NB398_401.out _; (with_reducible repeat (first | refine blk_drewN ?_ _ | refine blk_drew ?_ | refine blk_alloc ?_ _)); refine blk_far ?_ NB398_401.out _; (with_reducible repeat (first | refine blk_drewN ?_ _ | refine blk_drew ?_ | refine blk_alloc ?_ _)); exact BK398.out) hb); replace BK399 := Aside0.mk (blk_below (g := gb399) (o := .cells #[.slice none 0 0, .slice none 0 0, .int .i64 0] 25 (0, 0)) (by (with_reducible repeat (first | refine blk_drewN ?_ _ | refine blk_drew ?_ | refine blk_alloc ?_ _)); refine blk_far ?_ NB399_401.out _; (with_reducible repeat (first | refine blk_drewN ?_ _ | refine blk_drew ?_ | refine blk_alloc ?_ _)); refine blk_far ?_ NB399_401.out _; (with_reducible repeat (first | refine blk_drewN ?_ _ | refine blk_drew ?_ | refine blk_alloc ?_ _)); refine blk_far ?_ NB399_401.out _; (with_reducible repeat (first | refine blk_drewN ?_ _ | refine blk_drew ?_ | refine blk_alloc ?_ _)); exact BK399.out) hb); replace BK401 := Aside0.mk (blk_below (g := gb401) (o := .cells #[.int .i64 ((rd_T68 l0_0 x9_1).f0), .string ((rd_T68 l0_0 x9_1).f1), .slice A400_2 ((rd_T68 l0_0 x9_1).f2).length c400_2] 68 (0, 0)) (by (with_reducible repeat (first | refine blk_drewN ?_ _ | refine blk_drew ?_ | refine blk_alloc ?_ _)); refine blk_put (cs := #[.int .i64 ((rd_T68 l0_0 x9_1).f0), .string ((rd_T68 l0_0 x9_1).f1), .slice none 0 0]) ?_ 2 _ rfl; (with_reducible repeat (first | refine blk_drewN ?_ _ | refine blk_drew ?_ | refine blk_alloc ?_ _)); refine blk_put (cs := #[.int .i64 ((rd_T68 l0_0 x9_1).f0), .string (⟨#[]⟩ : ByteArray), .slice none 0 0]) ?_ 1 _ rfl; (with_reducible repeat (first | refine blk_drewN ?_ _ | refine blk_drew ?_ | refine blk_alloc ?_ _)); refine blk_put (cs := #[.int .i64 0, .string (⟨#[]⟩ : ByteArray), .slice none 0 0]) ?_ 0 _ rfl; (with_reducible repeat (first | refine blk_drewN ?_ _ | refine blk_drew ?_ | refine blk_alloc ?_ _)); exact BK401.out) hb); replace HB := Aside0.mk (below_step (by with_reducible repeat (first | exact HB.out | apply below_alloc | apply pw_below_drewN | apply below_drew1 | refine below_set ?_ GE398.out | refine below_set ?_ GE399.out | refine below_set ?_ GE401.out)) hb); clear hb ho16; have hcz17_0 : w15.cell? ⟨gb401, 0, none⟩ = some (.int .i64 ((rd_T68 l0_0 x9_1).f0)) := (blk_cell BK401.out 0).trans rfl; have hcz17_1 : w15.cell? ⟨gb401, 1, none⟩ = some (.string ((rd_T68 l0_0 x9_1).f1)) := (blk_cell BK401.out 1).trans rfl; have hcz17_2 : w15.cell? ⟨gb401, 2, none⟩ = some (.slice A400_2 ((rd_T68 l0_0 x9_1).f2).length c400_2) := (blk_cell BK401.out 2).trans rfl; have hfz17_0 := blk_frozen BK401.out 0; have hfz17_1 := blk_frozen BK401.out 1; have hfz17_2 := blk_frozen BK401.out 2) | ((with_reducible refine gate_builtin (b := .append) (xs := #[.tmp 13, .tmp 15]) rfl ?_); at_builtin; refine Kd.R_append_rows (Kd.int .i64) (w0 := w) w.heap.size rfl (.tmp 13) (.tmp 15) 23 3 (.int .i64 0) 8 rfl Try.underlying23 info3 rfl (by decide) (by omega) v403 y402 ((rd_T68 l0_0 x9_1).f2) _ _ _ (fun _ => True) (fun _ => False) rfl rfl ?aO ?aR (fun _ _ h => h) (fun _ h => h.elim) ?aF ?aB ?aS ?aL ?_; (case aR => repeat (first | exact (Kd.C_below HR400_2.out HB.out) | (with_reducible refine Kd.C_alloc ?_ _) | (with_reducible refine Kd.C_drewN ?_ _) | (with_reducible refine Kd.C_drew ?_))); (case aB => exact (by with_reducible repeat (first | exact HB.out | apply below_alloc | apply pw_below_drewN | apply below_drew1 | refine below_set ?_ GE398.out | refine below_set ?_ GE399.out | refine below_set ?_ GE401.out))); (case aF => exact (fun _ _ => trivial)); (case aO => exact (by (with_reducible repeat (first | apply Kd.R_alloc | apply Kd.R_drewN | apply Kd.R_drew)); exact HO404.out)); (case aS => exact (below_size (by with_reducible repeat (first | exact HB.out | apply below_alloc | apply pw_below_drewN | apply below_drew1 | refine below_set ?_ GE398.out | refine below_set ?_ GE399.out | refine below_set ?_ GE401.out)))); (case aL => have := LMc9.out; omega); intro v406 w18 ho hb hg hat; rw [← Ny405.out] at ho; replace HO_3 := Aside0.mk (Kd.S_after (ok := (fun k_ => k_ ≠ gb401)) (by (with_reducible repeat (first | apply Kd.S_alloc | apply Kd.S_drewN | apply Kd.S_drew)); exact Kd.S_mono HO_3.out (fun _ hk => ⟨hk.1.2, hk.2⟩)) hg hat); replace BK398 := Aside0.mk (blk_grown (g := gb398) (o := .cells #[.slice (some ad400) l0_0.length c0_0, .slice A0_1 l0_1.length c0_1, .int .i64 a0_2] 25 (0, 0)) (by (with_reducible repeat (first | refine blk_drewN ?_ _ | refine blk_drew ?_ | refine blk_alloc ?_ _)); exact BK398.out) hg (Kd.R_ne HO404.out BK398.out (by decide))); replace BK399 := Aside0.mk (blk_grown (g := gb399) (o := .cells #[.slice none 0 0, .slice none 0 0, .int .i64 0] 25 (0, 0)) (by (with_reducible repeat (first | refine blk_drewN ?_ _ | refine blk_drew ?_ | refine blk_alloc ?_ _)); exact BK399.out) hg (Kd.R_ne HO404.out BK399.out (by decide))); replace BK401 := Aside0.mk (blk_grown (g := gb401) (o := .cells #[.int .i64 ((rd_T68 l0_0 x9_1).f0), .string ((rd_T68 l0_0 x9_1).f1), .slice A400_2 ((rd_T68 l0_0 x9_1).f2).length c400_2] 68 (0, 0)) (by (with_reducible repeat (first | refine blk_drewN ?_ _ | refine blk_drew ?_ | refine blk_alloc ?_ _)); exact BK401.out) hg (Kd.R_ne HO404.out BK401.out (by decide))); replace HB := Aside0.mk (hb); have HO407 := Aside0.mk (ho); clear HO404; clear ho hb hg hat; obtain ⟨Ao19, co19, eo19⟩ := Kd.R_slice HO407.out; subst eo19; have hcz20_0 : w18.cell? ⟨gb401, 0, none⟩ = some (.int .i64 ((rd_T68 l0_0 x9_1).f0)) := (blk_cell BK401.out 0).trans rfl; have hcz20_1 : w18.cell? ⟨gb401, 1, none⟩ = some (.string ((rd_T68 l0_0 x9_1).f1)) := (blk_cell BK401.out 1).trans rfl; have hcz20_2 : w18.cell? ⟨gb401, 2, none⟩ = some (.slice A400_2 ((rd_T68 l0_0 x9_1).f2).length c400_2) := (blk_cell BK401.out 2).trans rfl; have hfz20_0 := blk_frozen BK401.out 0; have hfz20_1 := blk_frozen BK401.out 1; have hfz20_2 := blk_frozen BK401.out 2) | ((with_reducible refine gate_store (t := 23) (p := 17) rfl ?_); refine store_event (t := 23) (p := 17) (v := ?vo_w21) (w1 := (w18.setCell ⟨gb401, 2, none⟩ (.slice Ao19 y405.length co19))) ?hg ?ho ?hn ?hr ?_; (case ho => rfl); (case hg => rfl); (case hn => rfl); (case hr => first | (go_simp; done) | (go_simp; rfl)); intro w21 hw; have n0_ : Aside0 (Kd.S k68 68 w21 w.heap.size (fun k_ => some k_ ≠ (.slice Ao19 y405.length co19 : Value).ownBlock ∧ k_ ≠ gb401) u3 x3_1) := ⟨(by rw [hw]; exact (by (with_reducible repeat (first | apply Kd.S_alloc | apply Kd.S_drewN | apply Kd.S_drew)); exact Kd.S_mono (Kd.S_far (p := ⟨gb401, 2, none⟩) (Kd.S_mono HO_3.out (fun k_ hk => (⟨hk, hk.1⟩ : _ ∧ k_ ≠ gb401))) (fun _ hk => hk.2) (.slice Ao19 y405.length co19)) (fun _ hk => ⟨hk.1.2, hk.1.1⟩)))⟩; have n1_ : Aside0 (Kd.R (Kd.int .i64) 3 w21 w.heap.size (fun _ => True) (.slice Ao19 y405.length co19) y405) := ⟨(by rw [hw]; exact (by (with_reducible repeat (first | apply Kd.R_alloc | apply Kd.R_drewN | apply Kd.R_drew)); exact Kd.R_mono (Kd.R_far (p := ⟨gb401, 2, none⟩) (Kd.R_types HO407.out BK401.out (by decide)) (fun _ hk => hk.2) (.slice Ao19 y405.length co19)) (fun _ hk => trivial)))⟩; have n2_ : Aside0 (w21.heap[gb398]? = some (.cells #[.slice (some ad400) l0_0.length c0_0, .slice A0_1 l0_1.length c0_1, .int .i64 a0_2] 25 (0, 0))) := ⟨(by rw [hw]; exact (by (with_reducible repeat (first | refine blk_drewN ?_ _ | refine blk_drew ?_ | refine blk_alloc ?_ _)); refine blk_far ?_ NB398_401.out _; (with_reducible repeat (first | refine blk_drewN ?_ _ | refine blk_drew ?_ | refine blk_alloc ?_ _)); exact BK398.out))⟩; have n3_ : Aside0 (w21.heap[gb399]? = some (.cells #[.slice none 0 0, .slice none 0 0, .int .i64 0] 25 (0, 0))) := ⟨(by rw [hw]; exact (by (with_reducible repeat (first | refine blk_drewN ?_ _ | refine blk_drew ?_ | refine blk_alloc ?_ _)); refine blk_far ?_ NB399_401.out _; (with_reducible repeat (first | refine blk_drewN ?_ _ | refine blk_drew ?_ | refine blk_alloc ?_ _)); exact BK399.out))⟩; have n4_ : Aside0 (w21.heap[gb401]? = some (.cells #[.int .i64 ((rd_T68 l0_0 x9_1).f0), .string ((rd_T68 l0_0 x9_1).f1), .slice Ao19 y405.length co19] 68 (0, 0))) := ⟨(by rw [hw]; exact (by (with_reducible repeat (first | refine blk_drewN ?_ _ | refine blk_drew ?_ | refine blk_alloc ?_ _)); refine blk_put (cs := #[.int .i64 ((rd_T68 l0_0 x9_1).f0), .string ((rd_T68 l0_0 x9_1).f1), .slice A400_2 ((rd_T68 l0_0 x9_1).f2).length c400_2]) ?_ 2 _ rfl; (with_reducible repeat (first | refine blk_drewN ?_ _ | refine blk_drew ?_ | refine blk_alloc ?_ _)); exact BK401.out))⟩; have n5_ : Aside0 (Below w.heap.size w w21) := ⟨(by rw [hw]; exact (by with_reducible repeat (first | exact HB.out | apply below_alloc | apply pw_below_drewN | apply below_drew1 | refine below_set ?_ GE398.out | refine below_set ?_ GE399.out | refine below_set ?_ GE401.out)))⟩; clear hw; clear HO_3; clear HO407; clear BK398; clear BK399; clear BK401; clear HB; have HO_3 := n0_; have HO407 := n1_; have BK398 := n2_; have BK399 := n3_; have BK401 := n4_; have HB := n5_; clear n0_ n1_ n2_ n3_ n4_ n5_; have hcz22_0 : w21.cell? ⟨gb401, 0, none⟩ = some (.int .i64 ((rd_T68 l0_0 x9_1).f0)) := (blk_cell BK401.out 0).trans rfl; have hcz22_1 : w21.cell? ⟨gb401, 1, none⟩ = some (.string ((rd_T68 l0_0 x9_1).f1)) := (blk_cell BK401.out 1).trans rfl; have hcz22_2 : w21.cell? ⟨gb401, 2, none⟩ = some (.slice Ao19 y405.length co19) := (blk_cell BK401.out 2).trans rfl; have hfz22_0 := blk_frozen BK401.out 0; have hfz22_1 := blk_frozen BK401.out 1; have hfz22_2 := blk_frozen BK401.out 2) | ((with_reducible refine gate_builtin (b := .append) (xs := #[.tmp 18, .tmp 20]) rfl ?_); at_builtin; refine Kd.S_append k68 (w0 := w) w.heap.size rfl (.tmp 18) (.tmp 20) 22 68 (.agg #[(.int .i64 0), (.string ⟨#[]⟩), (.slice none 0 0)]) 48 rfl Try.underlying22 info68 rfl (by decide) (by omega) u3 x3_1 (⟨(rd_T68 l0_0 x9_1).f0, (rd_T68 l0_0 x9_1).f1, y405⟩ : S68) [.int .i64 ((rd_T68 l0_0 x9_1).f0), .string ((rd_T68 l0_0 x9_1).f1), .slice Ao19 y405.length co19] (fun k_ => k_ ≠ gb401) (fun k_ => some k_ = (.slice Ao19 y405.length co19 : Value).ownBlock) rfl rfl ?aP (fun k_ hk_ => ((Kd.R_mono (ok' := fun k_ => ((fun k_ => k_ ≠ gb401)) k_ ∧ some k_ ≠ (u3 : Value).ownBlock) (Kd.R_types (Kd.R_apart' (HO407.out) (Kd.S_typed HO_3.out) (by decide)) BK401.out (by decide)) (fun k_ hk => ⟨hk.2, hk.1.2⟩))).1 k_ hk_.symm) ?aF ?aO ?aB ?aS ?aL ?_; (case aP => exact k68_mkM _ _ _ (⟨(rd_T68 l0_0 x9_1).f0, (rd_T68 l0_0 x9_1).f1, y405⟩ : S68) (Kd.R_mono (Kd.R_tight rfl (Kd.R_mono (ok' := fun k_ => ((fun k_ => k_ ≠ gb401)) k_ ∧ some k_ ≠ (u3 : Value).ownBlock) (Kd.R_types (Kd.R_apart' (HO407.out) (Kd.S_typed HO_3.out) (by decide)) BK401.out (by decide)) (fun k_ hk => ⟨hk.2, hk.1.2⟩))) (fun _ h_ => h_))); (case aB => exact (by with_reducible repeat (first | exact HB.out | apply below_alloc | apply pw_below_drewN | apply below_drew1 | refine below_set ?_ GE398.out | refine below_set ?_ GE399.out | refine below_set ?_ GE401.out))); (case aF => exact (fun k_ hk => Kd.freshB (g := gb401) (o := .cells #[.int .i64 ((rd_T68 l0_0 x9_1).f0), .string ((rd_T68 l0_0 x9_1).f1), .slice Ao19 y405.length co19] 68 (0, 0)) (by (with_reducible repeat (first | refine blk_drewN ?_ _ | refine blk_drew ?_ | refine blk_alloc ?_ _)); exact BK401.out) k_ hk)); (case aO => exact (by (with_reducible repeat (first | apply Kd.S_alloc | apply Kd.S_drewN | apply Kd.S_drew)); exact Kd.S_mono HO_3.out (fun k_ hk => ⟨hk.2, fun e_ => hk.1 e_⟩))); (case aS => exact (below_size (by with_reducible repeat (first | exact HB.out | apply below_alloc | apply pw_below_drewN | apply below_drew1 | refine below_set ?_ GE398.out | refine below_set ?_ GE399.out | refine below_set ?_ GE401.out)))); (case aL => have := LMc10.out; omega); intro v409 w23 ho hb hg hat; rw [← Ny408.out] at ho; replace BK398 := Aside0.mk (blk_grown (g := gb398) (o := .cells #[.slice (some ad400) l0_0.length c0_0, .slice A0_1 l0_1.length c0_1, .int .i64 a0_2] 25 (0, 0)) (by (with_reducible repeat (first | refine blk_drewN ?_ _ | refine blk_drew ?_ | refine blk_alloc ?_ _)); exact BK398.out) hg (Kd.S_ne HO_3.out BK398.out (by decide))); replace BK399 := Aside0.mk (blk_grown (g := gb399) (o := .cells #[.slice none 0 0, .slice none 0 0, .int .i64 0] 25 (0, 0)) (by (with_reducible repeat (first | refine blk_drewN ?_ _ | refine blk_drew ?_ | refine blk_alloc ?_ _)); exact BK399.out) hg (Kd.S_ne HO_3.out BK399.out (by decide))); replace BK401 := Aside0.mk (blk_grown (g := gb401) (o := .cells #[.int .i64 ((rd_T68 l0_0 x9_1).f0), .string ((rd_T68 l0_0 x9_1).f1), .slice Ao19 y405.length co19] 68 (0, 0)) (by (with_reducible repeat (first | refine blk_drewN ?_ _ | refine blk_drew ?_ | refine blk_alloc ?_ _)); exact BK401.out) hg (Kd.S_away HO_3.out (fun _ hk => hk.2))); replace HB := Aside0.mk (hb); have HO410 := Aside0.mk (ho); clear HO_3; clear HO407; clear ho hb hg hat))
        go_roundg k1
        case measure => have := HK1.out; omega
        case rel => exact ⟨(y408), (wrap64 (x9_1 + 1)), (by first | rfl | (simp; done) | (simp [*]; done)), H', ⟨by have := HK1.out; omega⟩, ⟨by (with_reducible repeat (first | apply Kd.S_alloc | apply Kd.S_drewN | apply Kd.S_drew)); exact Kd.S_mono HO410.out (fun _ hk => trivial)⟩, ⟨by (with_reducible repeat (first | refine blk_drewN ?_ _ | refine blk_drew ?_ | refine blk_alloc ?_ _)); exact BK398.out⟩, ⟨by (with_reducible repeat (first | refine blk_drewN ?_ _ | refine blk_drew ?_ | refine blk_alloc ?_ _)); exact BK399.out⟩, ⟨by with_reducible repeat (first | exact HB.out | apply below_alloc | apply pw_below_drewN | apply below_drew1 | refine below_set ?_ GE398.out | refine below_set ?_ GE399.out | refine below_set ?_ GE401.out)⟩⟩
       ·rw [if_neg c10] at H
        exact absurd H (by simp)
      ·rw [if_neg c9] at H
       exact absurd H (by simp)
     ·rw [if_neg c8] at H
      exact absurd H (by simp)
    ·rw [if_neg c7] at H
     exact absurd H (by simp)
   ·rw [if_neg c6] at H
    have c6b0 : decide (x9_1 < (l0_0.length : Int)) = false := decide_eq_false c6
    clear c6
    obtain ⟨y411, hy411⟩ : ∃ y_ : List Int, y_ = (([] : List Int)) := ⟨_, rfl⟩
    replace H : (if y411.length + l0_1.length < 17592186044416 then (some (x3_1, (y411 ++ l0_1), a0_2)) else (none)) = some (r1, r2, r3) := by first | (rw [hy411]; with_reducible exact H) | (have H2_ := (Option.bind_some _ _).symm.trans H; rw [hy411]; with_reducible exact H2_) | (have H2_ := (Option.bind_some _ _).symm.trans H; with_reducible exact H2_) | with_reducible exact H | (rw [hy411]; exact H) | exact H
    have Ny411 := Aside0.mk hy411
    clear hy411
    by_cases c24 : y411.length + l0_1.length < 17592186044416
    ·rw [if_pos c24] at H
     have LMc24 := Aside0.mk c24
     clear c24
     obtain ⟨y414, hy414⟩ : ∃ y_ : List Int, y_ = (y411 ++ l0_1) := ⟨_, rfl⟩
     replace H : (some (x3_1, y414, a0_2)) = some (r1, r2, r3) := by first | (rw [hy414]; with_reducible exact H) | (have H2_ := (Option.bind_some _ _).symm.trans H; rw [hy414]; with_reducible exact H2_) | (have H2_ := (Option.bind_some _ _).symm.trans H; with_reducible exact H2_) | with_reducible exact H | (rw [hy414]; exact H) | exact H
     have Ny414 := Aside0.mk hy414
     clear hy414
     simp only [Option.some.injEq, Prod.mk.injEq] at H
     obtain ⟨rfl, rfl, rfl⟩ := H
     obtain ⟨Ao25, co25, eo25⟩ := Kd.S_slice HO_3.out
     subst eo25
     have hnb26 := NB398_399.out
     have hnc26 := NB399_398.out
     have hcz27_0 : wr.cell? ⟨gb398, 0, none⟩ = some (.slice A0_0 l0_0.length c0_0) := (blk_cell BK398.out 0).trans rfl
     have hcz27_1 : wr.cell? ⟨gb398, 1, none⟩ = some (.slice A0_1 l0_1.length c0_1) := (blk_cell BK398.out 1).trans rfl
     have hcz27_2 : wr.cell? ⟨gb398, 2, none⟩ = some (.int .i64 a0_2) := (blk_cell BK398.out 2).trans rfl
     have hfz27_0 := blk_frozen BK398.out 0
     have hfz27_1 := blk_frozen BK398.out 1
     have hfz27_2 := blk_frozen BK398.out 2
     go_wp2_with (first | ((with_reducible refine gate_dst (N := 25) rfl ?_); refine Kd.R_lit (Kd.int .i64) _ 3 ?hg (N := 25) ?hd (xs := ([] : List Int)) (inner := []) (ok := fun _ => True) (okp := fun _ => True) ?hr ?hp (fun _ hk => hk) trivial (Below.refl _ _) (Nat.le_refl _) (by simp) ?_; (case hd => rfl); (case hg => rfl); (case hr => first | (go_simp; done) | (go_simp; rfl)); (case hp => exact (Reps.none _ _)); intro v412 w28 ho29 hb hg_ hnew_; clear hg_ hnew_; (first | rw [← Ny411.out] at ho29 | (simp only [Int.reduceToNat] at ho29; rw [← Ny411.out] at ho29)); replace HO_3 := Aside0.mk (Kd.S_elder' (by (with_reducible repeat (first | apply Kd.S_alloc | apply Kd.S_drewN | apply Kd.S_drew)); exact (Kd.S_mono (Kd.S_far (p := ⟨gb398, 0, none⟩) (Kd.S_types HO_3.out BK398.out (by decide)) (fun _ hk => hk.2) (.slice Ao25 x3_1.length co25)) (fun _ h_ => h_.1))) (Kd.R_base ho29) hb); have HO413 := Aside0.mk (Kd.R_lower ho29 (below_size (by with_reducible repeat (first | exact HB.out | apply below_alloc | apply pw_below_drewN | apply below_drew1 | refine below_set ?_ GE398.out | refine below_set ?_ GE399.out)))); replace BK398 := Aside0.mk (blk_below (g := gb398) (o := .cells #[.slice Ao25 x3_1.length co25, .slice A0_1 l0_1.length c0_1, .int .i64 a0_2] 25 (0, 0)) (by (with_reducible repeat (first | refine blk_drewN ?_ _ | refine blk_drew ?_ | refine blk_alloc ?_ _)); refine blk_put (cs := #[.slice A0_0 l0_0.length c0_0, .slice A0_1 l0_1.length c0_1, .int .i64 a0_2]) ?_ 0 _ rfl; (with_reducible repeat (first | refine blk_drewN ?_ _ | refine blk_drew ?_ | refine blk_alloc ?_ _)); exact BK398.out) hb); replace BK399 := Aside0.mk (blk_below (g := gb399) (o := .cells #[.slice none 0 0, .slice none 0 0, .int .i64 0] 25 (0, 0)) (by (with_reducible repeat (first | refine blk_drewN ?_ _ | refine blk_drew ?_ | refine blk_alloc ?_ _)); refine blk_far ?_ NB399_398.out _; (with_reducible repeat (first | refine blk_drewN ?_ _ | refine blk_drew ?_ | refine blk_alloc ?_ _)); exact BK399.out) hb); replace HB := Aside0.mk (below_step (by with_reducible repeat (first | exact HB.out | apply below_alloc | apply pw_below_drewN | apply below_drew1 | refine below_set ?_ GE398.out | refine below_set ?_ GE399.out)) hb); clear hb ho29; have hcz30_0 : w28.cell? ⟨gb398, 0, none⟩ = some (.slice Ao25 x3_1.length co25) := (blk_cell BK398.out 0).trans rfl; have hcz30_1 : w28.cell? ⟨gb398, 1, none⟩ = some (.slice A0_1 l0_1.length c0_1) := (blk_cell BK398.out 1).trans rfl; have hcz30_2 : w28.cell? ⟨gb398, 2, none⟩ = some (.int .i64 a0_2) := (blk_cell BK398.out 2).trans rfl; have hfz30_0 := blk_frozen BK398.out 0; have hfz30_1 := blk_frozen BK398.out 1; have hfz30_2 := blk_frozen BK398.out 2) | ((with_reducible refine gate_builtin (b := .append) (xs := #[.tmp 25, .tmp 27]) rfl ?_); at_builtin; refine Kd.R_append_rows (Kd.int .i64) (w0 := w) w.heap.size rfl (.tmp 25) (.tmp 27) 23 3 (.int .i64 0) 8 rfl Try.underlying23 info3 rfl (by decide) (by omega) v412 y411 l0_1 _ _ _ (fun _ => True) (fun _ => False) rfl rfl ?aO ?aR (fun _ _ h => h) (fun _ h => h.elim) ?aF ?aB ?aS ?aL ?_; (case aR => repeat (first | exact (Kd.C_below HR0_1.out HB.out) | (with_reducible refine Kd.C_alloc ?_ _) | (with_reducible refine Kd.C_drewN ?_ _) | (with_reducible refine Kd.C_drew ?_))); (case aB => exact (by with_reducible repeat (first | exact HB.out | apply below_alloc | apply pw_below_drewN | apply below_drew1 | refine below_set ?_ GE398.out | refine below_set ?_ GE399.out))); (case aF => exact (fun _ _ => trivial)); (case aO => exact (by (with_reducible repeat (first | apply Kd.R_alloc | apply Kd.R_drewN | apply Kd.R_drew)); exact HO413.out)); (case aS => exact (below_size (by with_reducible repeat (first | exact HB.out | apply below_alloc | apply pw_below_drewN | apply below_drew1 | refine below_set ?_ GE398.out | refine below_set ?_ GE399.out)))); (case aL => have := LMc24.out; omega); intro v415 w31 ho hb hg hat; rw [← Ny414.out] at ho; replace HO_3 := Aside0.mk (Kd.S_after (ok := (fun _ => True)) (by (with_reducible repeat (first | apply Kd.S_alloc | apply Kd.S_drewN | apply Kd.S_drew)); exact HO_3.out) hg hat); replace BK398 := Aside0.mk (blk_grown (g := gb398) (o := .cells #[.slice Ao25 x3_1.length co25, .slice A0_1 l0_1.length c0_1, .int .i64 a0_2] 25 (0, 0)) (by (with_reducible repeat (first | refine blk_drewN ?_ _ | refine blk_drew ?_ | refine blk_alloc ?_ _)); exact BK398.out) hg (Kd.R_ne HO413.out BK398.out (by decide))); replace BK399 := Aside0.mk (blk_grown (g := gb399) (o := .cells #[.slice none 0 0, .slice none 0 0, .int .i64 0] 25 (0, 0)) (by (with_reducible repeat (first | refine blk_drewN ?_ _ | refine blk_drew ?_ | refine blk_alloc ?_ _)); exact BK399.out) hg (Kd.R_ne HO413.out BK399.out (by decide))); replace HB := Aside0.mk (hb); have HO416 := Aside0.mk (ho); clear HO413; clear ho hb hg hat; obtain ⟨Ao32, co32, eo32⟩ := Kd.R_slice HO416.out; subst eo32; have hcz33_0 : w31.cell? ⟨gb398, 0, none⟩ = some (.slice Ao25 x3_1.length co25) := (blk_cell BK398.out 0).trans rfl; have hcz33_1 : w31.cell? ⟨gb398, 1, none⟩ = some (.slice A0_1 l0_1.length c0_1) := (blk_cell BK398.out 1).trans rfl; have hcz33_2 : w31.cell? ⟨gb398, 2, none⟩ = some (.int .i64 a0_2) := (blk_cell BK398.out 2).trans rfl; have hfz33_0 := blk_frozen BK398.out 0; have hfz33_1 := blk_frozen BK398.out 1; have hfz33_2 := blk_frozen BK398.out 2; have hcz34_0 : w31.cell? ⟨gb399, 0, none⟩ = some (.slice none 0 0) := (blk_cell BK399.out 0).trans rfl; have hcz34_1 : w31.cell? ⟨gb399, 1, none⟩ = some (.slice none 0 0) := (blk_cell BK399.out 1).trans rfl; have hcz34_2 : w31.cell? ⟨gb399, 2, none⟩ = some (.int .i64 0) := (blk_cell BK399.out 2).trans rfl; have hfz34_0 := blk_frozen BK399.out 0; have hfz34_1 := blk_frozen BK399.out 1; have hfz34_2 := blk_frozen BK399.out 2))
     refine bodyPost_ret (results_cell_row rfl _ _ gb399 25 #[.slice Ao25 x3_1.length co25, .slice Ao32 y414.length co32, .int .i64 a0_2] (0, 0) _ rfl (by (with_reducible repeat (first | refine blk_drewN ?_ _ | refine blk_drew ?_ | refine blk_alloc ?_ _)); refine blk_put (cs := #[.slice Ao25 x3_1.length co25, .slice Ao32 y414.length co32, .int .i64 0]) ?_ 2 _ rfl; (with_reducible repeat (first | refine blk_drewN ?_ _ | refine blk_drew ?_ | refine blk_alloc ?_ _)); refine blk_put (cs := #[.slice Ao25 x3_1.length co25, .slice none 0 0, .int .i64 0]) ?_ 1 _ rfl; (with_reducible repeat (first | refine blk_drewN ?_ _ | refine blk_drew ?_ | refine blk_alloc ?_ _)); refine blk_put (cs := #[.slice none 0 0, .slice none 0 0, .int .i64 0]) ?_ 0 _ rfl; (with_reducible repeat (first | refine blk_drewN ?_ _ | refine blk_drew ?_ | refine blk_alloc ?_ _)); refine blk_far ?_ NB399_398.out _; (with_reducible repeat (first | refine blk_drewN ?_ _ | refine blk_drew ?_ | refine blk_alloc ?_ _)); exact BK399.out) Try.underlying25 rfl (by kernel_rfl)) rfl ?_
     exact ⟨_, _, by first | rfl | (simp [errW_none, errW_some] <;> rfl) | (simp [*, errW_none, errW_some] <;> rfl) | (simp [E.isEmpty_bne]; done) | (rw [E.bne_empty]), by (with_reducible repeat (first | apply Kd.S_alloc | apply Kd.S_drewN | apply Kd.S_drew)); exact Kd.S_mono (Kd.S_far (p := ⟨gb399, 2, none⟩) (Kd.S_far (p := ⟨gb399, 1, none⟩) (Kd.S_far (p := ⟨gb399, 0, none⟩) (Kd.S_far (p := ⟨gb398, 1, none⟩) (Kd.S_types (Kd.S_types HO_3.out BK398.out (by decide)) BK399.out (by decide)) (fun _ hk => hk.1.2) (.slice Ao32 y414.length co32)) (fun _ hk => hk.2) (.slice Ao25 x3_1.length co25)) (fun _ hk => hk.2) (.slice Ao32 y414.length co32)) (fun _ hk => hk.2) (.int .i64 a0_2)) (fun _ hk => hk.1.1.2), by (with_reducible repeat (first | apply Kd.R_alloc | apply Kd.R_drewN | apply Kd.R_drew)); exact Kd.R_mono (Kd.R_far (p := ⟨gb399, 2, none⟩) (Kd.R_far (p := ⟨gb399, 1, none⟩) (Kd.R_far (p := ⟨gb399, 0, none⟩) (Kd.R_far (p := ⟨gb398, 1, none⟩) (Kd.R_types (Kd.R_types HO416.out BK398.out (by decide)) BK399.out (by decide)) (fun _ hk => hk.1.2) (.slice Ao32 y414.length co32)) (fun _ hk => hk.2) (.slice Ao25 x3_1.length co25)) (fun _ hk => hk.2) (.slice Ao32 y414.length co32)) (fun _ hk => hk.2) (.int .i64 a0_2)) (fun _ hk => trivial), by with_reducible repeat (first | exact HB.out | apply below_alloc | apply pw_below_drewN | apply below_drew1 | refine below_set ?_ GE398.out | refine below_set ?_ GE399.out)⟩
    ·rw [if_neg c24] at H
     exact absurd H (by simp)
theorem own_l (C : List CL) (R : List Int) (L : Int) (hn : C.length ≤ 1048576) (hk : ∀ x ∈ C, x.f2.length ≤ 1048576) (hr : R.length ≤ 1048576) : ∀ f i : Nat, i + f = C.length → Ev (fun k => spec_l14Own.l0 k (C.take i) C (C.length : Int) (i : Int) C R L) (C, R, L) := by
  intro f
  induction f with
  | zero =>
    intro i hi
    rw [List.take_of_length_le (by omega)]
    exact Ev.step (fun _ => spec_l14Own.l0.eq_2 ..) (ev_neg (by omega) (ev_some (ev_pos (by simp; omega) (ev_ret rfl))))
  | succ f ih =>
    intro i hi
    have hil : i < C.length := by omega
    have e : rd_T68 C (i : Int) = C[i] := by rw [rd_cl, Int.toNat_natCast, List.getD_eq_getElem?_getD, List.getElem?_eq_getElem hil]; rfl
    have hx := hk _ (List.getElem_mem hil)
    rw [← e] at hx
    have h1 := ih (i + 1) (by omega)
    rw [List.take_succ_eq_append_getElem hil, ← e] at h1
    refine Ev.step (fun _ => spec_l14Own.l0.eq_2 ..) (ev_pos (by omega) (ev_pos (by omega) (ev_pos (by omega) (ev_some (ev_pos (by simp; omega) (ev_pos (by rw [List.length_take]; omega) ?_))))))
    rw [w64 (x := (i : Int) + 1) (by omega) (by omega)]
    exact h1
theorem own_ev (C : List CL) (R : List Int) (L : Int) (hn : C.length ≤ 1048576) (hk : ∀ x ∈ C, x.f2.length ≤ 1048576) (hr : R.length ≤ 1048576) : Ev (fun k => spec_l14Own.f k C R L) (C, R, L) := by
  unfold spec_l14Own.f
  exact own_l C R L hn hk hr C.length 0 (by omega)
theorem l1In_root (a : Int) (roots : List Int) (h : (roots.length : Int) ≤ 8) : spec_l1In.f a 0 (wrap64 ((roots.length : Int) - 1)) = some (decide (0 ≤ a ∧ a < (roots.length : Int))) := by
  rw [w64 (x := (roots.length : Int) - 1) (by omega) (by omega), in_dec]
  congr 1
  rw [decide_eq_decide]
  omega
theorem root_ref {C : List CL} {roots : List Int} {L : Int} {V c v : List Int} (hI : Inv C roots L V [] c v) (a : Int) (h0 : 0 ≤ a) (h1 : a < (roots.length : Int)) : RefOK C v (rd roots a, L) := by
  have hl : a.toNat < roots.length := by omega
  have := hI.root _ (List.getElem_mem hl)
  rw [← rd_getD hl, show ((a.toNat : Nat) : Int) = a by omega] at this
  exact this
def loopD (F : List CL → Int → Option (List CL)) : List Int → List CL → Option (List CL)
 | [], C => some C
 | z :: r, C => (F C z).bind fun D => loopD F r D
def dropM : Nat → List CL → Int → Option (List CL)
 | 0, _, _ => none
 | m + 1, C, k => if k < 0 then some C else if k < (C.length : Int) then (if wrap64 ((rd_T68 C k).f0 - 1) > 0 then some (C.set k.toNat ⟨wrap64 ((rd_T68 C k).f0 - 1), (rd_T68 C k).f1, (rd_T68 C k).f2⟩) else loopD (dropM m) (rd_T68 C k).f2 (C.set k.toNat z68)) else none
theorem drop_cell {w0 w : World} {g n c : Nat} {P : Nat → Prop} {C : List CL} (hB : Below w0.heap.size w0 w) (hS : CS w w0.heap.size P (.slice (some ⟨g, 0, none⟩) n c) C) (k : Int) (h0 : 0 ≤ k) (h1 : k < (n : Int)) (x : Int) :
  ∃ A2 c2 w1 w2, w.setCell ⟨g, k.toNat * 3, none⟩ (.int .i64 x) = w1 ∧ ((w1.setCell ⟨g, k.toNat * 3, none⟩ (.int .i64 0)).setCell ⟨g, k.toNat * 3 + 1, none⟩ (.string ⟨#[]⟩)).setCell ⟨g, k.toNat * 3 + 2, none⟩ (.slice none 0 0) = w2 ∧
   w.cell? ⟨g, k.toNat * 3, none⟩ = some (.int .i64 (rd_T68 C k).f0) ∧ w.frozen? ⟨g, k.toNat * 3, none⟩ = false ∧
   w1.cell? ⟨g, k.toNat * 3, none⟩ = some (.int .i64 x) ∧ w1.cell? ⟨g, k.toNat * 3 + 1, none⟩ = some (.string (rd_T68 C k).f1) ∧ w1.cell? ⟨g, k.toNat * 3 + 2, none⟩ = some (.slice A2 (rd_T68 C k).f2.length c2) ∧
   w1.frozen? ⟨g, k.toNat * 3, none⟩ = false ∧ w1.frozen? ⟨g, k.toNat * 3 + 1, none⟩ = false ∧ w1.frozen? ⟨g, k.toNat * 3 + 2, none⟩ = false ∧
   Aside0 (CS w1 w0.heap.size P (.slice (some ⟨g, 0, none⟩) n c) (C.set k.toNat ⟨x, (rd_T68 C k).f1, (rd_T68 C k).f2⟩)) ∧ Aside0 (CS w2 w0.heap.size P (.slice (some ⟨g, 0, none⟩) n c) (C.set k.toNat z68)) ∧
   Aside0 (Below w0.heap.size w0 w1) ∧ Aside0 (Below w0.heap.size w0 w2) ∧ Aside0 (Kept w w1 (fun j => j = g)) ∧ Aside0 (Kept w w2 (fun j => j = g)) ∧
   Aside0 (∀ W, Kept w W (fun j => j = g ∨ ¬ P j) → (Kd.int .i64).C W A2 (rd_T68 C k).f2.length (rd_T68 C k).f2) ∧ (rd_T68 C k).f2.length ≤ c2 := by
 have hn := cs_len hS
 have hge := Kd.S_base hS g rfl
 obtain ⟨oki, v, e0, e1, e2, hfr, hoki, hR, hH⟩ := cs_elem hS k h0 h1
 obtain ⟨A2, c2, rfl⟩ := Kd.R_slice hR
 have S1 := cs_put0 hS k h0 h1 x
 have hkn : k.toNat < C.length := by omega
 have hrd : rd_T68 (C.set k.toNat ⟨x, (rd_T68 C k).f1, (rd_T68 C k).f2⟩) k = ⟨x, (rd_T68 C k).f1, (rd_T68 C k).f2⟩ := by
  have := rd_cl_set hkn (⟨x, (rd_T68 C k).f1, (rd_T68 C k).f2⟩ : CL)
  rwa [show ((k.toNat : Nat) : Int) = k by omega] at this
 obtain ⟨oki1, v1, f0, f1, f2, hfr1, _, _, _⟩ := cs_elem S1 k h0 h1
 rw [hrd] at f0 f1
 have f2' : (w.setCell ⟨g, k.toNat * 3, none⟩ (.int .i64 x)).cell? ⟨g, k.toNat * 3 + 2, none⟩ = some (.slice A2 (rd_T68 C k).f2.length c2) := by
  rw [World.cell?_setCell_other]
  ·exact e2
  ·intro e_; injection e_ with _ h_ _; omega
 have S2 := cs_zero S1 k h0 h1
 rw [List.set_set] at S2
 have B1 : Below w0.heap.size w0 (w.setCell ⟨g, k.toNat * 3, none⟩ (.int .i64 x)) := below_set hB hge
 have K1 : Kept w (w.setCell ⟨g, k.toNat * 3, none⟩ (.int .i64 x)) (fun j => j = g) := (Kept.refl w (fun j => j = g)).setCell (p := ⟨g, k.toNat * 3, none⟩) (.inl rfl) _
 refine ⟨A2, c2, _, _, rfl, rfl, e0, hfr 0, f0, f1, f2', hfr1 0, hfr1 1, hfr1 2, ⟨S1⟩, ⟨S2⟩, ⟨B1⟩, ⟨below_set (below_set (below_set B1 hge) hge) hge⟩, ⟨K1⟩, ⟨((K1.setCell (p := ⟨g, k.toNat * 3, none⟩) (.inl rfl) _).setCell (p := ⟨g, k.toNat * 3 + 1, none⟩) (.inl rfl) _).setCell (p := ⟨g, k.toNat * 3 + 2, none⟩) (.inl rfl) _⟩, ⟨Kd.C_kept_own hR (fun j hj e_ => e_.elim (hoki j hj).2 (fun h_ => h_ (hoki j hj).1))⟩, (Kd.R_reads' hR).2.1⟩
def slices_Clone_int_int.f (l0 : List Int) : Option (List Int) := if l0.length ≤ 1048576 then some l0 else none
set_option maxHeartbeats 2000000 in
set_option maxRecDepth 100000 in
theorem slices_Clone_int_int.calls (A0 : Option Addr) (c0 : Nat) (l0 : List Int) (r : List Int) (w : World) (hr0 : Kd.C (Kd.int .i64) w A0 l0.length l0) (hc0 : l0.length ≤ c0) (h : slices_Clone_int_int.f l0 = some r) :
  Calls Try.prog 87 #[.slice A0 l0.length c0] w fun e w' => ∃ v0_ : Value, e = .returned v0_ ∧ Kd.R (Kd.int .i64) 3 w' w.heap.size (fun _ => True) v0_ r ∧ Below w.heap.size w w' := by
 unfold slices_Clone_int_int.f at h
 by_cases hl : l0.length ≤ 1048576
 ·rw [if_pos hl] at h
  obtain rfl := Option.some.inj h
  have HR := Aside0.mk hr0
  have HL := Aside0.mk hl
  have q : ∀ (W : World) (a : Option Addr) (n c : Nat), (binOp .eql 23 (.slice a n c) (.slice none 0 0)).run Try.prog W = .ok (.bool a.isNone) W := fun W a n c => Lib.run_eql_slice_nil W 23 3 a n c 0 0 Try.underlying23
  clear hr0 h hl
  cases A0 with
  | none =>
   have hn : l0 = [] := by
    by_cases hp : 0 < l0.length
    ·obtain ⟨ad, e, _⟩ := HR.out.2.2 hp
     cases e
    ·exact List.eq_nil_of_length_eq_zero (by omega)
   subst hn
   go_enter Try.func87, Try.ntmps87
   go_wp2
   go_ret
   exact ⟨_, rfl, Kd.R_nil _ _ _ _ _, Below.refl _ _⟩
  | some ad =>
   go_enter Try.func87, Try.ntmps87
   go_wp2_with (first
    | ((with_reducible refine gate_dst (N := 5) rfl ?_); refine Kd.R_lit (Kd.int .i64) w.heap.size 3 ?hg (N := 5) ?hd (xs := ([] : List Int)) (inner := []) (ok := fun _ => True) (okp := fun _ => True) ?hr ?hp (fun _ hk => hk) trivial (Below.refl w.heap.size w) (Nat.le_refl _) (by simp) ?_; (case hd => rfl); (case hg => rfl); (case hr => first | (go_simp; done) | (go_simp; rfl)); (case hp => exact (Reps.none _ _)); intro v1 w1 ho1 hb1 hg_ hnew_; clear hg_ hnew_; have HO1 := Aside0.mk ho1; have HB1 := Aside0.mk hb1; clear ho1 hb1)
    | ((with_reducible refine gate_builtin (b := .append) (xs := #[.tmp 5, .tmp 6]) rfl ?_); at_builtin; refine Kd.R_append_rows (Kd.int .i64) (w0 := w) w.heap.size rfl (.tmp 5) (.tmp 6) 23 3 (.int .i64 0) 8 rfl Try.underlying23 info3 rfl (by decide) (by omega) v1 [] l0 _ _ _ (fun _ => True) (fun _ => False) rfl rfl HO1.out (Kd.C_below HR.out HB1.out) (fun _ _ h => h) (fun _ h => h.elim) (fun _ _ => trivial) HB1.out HB1.out.size (by have := HL.out; simp; omega) ?_; intro v2 w2 ho2 hb2 hg_ hat_; clear hg_ hat_; have HO2 := Aside0.mk ho2; have HB2 := Aside0.mk hb2; clear ho2 hb2))
   go_ret
   exact ⟨_, rfl, HO2.out, HB2.out⟩
 ·rw [if_neg hl] at h
  cases h
structure Out (W : World) (base gb : Nat) (C : List CL) (R : List Int) (L : Int) (v0 v1 : Value) : Prop where
 box : W.heap[gb]? = some (.cells #[v0, v1, .int .i64 L] 25 (0, 0))
 ge : base ≤ gb
 cs : CS W base (fun k => k ≠ gb ∧ some k ≠ v1.ownBlock) v0 C
 rs : IR W base (fun k => k ≠ gb) v1 R
def ownB (C : List CL) (R : List Int) : Bool := decide (C.length ≤ 1048576 ∧ R.length ≤ 1048576) && C.all fun x => decide (x.f2.length ≤ 1048576)
theorem ownB_out {C : List CL} {R : List Int} (h : ownB C R = true) : C.length ≤ 1048576 ∧ R.length ≤ 1048576 ∧ ∀ x ∈ C, x.f2.length ≤ 1048576 := by
 unfold ownB at h
 rw [Bool.and_eq_true] at h
 have h1 := of_decide_eq_true h.1
 exact ⟨h1.1, h1.2, fun x hx => of_decide_eq_true (List.all_eq_true.1 h.2 x hx)⟩
theorem ownB_of {C : List CL} {R : List Int} (h1 : C.length ≤ 1048576) (h2 : R.length ≤ 1048576) (h3 : ∀ x ∈ C, x.f2.length ≤ 1048576) : ownB C R = true := by
 unfold ownB
 rw [Bool.and_eq_true]
 exact ⟨decide_eq_true ⟨h1, h2⟩, List.all_eq_true.2 fun x hx => decide_eq_true (h3 x hx)⟩
theorem put3 {W : World} {g : Nat} {a b c : Value} (h : W.heap[g]? = some (.cells #[a, b, c] 25 (0, 0))) (x y z : Value) : (((W.setCell ⟨g, 0, none⟩ x).setCell ⟨g, 1, none⟩ y).setCell ⟨g, 2, none⟩ z).heap[g]? = some (.cells #[x, y, z] 25 (0, 0)) :=
 blk_put (cs := #[x, y, c]) (blk_put (cs := #[x, b, c]) (blk_put (cs := #[a, b, c]) h 0 x rfl) 1 y rfl) 2 z rfl
set_option maxHeartbeats 8000000 in
set_option maxRecDepth 100000 in
theorem ownCow_calls (A0 : Option Addr) (c0 : Nat) (C : List CL) (A1 : Option Addr) (c1 : Nat) (R : List Int) (L : Int) (w : World) (hr0 : Kd.C k68 w A0 C.length C) (hc0 : C.length ≤ c0) (hr1 : Kd.C (Kd.int .i64) w A1 R.length R) (hc1 : R.length ≤ c1) (hn : C.length ≤ 1048576) (hk : ∀ x ∈ C, x.f2.length ≤ 1048576) (hR : R.length ≤ 1048576) :
  Calls Try.prog 70 #[.agg #[.slice A0 C.length c0, .slice A1 R.length c1, .int .i64 L]] w fun e w' => ∃ gb v0 v1, e = .returned (.pointer (some ⟨gb, 0, none⟩)) ∧ Out w' w.heap.size gb C R L v0 v1 ∧ Below w.heap.size w w' := by
 have hu25 := Try.underlying25
 have hu68 := Try.underlying68
 have hu22 := Try.underlying22
 have HR0 := Aside0.mk hr0
 have HR1 := Aside0.mk hr1
 have HC0 := Aside0.mk hc0
 have HC1 := Aside0.mk hc1
 have HK := Aside0.mk hk
 have HN := Aside0.mk hn
 have HRL := Aside0.mk hR
 have hl : C.length ≤ 9223372036854775807 := by omega
 clear hr0 hr1 hc0 hc1 hk hR hn
 obtain ⟨W1, hW1⟩ : ∃ W, w.alloc (.cells #[.slice A0 C.length c0, .slice A1 R.length c1, .int .i64 L] 25) = W := ⟨_, rfl⟩
 have B1 := Aside0.mk (show Below w.heap.size w W1 by rw [← hW1]; exact below_alloc (Below.refl _ _) _)
 have X1 := Aside0.mk (show W1.heap[w.heap.size]? = some (.cells #[.slice A0 C.length c0, .slice A1 R.length c1, .int .i64 L] 25 (0, 0)) by rw [← hW1]; exact heap_alloc_new w _)
 have d0 : W1.cell? ⟨w.heap.size, 0, none⟩ = some (.slice A0 C.length c0) := (blk_cell X1.out 0).trans rfl
 have d1 : W1.cell? ⟨w.heap.size, 1, none⟩ = some (.slice A1 R.length c1) := (blk_cell X1.out 1).trans rfl
 have d2 : W1.cell? ⟨w.heap.size, 2, none⟩ = some (.int .i64 L) := (blk_cell X1.out 2).trans rfl
 have TT := Aside0.mk (slices_Clone_int_int.calls A1 c1 R R W1 (Kd.C_below HR1.out B1.out) HC1.out (by unfold slices_Clone_int_int.f; rw [if_pos HRL.out]))
 go_enter Try.func70, Try.ntmps70
 go_wp2
 clear TT hW1 d0 d1 d2
 refine start_ (n := 8) (S := fun w' => w'.cell? ⟨w.heap.size, 1, none⟩ = some (.slice A1 R.length c1) ∧ w'.cell? ⟨w.heap.size, 2, none⟩ = some (.int .i64 L)) (ds := []) #[false, false, false, false, false, false, false, false] (by kernel_rfl) rfl rfl ⟨(blk_cell X1.out 1).trans rfl, (blk_cell X1.out 2).trans rfl⟩ (fun hHeld => ?_)
 replace B1 := Aside0.mk (below_drew1 B1.out)
 replace X1 := Aside0.mk (blk_drew X1.out)
 generalize W1.drew = V1 at B1 X1 hHeld ⊢
 have TT := Aside0.mk (slices_Clone_int_int.calls A1 c1 R R V1 (Kd.C_below HR1.out B1.out) HC1.out (by unfold slices_Clone_int_int.f; rw [if_pos HRL.out]))
 refine take_ (i := 0) (N := some 6) (v := ?_) (a' := ?_) #[true, false, false, false, false, false, false, false] rfl rfl (by kernel_rfl) (fun _ _ _ h => h) (Or.inl ⟨by rfl, ?_⟩) hHeld ?_ ?_
 rotate_left
 ·rintro w' ⟨s0, s1⟩
  go_simp
  with_reducible rfl
 rotate_left
 ·simp only [apu_]
  rfl
 refine take_ (i := 1) (N := some 7) (v := ?_) (a' := ?_) #[true, true, false, false, false, false, false, false] rfl rfl (by kernel_rfl) (fun _ _ _ h => h) (Or.inl ⟨by rfl, ?_⟩) hHeld ?_ ?_
 rotate_left
 ·rintro w' ⟨s0, s1⟩
  go_simp
  with_reducible rfl
 rotate_left
 ·simp only [apu_]
  rfl
 refine take_ (i := 3) (N := some 9) (v := ?_) (a' := ?_) #[true, true, false, true, false, false, false, false] rfl rfl (by kernel_rfl) (fun _ _ _ h => h) (Or.inl ⟨by rfl, ?_⟩) hHeld ?_ ?_
 rotate_left
 ·rintro w' ⟨s0, s1⟩
  go_simp
  with_reducible rfl
 rotate_left
 ·simp only [apu_]
  rfl
 refine take_ (i := 4) (N := some 10) (v := ?_) (a' := ?_) #[true, true, false, true, true, false, false, false] rfl rfl (by kernel_rfl) (fun _ _ _ h => h) (Or.inl ⟨by rfl, ?_⟩) hHeld ?_ ?_
 rotate_left
 ·rintro w' ⟨s0, s1⟩
  go_simp
  with_reducible rfl
 rotate_left
 ·simp only [apu_]
  rfl
 refine one_ (i := 2) (N := some 8) #[true, true, true, true, true, false, false, false] rfl rfl (by kernel_rfl) (by decide) (fun K hK => ?_)
 refine goes_ Try.func87 (by kernel_rfl) rfl #[.slice A1 R.length c1] (by rfl) rfl rfl (by (try simp only [List.map_toArray, List.map_cons, List.map_nil]); first | done | rfl | (simp only [List.length_drop, List.length_take]; rfl)) ?_
 refine TT.out.mono ?_
 rintro e w2 ⟨v1, rfl, hr, hb⟩
 refine ⟨_, rfl, ?_⟩
 have B2 := Aside0.mk (below_step B1.out hb)
 have X2 := Aside0.mk (blk_below X1.out hb)
 have R2 := Aside0.mk (Kd.R_mono (Kd.R_bound (Kd.R_lower hr B1.out.size)) (fun k hk => hk.2.2.1) : IR w2 w.heap.size (fun k => k < w2.heap.size) v1 R)
 clear hr hb B1 X1 TT
 obtain ⟨A3, c3, rfl⟩ := Kd.R_slice R2.out
 refine hK.out _ _ ⟨(blk_cell X2.out 1).trans rfl, (blk_cell X2.out 2).trans rfl⟩ (fun hHeld => ?_)
 clear hK K
 refine norm_ (a' := ?_) ?_ ?_
 rotate_left
 ·show Act.put _ (some 8) _ = _
  simp only [apu_]
  rfl
 refine pure_ (i := 5) (N := some 11) (v := ?_) (a' := ?_) #[true, true, true, true, true, true, false, false] rfl rfl (by kernel_rfl) (fun _ _ _ h => h) (Or.inl ⟨by rfl, ?_⟩) ?_ ?_
 rotate_left
 ·intro w'
  go_simp
  with_reducible rfl
 rotate_left
 ·simp only [apu_]
  rfl
 refine one_ (i := 6) (N := some 12) #[true, true, true, true, true, true, true, false] rfl rfl (by kernel_rfl) (by decide) (fun K hK => ?_)
 refine box_step (by rfl) (N := 12) rfl (cs := #[.slice none 0 0, .slice A3 R.length c3, .int .i64 L]) (t := 25) (by first | (go_simp; done) | (go_simp; rfl)) ?_
 intro gb hgb W3 hG hb
 have B3 := Aside0.mk (below_step B2.out hb)
 have X3 := Aside0.mk (blk_below X2.out hb)
 have G3 := Aside0.mk hG
 have R3 := Aside0.mk (show IR W3 w.heap.size (fun k => k ≠ gb) (.slice A3 R.length c3) R from Kd.R_mono (Kd.R_below R2.out hb) (fun k hk => (by omega : k ≠ gb)))
 have GE := Aside0.mk (show w.heap.size ≤ gb by rw [hgb]; exact B2.out.size)
 have S3 := Aside0.mk (show CS W3 w.heap.size (fun k => k ≠ gb ∧ some k ≠ (Value.slice A3 R.length c3).ownBlock) (.slice none 0 0) [] from Kd.S_nil _ _ _ _ _)
 have hne := Aside0.mk (show w.heap.size ≠ gb from by have := blk_lt X2.out; omega)
 refine hK.out _ _ ⟨(blk_cell X3.out 1).trans rfl, (blk_cell X3.out 2).trans rfl⟩ (fun hHeld => ?_)
 clear hK K hG hb hgb B2 R2 X2
 refine norm_ (a' := ?_) ?_ ?_
 rotate_left
 ·show Act.put _ (some 12) _ = _
  simp only [apu_]
  rfl
 refine pure_ (i := 7) (N := some 3) (v := ?_) (a' := ?_) #[true, true, true, true, true, true, true, true] rfl rfl (by kernel_rfl) (fun _ _ _ h => h) (Or.inl ⟨by rfl, ?_⟩) ?_ ?_
 rotate_left
 ·intro w'
  go_simp
  with_reducible rfl
 rotate_left
 ·simp only [apu_]
  rfl
 refine done_ (by kernel_rfl) ?_
 clear hHeld
 have d0 : W3.cell? ⟨w.heap.size, 0, none⟩ = some (.slice A0 C.length c0) := (blk_cell X3.out 0).trans rfl
 go_wp2
 clear d0
 go_loopw [16] (fun vi wr => ∃ (q : Nat) (A9 : Option Addr) (c9 : Nat), q ≤ C.length ∧ vi = .int .i64 q ∧ Aside0 (wr.heap[w.heap.size]? = some (.cells #[.slice A0 C.length c0, .slice A1 R.length c1, .int .i64 L] 25 (0, 0))) ∧ Aside0 (wr.heap[gb]? = some (.cells #[.slice A9 q c9, .slice A3 R.length c3, .int .i64 L] 25 (0, 0))) ∧ Aside0 (CS wr w.heap.size (fun k => k ≠ gb ∧ some k ≠ (Value.slice A3 R.length c3).ownBlock) (.slice A9 q c9) (C.take q)) ∧ Aside0 (IR wr w.heap.size (fun k => k ≠ gb) (.slice A3 R.length c3) R) ∧ Aside0 (Below w.heap.size w wr)) (fun vi _ => C.length - (intOf vi).toNat)
 case atStart => exact ⟨0, none, 0, Nat.zero_le _, rfl, X3, G3, S3, R3, B3⟩
 case round =>
  clear X3 G3 S3 R3 B3
  obtain ⟨q, A9, c9, hq, rfl, X3, G3, S3, R3, B3⟩ := hrel
  by_cases hql : q < C.length
  ·have hqq : ((q : Int) < (C.length : Int)) = True := eq_true (by omega)
   obtain ⟨ad, A4, c4, e4, x0, x1, x2, hc4, hC4⟩ := at_T68 (Kd.C_below HR0.out B3.out) (q : Int) (by omega) (by omega)
   subst e4
   obtain ⟨x, hx⟩ : ∃ x, rd_T68 C (q : Int) = x := ⟨_, rfl⟩
   rw [hx] at x0 x1 x2 hc4 hC4
   simp only [Int.toNat_natCast] at x0 x1 x2
   have hxm : x ∈ C := by
    rw [← hx, rd_cl, Int.toNat_natCast, List.getD_eq_getElem?_getD, List.getElem?_eq_getElem hql]
    exact List.getElem_mem hql
   have HKL := Aside0.mk (HK.out x hxm)
   have hxe := Aside0.mk hx
   obtain ⟨V, hV⟩ : ∃ V, wr.alloc (.cells #[.int .i64 x.f0, .string x.f1, .slice A4 x.f2.length c4] 68) = V := ⟨_, rfl⟩
   have hb : Below wr.heap.size wr V := by rw [← hV]; exact below_alloc (Below.refl _ _) _
   have Y4 := Aside0.mk (show V.heap[wr.heap.size]? = some (.cells #[.int .i64 x.f0, .string x.f1, .slice A4 x.f2.length c4] 68 (0, 0)) by rw [← hV]; exact heap_alloc_new wr _)
   have LT := Aside0.mk (show V.heap.size = wr.heap.size + 1 by rw [← hV]; simp)
   have TT := Aside0.mk (slices_Clone_int_int.calls A4 c4 x.f2 x.f2 V (Kd.C_below hC4 hb) hc4 (by unfold slices_Clone_int_int.f; rw [if_pos HKL.out]))
   have X4 := Aside0.mk (blk_below X3.out hb)
   have G4 := Aside0.mk (blk_below G3.out hb)
   have S4 := Aside0.mk (Kd.S_below (Kd.S_elderB S3.out wr.heap.size (Nat.le_refl _)) hb)
   have R4 := Aside0.mk (Kd.R_below (Kd.R_mono (Kd.R_bound R3.out) (fun k hk => (⟨hk.1, by omega⟩ : k ≠ gb ∧ k ≠ wr.heap.size))) hb)
   have B4 := Aside0.mk (below_step B3.out hb)
   have GX := Aside0.mk (show gb ≠ wr.heap.size from Nat.ne_of_lt (blk_lt G3.out))
   have GL := Aside0.mk (show gb < wr.heap.size from blk_lt G3.out)
   have RN := Aside0.mk (show ∀ k, (Value.slice A3 R.length c3).ownBlock = some k → k ≠ gb from fun k hk => R3.out.1 k hk)
   have WX := Aside0.mk (show w.heap.size ≤ wr.heap.size from B3.out.size)
   clear hb hC4 hxm hx hc4 X3 G3 S3 R3 B3
   have y2 : V.cell? ⟨wr.heap.size, 2, none⟩ = some (.slice A4 x.f2.length c4) := (blk_cell Y4.out 2).trans rfl
   have HQ := Aside0.mk hql
   have HXQ := Aside0.mk (show C[q] = x from (by rw [← hxe.out, rd_cl, Int.toNat_natCast, List.getD_eq_getElem?_getD, List.getElem?_eq_getElem hql]; rfl))
   go_wp2_with (go_at_call 87; refine TT.out.mono ?_)
   rintro e w2 ⟨v2, rfl, hr, hb⟩
   clear TT hV y2
   obtain ⟨A6, c6, rfl⟩ := Kd.R_slice hr
   have NV := Aside0.mk (show ∀ k, (Value.slice A6 x.f2.length c6).ownBlock = some k → wr.heap.size < k from fun k hk => by have := Kd.R_base hr k hk; have := LT.out; omega)
   have NS := Aside0.mk (show ∀ k, (Value.slice A9 q c9).ownBlock = some k → k < wr.heap.size from fun k hk => by have h1 := Kd.S_lt S4.out k hk; have h2 := (Kd.S_R S4.out).1 k hk; have := LT.out; omega)
   have N1 := Aside0.mk (show ∀ k, (Value.slice A3 R.length c3).ownBlock = some k → k < wr.heap.size from fun k hk => by have h1 := Kd.R_lt R4.out k hk; have h2 := R4.out.1 k hk; have := LT.out; omega)
   obtain ⟨w3, hw3⟩ : ∃ W, w2.setCell ⟨wr.heap.size, 2, none⟩ (.slice A6 x.f2.length c6) = W := ⟨_, rfl⟩
   have Y5 := blk_below Y4.out hb
   have X5 := Aside0.mk (show w3.heap[w.heap.size]? = some (.cells #[.slice (some ad) C.length c0, .slice A1 R.length c1, .int .i64 L] 25 (0, 0)) by rw [← hw3]; exact blk_far (blk_below X4.out hb) (p := ⟨wr.heap.size, 2, none⟩) (by have := blk_lt (blk_below X4.out hb); show w.heap.size ≠ wr.heap.size; intro e_; rw [← e_] at Y5; rw [blk_below X4.out hb] at Y5; injection Y5 with h1; injection h1 with _ h2; exact absurd h2 (by decide)) _)
   have G5 := Aside0.mk (show w3.heap[gb]? = some (.cells #[.slice A9 q c9, .slice A3 R.length c3, .int .i64 L] 25 (0, 0)) by rw [← hw3]; exact blk_far (blk_below G4.out hb) (p := ⟨wr.heap.size, 2, none⟩) GX.out _)
   have Y6 := Aside0.mk (show w3.heap[wr.heap.size]? = some (.cells #[.int .i64 x.f0, .string x.f1, .slice A6 x.f2.length c6] 68 (0, 0)) by rw [← hw3]; exact blk_put (cs := #[.int .i64 x.f0, .string x.f1, .slice A4 x.f2.length c4]) Y5 2 _ rfl)
   have S5 := Aside0.mk (show CS w3 w.heap.size (fun k => ((k ≠ gb ∧ some k ≠ (Value.slice A3 R.length c3).ownBlock) ∧ k ≠ wr.heap.size) ∧ k < V.heap.size) (.slice A9 q c9) (C.take q) by rw [← hw3]; exact Kd.S_far (p := ⟨wr.heap.size, 2, none⟩) (Kd.S_below (Kd.S_mono (Kd.S_bound S4.out) (fun k hk => ⟨hk.1, hk.2.2.1⟩)) hb) (fun k hk => hk.1.2) _)
   have R5 := Aside0.mk (show IR w3 w.heap.size (fun k => k ≠ gb ∧ k ≠ wr.heap.size) (.slice A3 R.length c3) R by rw [← hw3]; exact Kd.R_far (p := ⟨wr.heap.size, 2, none⟩) (Kd.R_below R4.out hb) (fun k hk => hk.2) _)
   have K5 := Aside0.mk (show IR w3 w.heap.size (fun k => k ≠ wr.heap.size) (.slice A6 x.f2.length c6) x.f2 by rw [← hw3]; exact Kd.R_far (p := ⟨wr.heap.size, 2, none⟩) (Kd.R_of_own (Kd.own_of_R (Kd.R_lower hr B4.out.size)) (fun k hk => (by have := NV.out k hk; omega : k ≠ wr.heap.size))) (fun k hk => hk) _)
   have B5 := Aside0.mk (show Below w.heap.size w w3 by rw [← hw3]; exact below_set (below_step B4.out hb) WX.out)
   have y2 : w2.cell? ⟨wr.heap.size, 2, none⟩ = some (.slice A4 x.f2.length c4) := (blk_cell Y5 2).trans rfl
   have z2 : w2.frozen? ⟨wr.heap.size, 2, none⟩ = false := blk_frozen Y5 2
   clear Y5 hr hb Y4 X4 G4 S4 R4 B4
   go_wp2
   clear y2 z2 hw3
   refine start_ (n := 11) (S := fun w' => w'.cell? ⟨gb, 0, none⟩ = some (.slice A9 q c9) ∧ w'.cell? ⟨wr.heap.size, 0, none⟩ = some (.int .i64 x.f0) ∧ w'.cell? ⟨wr.heap.size, 1, none⟩ = some (.string x.f1) ∧ w'.cell? ⟨wr.heap.size, 2, none⟩ = some (.slice A6 x.f2.length c6)) (ds := [10]) #[false, false, false, false, false, false, false, false, false, false, false] (by kernel_rfl) rfl rfl ⟨(blk_cell G5.out 0).trans rfl, (blk_cell Y6.out 0).trans rfl, (blk_cell Y6.out 1).trans rfl, (blk_cell Y6.out 2).trans rfl⟩ (fun hHeld => ?_)
   replace X5 := Aside0.mk (blk_drew X5.out)
   replace G5 := Aside0.mk (blk_drew G5.out)
   replace Y6 := Aside0.mk (blk_drew Y6.out)
   replace S5 := Aside0.mk (Kd.S_drew S5.out)
   replace R5 := Aside0.mk (Kd.R_drew R5.out)
   replace K5 := Aside0.mk (Kd.R_drew K5.out)
   replace B5 := Aside0.mk (below_drew1 B5.out)
   generalize w3.drew = w7 at X5 G5 Y6 S5 R5 K5 B5 hHeld ⊢
   refine take_ (i := 0) (N := some 24) (v := ?_) (a' := ?_) #[true, false, false, false, false, false, false, false, false, false, false] rfl rfl (by kernel_rfl) (fun _ _ _ h => h) (Or.inl ⟨by rfl, ?_⟩) hHeld ?_ ?_
   rotate_left
   ·rintro w' ⟨s0, s1, s2, s3⟩
    go_simp
    with_reducible rfl
   rotate_left
   ·simp only [apu_]
    rfl
   refine take_ (i := 1) (N := some 25) (v := ?_) (a' := ?_) #[true, true, false, false, false, false, false, false, false, false, false] rfl rfl (by kernel_rfl) (fun _ _ _ h => h) (Or.inl ⟨by rfl, ?_⟩) hHeld ?_ ?_
   rotate_left
   ·rintro w' ⟨s0, s1, s2, s3⟩
    go_simp
    with_reducible rfl
   rotate_left
   ·simp only [apu_]
    rfl
   refine take_ (i := 2) (N := some 26) (v := ?_) (a' := ?_) #[true, true, true, false, false, false, false, false, false, false, false] rfl rfl (by kernel_rfl) (fun _ _ _ h => h) (Or.inl ⟨by rfl, ?_⟩) hHeld ?_ ?_
   rotate_left
   ·rintro w' ⟨s0, s1, s2, s3⟩
    go_simp
    with_reducible rfl
   rotate_left
   ·simp only [apu_]
    rfl
   refine take_ (i := 3) (N := some 27) (v := ?_) (a' := ?_) #[true, true, true, true, false, false, false, false, false, false, false] rfl rfl (by kernel_rfl) (fun _ _ _ h => h) (Or.inl ⟨by rfl, ?_⟩) hHeld ?_ ?_
   rotate_left
   ·rintro w' ⟨s0, s1, s2, s3⟩
    go_simp
    with_reducible rfl
   rotate_left
   ·simp only [apu_]
    rfl
   refine take_ (i := 4) (N := some 28) (v := ?_) (a' := ?_) #[true, true, true, true, true, false, false, false, false, false, false] rfl rfl (by kernel_rfl) (fun _ _ _ h => h) (Or.inl ⟨by rfl, ?_⟩) hHeld ?_ ?_
   rotate_left
   ·rintro w' ⟨s0, s1, s2, s3⟩
    go_simp
    with_reducible rfl
   rotate_left
   ·simp only [apu_]
    rfl
   refine take_ (i := 5) (N := some 29) (v := ?_) (a' := ?_) #[true, true, true, true, true, true, false, false, false, false, false] rfl rfl (by kernel_rfl) (fun _ _ _ h => h) (Or.inl ⟨by rfl, ?_⟩) hHeld ?_ ?_
   rotate_left
   ·rintro w' ⟨s0, s1, s2, s3⟩
    go_simp
    with_reducible rfl
   rotate_left
   ·simp only [apu_]
    rfl
   refine one_ (i := 6) (N := some 30) #[true, true, true, true, true, true, true, false, false, false, false] rfl rfl (by kernel_rfl) (by decide) (fun K hK => ?_)
   refine event_step (by rfl) (v := .slice (some ⟨w7.heap.size, 0, none⟩) 1 1) (w1 := w7.alloc (.cells #[.int .i64 x.f0, .string x.f1, .slice A6 x.f2.length c6] 68)) (by first | (go_simp; done) | (go_simp; rfl)) ?_
   have hb := below_alloc (Below.refl w7.heap.size w7) (.cells #[.int .i64 x.f0, .string x.f1, .slice A6 x.f2.length c6] 68)
   refine hK.out _ _ ⟨(blk_cell (blk_below G5.out hb) 0).trans rfl, (blk_cell (blk_below Y6.out hb) 0).trans rfl, (blk_cell (blk_below Y6.out hb) 1).trans rfl, (blk_cell (blk_below Y6.out hb) 2).trans rfl⟩ (fun hHeld => ?_)
   clear hb
   clear hK K
   refine norm_ (a' := ?_) ?_ ?_
   rotate_left
   ·show Act.put _ (some 30) _ = _
    simp only [apu_]
    rfl
   refine one_ (i := 7) (N := some 31) #[true, true, true, true, true, true, true, true, false, false, false] rfl rfl (by kernel_rfl) (by decide) (fun K hK => ?_)
   refine Kd.S_append_step k68 (w0 := w) (W := w7) w.heap.size (by rfl) (.tmp 28) (.tmp 30) 22 68 (.agg #[(.int .i64 0), (.string ⟨#[]⟩), (.slice none 0 0)]) 48 rfl Try.underlying22 info68 rfl (by decide) (by omega) (.slice A9 q c9) (C.take q) x [.int .i64 x.f0, .string x.f1, .slice A6 x.f2.length c6] (fun k => k ≠ gb ∧ some k ≠ (Value.slice A3 R.length c3).ownBlock) (fun k => some k = (Value.slice A6 x.f2.length c6).ownBlock) rfl rfl ?aP ?aK ?aF ?aO B5.out B5.out.size ?aL ?_
   case aP => exact cl_M.2 ⟨_, rfl, Kd.R_of_own (Kd.own_of_R K5.out) (fun k hk => hk.symm)⟩
   case aK => exact fun k hk => by have h1 := NV.out k hk.symm; have h2 := GL.out; exact ⟨⟨by omega, fun e_ => by have := N1.out k e_.symm; omega⟩, fun e_ => by have := NS.out k e_.symm; omega⟩
   case aF => exact fun k hk => ⟨by have := blk_lt G5.out; omega, fun e_ => by have := Kd.R_lt R5.out k e_.symm; omega⟩
   case aO => exact Kd.S_mono S5.out (fun k hk => ⟨hk.1.1, fun e_ => by have := NV.out k e_.symm; have := hk.2; have := LT.out; omega⟩)
   case aL => have := HN.out; have := HQ.out; rw [List.length_take]; omega
   intro v9 w9 ho hb hg hat
   have hn9 : some gb ≠ (.slice A9 q c9 : Value).ownBlock := fun e_ => by have := NS.out gb e_.symm; have h_ := (Kd.S_R S5.out).1 gb e_.symm; exact h_.1.1.1 rfl
   have X9 := Aside0.mk (blk_grown X5.out hg (Kd.S_ne S5.out X5.out (by decide)))
   have G9 := Aside0.mk (blk_grown G5.out hg hn9)
   have Y9 := Aside0.mk (blk_grown Y6.out hg (fun e_ => by have := NS.out _ e_.symm; omega))
   have R9 := Aside0.mk (Kd.R_grown (Kd.R_of_own (Kd.own_of_R R5.out) (fun k hk => hk.symm) : IR w7 w.heap.size (fun k => some k = (Value.slice A3 R.length c3).ownBlock) (.slice A3 R.length c3) R) hg (fun k hk e_ => (Kd.S_R S5.out).1 k e_.symm |>.1.1.2 hk))
   have B9 := Aside0.mk hb
   obtain ⟨A8, c8, rfl⟩ : ∃ A8 c8, v9 = .slice A8 (q + 1) c8 := by
    obtain ⟨A8, c8, e_⟩ := Kd.S_slice ho
    have hql := HQ.out
    exact ⟨A8, c8, by rw [e_, List.length_append, List.length_take]; congr 1; simp; omega⟩
   have S9 := Aside0.mk ho
   refine hK.out _ _ ⟨(blk_cell G9.out 0).trans rfl, (blk_cell Y9.out 0).trans rfl, (blk_cell Y9.out 1).trans rfl, (blk_cell Y9.out 2).trans rfl⟩ (fun hHeld => ?_)
   clear ho hb hg hat hn9 Y9 X5 G5 Y6 S5 R5 K5 B5
   clear hK K
   refine norm_ (a' := ?_) ?_ ?_
   rotate_left
   ·show Act.put _ (some 31) _ = _
    simp only [apu_]
    rfl
   refine pure_ (i := 8) (N := some 32) (v := ?_) (a' := ?_) #[true, true, true, true, true, true, true, true, true, false, false] rfl rfl (by kernel_rfl) (fun _ _ _ h => h) (Or.inl ⟨by rfl, ?_⟩) ?_ ?_
   rotate_left
   ·intro w'
    go_simp
    with_reducible rfl
   rotate_left
   ·simp only [apu_]
    rfl
   refine pure_ (i := 9) (N := some 33) (v := ?_) (a' := ?_) #[true, true, true, true, true, true, true, true, true, true, false] rfl rfl (by kernel_rfl) (fun _ _ _ h => h) (Or.inl ⟨by rfl, ?_⟩) ?_ ?_
   rotate_left
   ·intro w'
    go_simp
    with_reducible rfl
   rotate_left
   ·simp only [apu_]
    rfl
   have g0 : w9.cell? ⟨gb, 0, none⟩ = some (.slice A9 q c9) := (blk_cell G9.out 0).trans rfl
   have z0 : w9.frozen? ⟨gb, 0, none⟩ = false := blk_frozen G9.out 0
   refine last_ (i := 10) (N := none) #[true, true, true, true, true, true, true, true, true, true, true] rfl rfl (by kernel_rfl) (by decide) (fun K hK => ?_)
   refine skip_ (w1 := w9.setCell ⟨gb, 0, none⟩ (.slice A8 (q + 1) c8)) (by rfl) rfl ?_ ?_
   ·first | (go_simp; done) | (go_simp; rfl)
   clear g0 z0
   refine hK.out _ _ ?_
   clear hK K
   refine done_ (by kernel_rfl) ?_
   clear hHeld
   have hql := HQ.out
   have hxq : C.take q ++ [x] = C.take (q + 1) := by
    rw [List.take_succ_eq_append_getElem hql]
    congr 2
    exact HXQ.out.symm
   have X10 := Aside0.mk (blk_far X9.out (p := ⟨gb, 0, none⟩) hne.out (.slice A8 (q + 1) c8))
   have G10 := Aside0.mk (show (w9.setCell ⟨gb, 0, none⟩ (.slice A8 (q + 1) c8)).heap[gb]? = some (.cells #[.slice A8 (q + 1) c8, .slice A3 R.length c3, .int .i64 L] 25 (0, 0)) from blk_put (cs := #[.slice A9 q c9, .slice A3 R.length c3, .int .i64 L]) G9.out 0 _ rfl)
   have S10 := Aside0.mk (Kd.S_far (p := ⟨gb, 0, none⟩) S9.out (fun k hk => hk.1) (.slice A8 (q + 1) c8))
   have R10 := Aside0.mk (show IR (w9.setCell ⟨gb, 0, none⟩ (.slice A8 (q + 1) c8)) w.heap.size (fun k => k ≠ gb) (.slice A3 R.length c3) R from Kd.R_far (p := ⟨gb, 0, none⟩) (Kd.R_mono R9.out (fun k hk => by have := N1.out k hk.symm; exact fun e_ => RN.out k hk.symm e_)) (fun k hk => hk) _)
   have B10 := Aside0.mk ((below_set B9.out GE.out : Below w.heap.size w (w9.setCell ⟨gb, 0, none⟩ (.slice A8 (q + 1) c8))))
   clear X9 G9 S9 R9 B9
   rw [hxq] at S10
   generalize w9.setCell ⟨gb, 0, none⟩ (.slice A8 (q + 1) c8) = wE at X10 G10 S10 R10 B10 ⊢
   try go_wp2
   go_roundw
   case rel => exact ⟨q + 1, A8, c8, hql, by go_num, X10, G10, S10, R10, B10⟩
   case measure => simp [intOf]; omega
  ·have hqq : ((q : Int) < (C.length : Int)) = False := eq_false (by omega)
   have e : C.take q = C := List.take_of_length_le (by omega)
   rw [e] at S3
   clear hql
   go_wp2
   go_ret
   exact ⟨gb, _, _, rfl, ⟨G3.out, GE.out, S3.out, R3.out⟩, B3.out⟩
theorem ret_cow {w W : World} {gz : Nat} {a b c x y z : Value} {ok ok2 : Nat → Prop} {v0 v1 : Value} {C : List CL} {R : List Int} (hz : W.heap[gz]? = some (.cells #[a, b, c] 25 (0, 0))) (hge : w.heap.size ≤ gz) (hs : CS W w.heap.size ok v0 C) (hok : ∀ k, ok k → some k ≠ v1.ownBlock) (hr : IR W w.heap.size ok2 v1 R) (hb : Below w.heap.size w W) :
  Kd.S k68 68 (((W.setCell ⟨gz, 0, none⟩ x).setCell ⟨gz, 1, none⟩ y).setCell ⟨gz, 2, none⟩ z) w.heap.size (fun k_ => some k_ ≠ v1.ownBlock) v0 C ∧ Kd.R (Kd.int .i64) 3 (((W.setCell ⟨gz, 0, none⟩ x).setCell ⟨gz, 1, none⟩ y).setCell ⟨gz, 2, none⟩ z) w.heap.size (fun _ => True) v1 R ∧ Below w.heap.size w (((W.setCell ⟨gz, 0, none⟩ x).setCell ⟨gz, 1, none⟩ y).setCell ⟨gz, 2, none⟩ z) := by
 have h1 := Kd.S_types hs hz (by decide)
 have h2 := Kd.R_types hr hz (by decide)
 exact ⟨Kd.S_mono (Kd.S_far (p := ⟨gz, 2, none⟩) (Kd.S_far (p := ⟨gz, 1, none⟩) (Kd.S_far (p := ⟨gz, 0, none⟩) h1 (fun _ hk => hk.2) x) (fun _ hk => hk.2) y) (fun _ hk => hk.2) z) (fun k hk => hok k hk.1), Kd.R_mono (Kd.R_far (p := ⟨gz, 2, none⟩) (Kd.R_far (p := ⟨gz, 1, none⟩) (Kd.R_far (p := ⟨gz, 0, none⟩) h2 (fun _ hk => hk.2) x) (fun _ hk => hk.2) y) (fun _ hk => hk.2) z) (fun _ _ => trivial), below_set (below_set (below_set hb hge) hge) hge⟩
theorem drop_fold {w0 w W2 w5 w6 : World} {gz g n c n1 c1 : Nat} {A1 : Option Addr} {L : Int} {P : Nat → Prop} {D : List CL} {zb : Obj} (hw6 : ((w5.setCell ⟨w.heap.size, 0, none⟩ (.slice (some ⟨g, 0, none⟩) n c)).setCell ⟨w.heap.size, 1, none⟩ (.slice A1 n1 c1)).setCell ⟨w.heap.size, 2, none⟩ (.int .i64 L) = w6)
  (X5 : w5.heap[w.heap.size]? = some (.cells #[.slice (some ⟨g, 0, none⟩) n c, .slice A1 n1 c1, .int .i64 L] 25 (0, 0))) (Z5 : w5.heap[gz]? = some zb) (hne : gz ≠ w.heap.size) (hS : CS w5 w0.heap.size (fun j => P j ∧ j < w.heap.size) (.slice (some ⟨g, 0, none⟩) n c) D) (hB : Below w0.heap.size w0 w5) (hle : w0.heap.size ≤ w.heap.size) (hK : Kept w w5 (fun j => j = g)) (hKB : Kept W2 w5 (fun j => j = g ∨ ¬ (P j ∧ j < w.heap.size))) :
  w6.heap[w.heap.size]? = some (.cells #[.slice (some ⟨g, 0, none⟩) n c, .slice A1 n1 c1, .int .i64 L] 25 (0, 0)) ∧ w6.heap[gz]? = some zb ∧ CS w6 w0.heap.size (fun j => P j ∧ j < w.heap.size) (.slice (some ⟨g, 0, none⟩) n c) D ∧ Below w0.heap.size w0 w6 ∧ Kept w w6 (fun j => j = g) ∧ Kept W2 w6 (fun j => j = g ∨ ¬ (P j ∧ j < w.heap.size)) := by
 subst hw6
 refine ⟨put3 X5 _ _ _, ?_, ?_, below_set (below_set (below_set hB hle) hle) hle, ((hK.setCell (p := ⟨w.heap.size, 0, none⟩) (.inr (Nat.le_refl _)) _).setCell (p := ⟨w.heap.size, 1, none⟩) (.inr (Nat.le_refl _)) _).setCell (p := ⟨w.heap.size, 2, none⟩) (.inr (Nat.le_refl _)) _, ?_⟩
 ·exact (Below.heap_setCell _ ⟨w.heap.size, 2, none⟩ _ gz hne).trans ((Below.heap_setCell _ ⟨w.heap.size, 1, none⟩ _ gz hne).trans ((Below.heap_setCell _ ⟨w.heap.size, 0, none⟩ _ gz hne).trans Z5))
 ·exact Kd.S_far (p := ⟨w.heap.size, 2, none⟩) (Kd.S_far (p := ⟨w.heap.size, 1, none⟩) (Kd.S_far (p := ⟨w.heap.size, 0, none⟩) hS (fun j hj => Nat.ne_of_lt hj.2) _) (fun j hj => Nat.ne_of_lt hj.2) _) (fun j hj => Nat.ne_of_lt hj.2) _
 ·have h1 : ∀ j : Nat, j = w.heap.size → (j = g ∨ ¬ (P j ∧ j < w.heap.size)) := fun j hj => .inr (fun h => by omega)
  exact ((hKB.setCell (p := ⟨w.heap.size, 0, none⟩) (.inl (h1 _ rfl)) _).setCell (p := ⟨w.heap.size, 1, none⟩) (.inl (h1 _ rfl)) _).setCell (p := ⟨w.heap.size, 2, none⟩) (.inl (h1 _ rfl)) _
set_option maxHeartbeats 8000000 in
set_option maxRecDepth 100000 in
theorem drop_calls (L : Int) (n c n1 c1 : Nat) (A A1 : Option Addr) : ∀ (m : Nat) (C C' : List CL) (k : Int) (P : Nat → Prop) (w0 w : World) (hB : Below w0.heap.size w0 w) (hS : CS w w0.heap.size P (.slice A n c) C) (h : dropM m C k = some C'),
  Calls Try.prog 71 #[.agg #[.slice A n c, .slice A1 n1 c1, .int .i64 L], .int .i64 k] w fun e w' => e = .returned (.agg #[.slice A n c, .slice A1 n1 c1, .int .i64 L]) ∧ CS w' w0.heap.size P (.slice A n c) C' ∧ Below w0.heap.size w0 w' ∧ Kept w w' (fun j => some j = (Value.slice A n c).ownBlock) := by
 intro m
 induction m with
 | zero =>
  intro C C' k P w0 w hB hS h
  simp only [dropM] at h
  cases h
 | succ m ih =>
  intro C C' k P w0 w hB hS h
  have hu25 := Try.underlying25
  have hu68 := Try.underlying68
  have hu22 := Try.underlying22
  have hnl := cs_len hS
  have hl : n ≤ 9223372036854775807 := by have := (Kd.S_reads' hS).2.2.2.1; omega
  have IH := Aside0.mk ih
  have LO := Aside0.mk (show ∀ j, (Value.slice A n c).ownBlock = some j → j < w.heap.size from Kd.S_lt hS)
  have NL := Aside0.mk hnl
  clear hnl
  simp only [dropM] at h
  by_cases hk0 : k < 0
  ·rw [if_pos hk0] at h
   simp only [Option.some.injEq] at h
   subst h
   have t1 : (k < 0) = True := eq_true hk0
   have HS := Aside0.mk hS
   have HB := Aside0.mk hB
   clear hk0 ih hS hB
   go_enter Try.func71, Try.ntmps71
   go_wp2
   refine bodyPost_ret (results_cell_row rfl _ _ (w.heap.size + 1) 25 #[.slice A n c, .slice A1 n1 c1, .int .i64 L] (0, 0) _ rfl (by have h_ := heap_alloc_new (w.alloc (.cells #[.slice A n c, .slice A1 n1 c1, .int .i64 L] 25)) (.cells #[.slice A n c, .slice A1 n1 c1, .int .i64 L] 25); simpa using h_) Try.underlying25 rfl (by kernel_rfl)) rfl ?_
   exact ⟨rfl, Kd.S_alloc (Kd.S_alloc HS.out _) _, below_then HB.out HB.out.size (below_alloc (below_alloc (Below.refl _ _) _) _), ((Kept.refl _ _).alloc _).alloc _⟩
  rw [if_neg hk0] at h
  by_cases hkC : k < (C.length : Int)
  ·rw [if_pos hkC] at h
   have hnl := NL.out
   obtain ⟨g, cap, hv, hge, hlt, _⟩ := Kd.S_form hS (by omega)
   injection hv with hA hn_ hc
   subst hA hc
   clear hn_
   obtain ⟨x, hx⟩ : ∃ x, wrap64 ((rd_T68 C k).f0 - 1) = x := ⟨_, rfl⟩
   rw [hx] at h
   obtain ⟨W1, hW1⟩ : ∃ W, w.alloc (.cells #[.slice (some ⟨g, 0, none⟩) n c, .slice A1 n1 c1, .int .i64 L] 25) = W := ⟨_, rfl⟩
   obtain ⟨W2, hW2⟩ : ∃ W, W1.alloc (.cells #[.slice none 0 0, .slice none 0 0, .int .i64 0] 25) = W := ⟨_, rfl⟩
   have hb1 : Below w.heap.size w W1 := by rw [← hW1]; exact below_alloc (Below.refl _ _) _
   have hb2 : Below W1.heap.size W1 W2 := by rw [← hW2]; exact below_alloc (Below.refl _ _) _
   have X1 : W1.heap[w.heap.size]? = some (.cells #[.slice (some ⟨g, 0, none⟩) n c, .slice A1 n1 c1, .int .i64 L] 25 (0, 0)) := by rw [← hW1]; exact heap_alloc_new w _
   have Z1 : W2.heap[W1.heap.size]? = some (.cells #[.slice none 0 0, .slice none 0 0, .int .i64 0] 25 (0, 0)) := by rw [← hW2]; exact heap_alloc_new W1 _
   have hb := below_step hb1 hb2
   have hSS := Kd.S_below (Kd.S_mono (Kd.S_bound hS) (fun j hj => (⟨hj.1, hj.2.2.1⟩ : P j ∧ j < w.heap.size))) hb
   have hBB := below_then hB hB.size hb
   obtain ⟨A2, c2, w3, w4, hw3, hw4, e0, fr0, f0, f1, f2, fr1, fr2, fr3, S1, S2, B1, B2, K1, K2, HK, hc2⟩ := drop_cell hBB hSS k (by omega) (by omega) x
   have NB := Aside0.mk (show w.heap.size < W1.heap.size from blk_lt X1)
   have NG := Aside0.mk hlt
   have WB := Aside0.mk (show w0.heap.size ≤ w.heap.size from hB.size)
   have hng : w.heap.size ≠ g := by omega
   have hnz : W1.heap.size ≠ g := by have := NB.out; omega
   have X := Aside0.mk (blk_below X1 hb2)
   have Z := Aside0.mk Z1
   have X3 := Aside0.mk (blk_kept X.out K1.out hng)
   have X4 := Aside0.mk (blk_kept X.out K2.out hng)
   have Z3 := Aside0.mk (blk_kept Z1 K1.out hnz)
   have Z4 := Aside0.mk (blk_kept Z1 K2.out hnz)
   replace K1 := Aside0.mk ((Kept.of_below hb (fun j => j = g)).then_ K1.out (fun j hj => .inl hj))
   replace K2 := Aside0.mk ((Kept.of_below hb (fun j => j = g)).then_ K2.out (fun j hj => .inl hj))
   have HKs := Aside0.mk (show ∀ W, Kept W2 W (fun j => j = g ∨ ¬ (P j ∧ j < w.heap.size)) → (Kd.int .i64).C W A2 (rd_T68 C k).f2.length (rd_T68 C k).f2 from HK.out)
   have KB := Aside0.mk (show Kept W2 w4 (fun j => j = g ∨ ¬ (P j ∧ j < w.heap.size)) by refine Kept.mono (S := fun j => j = g) ?_ (fun j hj => .inl hj); rw [← hw4, ← hw3]; exact (((((Kept.refl W2 (fun j => j = g)).setCell (p := ⟨g, k.toNat * 3, none⟩) (.inl rfl) _).setCell (p := ⟨g, k.toNat * 3, none⟩) (.inl rfl) _).setCell (p := ⟨g, k.toNat * 3 + 1, none⟩) (.inl rfl) _).setCell (p := ⟨g, k.toNat * 3 + 2, none⟩) (.inl rfl) _))
   have d0 : W2.cell? ⟨w.heap.size, 0, none⟩ = some (.slice (some ⟨g, 0, none⟩) n c) := (blk_cell X.out 0).trans rfl
   have x0 : w3.cell? ⟨w.heap.size, 0, none⟩ = some (.slice (some ⟨g, 0, none⟩) n c) := (blk_cell X3.out 0).trans rfl
   have x1 : w3.cell? ⟨w.heap.size, 1, none⟩ = some (.slice A1 n1 c1) := (blk_cell X3.out 1).trans rfl
   have x2 : w3.cell? ⟨w.heap.size, 2, none⟩ = some (.int .i64 L) := (blk_cell X3.out 2).trans rfl
   have t1 : (k < 0) = False := eq_false hk0
   have t2 : (0 ≤ k) = True := eq_true (by omega)
   have t3 : (k < (n : Int)) = True := eq_true (by omega)
   have HH := Aside0.mk h
   have IH := Aside0.mk ih
   clear h hS hB hSS hBB hb hb1 hb2 X1 Z1 hng hnz hkC hk0 hnl hge hlt HK ih X Z
   by_cases hxp : x > 0
   ·have h := HH.out
    rw [if_pos hxp] at h
    simp only [Option.some.injEq] at h
    subst h
    have t4 : (x > 0) = True := eq_true hxp
    have t5 : (0 < x) = True := eq_true hxp
    have z0 : w3.cell? ⟨W1.heap.size, 0, none⟩ = some (.slice none 0 0) := (blk_cell Z3.out 0).trans rfl
    have z1 : w3.cell? ⟨W1.heap.size, 1, none⟩ = some (.slice none 0 0) := (blk_cell Z3.out 1).trans rfl
    have z2 : w3.cell? ⟨W1.heap.size, 2, none⟩ = some (.int .i64 0) := (blk_cell Z3.out 2).trans rfl
    have y0 := blk_frozen Z3.out 0
    have y1 := blk_frozen Z3.out 1
    have y2 := blk_frozen Z3.out 2
    clear hxp HH hw4
    go_enter Try.func71, Try.ntmps71
    go_wp2
    refine bodyPost_ret (results_cell_row rfl _ _ W1.heap.size 25 #[.slice (some ⟨g, 0, none⟩) n c, .slice A1 n1 c1, .int .i64 L] (0, 0) _ rfl (put3 Z3.out _ _ _) Try.underlying25 rfl (by kernel_rfl)) rfl ?_
    have hge : w0.heap.size ≤ W1.heap.size := by have := NB.out; have := WB.out; omega
    have hkz : ∀ j, j = W1.heap.size → j ≠ g := fun j hj => by have := NB.out; have := NG.out; omega
    exact ⟨rfl, Kd.S_mono (Kd.S_far (p := ⟨W1.heap.size, 2, none⟩) (Kd.S_far (p := ⟨W1.heap.size, 1, none⟩) (Kd.S_far (p := ⟨W1.heap.size, 0, none⟩) (Kd.S_types S1.out Z3.out (by decide)) (fun _ hj => hj.2) _) (fun _ hj => hj.2) _) (fun _ hj => hj.2) _) (fun _ hj => hj.1.1), below_set (below_set (below_set B1.out hge) hge) hge, (((K1.out.setCell (p := ⟨W1.heap.size, 0, none⟩) (.inr (Nat.le_of_lt NB.out)) _).setCell (p := ⟨W1.heap.size, 1, none⟩) (.inr (Nat.le_of_lt NB.out)) _).setCell (p := ⟨W1.heap.size, 2, none⟩) (.inr (Nat.le_of_lt NB.out)) _).mono (fun j hj => by rw [hj]; rfl)⟩
   ·have h := HH.out
    rw [if_neg hxp] at h
    have t4 : (x > 0) = False := eq_false hxp
    have t5 : (0 < x) = False := eq_false hxp
    obtain ⟨ks, hks⟩ : ∃ ks, (rd_T68 C k).f2 = ks := ⟨_, rfl⟩
    rw [hks] at h f2 HKs hc2
    have hkl : ks.length ≤ 9223372036854775807 := (HKs.out W2 (Kept.refl _ _)).2.1
    have HL := Aside0.mk h
    have x4 : w4.cell? ⟨w.heap.size, 0, none⟩ = some (.slice (some ⟨g, 0, none⟩) n c) := (blk_cell X4.out 0).trans rfl
    clear h hks hxp HH S1 B1 K1 X3 Z3
    go_enter Try.func71, Try.ntmps71
    go_wp2
    clear hw3 hw4 e0 fr0 f0 f1 f2 fr1 fr2 fr3 d0 x0 x1 x2 x4 hx hW1 hW2 t1 t2 t3 hc2
    generalize hgz : W1.heap.size = gz at *
    clear hgz
    go_loopw [41] (fun vi wr => ∃ (q : Nat) (D : List CL), q ≤ ks.length ∧ vi = .int .i64 q ∧ Aside0 (loopD (dropM m) (ks.drop q) D = some C') ∧ Aside0 (CS wr w0.heap.size (fun j => P j ∧ j < w.heap.size) (.slice (some ⟨g, 0, none⟩) n c) D) ∧ Aside0 (wr.heap[w.heap.size]? = some (.cells #[.slice (some ⟨g, 0, none⟩) n c, .slice A1 n1 c1, .int .i64 L] 25 (0, 0))) ∧ Aside0 (wr.heap[gz]? = some (.cells #[.slice none 0 0, .slice none 0 0, .int .i64 0] 25 (0, 0))) ∧ Aside0 (Below w0.heap.size w0 wr) ∧ Aside0 (Kept w wr (fun j => j = g)) ∧ Aside0 (Kept W2 wr (fun j => j = g ∨ ¬ (P j ∧ j < w.heap.size)))) (fun vi _ => ks.length - (intOf vi).toNat)
    case atStart => exact ⟨0, _, Nat.zero_le _, rfl, ⟨by rw [List.drop_zero]; exact HL.out⟩, S2, X4, Z4, B2, K2, KB⟩
    case round =>
     clear HL S2 X4 Z4 B2 K2 KB
     obtain ⟨q, D, hq, rfl, HL, S3, X3, Z3, B3, K3, KB⟩ := hrel
     have x0 : wr.cell? ⟨w.heap.size, 0, none⟩ = some (.slice (some ⟨g, 0, none⟩) n c) := (blk_cell X3.out 0).trans rfl
     have x1 : wr.cell? ⟨w.heap.size, 1, none⟩ = some (.slice A1 n1 c1) := (blk_cell X3.out 1).trans rfl
     have x2 : wr.cell? ⟨w.heap.size, 2, none⟩ = some (.int .i64 L) := (blk_cell X3.out 2).trans rfl
     by_cases hql : q < ks.length
     ·have hqq : ((q : Int) < (ks.length : Int)) = True := eq_true (by omega)
      obtain ⟨ad2, e3, hy⟩ := Kd.at_int (HKs.out wr KB.out) (q : Int) (by omega) (by omega)
      subst e3
      simp only [Int.toNat_natCast] at hy
      obtain ⟨z, hz⟩ : ∃ z, rd ks (q : Int) = z := ⟨_, rfl⟩
      rw [hz] at hy
      have hd : ks.drop q = z :: ks.drop (q + 1) := by
       rw [List.drop_eq_getElem_cons hql, ← hz]
       congr 1
       unfold rd
       rw [List.getD_eq_getElem?_getD, Int.toNat_natCast, List.getElem?_eq_getElem hql]
       rfl
      obtain ⟨D1, h1, h2⟩ := Option.bind_eq_some_iff.1 (show (dropM m D z).bind (fun E => loopD (dropM m) (ks.drop (q + 1)) E) = some C' by
       have := HL.out
       rw [hd] at this
       exact this)
      have H2 := Aside0.mk h2
      have TT := Aside0.mk (IH.out D D1 z _ w0 wr B3.out S3.out h1)
      have HQ := Aside0.mk hql
      clear h1 h2 hd hz HL
      go_wp2_with (go_at_call 71; refine TT.out.mono ?_; (first | rintro e w5 rfl hS5 hB5 hK5 | rintro e w5 ⟨rfl, hS5, hB5, hK5⟩); (have hk5 := hK5.mono (S' := fun j => j = g) (fun j hj => by injection hj)); (have X5 := blk_kept X3.out hk5 (by have := NG.out; omega)); (have Z5 := blk_kept Z3.out hk5 (by have := NG.out; have := NB.out; omega)); (have y0 : w5.cell? ⟨w.heap.size, 0, none⟩ = some (.slice (some ⟨g, 0, none⟩) n c) := (blk_cell X5 0).trans rfl); (have y1 : w5.cell? ⟨w.heap.size, 1, none⟩ = some (.slice A1 n1 c1) := (blk_cell X5 1).trans rfl); (have y2 : w5.cell? ⟨w.heap.size, 2, none⟩ = some (.int .i64 L) := (blk_cell X5 2).trans rfl); have r0 := blk_frozen X5 0; have r1 := blk_frozen X5 1; have r2 := blk_frozen X5 2; (obtain ⟨w6, hw6⟩ : ∃ W, ((w5.setCell ⟨w.heap.size, 0, none⟩ (.slice (some ⟨g, 0, none⟩) n c)).setCell ⟨w.heap.size, 1, none⟩ (.slice A1 n1 c1)).setCell ⟨w.heap.size, 2, none⟩ (.int .i64 L) = W := ⟨_, rfl⟩); (have F6 := Aside0.mk (drop_fold hw6 X5 Z5 (Nat.ne_of_gt NB.out) hS5 hB5 WB.out (K3.out.then_ hk5 (fun j hj => .inl hj)) (KB.out.then_ hk5 (fun j hj => .inl (.inl hj))))); clear hS5 hB5 hK5 hk5 X5 Z5 TT)
      obtain ⟨X6, Z6, S6, B6, K6, KB6⟩ := F6.out
      clear F6 hw6 y0 y1 y2 r0 r1 r2 x0 x1 x2 hy S3 X3 Z3 B3 K3 KB
      have hql := HQ.out
      go_roundw
      case rel => exact ⟨q + 1, D1, hql, by go_num, H2, ⟨S6⟩, ⟨X6⟩, ⟨Z6⟩, ⟨B6⟩, ⟨K6⟩, ⟨KB6⟩⟩
      case measure => simp [intOf]; omega
     ·have hqq : ((q : Int) < (ks.length : Int)) = False := eq_false (by omega)
      have h3 := HL.out
      rw [List.drop_of_length_le (by omega)] at h3
      simp only [loopD, Option.some.injEq] at h3
      subst h3
      have z0 : wr.cell? ⟨gz, 0, none⟩ = some (.slice none 0 0) := (blk_cell Z3.out 0).trans rfl
      have z1 : wr.cell? ⟨gz, 1, none⟩ = some (.slice none 0 0) := (blk_cell Z3.out 1).trans rfl
      have z2 : wr.cell? ⟨gz, 2, none⟩ = some (.int .i64 0) := (blk_cell Z3.out 2).trans rfl
      have y0 := blk_frozen Z3.out 0
      have y1 := blk_frozen Z3.out 1
      have y2 := blk_frozen Z3.out 2
      clear hql hq HL
      go_wp2
      refine bodyPost_ret (results_cell_row rfl _ _ gz 25 #[.slice (some ⟨g, 0, none⟩) n c, .slice A1 n1 c1, .int .i64 L] (0, 0) _ rfl (put3 Z3.out _ _ _) Try.underlying25 rfl (by kernel_rfl)) rfl ?_
      have hge : w0.heap.size ≤ gz := by have := NB.out; have := WB.out; omega
      exact ⟨rfl, Kd.S_mono (Kd.S_far (p := ⟨gz, 2, none⟩) (Kd.S_far (p := ⟨gz, 1, none⟩) (Kd.S_far (p := ⟨gz, 0, none⟩) (Kd.S_types S3.out Z3.out (by decide)) (fun _ hj => hj.2) _) (fun _ hj => hj.2) _) (fun _ hj => hj.2) _) (fun _ hj => hj.1.1), below_set (below_set (below_set B3.out hge) hge) hge, (((K3.out.setCell (p := ⟨gz, 0, none⟩) (.inr (Nat.le_of_lt NB.out)) _).setCell (p := ⟨gz, 1, none⟩) (.inr (Nat.le_of_lt NB.out)) _).setCell (p := ⟨gz, 2, none⟩) (.inr (Nat.le_of_lt NB.out)) _).mono (fun j hj => by rw [hj]; rfl)⟩
  ·rw [if_neg hkC] at h
   cases h
theorem int_drop {w : World} {g c m : Nat} {xs : List Int} (h : (Kd.int .i64).C w (some ⟨g, 0, none⟩) xs.length xs) (hm : m ≤ xs.length) (hc : xs.length ≤ c) : (Kd.int .i64).C w (if c = m then some ⟨g, 0, none⟩ else some ⟨g, m, none⟩) (xs.length - m) (xs.drop m) := by
 have h1 := Kd.C_drop (m := m) h hm hc
 rw [List.length_drop] at h1
 by_cases e : c = m
 ·rw [if_pos e] at h1 ⊢
  exact h1
 ·rw [if_neg e] at h1 ⊢
  have e2 : (some (⟨g, 0, none⟩ : Addr)).map (·.add (m * (Kd.int .i64).sz)) = some ⟨g, m, none⟩ := by
   show some ((⟨g, 0, none⟩ : Addr).add (m * 1)) = _
   simp [Addr.add]
   exact fun h_ => h_.symm
  rw [e2] at h1
  exact h1
def dropS (o : List CL × List Int × Int) (k root : Int) : Option (List CL × List Int × Int × Bool) :=
 if o.2.1.length ≤ 1048576 then (if 0 ≤ root ∧ root < (o.2.1.length : Int) then ((dropM 5 o.1 k).bind fun D => some (D, o.2.1.take root.toNat ++ o.2.1.drop (root.toNat + 1), o.2.2, true)) else none) else none
def spec_DropPicture.f (k : Nat) (C : List CL) (R : List Int) (L root : Int) : Option (List CL × List Int × Int × Bool) :=
 (spec_GoodCow.f k C R L).bind fun b => if b = true then ((spec_l1In.f root 0 (wrap64 ((R.length : Int) - 1))).bind fun t => if t = true then (if (R.length : Int) = 1 then some ([], [], 0, false) else (if 0 ≤ root ∧ root < (R.length : Int) then ((spec_l14Own.f k C R L).bind fun o => dropS o (rd R root) root) else none)) else some ([], [], 0, false)) else some ([], [], 0, false)
set_option maxHeartbeats 16000000 in
set_option maxRecDepth 100000 in
theorem spec_DropPicture.calls (k_ : Nat) (A0 : Option Addr) (c0 : Nat) (C : List CL) (A1 : Option Addr) (c1 : Nat) (R : List Int) (L root : Int) (r1 : List CL) (r2 : List Int) (r3 : Int) (r4 : Bool) (w : World) (hr0 : Kd.C k68 w A0 C.length C) (hc0 : C.length ≤ c0) (hr1 : Kd.C (Kd.int .i64) w A1 R.length R) (hc1 : R.length ≤ c1) (h : spec_DropPicture.f k_ C R L root = some (r1, r2, r3, r4)) :
  Calls Try.prog 36 #[.agg #[.slice A0 C.length c0, .slice A1 R.length c1, .int .i64 L], .int .i64 root] w fun e w' => ∃ v0_ v1_ : Value, e = .returned (.tuple #[.agg #[v0_, v1_, .int .i64 r3], .bool r4]) ∧ Kd.S k68 68 w' w.heap.size (fun k_ => some k_ ≠ (v1_ : Value).ownBlock) v0_ r1 ∧ Kd.R (Kd.int .i64) 3 w' w.heap.size (fun _ => True) v1_ r2 ∧ Below w.heap.size w w' := by
 have hu25 := Try.underlying25
 have hu68 := Try.underlying68
 have hu22 := Try.underlying22
 have HR0 := Aside0.mk hr0
 have HR1 := Aside0.mk hr1
 have HC0 := Aside0.mk hc0
 have HC1 := Aside0.mk hc1
 have hl : R.length ≤ 9223372036854775807 := hr1.2.1
 have hlc : C.length ≤ 9223372036854775807 := hr0.2.1
 clear hr0 hr1 hc0 hc1
 obtain ⟨b, hb, h⟩ := Option.bind_eq_some_iff.1 h
 have HBB := Aside0.mk hb
 clear hb
 obtain ⟨W1, hW1⟩ : ∃ W, w.alloc (.cells #[.slice A0 C.length c0, .slice A1 R.length c1, .int .i64 L] 25) = W := ⟨_, rfl⟩
 obtain ⟨W2, hW2⟩ : ∃ W, W1.alloc (.cells #[.slice none 0 0, .slice none 0 0, .int .i64 0] 25) = W := ⟨_, rfl⟩
 have hb1 : Below w.heap.size w W1 := by rw [← hW1]; exact below_alloc (Below.refl _ _) _
 have hb2 : Below W1.heap.size W1 W2 := by rw [← hW2]; exact below_alloc (Below.refl _ _) _
 have X1 : W1.heap[w.heap.size]? = some (.cells #[.slice A0 C.length c0, .slice A1 R.length c1, .int .i64 L] 25 (0, 0)) := by rw [← hW1]; exact heap_alloc_new w _
 have Z1 : W2.heap[W1.heap.size]? = some (.cells #[.slice none 0 0, .slice none 0 0, .int .i64 0] 25 (0, 0)) := by rw [← hW2]; exact heap_alloc_new W1 _
 have B2 := Aside0.mk (below_step hb1 hb2)
 have X2 := Aside0.mk (blk_below X1 hb2)
 have Z2 := Aside0.mk Z1
 have ZG := Aside0.mk (show w.heap.size ≤ W1.heap.size from hb1.size)
 have ZN := Aside0.mk (show w.heap.size ≠ W1.heap.size by have := blk_lt X1; omega)
 clear hb1 hb2 X1 Z1
 have d0 : W2.cell? ⟨w.heap.size, 0, none⟩ = some (.slice A0 C.length c0) := (blk_cell X2.out 0).trans rfl
 have d1 : W2.cell? ⟨w.heap.size, 1, none⟩ = some (.slice A1 R.length c1) := (blk_cell X2.out 1).trans rfl
 have d2 : W2.cell? ⟨w.heap.size, 2, none⟩ = some (.int .i64 L) := (blk_cell X2.out 2).trans rfl
 have TT := Aside0.mk (spec_GoodCow.calls k_ A0 c0 C A1 c1 R L b W2 (Kd.C_below HR0.out B2.out) HC0.out (Kd.C_below HR1.out B2.out) HC1.out HBB.out)
 have HH := Aside0.mk h
 clear h
 go_enter Try.func36, Try.ntmps36
 go_wp2_with (go_at_call 20; refine TT.out.mono ?_)
 (first | rintro e w3 rfl hb | rintro e w3 ⟨rfl, hb⟩)
 clear TT hW1 d0 d1 d2
 generalize hgz : W1.heap.size = gz at *
 clear hgz hW2
 have B3 := Aside0.mk (below_step B2.out hb)
 have X3 := Aside0.mk (blk_below X2.out hb)
 have Z3 := Aside0.mk (blk_below Z2.out hb)
 clear B2 X2 Z2 hb
 have d0 : w3.cell? ⟨w.heap.size, 0, none⟩ = some (.slice A0 C.length c0) := (blk_cell X3.out 0).trans rfl
 have d1 : w3.cell? ⟨w.heap.size, 1, none⟩ = some (.slice A1 R.length c1) := (blk_cell X3.out 1).trans rfl
 have d2 : w3.cell? ⟨w.heap.size, 2, none⟩ = some (.int .i64 L) := (blk_cell X3.out 2).trans rfl
 have z0 : w3.cell? ⟨gz, 0, none⟩ = some (.slice none 0 0) := (blk_cell Z3.out 0).trans rfl
 have z1 : w3.cell? ⟨gz, 1, none⟩ = some (.slice none 0 0) := (blk_cell Z3.out 1).trans rfl
 have z2 : w3.cell? ⟨gz, 2, none⟩ = some (.int .i64 0) := (blk_cell Z3.out 2).trans rfl
 have y0 := blk_frozen Z3.out 0
 have y1 := blk_frozen Z3.out 1
 have y2 := blk_frozen Z3.out 2
 cases b with
 | false =>
  have h : some (([] : List CL), ([] : List Int), (0 : Int), false) = some (r1, r2, r3, r4) := HH.out
  simp only [Option.some.injEq, Prod.mk.injEq] at h
  obtain ⟨rfl, rfl, rfl, rfl⟩ := h
  go_wp2
  refine bodyPost_ret (results_ct rfl _ _ gz 25 #[.slice none 0 0, .slice none 0 0, .int .i64 0] (0, 0) _ rfl (put3 Z3.out _ _ _) Try.underlying25 rfl (by kernel_rfl)) rfl ?_
  exact ⟨_, _, rfl, Kd.S_nil _ _ _ _ _, Kd.R_nil _ _ _ _ _, below_set (below_set (below_set B3.out ZG.out) ZG.out) ZG.out⟩
 | true =>
  have h : ((spec_l1In.f root 0 (wrap64 ((R.length : Int) - 1))).bind fun t => if t = true then (if (R.length : Int) = 1 then some ([], [], 0, false) else (if 0 ≤ root ∧ root < (R.length : Int) then ((spec_l14Own.f k_ C R L).bind fun o => dropS o (rd R root) root) else none)) else some ([], [], 0, false)) = some (r1, r2, r3, r4) := HH.out
  obtain ⟨t, ht, h⟩ := Option.bind_eq_some_iff.1 h
  rw [w64 (x := (R.length : Int) - 1) (by omega) (by omega)] at ht
  have TT := Aside0.mk (spec_l1In.calls root 0 ((R.length : Int) - 1) t w3 ht)
  replace HH := Aside0.mk h
  clear h ht
  go_wp2_with (go_at_call 44; refine TT.out.mono ?_)
  (first | rintro e w4 rfl hd | rintro e w4 ⟨rfl, hd⟩)
  have hb := hd.below
  have B4 := Aside0.mk (below_step B3.out hb)
  have X4 := Aside0.mk (blk_below X3.out hb)
  have Z4 := Aside0.mk (blk_below Z3.out hb)
  clear TT hd hb d0 d1 d2 z0 z1 z2 y0 y1 y2 B3 X3 Z3
  have d0 : w4.cell? ⟨w.heap.size, 0, none⟩ = some (.slice A0 C.length c0) := (blk_cell X4.out 0).trans rfl
  have d1 : w4.cell? ⟨w.heap.size, 1, none⟩ = some (.slice A1 R.length c1) := (blk_cell X4.out 1).trans rfl
  have d2 : w4.cell? ⟨w.heap.size, 2, none⟩ = some (.int .i64 L) := (blk_cell X4.out 2).trans rfl
  have z0 : w4.cell? ⟨gz, 0, none⟩ = some (.slice none 0 0) := (blk_cell Z4.out 0).trans rfl
  have z1 : w4.cell? ⟨gz, 1, none⟩ = some (.slice none 0 0) := (blk_cell Z4.out 1).trans rfl
  have z2 : w4.cell? ⟨gz, 2, none⟩ = some (.int .i64 0) := (blk_cell Z4.out 2).trans rfl
  have y0 := blk_frozen Z4.out 0
  have y1 := blk_frozen Z4.out 1
  have y2 := blk_frozen Z4.out 2
  cases t with
  | false =>
   have h : some (([] : List CL), ([] : List Int), (0 : Int), false) = some (r1, r2, r3, r4) := HH.out
   simp only [Option.some.injEq, Prod.mk.injEq] at h
   obtain ⟨rfl, rfl, rfl, rfl⟩ := h
   go_wp2
   refine bodyPost_ret (results_ct rfl _ _ gz 25 #[.slice none 0 0, .slice none 0 0, .int .i64 0] (0, 0) _ rfl (put3 Z4.out _ _ _) Try.underlying25 rfl (by kernel_rfl)) rfl ?_
   exact ⟨_, _, rfl, Kd.S_nil _ _ _ _ _, Kd.R_nil _ _ _ _ _, below_set (below_set (below_set B4.out ZG.out) ZG.out) ZG.out⟩
  | true =>
   have h : (if (R.length : Int) = 1 then some ([], [], 0, false) else (if 0 ≤ root ∧ root < (R.length : Int) then ((spec_l14Own.f k_ C R L).bind fun o => dropS o (rd R root) root) else none)) = some (r1, r2, r3, r4) := HH.out
   by_cases h8 : (R.length : Int) = 1
   ·rw [if_pos h8] at h
    have q1 : ((R.length : Int) == 1) = true := by simpa using h8
    have q2 : ((R.length : Int) = 1) = True := eq_true h8
    clear h8 HH
    simp only [Option.some.injEq, Prod.mk.injEq] at h
    obtain ⟨rfl, rfl, rfl, rfl⟩ := h
    go_wp2
    refine bodyPost_ret (results_ct rfl _ _ gz 25 #[.slice none 0 0, .slice none 0 0, .int .i64 0] (0, 0) _ rfl (put3 Z4.out _ _ _) Try.underlying25 rfl (by kernel_rfl)) rfl ?_
    exact ⟨_, _, rfl, Kd.S_nil _ _ _ _ _, Kd.R_nil _ _ _ _ _, below_set (below_set (below_set B4.out ZG.out) ZG.out) ZG.out⟩
   ·rw [if_neg h8] at h
    have q1 : ((R.length : Int) == 1) = false := beq_eq_false_iff_ne.2 h8
    have q2 : ((R.length : Int) = 1) = False := eq_false h8
    clear h8 HH
    split at h
    ·rename_i hrt
     obtain ⟨⟨C1, R1, L1⟩, ho, h⟩ := Option.bind_eq_some_iff.1 h
     have HO := Aside0.mk ho
     unfold dropS at h
     simp only at h
     split at h
     ·rename_i hR1
      split at h
      ·rename_i hrt1
       obtain ⟨k, hk⟩ : ∃ k, rd R root = k := ⟨_, rfl⟩
       rw [hk] at h
       obtain ⟨D, hD, h⟩ := Option.bind_eq_some_iff.1 h
       simp only [Option.some.injEq, Prod.mk.injEq] at h
       obtain ⟨rfl, rfl, rfl, rfl⟩ := h
       have HD := Aside0.mk hD
       have HRL := Aside0.mk hR1
       have HRT := Aside0.mk hrt1
       obtain ⟨ri, hri⟩ : ∃ ri : Nat, root = (ri : Int) := ⟨root.toNat, by omega⟩
       subst hri
       obtain ⟨ad, e5, hx⟩ := Kd.at_int (Kd.C_below HR1.out B4.out) (ri : Int) hrt.1 hrt.2
       subst e5
       rw [hk, Int.toNat_natCast] at hx
       have HIX := Aside0.mk (show ∀ W, Below w.heap.size w W → W.cell? (ad.add ri) = some (.int .i64 k) from fun W hW => by
        obtain ⟨ad', e', hx'⟩ := Kd.at_int (Kd.C_below HR1.out hW) (ri : Int) hrt.1 hrt.2
        cases e'
        rw [hk, Int.toNat_natCast] at hx'
        exact hx')
       have p1 : (0 ≤ (ri : Int)) = True := eq_true hrt.1
       have p2 : ((ri : Int) < (R.length : Int)) = True := eq_true hrt.2
       clear hk hD ho hR1 hrt hrt1
       go_wp2
       clear d0 d1 d2 z0 z1 z2 y0 y1 y2 hx
       refine start_ (n := 9) (S := fun w' => w'.cell? ⟨w.heap.size, 0, none⟩ = some (.slice A0 C.length c0) ∧ w'.cell? ⟨w.heap.size, 1, none⟩ = some (.slice (some ad) R.length c1) ∧ w'.cell? ⟨w.heap.size, 2, none⟩ = some (.int .i64 L) ∧ w'.cell? (ad.add ri) = some (.int .i64 k)) (ds := [8]) #[false, false, false, false, false, false, false, false, false] (by kernel_rfl) rfl rfl ⟨(blk_cell X4.out 0).trans rfl, (blk_cell X4.out 1).trans rfl, (blk_cell X4.out 2).trans rfl, HIX.out w4 B4.out⟩ (fun hHeld => ?_)
       replace B4 := Aside0.mk (below_drew1 B4.out)
       replace X4 := Aside0.mk (blk_drew X4.out)
       replace Z4 := Aside0.mk (blk_drew Z4.out)
       generalize w4.drew = w5 at B4 X4 Z4 hHeld ⊢
       refine take_ (i := 0) (N := some 25) (v := ?_) (a' := ?_) #[true, false, false, false, false, false, false, false, false] rfl rfl (by kernel_rfl) (fun _ _ _ h => h) (Or.inl ⟨by rfl, ?_⟩) hHeld ?_ ?_
       rotate_left
       ·rintro w' ⟨s0, s1, s2, s3⟩
        go_simp
        with_reducible rfl
       rotate_left
       ·simp only [apu_]
        rfl
       refine take_ (i := 2) (N := some 27) (v := ?_) (a' := ?_) #[true, false, true, false, false, false, false, false, false] rfl rfl (by kernel_rfl) (fun _ _ _ h => h) (Or.inl ⟨by rfl, ?_⟩) hHeld ?_ ?_
       rotate_left
       ·rintro w' ⟨s0, s1, s2, s3⟩
        go_simp
        with_reducible rfl
       rotate_left
       ·simp only [apu_]
        rfl
       refine take_ (i := 3) (N := some 28) (v := ?_) (a' := ?_) #[true, false, true, true, false, false, false, false, false] rfl rfl (by kernel_rfl) (fun _ _ _ h => h) (Or.inl ⟨by rfl, ?_⟩) hHeld ?_ ?_
       rotate_left
       ·rintro w' ⟨s0, s1, s2, s3⟩
        go_simp
        with_reducible rfl
       rotate_left
       ·simp only [apu_]
        rfl
       refine take_ (i := 4) (N := some 29) (v := ?_) (a' := ?_) #[true, false, true, true, true, false, false, false, false] rfl rfl (by kernel_rfl) (fun _ _ _ h => h) (Or.inl ⟨by rfl, ?_⟩) hHeld ?_ ?_
       rotate_left
       ·rintro w' ⟨s0, s1, s2, s3⟩
        go_simp
        with_reducible rfl
       rotate_left
       ·simp only [apu_]
        rfl
       refine take_ (i := 5) (N := some 30) (v := ?_) (a' := ?_) #[true, false, true, true, true, true, false, false, false] rfl rfl (by kernel_rfl) (fun _ _ _ h => h) (Or.inl ⟨by rfl, ?_⟩) hHeld ?_ ?_
       rotate_left
       ·rintro w' ⟨s0, s1, s2, s3⟩
        go_simp
        with_reducible rfl
       rotate_left
       ·simp only [apu_]
        rfl
       refine take_ (i := 6) (N := some 31) (v := ?_) (a' := ?_) #[true, false, true, true, true, true, true, false, false] rfl rfl (by kernel_rfl) (fun _ _ _ h => h) (Or.inl ⟨by rfl, ?_⟩) hHeld ?_ ?_
       rotate_left
       ·rintro w' ⟨s0, s1, s2, s3⟩
        go_simp
        with_reducible rfl
       rotate_left
       ·simp only [apu_]
        rfl
       refine one_ (i := 1) (N := some 26) #[true, true, true, true, true, true, true, false, false] rfl rfl (by kernel_rfl) (by decide) (fun K hK => ?_)
       refine goes_ Try.func69 (by kernel_rfl) rfl #[.agg #[.slice A0 C.length c0, .slice (some ad) R.length c1, .int .i64 L]] (by rfl) rfl rfl (by (try simp only [List.map_toArray, List.map_cons, List.map_nil]); first | done | rfl | (simp only [List.length_drop, List.length_take]; rfl)) ?_
       refine (spec_l14Own.calls k_ A0 c0 C (some ad) c1 R L C1 R1 L1 w5 (Kd.C_below HR0.out B4.out) HC0.out (Kd.C_below HR1.out B4.out) HC1.out HO.out).mono ?_
       rintro e w6 ⟨v0, v1, rfl, hs, hr, hb⟩
       refine ⟨_, rfl, ?_⟩
       obtain ⟨A5, c5, rfl⟩ := Kd.S_slice hs
       obtain ⟨A6, c6, rfl⟩ := Kd.R_slice hr
       have B6 := Aside0.mk (below_step B4.out hb)
       have X6 := Aside0.mk (blk_below X4.out hb)
       have Z6 := Aside0.mk (blk_below Z4.out hb)
       have S6 := Aside0.mk (Kd.S_lower (Kd.S_mono (Kd.S_bound hs) (fun k_ h_ => (⟨h_.1, h_.2.1⟩ : some k_ ≠ (Value.slice A6 R1.length c6).ownBlock ∧ w5.heap.size ≤ k_))) B4.out.size)
       have R6 := Aside0.mk (Kd.R_lower (Kd.R_mono (Kd.R_bound hr) (fun k_ h_ => h_.2.1)) B4.out.size : IR w6 w.heap.size (fun k_ => w5.heap.size ≤ k_) (.slice A6 R1.length c6) R1)
       have LX := Aside0.mk (show w.heap.size < w5.heap.size from blk_lt X4.out)
       have LZ := Aside0.mk (show gz < w5.heap.size from blk_lt Z4.out)
       clear hs hr hb B4 X4 Z4
       refine hK.out _ _ ⟨(blk_cell X6.out 0).trans rfl, (blk_cell X6.out 1).trans rfl, (blk_cell X6.out 2).trans rfl, HIX.out w6 B6.out⟩ (fun hHeld => ?_)
       clear hK K
       refine norm_ (a' := ?_) ?_ ?_
       rotate_left
       ·show Act.put _ (some 26) _ = _
        simp only [apu_]
        rfl
       refine one_ (i := 7) (N := some 32) #[true, true, true, true, true, true, true, true, false] rfl rfl (by kernel_rfl) (by decide) (fun K hK => ?_)
       refine goes_ Try.func71 (by kernel_rfl) rfl #[.agg #[.slice A5 C1.length c5, .slice A6 R1.length c6, .int .i64 L1], .int .i64 k] (by rfl) rfl rfl (by (try simp only [List.map_toArray, List.map_cons, List.map_nil]); first | done | rfl | (simp only [List.length_drop, List.length_take]; rfl)) ?_
       refine (drop_calls L1 C1.length c5 R1.length c6 A5 A6 5 C1 D k _ w w6 B6.out S6.out HD.out).mono ?_
       rintro e w7 ⟨rfl, hs, hb, hk7⟩
       refine ⟨_, rfl, ?_⟩
       have hown : ∀ j, some j = (Value.slice A5 C1.length c5).ownBlock → w5.heap.size ≤ j ∧ some j ≠ (Value.slice A6 R1.length c6).ownBlock := fun j hj => by have h_ := (Kd.S_R S6.out).1 j hj.symm; exact ⟨h_.2, h_.1⟩
       have X7 := Aside0.mk (blk_kept X6.out hk7 (fun h_ => by have := (hown _ h_).1; have := LX.out; omega))
       have Z7 := Aside0.mk (blk_kept Z6.out hk7 (fun h_ => by have := (hown _ h_).1; have := LZ.out; omega))
       have S7 := Aside0.mk hs
       have B7 := Aside0.mk hb
       have R7 := Aside0.mk (Kd.R_kept (Kd.R_of_own (Kd.own_of_R R6.out) (fun k_ h_ => ⟨R6.out.1 k_ h_, h_.symm⟩) : IR w6 w.heap.size (fun k_ => w5.heap.size ≤ k_ ∧ some k_ = (Value.slice A6 R1.length c6).ownBlock) (.slice A6 R1.length c6) R1) hk7 (fun k_ h_ h2_ => (hown k_ h2_).2 h_.2))
       clear hs hb hk7 hown B6 X6 Z6 S6 R6
       refine hK.out _ _ ⟨(blk_cell X7.out 0).trans rfl, (blk_cell X7.out 1).trans rfl, (blk_cell X7.out 2).trans rfl, HIX.out w7 B7.out⟩ (fun hHeld => ?_)
       clear hK K
       refine norm_ (a' := ?_) ?_ ?_
       rotate_left
       ·show Act.put _ (some 32) _ = _
        simp only [apu_]
        rfl
       have d0 : w7.cell? ⟨w.heap.size, 0, none⟩ = some (.slice A0 C.length c0) := (blk_cell X7.out 0).trans rfl
       have d1 : w7.cell? ⟨w.heap.size, 1, none⟩ = some (.slice (some ad) R.length c1) := (blk_cell X7.out 1).trans rfl
       have d2 : w7.cell? ⟨w.heap.size, 2, none⟩ = some (.int .i64 L) := (blk_cell X7.out 2).trans rfl
       have y0 := blk_frozen X7.out 0
       have y1 := blk_frozen X7.out 1
       have y2 := blk_frozen X7.out 2
       refine last_ (i := 8) (N := none) #[true, true, true, true, true, true, true, true, true] rfl rfl (by kernel_rfl) (by decide) (fun K hK => ?_)
       refine skip_ (w1 := ((w7.setCell ⟨w.heap.size, 0, none⟩ (.slice A5 C1.length c5)).setCell ⟨w.heap.size, 1, none⟩ (.slice A6 R1.length c6)).setCell ⟨w.heap.size, 2, none⟩ (.int .i64 L1)) (by rfl) rfl ?_ ?_
       ·first | (go_simp; done) | (go_simp; rfl)
       refine hK.out _ _ ?_
       clear hK K
       refine done_ (by kernel_rfl) ?_
       clear hHeld
       clear d0 d1 d2 y0 y1 y2
       have hpt := fun (G : Nat) (o_ : Obj) (h_ : w7.heap[G]? = some o_) (hn_ : G ≠ w.heap.size) => (show (((w7.setCell ⟨w.heap.size, 0, none⟩ (.slice A5 C1.length c5)).setCell ⟨w.heap.size, 1, none⟩ (.slice A6 R1.length c6)).setCell ⟨w.heap.size, 2, none⟩ (.int .i64 L1)).heap[G]? = some o_ from (Below.heap_setCell _ ⟨w.heap.size, 2, none⟩ _ G hn_).trans ((Below.heap_setCell _ ⟨w.heap.size, 1, none⟩ _ G hn_).trans ((Below.heap_setCell _ ⟨w.heap.size, 0, none⟩ _ G hn_).trans h_)))
       have X8 := Aside0.mk (put3 X7.out (.slice A5 C1.length c5) (.slice A6 R1.length c6) (.int .i64 L1))
       have Z8 := Aside0.mk (hpt gz _ Z7.out (Ne.symm ZN.out))
       have S8 := Aside0.mk (Kd.S_far (p := ⟨w.heap.size, 2, none⟩) (Kd.S_far (p := ⟨w.heap.size, 1, none⟩) (Kd.S_far (p := ⟨w.heap.size, 0, none⟩) S7.out (fun k_ h_ => by have := h_.2; have := LX.out; show k_ ≠ w.heap.size; omega) (.slice A5 C1.length c5)) (fun k_ h_ => by have := h_.2; have := LX.out; show k_ ≠ w.heap.size; omega) (.slice A6 R1.length c6)) (fun k_ h_ => by have := h_.2; have := LX.out; show k_ ≠ w.heap.size; omega) (.int .i64 L1))
       have R8 := Aside0.mk (Kd.R_far (p := ⟨w.heap.size, 2, none⟩) (Kd.R_far (p := ⟨w.heap.size, 1, none⟩) (Kd.R_far (p := ⟨w.heap.size, 0, none⟩) R7.out (fun k_ h_ => by have := h_.1; have := LX.out; show k_ ≠ w.heap.size; omega) (.slice A5 C1.length c5)) (fun k_ h_ => by have := h_.1; have := LX.out; show k_ ≠ w.heap.size; omega) (.slice A6 R1.length c6)) (fun k_ h_ => by have := h_.1; have := LX.out; show k_ ≠ w.heap.size; omega) (.int .i64 L1))
       have B8 := Aside0.mk (below_set (below_set (below_set B7.out (Nat.le_refl _)) (Nat.le_refl _)) (Nat.le_refl _) : Below w.heap.size w (((w7.setCell ⟨w.heap.size, 0, none⟩ (.slice A5 C1.length c5)).setCell ⟨w.heap.size, 1, none⟩ (.slice A6 R1.length c6)).setCell ⟨w.heap.size, 2, none⟩ (.int .i64 L1)))
       clear hpt X7 Z7 S7 R7 B7
       generalize ((w7.setCell ⟨w.heap.size, 0, none⟩ (.slice A5 C1.length c5)).setCell ⟨w.heap.size, 1, none⟩ (.slice A6 R1.length c6)).setCell ⟨w.heap.size, 2, none⟩ (.int .i64 L1) = w8 at X8 Z8 S8 R8 B8 ⊢
       obtain ⟨g6, cap6, hv6, _, _, _⟩ := Kd.R_form R8.out (by have := HRT.out; omega)
       injection hv6 with hA6 hn6 hc6
       subst hA6 hc6
       clear hn6
       try go_wp2
       refine start_ (n := 14) (S := fun w' => w'.cell? ⟨w.heap.size, 1, none⟩ = some (.slice (some ⟨g6, 0, none⟩) R1.length c6) ∧ w'.cell? ⟨w.heap.size, 1, none⟩ = some (.slice (some ⟨g6, 0, none⟩) R1.length c6)) (ds := [13]) #[false, false, false, false, false, false, false, false, false, false, false, false, false, false] (by kernel_rfl) rfl rfl ⟨(blk_cell X8.out 1).trans rfl, (blk_cell X8.out 1).trans rfl⟩ (fun hHeld => ?_)
       replace B8 := Aside0.mk (below_drew1 B8.out)
       replace X8 := Aside0.mk (blk_drew X8.out)
       replace Z8 := Aside0.mk (blk_drew Z8.out)
       replace S8 := Aside0.mk (Kd.S_drew S8.out)
       replace R8 := Aside0.mk (Kd.R_drew R8.out)
       generalize w8.drew = w9 at B8 X8 Z8 S8 R8 hHeld ⊢
       have hrt1 := HRT.out
       have hRL := HRL.out
       have u1 : (0 ≤ (ri : Int)) = True := eq_true (by omega)
       have u2 : ((ri : Int) ≤ (R1.length : Int)) = True := eq_true (by omega)
       have u3 : wrap64 ((ri : Int) + 1) = (ri : Int) + 1 := w64 (by omega) (by omega)
       have u4 : ((ri : Int) + 1 ≤ (R1.length : Int)) = True := eq_true (by omega)
       have hc6 : R1.length ≤ c6 := (Kd.R_reads' R8.out).2.1
       have u5 : (ri ≤ c6) = True := eq_true (by omega)
       have u6 : (0 ≤ (ri : Int) + 1) = True := eq_true (by omega)
       have u7 : (ri + 1 ≤ R1.length) = True := eq_true (by omega)
       refine take_ (i := 1) (N := some 34) (v := ?_) (a' := ?_) #[false, true, false, false, false, false, false, false, false, false, false, false, false, false] rfl rfl (by kernel_rfl) (fun _ _ _ h => h) (Or.inl ⟨by rfl, ?_⟩) hHeld ?_ ?_
       rotate_left
       ·rintro w' ⟨s0, s1⟩
        go_simp
        with_reducible rfl
       rotate_left
       ·simp only [apu_]
        rfl
       refine take_ (i := 2) (N := some 35) (v := ?_) (a' := ?_) #[false, true, true, false, false, false, false, false, false, false, false, false, false, false] rfl rfl (by kernel_rfl) (fun _ _ _ h => h) (Or.inl ⟨by rfl, ?_⟩) hHeld ?_ ?_
       rotate_left
       ·rintro w' ⟨s0, s1⟩
        go_simp
        with_reducible rfl
       rotate_left
       ·simp only [apu_]
        rfl
       refine take_ (i := 3) (N := some 36) (v := ?_) (a' := ?_) #[false, true, true, true, false, false, false, false, false, false, false, false, false, false] rfl rfl (by kernel_rfl) (fun _ _ _ h => h) (Or.inl ⟨by rfl, ?_⟩) hHeld ?_ ?_
       rotate_left
       ·rintro w' ⟨s0, s1⟩
        go_simp
        with_reducible rfl
       rotate_left
       ·simp only [apu_]
        rfl
       refine take_ (i := 4) (N := some 37) (v := ?_) (a' := ?_) #[false, true, true, true, true, false, false, false, false, false, false, false, false, false] rfl rfl (by kernel_rfl) (fun _ _ _ h => h) (Or.inl ⟨by rfl, ?_⟩) hHeld ?_ ?_
       rotate_left
       ·rintro w' ⟨s0, s1⟩
        go_simp
        with_reducible rfl
       rotate_left
       ·simp only [apu_]
        rfl
       refine take_ (i := 6) (N := some 39) (v := ?_) (a' := ?_) #[false, true, true, true, true, false, true, false, false, false, false, false, false, false] rfl rfl (by kernel_rfl) (fun _ _ _ h => h) (Or.inl ⟨by rfl, ?_⟩) hHeld ?_ ?_
       rotate_left
       ·rintro w' ⟨s0, s1⟩
        go_simp
        with_reducible rfl
       rotate_left
       ·simp only [apu_]
        rfl
       refine take_ (i := 7) (N := some 40) (v := ?_) (a' := ?_) #[false, true, true, true, true, false, true, true, false, false, false, false, false, false] rfl rfl (by kernel_rfl) (fun _ _ _ h => h) (Or.inl ⟨by rfl, ?_⟩) hHeld ?_ ?_
       rotate_left
       ·rintro w' ⟨s0, s1⟩
        go_simp
        with_reducible rfl
       rotate_left
       ·simp only [apu_]
        rfl
       refine take_ (i := 8) (N := some 41) (v := ?_) (a' := ?_) #[false, true, true, true, true, false, true, true, true, false, false, false, false, false] rfl rfl (by kernel_rfl) (fun _ _ _ h => h) (Or.inl ⟨by rfl, ?_⟩) hHeld ?_ ?_
       rotate_left
       ·rintro w' ⟨s0, s1⟩
        go_simp
        with_reducible rfl
       rotate_left
       ·simp only [apu_]
        rfl
       refine take_ (i := 9) (N := some 42) (v := ?_) (a' := ?_) #[false, true, true, true, true, false, true, true, true, true, false, false, false, false] rfl rfl (by kernel_rfl) (fun _ _ _ h => h) (Or.inl ⟨by rfl, ?_⟩) hHeld ?_ ?_
       rotate_left
       ·rintro w' ⟨s0, s1⟩
        go_simp
        with_reducible rfl
       rotate_left
       ·simp only [apu_]
        rfl
       refine take_ (i := 10) (N := some 43) (v := ?_) (a' := ?_) #[false, true, true, true, true, false, true, true, true, true, true, false, false, false] rfl rfl (by kernel_rfl) (fun _ _ _ h => h) (Or.inl ⟨by rfl, ?_⟩) hHeld ?_ ?_
       rotate_left
       ·rintro w' ⟨s0, s1⟩
        go_simp
        with_reducible rfl
       rotate_left
       ·simp only [apu_]
        rfl
       refine one_ (i := 0) (N := some 33) #[true, true, true, true, true, false, true, true, true, true, true, false, false, false] rfl rfl (by kernel_rfl) (by decide) (fun K hK => ?_)
       refine Kd.R_lit_step (Kd.int .i64) (w0 := w) w.heap.size 3 (by rfl) (N := 33) rfl (xs := ([] : List Int)) (inner := []) (ok := fun _ => True) (okp := fun _ => True) (by first | (go_simp; done) | (go_simp; rfl)) (Reps.none _ _) (fun _ hk => hk) trivial B8.out B8.out.size (by simp) ?_
       intro v33 w10 ho hb hg hnew
       have X10 := Aside0.mk (blk_grown X8.out hg (by simp))
       have Z10 := Aside0.mk (blk_grown Z8.out hg (by simp))
       have S10 := Aside0.mk (Kd.S_grown S8.out hg (fun _ _ => by simp))
       have R10 := Aside0.mk (Kd.R_grown R8.out hg (fun _ _ => by simp))
       have B10 := Aside0.mk hb
       have O10 := Aside0.mk ho
       have N10 := Aside0.mk (show ∀ j, v33.ownBlock = some j → w9.heap.size ≤ j from fun j hj => by obtain ⟨b_, e_, h_⟩ := hnew; rw [e_] at hj; injection hj with hj; omega)
       have L10 := Aside0.mk (show ∀ j, w9.heap.size ≤ j → w5.heap.size ≤ j ∧ w.heap.size < j ∧ gz < j from fun j hj => by have h1 := blk_lt X8.out; have h2 := blk_lt Z8.out; have h3 := Kd.R_lt R8.out g6 rfl; have h4 := (R8.out.1 g6 rfl).1; exact ⟨by omega, by omega, by omega⟩)
       have P10 := Aside0.mk (show ∀ j, (Value.slice (some ⟨g6, 0, none⟩) R1.length c6).ownBlock = some j → j < w9.heap.size from Kd.R_lt R8.out)
       have Q10 := Aside0.mk (Kd.S_mono (Kd.S_bound S8.out) (fun j hj => hj.2.2.1) : CS w9 w.heap.size (fun j => j < w9.heap.size) (.slice A5 C1.length c5) D)
       have HX9 := Aside0.mk (show w.heap.size < w9.heap.size from blk_lt X8.out)
       have HZ9 := Aside0.mk (show gz < w9.heap.size from blk_lt Z8.out)
       have HLW := Aside0.mk (show w9.heap.size ≤ w10.heap.size from hg.size)
       replace Q10 := Aside0.mk (Kd.S_grown Q10.out hg (fun _ _ => by simp))
       clear ho hb hg hnew B8 X8 Z8
       refine hK.out _ _ ⟨(blk_cell X10.out 1).trans rfl, (blk_cell X10.out 1).trans rfl⟩ (fun hHeld => ?_)
       clear hK K
       refine norm_ (a' := ?_) ?_ ?_
       rotate_left
       ·show Act.put _ (some 33) _ = _
        simp only [apu_]
        rfl
       refine one_ (i := 5) (N := some 38) #[true, true, true, true, true, true, true, true, true, true, true, false, false, false] rfl rfl (by kernel_rfl) (by decide) (fun K hK => ?_)
       have hlt : (R1.take ri).length = ri := by rw [List.length_take]; omega
       have hld : (R1.drop (ri + 1)).length = R1.length - (ri + 1) := by rw [List.length_drop]
       refine Kd.R_append_rows_step (Kd.int .i64) (w0 := w) w.heap.size (by rfl) (.tmp 33) (.tmp 37) 23 3 (.int .i64 0) 8 rfl Try.underlying23 info3 rfl (by decide) (by omega) v33 [] (R1.take ri) _ _ _ (fun _ => True) (fun _ => False) rfl rfl O10.out ?aR (fun _ _ h => h) (fun _ h => h.elim) (fun _ _ => trivial) B10.out B10.out.size (by simp; omega) ?_
       case aR => have h_ := Kd.C_take (m := ri) (Kd.R_reads' R10.out).2.2 (by omega); rw [hlt] at h_; exact h_
       intro v38 w11 ho hb hg hat
       have LW := Aside0.mk (show w9.heap.size ≤ w10.heap.size from HLW.out)
       have hne := fun (G : Nat) (hG : G < w9.heap.size) => (show some G ≠ v33.ownBlock from fun e_ => by have := N10.out G e_.symm; omega)
       have X11 := Aside0.mk (blk_grown X10.out hg (hne _ HX9.out))
       have Z11 := Aside0.mk (blk_grown Z10.out hg (hne _ HZ9.out))
       have R11 := Aside0.mk (Kd.R_grown R10.out hg (fun j hj => by rw [hj.2]; exact fun e_ => hne g6 (P10.out g6 rfl) e_))
       have Q11 := Aside0.mk (Kd.S_grown Q10.out hg (fun j hj => hne j hj))
       have B11 := Aside0.mk hb
       have O11 := Aside0.mk ho
       have N11 := Aside0.mk (show ∀ j, v38.ownBlock = some j → w9.heap.size ≤ j from fun j hj => by
        rcases hat with e_ | ⟨b_, e_, h_⟩
        ·exact N10.out j (e_.symm.trans hj)
        ·rw [e_] at hj; injection hj with hj; have := LW.out; omega)
       have LW2 := Aside0.mk (show w9.heap.size ≤ w11.heap.size from Nat.le_trans LW.out hg.size)
       clear ho hb hg hat hne X10 Z10 R10 B10 O10
       refine hK.out _ _ ⟨(blk_cell X11.out 1).trans rfl, (blk_cell X11.out 1).trans rfl⟩ (fun hHeld => ?_)
       clear hK K
       refine norm_ (a' := ?_) ?_ ?_
       rotate_left
       ·show Act.put _ (some 38) _ = _
        simp only [apu_]
        rfl
       refine one_ (i := 11) (N := some 44) #[true, true, true, true, true, true, true, true, true, true, true, true, false, false] rfl rfl (by kernel_rfl) (by decide) (fun K hK => ?_)
       refine Kd.R_append_rows_step (Kd.int .i64) (w0 := w) w.heap.size (by rfl) (.tmp 38) (.tmp 43) 23 3 (.int .i64 0) 8 rfl Try.underlying23 info3 rfl (by decide) (by omega) v38 ([] ++ R1.take ri) (R1.drop (ri + 1)) _ _ _ (fun _ => True) (fun _ => False) rfl rfl O11.out ?aR (fun _ _ h => h) (fun _ h => h.elim) (fun _ _ => trivial) B11.out B11.out.size (by simp; omega) ?_
       case aR => exact int_drop (Kd.R_reads' R11.out).2.2 (by omega) hc6
       intro v44 w12 ho hb hg hat
       have hne := fun (G : Nat) (hG : G < w9.heap.size) => (show some G ≠ v38.ownBlock from fun e_ => by have := N11.out G e_.symm; omega)
       have X12 := Aside0.mk (blk_grown X11.out hg (hne _ HX9.out))
       have Z12 := Aside0.mk (blk_grown Z11.out hg (hne _ HZ9.out))
       have R12 := Aside0.mk (Kd.R_grown R11.out hg (fun j hj => by rw [hj.2]; exact fun e_ => hne g6 (P10.out g6 rfl) e_))
       have Q12 := Aside0.mk (Kd.S_grown Q11.out hg (fun j hj => hne j hj))
       have B12 := Aside0.mk hb
       have O12 := Aside0.mk ho
       have N12 := Aside0.mk (show ∀ j, v44.ownBlock = some j → w9.heap.size ≤ j from fun j hj => by
        rcases hat with e_ | ⟨b_, e_, h_⟩
        ·exact N11.out j (e_.symm.trans hj)
        ·rw [e_] at hj; injection hj with hj; have := LW2.out; omega)
       obtain ⟨A7, c7, rfl⟩ : ∃ A7 c7, v44 = .slice A7 (R1.take ri ++ R1.drop (ri + 1)).length c7 := by
        obtain ⟨A7, c7, e_⟩ := Kd.R_slice ho
        exact ⟨A7, c7, e_⟩
       have HX := Aside0.mk (show ∀ j, (Value.slice A7 (R1.take ri ++ R1.drop (ri + 1)).length c7).ownBlock = some j → j ≠ w.heap.size from fun j hj => by have := N12.out j hj; have := HX9.out; omega)
       clear ho hb hg hat hne X11 Z11 R11 B11 O11
       refine hK.out _ _ ⟨(blk_cell X12.out 1).trans rfl, (blk_cell X12.out 1).trans rfl⟩ (fun hHeld => ?_)
       clear hK K
       refine norm_ (a' := ?_) ?_ ?_
       rotate_left
       ·show Act.put _ (some 44) _ = _
        simp only [apu_]
        rfl
       refine pure_ (i := 12) (N := some 45) (v := ?_) (a' := ?_) #[true, true, true, true, true, true, true, true, true, true, true, true, true, false] rfl rfl (by kernel_rfl) (fun _ _ _ h => h) (Or.inl ⟨by rfl, ?_⟩) ?_ ?_
       rotate_left
       ·intro w'
        go_simp
        with_reducible rfl
       rotate_left
       ·simp only [apu_]
        rfl
       have d1 : w12.cell? ⟨w.heap.size, 1, none⟩ = some (.slice (some ⟨g6, 0, none⟩) R1.length c6) := (blk_cell X12.out 1).trans rfl
       have y1 := blk_frozen X12.out 1
       refine last_ (i := 13) (N := none) #[true, true, true, true, true, true, true, true, true, true, true, true, true, true] rfl rfl (by kernel_rfl) (by decide) (fun K hK => ?_)
       refine skip_ (w1 := w12.setCell ⟨w.heap.size, 1, none⟩ (.slice A7 (R1.take ri ++ R1.drop (ri + 1)).length c7)) (by rfl) rfl ?_ ?_
       ·first | (go_simp; done) | (go_simp; rfl)
       refine hK.out _ _ ?_
       clear hK K
       refine done_ (by kernel_rfl) ?_
       clear hHeld
       clear d1 y1
       have O12' : IR w12 w.heap.size (fun j => j ≠ w.heap.size) (.slice A7 (R1.take ri ++ R1.drop (ri + 1)).length c7) (R1.take ri ++ R1.drop (ri + 1)) := Kd.R_of_own (Kd.own_of_R O12.out) HX.out
       have X13 := Aside0.mk (show (w12.setCell ⟨w.heap.size, 1, none⟩ (.slice A7 (R1.take ri ++ R1.drop (ri + 1)).length c7)).heap[w.heap.size]? = some (.cells #[.slice A5 C1.length c5, .slice A7 (R1.take ri ++ R1.drop (ri + 1)).length c7, .int .i64 L1] 25 (0, 0)) from blk_put (cs := #[.slice A5 C1.length c5, .slice (some ⟨g6, 0, none⟩) R1.length c6, .int .i64 L1]) X12.out 1 _ rfl)
       have Z13 := Aside0.mk ((Below.heap_setCell w12 ⟨w.heap.size, 1, none⟩ (.slice A7 (R1.take ri ++ R1.drop (ri + 1)).length c7) gz (Ne.symm ZN.out)).trans Z12.out)
       have S13 := Aside0.mk (Kd.S_far (p := ⟨w.heap.size, 1, none⟩) (Kd.S_types Q12.out X12.out (by decide)) (fun j hj => hj.2) (.slice A7 (R1.take ri ++ R1.drop (ri + 1)).length c7))
       have R13 := Aside0.mk (Kd.R_far (p := ⟨w.heap.size, 1, none⟩) O12' (fun j hj => hj) (.slice A7 (R1.take ri ++ R1.drop (ri + 1)).length c7))
       have B13 := Aside0.mk (below_set B12.out (Nat.le_refl _) : Below w.heap.size w (w12.setCell ⟨w.heap.size, 1, none⟩ (.slice A7 (R1.take ri ++ R1.drop (ri + 1)).length c7)))
       clear O12' X12 Z12 Q12 R12 B12 O12
       obtain ⟨m, hm⟩ : ∃ m, (R1.take ri ++ R1.drop (ri + 1)).length = m := ⟨_, rfl⟩
       rw [hm] at X13 Z13 S13 R13 B13 N12
       try rw [hm]
       generalize w12.setCell ⟨w.heap.size, 1, none⟩ (.slice A7 m c7) = w13 at X13 Z13 S13 R13 B13 ⊢
       have d0 : w13.cell? ⟨w.heap.size, 0, none⟩ = some (.slice A5 C1.length c5) := (blk_cell X13.out 0).trans rfl
       have d1 : w13.cell? ⟨w.heap.size, 1, none⟩ = some (.slice A7 m c7) := (blk_cell X13.out 1).trans rfl
       have d2 : w13.cell? ⟨w.heap.size, 2, none⟩ = some (.int .i64 L1) := (blk_cell X13.out 2).trans rfl
       have z0 : w13.cell? ⟨gz, 0, none⟩ = some (.slice none 0 0) := (blk_cell Z13.out 0).trans rfl
       have z1 : w13.cell? ⟨gz, 1, none⟩ = some (.slice none 0 0) := (blk_cell Z13.out 1).trans rfl
       have z2 : w13.cell? ⟨gz, 2, none⟩ = some (.int .i64 0) := (blk_cell Z13.out 2).trans rfl
       have y0 := blk_frozen Z13.out 0
       have y1 := blk_frozen Z13.out 1
       have y2 := blk_frozen Z13.out 2
       go_wp2
       all_goals refine bodyPost_ret (results_ct rfl _ _ gz 25 #[.slice A5 C1.length c5, .slice A7 m c7, .int .i64 L1] (0, 0) _ rfl (put3 Z13.out _ _ _) Try.underlying25 rfl (by kernel_rfl)) rfl ?_
       all_goals obtain ⟨r1_, r2_, r3_⟩ := ret_cow (v1 := .slice A7 m c7) (x := .slice A5 C1.length c5) (y := .slice A7 m c7) (z := .int .i64 L1) Z13.out ZG.out S13.out (fun j hj e_ => by have := N12.out j e_.symm; have := hj.1; omega) R13.out B13.out
       all_goals exact ⟨_, _, rfl, r1_, r2_, r3_⟩
      ·cases h
     ·cases h
    ·cases h
def dropI (C : List CL) (R : List Int) (L root : Int) : Option (List CL × List Int × Int × Bool) :=
 if ownB C R = true then (if 0 ≤ root ∧ root < (R.length : Int) then ((dropM 5 C (rd R root)).bind fun D => some (D, R.eraseIdx root.toNat, L, true)) else none) else none
def impl_DropPicture.f (_k : Nat) (C : List CL) (R : List Int) (L root : Int) : Option (List CL × List Int × Int × Bool) :=
 (impl_isRoot.f C R L root).bind fun b => if b = true then (if (R.length : Int) < 2 then some ([], [], 0, false) else dropI C R L root) else some ([], [], 0, false)
section
variable {C : List CL} {roots : List Int} {L : Int}
def KidsOf (C D : List CL) : Prop := D.length = C.length ∧ ∀ j : Int, 0 ≤ j → j < (C.length : Int) → (rd_T68 D j).f2 = (rd_T68 C j).f2 ∨ (rd_T68 D j).f2 = []
theorem rd_cl_at {xs : List CL} {j : Int} (h0 : 0 ≤ j) (h : j < (xs.length : Int)) : ∃ (hl : j.toNat < xs.length), rd_T68 xs j = xs[j.toNat] := by
  have hl : j.toNat < xs.length := by omega
  exact ⟨hl, by rw [rd_cl, List.getD_eq_getElem?_getD, List.getElem?_eq_getElem hl]; rfl⟩
theorem rd_cl_set_self {xs : List CL} {j : Int} (h0 : 0 ≤ j) (h : j < (xs.length : Int)) (x : CL) : rd_T68 (xs.set j.toNat x) j = x := by
  have := rd_cl_set (xs := xs) (q := j.toNat) (by omega) x
  rwa [show ((j.toNat : Nat) : Int) = j by omega] at this
theorem rd_cl_set_ne {xs : List CL} {j k : Int} (h0 : 0 ≤ j) (h1 : 0 ≤ k) (hne : j ≠ k) (x : CL) : rd_T68 (xs.set k.toNat x) j = rd_T68 xs j := by
  rw [rd_cl, rd_cl, List.getD_eq_getElem?_getD, List.getElem?_set_ne (by omega), List.getD_eq_getElem?_getD]
theorem KidsOf.set {D : List CL} (h : KidsOf C D) {k : Int} (h0 : 0 ≤ k) (h1 : k < (C.length : Int)) (x : CL) (hx : x.f2 = (rd_T68 D k).f2 ∨ x.f2 = []) : KidsOf C (D.set k.toNat x) := by
  refine ⟨by rw [List.length_set]; exact h.1, fun j j0 j1 => ?_⟩
  by_cases e : j = k
  · subst e
    rw [rd_cl_set_self j0 (by rw [h.1]; exact j1)]
    rcases hx with e | e
    · rw [e]; exact h.2 j j0 j1
    · exact .inr e
  · rw [rd_cl_set_ne j0 h0 e]
    exact h.2 j j0 j1
theorem KidsOf.refl (C : List CL) : KidsOf C C := ⟨rfl, fun _ _ _ => .inl rfl⟩
theorem KidsOf.bound {D : List CL} (h : KidsOf C D) (hk : ∀ x ∈ C, x.f2.length ≤ 1048576) : ∀ x ∈ D, x.f2.length ≤ 1048576 := by
  intro x hx
  obtain ⟨i, hi, rfl⟩ := List.getElem_of_mem hx
  have hi2 : (i : Int) < (C.length : Int) := by rw [← h.1]; omega
  obtain ⟨hl, e⟩ := rd_cl_at (xs := D) (j := (i : Int)) (by omega) (by omega)
  obtain ⟨hl2, e2⟩ := rd_cl_at (xs := C) (j := (i : Int)) (by omega) hi2
  have e3 : D[i] = rd_T68 D (i : Int) := by rw [e]; simp
  rw [e3]
  rcases h.2 (i : Int) (by omega) hi2 with e4 | e4
  · rw [e4, e2]
    exact hk _ (List.getElem_mem _)
  · rw [e4]; simp
theorem loopD_tot {F : List CL → Int → Option (List CL)} {P : List CL → Prop} {ok : Int → Prop} (hF : ∀ z, ok z → ∀ D, P D → ∃ D', F D z = some D' ∧ P D') : ∀ (ks : List Int), (∀ z ∈ ks, ok z) → ∀ D, P D → ∃ D', loopD F ks D = some D' ∧ P D'
  | [], _, D, hD => ⟨D, rfl, hD⟩
  | z :: r, h, D, hD => by
    obtain ⟨D1, e1, h1⟩ := hF z (h z (by simp)) D hD
    obtain ⟨D2, e2, h2⟩ := loopD_tot hF r (fun y hy => h y (by simp [hy])) D1 h1
    exact ⟨D2, by simp only [loopD, e1, Option.bind_some]; exact e2, h2⟩
theorem drop_tot {V c v : List Int} (hI : Inv C roots L V [] c v) : ∀ (m f : Nat), m < f → ∀ (k : Int), RefOK C v (k, (m : Int)) → ∀ D, KidsOf C D → ∃ D', dropM f D k = some D' ∧ KidsOf C D' := by
  intro m
  induction m with
  | zero =>
    intro f hf k hk D hD
    obtain rfl := hk.zero
    obtain ⟨f, rfl⟩ : ∃ g, f = g + 1 := ⟨f - 1, by omega⟩
    exact ⟨D, by simp [dropM], hD⟩
  | succ m ih =>
    intro f hf k hk D hD
    obtain ⟨f, rfl⟩ : ∃ g, f = g + 1 := ⟨f - 1, by omega⟩
    by_cases hk1 : k = -1
    · subst hk1
      exact ⟨D, by simp [dropM], hD⟩
    · obtain ⟨h0, h1, _, _, _, _, h7⟩ := hI.below (m := m) (by simpa using hk) hk1
      have hl := hD.1
      rw [dropM, if_neg (by omega), if_pos (by omega)]
      by_cases hx : wrap64 ((rd_T68 D k).f0 - 1) > 0
      · rw [if_pos hx]
        exact ⟨_, rfl, hD.set h0 h1 _ (.inl rfl)⟩
      · rw [if_neg hx]
        refine loopD_tot (ok := fun z => RefOK C v (z, (m : Int))) (fun z hz D2 h2 => ih f (by omega) z hz D2 h2) _ (fun z hz => ?_) _ (hD.set h0 h1 z68 (.inr rfl))
        rcases hD.2 k h0 h1 with e | e
        · rw [e] at hz; exact h7 z hz
        · rw [e] at hz; cases hz
end
def kc (C : List CL) (k : Int) : Nat := (C.map fun x => x.f2.count k).sum
theorem sum_set : ∀ (l : List Nat) (i : Nat) (h : i < l.length) (x : Nat), (l.set i x).sum + l[i] = l.sum + x
  | a :: r, 0, _, x => by simp; omega
  | a :: r, i + 1, h, x => by
    have := sum_set r i (by simpa using h) x
    simp only [List.set_cons_succ, List.sum_cons, List.getElem_cons_succ]
    omega
theorem kc_set {C : List CL} {j : Int} (h0 : 0 ≤ j) (h1 : j < (C.length : Int)) (x : CL) (k : Int) : kc (C.set j.toNat x) k + (rd_T68 C j).f2.count k = kc C k + x.f2.count k := by
  obtain ⟨hl, e⟩ := rd_cl_at h0 h1
  have := sum_set (C.map fun x => x.f2.count k) j.toNat (by simpa using hl) (x.f2.count k)
  unfold kc
  rw [List.map_set, e]
  simpa using this
theorem sumV (g : CL → Nat) : ∀ (n : Nat) (C : List CL), C.length = n → ∀ V : List Int, V.Nodup → (∀ k ∈ V, 0 ≤ k ∧ k < (n : Int)) → (∀ k : Int, 0 ≤ k → k < (n : Int) → k ∉ V → g (rd_T68 C k) = 0) → (V.map fun k => g (rd_T68 C k)).sum = (C.map g).sum := by
  intro n
  induction n with
  | zero =>
    intro C hC V _ h _
    cases V with
    | nil => rw [List.length_eq_zero_iff.1 hC]; rfl
    | cons a r => have := h a (by simp); omega
  | succ n ih =>
    intro C hC V hd hV hz
    obtain ⟨D, x, rfl⟩ : ∃ D x, C = D ++ [x] := ⟨C.dropLast, C.getLast (by intro e; rw [e] at hC; simp at hC), (List.dropLast_concat_getLast _).symm⟩
    have hD : D.length = n := by simpa using hC
    have hrd : ∀ k : Int, 0 ≤ k → k < (n : Int) → rd_T68 (D ++ [x]) k = rd_T68 D k := fun k h0 h1 => by
      rw [rd_cl, rd_cl, List.getD_eq_getElem?_getD, List.getElem?_append_left (by omega), List.getD_eq_getElem?_getD]
    have hx : rd_T68 (D ++ [x]) (n : Int) = x := by
      rw [rd_cl, List.getD_eq_getElem?_getD, List.getElem?_append_right (by omega), Int.toNat_natCast, hD, Nat.sub_self]
      rfl
    have e1 : ((D ++ [x]).map g).sum = (D.map g).sum + g x := by simp
    by_cases hm : (n : Int) ∈ V
    · have hp := List.perm_cons_erase hm
      have h2 := (hp.map fun k => g (rd_T68 (D ++ [x]) k)).sum_nat
      have hmem : ∀ k ∈ V.erase (n : Int), 0 ≤ k ∧ k < (n : Int) := fun k hk => by
        have h2 := (List.Nodup.mem_erase_iff hd).1 hk
        have h3 := hV k h2.2
        have h4 := h2.1
        omega
      have h3 := ih D hD (V.erase (n : Int)) (hd.erase _) hmem (fun k h0 h1 hk => by
        rw [← hrd k h0 h1]
        exact hz k h0 (by omega) (fun hv => hk ((List.Nodup.mem_erase_iff hd).2 ⟨by omega, hv⟩)))
      rw [h2, List.map_cons, List.sum_cons, hx, e1, ← h3]
      rw [List.map_congr_left (fun k hk => by rw [hrd k (hmem k hk).1 (hmem k hk).2])]
      omega
    · have hmem : ∀ k ∈ V, 0 ≤ k ∧ k < (n : Int) := fun k hk => by
        have h3 := hV k hk
        have h4 : k ≠ (n : Int) := fun e => hm (e ▸ hk)
        omega
      have h3 := ih D hD V hd hmem (fun k h0 h1 hk => by
        rw [← hrd k h0 h1]
        exact hz k h0 (by omega) hk)
      have h4 := hz (n : Int) (by omega) (by omega) hm
      rw [hx] at h4
      rw [e1, h4, ← h3, Nat.add_zero]
      rw [List.map_congr_left (fun k hk => by rw [hrd k (hmem k hk).1 (hmem k hk).2])]
structure Tidy (C : List CL) (R : List Int) (L : Int) (E : List (Int × Int)) (lev : Int → Int) : Prop where
  cnt : ∀ k, 0 ≤ k → k < (C.length : Int) → (rd_T68 C k).f0 = ((R.count k + (E.map Prod.fst).count k + kc C k : Nat) : Int)
  bd : ∀ k, 0 ≤ k → k < (C.length : Int) → (rd_T68 C k).f0 ≤ 1000
  emp : ∀ k, 0 ≤ k → k < (C.length : Int) → (rd_T68 C k).f0 = 0 → (rd_T68 C k).f1.size = 0 ∧ (rd_T68 C k).f2 = []
  good : ∀ k, 0 ≤ k → k < (C.length : Int) → (rd_T68 C k).f0 ≠ 0 → goodB C.length (rd_T68 C k) (lev k) = true ∧ 1 ≤ lev k ∧ lev k ≤ L
  kid : ∀ k, 0 ≤ k → k < (C.length : Int) → (rd_T68 C k).f0 ≠ 0 → ∀ z ∈ (rd_T68 C k).f2, z = -1 ∨ (0 ≤ z ∧ z < (C.length : Int) ∧ lev z = lev k - 1)
  rts : ∀ r ∈ R, r = -1 ∨ (0 ≤ r ∧ r < (C.length : Int) ∧ lev r = L)
  ext : ∀ q ∈ E, q.1 = -1 ∨ (0 ≤ q.1 ∧ q.1 < (C.length : Int) ∧ lev q.1 = q.2)
theorem endM_out {C : List CL} {c : List Int} : ∀ (f i : Nat), endM C c f i = true → ∀ j : Nat, i ≤ j → j < i + f → okEnd (rd_T68 C (j : Int)) (rd c (j : Int)) = true
  | 0, i, _, j, h1, h2 => by omega
  | f + 1, i, h, j, h1, h2 => by
    unfold endM at h
    split at h
    · rename_i ho
      by_cases e : j = i
      · subst e; exact ho
      · exact endM_out f (i + 1) h j (by omega) (by omega)
    · cases h
theorem okEnd_out {x : CL} {c : Int} (h : okEnd x c = true) : x.f0 = c ∧ (x.f0 = 0 → x.f1.size = 0 ∧ x.f2 = []) := by
  unfold okEnd at h
  split at h
  · rename_i e
    refine ⟨e, fun h0 => ?_⟩
    rw [if_pos h0] at h
    split at h
    · rename_i e1
      exact ⟨e1, List.length_eq_zero_iff.1 (of_decide_eq_true h)⟩
    · cases h
  · cases h
section
variable {C : List CL} {R : List Int} {L : Int} {E : List (Int × Int)} {lev : Int → Int}
theorem tidy_of {V c v : List Int} (hI : Inv C R L V [] c v) (hE : endM C c C.length 0 = true) (hn : C.length ≤ 80) (hr : R.length ≤ 8) : Tidy C R L [] (rd v) := by
  have ho : ∀ k : Int, 0 ≤ k → k < (C.length : Int) → okEnd (rd_T68 C k) (rd c k) = true := fun k h0 h1 => by
    have := endM_out C.length 0 hE k.toNat (Nat.zero_le _) (by omega)
    rwa [show ((k.toNat : Nat) : Int) = k by omega] at this
  have hf : ∀ k : Int, 0 ≤ k → k < (C.length : Int) → ((rd_T68 C k).f0 ≠ 0 ↔ k ∈ V) := fun k h0 h1 => by
    rw [(okEnd_out (ho k h0 h1)).1]
    have := hI.pos k h0 h1
    constructor
    · intro h; exact Classical.byContradiction fun hv => h (this.2 hv)
    · intro h; have := this.1 h; omega
  refine ⟨fun k h0 h1 => ?_, fun k h0 h1 => ?_, fun k h0 h1 => (okEnd_out (ho k h0 h1)).2, fun k h0 h1 hk => ?_, fun k h0 h1 hk z hz => ?_, fun r hr => ?_, fun q hq => by cases hq⟩
  · rw [(okEnd_out (ho k h0 h1)).1]
    have e1 := hI.cnts k h0 h1
    have e2 := sumV (fun x => x.f2.count k) C.length C rfl V hI.nd hI.vin (fun j j0 j1 hj => by
      have h3 : (rd_T68 C j).f0 = 0 := Classical.byContradiction fun h => hj ((hf j j0 j1).1 h)
      show (rd_T68 C j).f2.count k = 0
      rw [((okEnd_out (ho j j0 j1)).2 h3).2]; rfl)
    rw [List.count_flatMap] at e1
    simp only [List.map_nil, List.count_nil] at e1 ⊢
    have e3 : (V.map (List.count k ∘ kidsOf C)).sum = kc C k := e2
    rw [e3] at e1
    omega
  · rw [(okEnd_out (ho k h0 h1)).1]
    have := hI.bound k h0 h1
    omega
  · exact hI.good k ((hf k h0 h1).1 hk)
  · have hV := (hf k h0 h1).1 hk
    rcases hI.kid k hV z hz with (e | e) | e
    · exact .inl e
    · exact .inr ⟨e.1, e.2.1, e.2.2.1⟩
    · cases e
  · rcases hI.rts r hr with (e | e) | e
    · exact .inl e
    · exact .inr ⟨e.1, e.2.1, e.2.2.1⟩
    · cases e
theorem kc_in {C : List CL} {j k : Int} (h0 : 0 ≤ j) (h1 : j < (C.length : Int)) : (rd_T68 C j).f2.count k ≤ kc C k := by
  have := kc_set h0 h1 (⟨0, ⟨#[]⟩, []⟩ : CL) k
  have e : (⟨0, ⟨#[]⟩, []⟩ : CL).f2.count k = 0 := rfl
  omega
theorem Tidy.used (h : Tidy C R L E lev) {j k : Int} (j0 : 0 ≤ j) (j1 : j < (C.length : Int)) (h0 : 0 ≤ k) (h1 : k < (C.length : Int)) (hk : k ∈ (rd_T68 C j).f2) : 1 ≤ (rd_T68 C k).f0 := by
  have h2 := h.cnt k h0 h1
  have h3 := kc_in (C := C) (k := k) j0 j1
  have h4 := List.count_pos_iff.2 hk
  omega
end
section
variable {C : List CL} {R : List Int} {L : Int} {E : List (Int × Int)} {lev : Int → Int}
theorem count_cons_if (a k : Int) (l : List Int) : (a :: l).count k = l.count k + if a = k then 1 else 0 := by
  rw [List.count_cons]
  by_cases h : a = k
  · rw [if_pos h, if_pos (by simpa using h)]
  · rw [if_neg h, if_neg (by simpa using h)]
theorem kc_same {j : Int} (h0 : 0 ≤ j) (h1 : j < (C.length : Int)) (a : Int) (k : Int) : kc (C.set j.toNat ⟨a, (rd_T68 C j).f1, (rd_T68 C j).f2⟩) k = kc C k := by
  have := kc_set h0 h1 (⟨a, (rd_T68 C j).f1, (rd_T68 C j).f2⟩ : CL) k
  have e : (⟨a, (rd_T68 C j).f1, (rd_T68 C j).f2⟩ : CL).f2 = (rd_T68 C j).f2 := rfl
  rw [e] at this
  omega
theorem Tidy.count {R' : List Int} {E' : List (Int × Int)} (h : Tidy C R L E lev) {j : Int} (h0 : 0 ≤ j) (h1 : j < (C.length : Int)) (a : Int) (hu : (rd_T68 C j).f0 ≠ 0) (ha : 0 < a) (ha2 : a ≤ 1000) (hj : a = ((R'.count j + (E'.map Prod.fst).count j + kc C j : Nat) : Int))
    (hk : ∀ k, 0 ≤ k → k < (C.length : Int) → k ≠ j → R'.count k + (E'.map Prod.fst).count k = R.count k + (E.map Prod.fst).count k)
    (hR : ∀ r ∈ R', r = -1 ∨ (0 ≤ r ∧ r < (C.length : Int) ∧ lev r = L)) (hE : ∀ q ∈ E', q.1 = -1 ∨ (0 ≤ q.1 ∧ q.1 < (C.length : Int) ∧ lev q.1 = q.2)) :
    Tidy (C.set j.toNat ⟨a, (rd_T68 C j).f1, (rd_T68 C j).f2⟩) R' L E' lev := by
  have hs := rd_cl_set_self h0 h1 (⟨a, (rd_T68 C j).f1, (rd_T68 C j).f2⟩ : CL)
  refine ⟨fun k k0 k1 => ?_, fun k k0 k1 => ?_, fun k k0 k1 => ?_, fun k k0 k1 => ?_, fun k k0 k1 => ?_, fun r hr => ?_, fun q hq => ?_⟩ <;> (try rw [List.length_set] at k1) <;> (try rw [List.length_set])
  · rw [kc_same h0 h1]
    by_cases e : k = j
    · subst e; rw [hs]; exact hj
    · rw [rd_cl_set_ne k0 h0 e, h.cnt k k0 k1]
      have := hk k k0 k1 e
      omega
  · by_cases e : k = j
    · subst e; rw [hs]; exact ha2
    · rw [rd_cl_set_ne k0 h0 e]; exact h.bd k k0 k1
  · by_cases e : k = j
    · subst e; rw [hs]; intro e2; exact absurd e2 (by show a ≠ 0; omega)
    · rw [rd_cl_set_ne k0 h0 e]; exact h.emp k k0 k1
  · by_cases e : k = j
    · subst e; rw [hs]; intro _; exact h.good k k0 k1 hu
    · rw [rd_cl_set_ne k0 h0 e]; exact h.good k k0 k1
  · by_cases e : k = j
    · subst e; rw [hs]; intro _; exact h.kid k k0 k1 hu
    · rw [rd_cl_set_ne k0 h0 e]; exact h.kid k k0 k1
  · exact hR r hr
  · exact hE q hq
theorem count_erase (R : List Int) (a : Nat) (h : a < R.length) (k : Int) : R.count k = (R.eraseIdx a).count k + if R[a] = k then 1 else 0 := by
  have e : R = R.take a ++ R[a] :: R.drop (a + 1) := by rw [List.getElem_cons_drop, List.take_append_drop]
  have h1 : R.count k = (R.take a).count k + (R[a] :: R.drop (a + 1)).count k := by
    rw [← List.count_append, ← e]
  rw [h1, List.eraseIdx_eq_take_drop_succ, List.count_append, count_cons_if]
  omega
end
attribute [local go_sem] max2_int min2_int max_two min_two max_three min_three max_four min_four
set_option linter.unusedVariables false
set_option linter.unusedSimpArgs false
def spec_l14Size.l0 : Nat → Int → Int → Option (Int)
 | 0, _, _ => none
 | k + 1, x0, x3 => if x0 > 1 then (spec_l14Size.l0 k (wrap64 (x0 - 1)) (wrap64 (x3 * 4))) else (some x3)
def spec_l14Size.f (k : Nat) (a0 : Int) : Option (Int) := spec_l14Size.l0 k a0 1
set_option maxHeartbeats 8000000 in
set_option maxRecDepth 100000 in
theorem spec_l14Size.calls (k : Nat) (a0 : Int) (r : Int) (w : World) (h : spec_l14Size.f k a0 = some r) :
  Calls Try.prog 85 #[.int .i64 a0] w fun e w' => e = .returned (.int .i64 r) ∧ Drawn0 w w' := by
 have H : (spec_l14Size.l0 k a0 1) = some r := h
 clear h
 have H' := Aside0.mk H
 clear H
 go_enter Try.func85, Try.ntmps85
 go_wp2
 go_loopg [0, 3] k (fun kq v0 v3 w' => ∃ (x0_1 : Int) (x3_1 : Int), v0 = .int .i64 x0_1 ∧ v3 = .int .i64 x3_1 ∧ Aside0 (spec_l14Size.l0 kq x0_1 x3_1 = some r) ∧ Aside0 (kq ≤ k) ∧ Drawn0 w w')
 case atStart => exact ⟨(a0), (1), (by first | rfl | (simp; done) | (simp [*]; done)), (by first | rfl | (simp; done) | (simp [*]; done)), H', ⟨Nat.le_refl _⟩, by repeat (first | exact Drawn0.refl _ | apply Drawn0.step)⟩
 case round =>
  clear H'
  obtain ⟨x0_1, x3_1, rfl, rfl, HA, HK1, ⟨m1, rfl⟩⟩ := hrel
  cases gk with
  | zero => exact absurd HA.out (by simp [spec_l14Size.l0])
  | succ k1 =>
   have H := HA.out
   clear HA
   simp only [spec_l14Size.l0] at H
   by_cases c2 : x0_1 > 1
   ·rw [if_pos c2] at H
    have c2b0 : decide (1 < x0_1) = true := decide_eq_true c2
    clear c2
    have H' := Aside0.mk H
    clear H
    go_wp2
    go_roundg k1
    case measure => have := HK1.out; omega
    case rel => exact ⟨(wrap64 (x0_1 - 1)), (wrap64 (x3_1 * 4)), (by first | rfl | (simp; done) | (simp [*]; done)), (by first | rfl | (simp; done) | (simp [*]; done)), H', ⟨by have := HK1.out; omega⟩, by repeat (first | exact Drawn0.refl _ | apply Drawn0.step)⟩
   ·rw [if_neg c2] at H
    have c2b0 : decide (1 < x0_1) = false := decide_eq_false c2
    clear c2
    obtain rfl := Option.some.inj H
    go_wp2
    go_ret
    exact ⟨by first | rfl | (simp; done) | (simp [*]; done), by repeat (first | exact Drawn0.refl _ | apply Drawn0.step)⟩
def spec_l14Places.f (k : Nat) (l0_0 : List (S68)) (l0_1 : List Int) (a0_2 : Int) : Option (Int) := (spec_l14Size.f k (wrap64 (a0_2 + 1))).bind fun t206 => (some (wrap64 (Int.tdiv t206 4)))
set_option maxHeartbeats 8000000 in
set_option maxRecDepth 100000 in
theorem spec_l14Places.calls (k : Nat) (A0_0 : Option Addr) (c0_0 : Nat) (l0_0 : List (S68)) (A0_1 : Option Addr) (c0_1 : Nat) (l0_1 : List Int) (a0_2 : Int) (r : Int) (w : World) (hr0_0 : Kd.C k68 w A0_0 l0_0.length l0_0) (hc0_0 : l0_0.length ≤ c0_0) (hr0_1 : Kd.C (Kd.int .i64) w A0_1 l0_1.length l0_1) (hc0_1 : l0_1.length ≤ c0_1) (h : spec_l14Places.f k l0_0 l0_1 a0_2 = some r) :
  Calls Try.prog 61 #[.agg #[.slice A0_0 l0_0.length c0_0, .slice A0_1 l0_1.length c0_1, .int .i64 a0_2]] w fun e w' => e = .returned (.int .i64 r) ∧ Below w.heap.size w w' := by
 have hu25 := Try.underlying25
 have HR0_0 := Aside0.mk hr0_0
 have HC0_0 := Aside0.mk hc0_0
 clear hr0_0 hc0_0
 have HR0_1 := Aside0.mk hr0_1
 have HC0_1 := Aside0.mk hc0_1
 clear hr0_1 hc0_1
 have HB := Aside0.mk (Below.refl w.heap.size w)
 have H : ((spec_l14Size.f k (wrap64 (a0_2 + 1))).bind fun t206 => (some (wrap64 (Int.tdiv t206 4)))) = some r := h
 clear h
 replace H := Option.bind_eq_some_iff.mp H
 obtain ⟨t206, A20, H⟩ := H
 replace H : (some (wrap64 (Int.tdiv t206 4))) = some r := H
 have A2 := Aside0.mk A20
 clear A20
 obtain rfl := Option.some.inj H
 go_enter Try.func61, Try.ntmps61
 go_wp2_with (first | ((with_reducible refine gate_dst (N := 1) rfl ?_); refine box_event ?hg (N := 1) ?hd (cs := #[.slice A0_0 l0_0.length c0_0, .slice A0_1 l0_1.length c0_1, .int .i64 a0_2]) (t := 25) ?hr ?_; (case hd => rfl); (case hg => rfl); (case hr => first | (go_simp; done) | (go_simp; rfl)); intro gb205 hg w3 hbox hb; have BK205 := Aside0.mk (hbox); have GW205 := Aside0.mk ((by rw [hg]; exact (below_size (by with_reducible repeat (first | exact HB.out | apply below_alloc | apply pw_below_drewN | apply below_drew1))) : w.heap.size ≤ gb205)); have GE205 := Aside0.mk ((by rw [hg]; exact (below_size (by with_reducible repeat (first | exact HB.out | apply below_alloc | apply pw_below_drewN | apply below_drew1))) : w.heap.size ≤ gb205)); replace HB := Aside0.mk (below_step (by with_reducible repeat (first | exact HB.out | apply below_alloc | apply pw_below_drewN | apply below_drew1)) hb); clear hb hbox hg; have hcz4_0 : w3.cell? ⟨gb205, 0, none⟩ = some (.slice A0_0 l0_0.length c0_0) := (blk_cell BK205.out 0).trans rfl; have hcz4_1 : w3.cell? ⟨gb205, 1, none⟩ = some (.slice A0_1 l0_1.length c0_1) := (blk_cell BK205.out 1).trans rfl; have hcz4_2 : w3.cell? ⟨gb205, 2, none⟩ = some (.int .i64 a0_2) := (blk_cell BK205.out 2).trans rfl; have hfz4_0 := blk_frozen BK205.out 0; have hfz4_1 := blk_frozen BK205.out 1; have hfz4_2 := blk_frozen BK205.out 2) | ((with_reducible refine gate_callee (f := 85) rfl ?_); refine goesL_ (some 6) rfl rfl Try.func85 (by kernel_rfl) rfl #[.int .i64 (wrap64 (a0_2 + 1))] rfl (by (try simp only [List.map_toArray, List.map_cons, List.map_nil]); first | done | rfl | (simp only [List.length_drop, List.length_take]; rfl)) ?_; (with_reducible refine (spec_l14Size.calls k (wrap64 (a0_2 + 1)) t206 _ A2.out).mono ?_); rintro e w' ⟨rfl, ⟨nd, rfl⟩⟩; refine ⟨_, rfl, ?_⟩))
 go_ret
 exact ⟨by first | rfl | (simp [errW_none, errW_some] <;> rfl) | (simp [*, errW_none, errW_some] <;> rfl) | (simp [E.isEmpty_bne]; done) | (rw [E.bne_empty]), by with_reducible repeat (first | exact HB.out | apply below_alloc | apply pw_below_drewN | apply below_drew1 | refine below_set ?_ GE205.out)⟩
def spec_l14Leaf.l0 : Nat → Int → Int → Int → List (S68) → List Int → Int → Option (ByteArray)
 | 0, _, _, _, _, _, _ => none
 | k + 1, x1, x2, x7, x208000, x208001, x208002 => if x1 ≥ 0 then (if x7 > 1 then ((spec_l14Size.f k x7).bind fun t208 => (if 0 ≤ x1 then (if x1 < (x208000.length : Int) then (if (wrap64 (Int.tdiv t208 4)) = 0 then (none) else (if 0 ≤ (wrap64 (Int.tdiv x2 (wrap64 (Int.tdiv t208 4)))) then (if (wrap64 (Int.tdiv x2 (wrap64 (Int.tdiv t208 4)))) < (((rd_T68 x208000 x1).f2).length : Int) then (spec_l14Leaf.l0 k (rd ((rd_T68 x208000 x1).f2) (wrap64 (Int.tdiv x2 (wrap64 (Int.tdiv t208 4))))) (Int.tmod x2 (wrap64 (Int.tdiv t208 4))) (wrap64 (x7 - 1)) x208000 x208001 x208002) else (none)) else (none))) else (none)) else (none))) else (if x1 < 0 then (some (⟨#[]⟩ : ByteArray)) else (if 0 ≤ x1 then (if x1 < (x208000.length : Int) then (some ((rd_T68 x208000 x1).f1)) else (none)) else (none)))) else (if x1 < 0 then (some (⟨#[]⟩ : ByteArray)) else (if 0 ≤ x1 then (if x1 < (x208000.length : Int) then (some ((rd_T68 x208000 x1).f1)) else (none)) else (none)))
def spec_l14Leaf.f (k : Nat) (l0_0 : List (S68)) (l0_1 : List Int) (a0_2 : Int) (a1 : Int) (a2 : Int) : Option (ByteArray) := spec_l14Leaf.l0 k a1 a2 a0_2 l0_0 l0_1 a0_2
set_option maxHeartbeats 8000000 in
set_option maxRecDepth 100000 in
theorem spec_l14Leaf.calls (k : Nat) (A0_0 : Option Addr) (c0_0 : Nat) (l0_0 : List (S68)) (A0_1 : Option Addr) (c0_1 : Nat) (l0_1 : List Int) (a0_2 : Int) (a1 : Int) (a2 : Int) (r : ByteArray) (w : World) (hr0_0 : Kd.C k68 w A0_0 l0_0.length l0_0) (hc0_0 : l0_0.length ≤ c0_0) (hr0_1 : Kd.C (Kd.int .i64) w A0_1 l0_1.length l0_1) (hc0_1 : l0_1.length ≤ c0_1) (h : spec_l14Leaf.f k l0_0 l0_1 a0_2 a1 a2 = some r) :
  Calls Try.prog 62 #[.agg #[.slice A0_0 l0_0.length c0_0, .slice A0_1 l0_1.length c0_1, .int .i64 a0_2], .int .i64 a1, .int .i64 a2] w fun e w' => e = .returned (.string r) ∧ Below w.heap.size w w' := by
 have hu25 := Try.underlying25
 have HR0_0 := Aside0.mk hr0_0
 have HC0_0 := Aside0.mk hc0_0
 clear hr0_0 hc0_0
 have HR0_1 := Aside0.mk hr0_1
 have HC0_1 := Aside0.mk hc0_1
 clear hr0_1 hc0_1
 have HB := Aside0.mk (Below.refl w.heap.size w)
 have H : (spec_l14Leaf.l0 k a1 a2 a0_2 l0_0 l0_1 a0_2) = some r := h
 clear h
 have H' := Aside0.mk H
 clear H
 go_enter Try.func62, Try.ntmps62
 go_wp2_with (first | ((with_reducible refine gate_dst (N := 3) rfl ?_); refine box_event ?hg (N := 3) ?hd (cs := #[.slice A0_0 l0_0.length c0_0, .slice A0_1 l0_1.length c0_1, .int .i64 a0_2]) (t := 25) ?hr ?_; (case hd => rfl); (case hg => rfl); (case hr => first | (go_simp; done) | (go_simp; rfl)); intro gb207 hg w4 hbox hb; have BK207 := Aside0.mk (hbox); have GW207 := Aside0.mk ((by rw [hg]; exact (below_size (by with_reducible repeat (first | exact HB.out | apply below_alloc | apply pw_below_drewN | apply below_drew1))) : w.heap.size ≤ gb207)); have GE207 := Aside0.mk ((by rw [hg]; exact (below_size (by with_reducible repeat (first | exact HB.out | apply below_alloc | apply pw_below_drewN | apply below_drew1))) : w.heap.size ≤ gb207)); replace HB := Aside0.mk (below_step (by with_reducible repeat (first | exact HB.out | apply below_alloc | apply pw_below_drewN | apply below_drew1)) hb); clear hb hbox hg; have hcz5_0 : w4.cell? ⟨gb207, 0, none⟩ = some (.slice A0_0 l0_0.length c0_0) := (blk_cell BK207.out 0).trans rfl; have hcz5_1 : w4.cell? ⟨gb207, 1, none⟩ = some (.slice A0_1 l0_1.length c0_1) := (blk_cell BK207.out 1).trans rfl; have hcz5_2 : w4.cell? ⟨gb207, 2, none⟩ = some (.int .i64 a0_2) := (blk_cell BK207.out 2).trans rfl; have hfz5_0 := blk_frozen BK207.out 0; have hfz5_1 := blk_frozen BK207.out 1; have hfz5_2 := blk_frozen BK207.out 2))
 repeat (go_quiet (first | ((with_reducible refine gate_dst (N := 3) rfl ?_); refine box_event ?hg (N := 3) ?hd (cs := #[.slice A0_0 l0_0.length c0_0, .slice A0_1 l0_1.length c0_1, .int .i64 a0_2]) (t := 25) ?hr ?_; (case hd => rfl); (case hg => rfl); (case hr => first | (go_simp; done) | (go_simp; rfl)); intro gb207 hg w4 hbox hb; have BK207 := Aside0.mk (hbox); have GW207 := Aside0.mk ((by rw [hg]; exact (below_size (by with_reducible repeat (first | exact HB.out | apply below_alloc | apply pw_below_drewN | apply below_drew1))) : w.heap.size ≤ gb207)); have GE207 := Aside0.mk ((by rw [hg]; exact (below_size (by with_reducible repeat (first | exact HB.out | apply below_alloc | apply pw_below_drewN | apply below_drew1))) : w.heap.size ≤ gb207)); replace HB := Aside0.mk (below_step (by with_reducible repeat (first | exact HB.out | apply below_alloc | apply pw_below_drewN | apply below_drew1)) hb); clear hb hbox hg; have hcz5_0 : w4.cell? ⟨gb207, 0, none⟩ = some (.slice A0_0 l0_0.length c0_0) := (blk_cell BK207.out 0).trans rfl; have hcz5_1 : w4.cell? ⟨gb207, 1, none⟩ = some (.slice A0_1 l0_1.length c0_1) := (blk_cell BK207.out 1).trans rfl; have hcz5_2 : w4.cell? ⟨gb207, 2, none⟩ = some (.int .i64 a0_2) := (blk_cell BK207.out 2).trans rfl; have hfz5_0 := blk_frozen BK207.out 0; have hfz5_1 := blk_frozen BK207.out 1; have hfz5_2 := blk_frozen BK207.out 2)); try go_wp2_with (first | ((with_reducible refine gate_dst (N := 3) rfl ?_); refine box_event ?hg (N := 3) ?hd (cs := #[.slice A0_0 l0_0.length c0_0, .slice A0_1 l0_1.length c0_1, .int .i64 a0_2]) (t := 25) ?hr ?_; (case hd => rfl); (case hg => rfl); (case hr => first | (go_simp; done) | (go_simp; rfl)); intro gb207 hg w4 hbox hb; have BK207 := Aside0.mk (hbox); have GW207 := Aside0.mk ((by rw [hg]; exact (below_size (by with_reducible repeat (first | exact HB.out | apply below_alloc | apply pw_below_drewN | apply below_drew1))) : w.heap.size ≤ gb207)); have GE207 := Aside0.mk ((by rw [hg]; exact (below_size (by with_reducible repeat (first | exact HB.out | apply below_alloc | apply pw_below_drewN | apply below_drew1))) : w.heap.size ≤ gb207)); replace HB := Aside0.mk (below_step (by with_reducible repeat (first | exact HB.out | apply below_alloc | apply pw_below_drewN | apply below_drew1)) hb); clear hb hbox hg; have hcz5_0 : w4.cell? ⟨gb207, 0, none⟩ = some (.slice A0_0 l0_0.length c0_0) := (blk_cell BK207.out 0).trans rfl; have hcz5_1 : w4.cell? ⟨gb207, 1, none⟩ = some (.slice A0_1 l0_1.length c0_1) := (blk_cell BK207.out 1).trans rfl; have hcz5_2 : w4.cell? ⟨gb207, 2, none⟩ = some (.int .i64 a0_2) := (blk_cell BK207.out 2).trans rfl; have hfz5_0 := blk_frozen BK207.out 0; have hfz5_1 := blk_frozen BK207.out 1; have hfz5_2 := blk_frozen BK207.out 2)))
 go_loopg [1, 2, 7] k (fun kq v1 v2 v7 w' => ∃ (x1_1 : Int) (x2_1 : Int) (x7_1 : Int), v1 = .int .i64 x1_1 ∧ v2 = .int .i64 x2_1 ∧ v7 = .int .i64 x7_1 ∧ Aside0 (spec_l14Leaf.l0 kq x1_1 x2_1 x7_1 l0_0 l0_1 a0_2 = some r) ∧ Aside0 (kq ≤ k) ∧ Aside0 (w'.heap[gb207]? = some (.cells #[(.slice A0_0 l0_0.length c0_0), (.slice A0_1 l0_1.length c0_1), .int .i64 a0_2] 25 (0, 0))) ∧ Aside0 (Below w.heap.size w w'))
 case atStart => exact ⟨(a1), (a2), (a0_2), (by first | rfl | (simp; done) | (simp [*]; done)), (by first | rfl | (simp; done) | (simp [*]; done)), (by first | rfl | (simp; done) | (simp [*]; done)), H', ⟨Nat.le_refl _⟩, ⟨by (with_reducible repeat (first | refine blk_drewN ?_ _ | refine blk_drew ?_ | refine blk_alloc ?_ _)); exact BK207.out⟩, ⟨by with_reducible repeat (first | exact HB.out | apply below_alloc | apply pw_below_drewN | apply below_drew1 | refine below_set ?_ GE207.out)⟩⟩
 case round =>
  clear H'
  try clear p2
  try clear hcz5_0
  try clear hcz5_1
  try clear hcz5_2
  try clear hfz5_0
  try clear hfz5_1
  try clear hfz5_2
  obtain ⟨x1_1, x2_1, x7_1, rfl, rfl, rfl, HA, HK1, BK207, HB⟩ := hrel
  cases gk with
  | zero => exact absurd HA.out (by simp [spec_l14Leaf.l0])
  | succ k1 =>
   have H := HA.out
   clear HA
   simp only [spec_l14Leaf.l0] at H
   by_cases c6 : x1_1 ≥ 0
   ·rw [if_pos c6] at H
    have c6b0 : decide (0 ≤ x1_1) = true := decide_eq_true c6
    clear c6
    by_cases c7 : x7_1 > 1
    ·rw [if_pos c7] at H
     have c7b0 : decide (1 < x7_1) = true := decide_eq_true c7
     clear c7
     replace H := Option.bind_eq_some_iff.mp H
     obtain ⟨t208, A80, H⟩ := H
     replace H : (if 0 ≤ x1_1 then (if x1_1 < (l0_0.length : Int) then (if (wrap64 (Int.tdiv t208 4)) = 0 then (none) else (if 0 ≤ (wrap64 (Int.tdiv x2_1 (wrap64 (Int.tdiv t208 4)))) then (if (wrap64 (Int.tdiv x2_1 (wrap64 (Int.tdiv t208 4)))) < (((rd_T68 l0_0 x1_1).f2).length : Int) then (spec_l14Leaf.l0 k1 (rd ((rd_T68 l0_0 x1_1).f2) (wrap64 (Int.tdiv x2_1 (wrap64 (Int.tdiv t208 4))))) (Int.tmod x2_1 (wrap64 (Int.tdiv t208 4))) (wrap64 (x7_1 - 1)) l0_0 l0_1 a0_2) else (none)) else (none))) else (none)) else (none)) = some r := H
     have A8 := Aside0.mk A80
     clear A80
     by_cases c9 : 0 ≤ x1_1
     ·rw [if_pos c9] at H
      have c9b0 : decide (0 ≤ x1_1) = true := decide_eq_true c9
      clear c9
      by_cases c10 : x1_1 < (l0_0.length : Int)
      ·rw [if_pos c10] at H
       have c10b0 : decide (x1_1 < (l0_0.length : Int)) = true := decide_eq_true c10
       clear c10
       by_cases c11 : (wrap64 (Int.tdiv t208 4)) = 0
       ·rw [if_pos c11] at H
        exact absurd H (by simp)
       ·rw [if_neg c11] at H
        have c11b0 : ((wrap64 (Int.tdiv t208 4)) == 0) = false := beq_eq_false_iff_ne.mpr c11
        have c11b1 : ((wrap64 (Int.tdiv t208 4)) != 0) = true := bne_iff_ne.mpr c11
        obtain ⟨ji12, hji12⟩ : ∃ j_ : Int, (wrap64 (Int.tdiv x2_1 (wrap64 (Int.tdiv t208 4)))) = j_ := ⟨_, rfl⟩
        replace H : (if 0 ≤ (ji12) then (if (ji12) < (((rd_T68 l0_0 x1_1).f2).length : Int) then (spec_l14Leaf.l0 k1 (rd ((rd_T68 l0_0 x1_1).f2) (ji12)) (Int.tmod x2_1 (wrap64 (Int.tdiv t208 4))) (wrap64 (x7_1 - 1)) l0_0 l0_1 a0_2) else (none)) else (none)) = some r := by first | (rw [hji12] at H; exact H) | (simp only [hji12] at H ⊢; exact H)
        (try rw [hji12] at A8)
        have hji12w : (IntKind.i64.wrap (Int.tdiv x2_1 (wrap64 (Int.tdiv t208 4)))) = ji12 := (i64_w _).trans hji12
        by_cases c13 : 0 ≤ (ji12)
        ·rw [if_pos c13] at H
         have c13b0 : decide (0 ≤ (ji12)) = true := decide_eq_true c13
         clear c13
         by_cases c14 : (ji12) < (((rd_T68 l0_0 x1_1).f2).length : Int)
         ·rw [if_pos c14] at H
          have c14b0 : decide ((ji12) < (((rd_T68 l0_0 x1_1).f2).length : Int)) = true := decide_eq_true c14
          clear c14
          have H' := Aside0.mk H
          clear H
          go_wp2_with (first | (go_at_call 85; (with_reducible refine (spec_l14Size.calls k1 x7_1 t208 _ A8.out).mono ?_); rintro e w' ⟨rfl, ⟨nd, rfl⟩⟩; (try first | exact ⟨rfl, _, World.drewN_drewN _ _ _⟩ | exact ⟨rfl, _, Eq.trans (World.drewN_drewN _ _ _) (congrArg (World.drewN _) (Nat.add_assoc _ _ _))⟩); have hcz15_0 : wr.cell? ⟨gb207, 0, none⟩ = some (.slice A0_0 l0_0.length c0_0) := (blk_cell BK207.out 0).trans rfl; have hcz15_1 : wr.cell? ⟨gb207, 1, none⟩ = some (.slice A0_1 l0_1.length c0_1) := (blk_cell BK207.out 1).trans rfl; have hcz15_2 : wr.cell? ⟨gb207, 2, none⟩ = some (.int .i64 a0_2) := (blk_cell BK207.out 2).trans rfl; have hfz15_0 := blk_frozen BK207.out 0; have hfz15_1 := blk_frozen BK207.out 1; have hfz15_2 := blk_frozen BK207.out 2; have p209 : 0 ≤ (x1_1 : Int) := of_decide_eq_true (by assumption); have q209 : x1_1 < (l0_0.length : Int) := of_decide_eq_true (by assumption); obtain ⟨ad209, A209_2, c209_2, e209, hx209_0, hx209_1, hx209_2, hl209_2, hi209_2⟩ := at_T68 HR0_0.out x1_1 p209 q209; cases e209; replace hx209_0 := (HB.out.cell (World.block_lt_of_cell? w _ hx209_0)).trans hx209_0; replace hx209_1 := (HB.out.cell (World.block_lt_of_cell? w _ hx209_1)).trans hx209_1; replace hx209_2 := (HB.out.cell (World.block_lt_of_cell? w _ hx209_2)).trans hx209_2; have HR209_2 := Aside0.mk hi209_2; have HC209_2 := Aside0.mk hl209_2; clear hi209_2 hl209_2; replace p209 := eq_true p209; replace q209 := eq_true q209; have p210 : 0 ≤ ((ji12) : Int) := of_decide_eq_true (by assumption); have q210 : (ji12) < (((rd_T68 l0_0 x1_1).f2).length : Int) := of_decide_eq_true (by assumption); obtain ⟨ad210, e210, hx210_0⟩ := Kd.at_int HR209_2.out (ji12) p210 q210; cases e210; replace hx210_0 := (HB.out.cell (World.block_lt_of_cell? w _ hx210_0)).trans hx210_0; replace p210 := eq_true p210; replace q210 := eq_true q210))
          repeat (go_quiet (first | (go_at_call 85; (with_reducible refine (spec_l14Size.calls k1 x7_1 t208 _ A8.out).mono ?_); rintro e w' ⟨rfl, ⟨nd, rfl⟩⟩; (try first | exact ⟨rfl, _, World.drewN_drewN _ _ _⟩ | exact ⟨rfl, _, Eq.trans (World.drewN_drewN _ _ _) (congrArg (World.drewN _) (Nat.add_assoc _ _ _))⟩); have hcz15_0 : wr.cell? ⟨gb207, 0, none⟩ = some (.slice A0_0 l0_0.length c0_0) := (blk_cell BK207.out 0).trans rfl; have hcz15_1 : wr.cell? ⟨gb207, 1, none⟩ = some (.slice A0_1 l0_1.length c0_1) := (blk_cell BK207.out 1).trans rfl; have hcz15_2 : wr.cell? ⟨gb207, 2, none⟩ = some (.int .i64 a0_2) := (blk_cell BK207.out 2).trans rfl; have hfz15_0 := blk_frozen BK207.out 0; have hfz15_1 := blk_frozen BK207.out 1; have hfz15_2 := blk_frozen BK207.out 2; have p209 : 0 ≤ (x1_1 : Int) := of_decide_eq_true (by assumption); have q209 : x1_1 < (l0_0.length : Int) := of_decide_eq_true (by assumption); obtain ⟨ad209, A209_2, c209_2, e209, hx209_0, hx209_1, hx209_2, hl209_2, hi209_2⟩ := at_T68 HR0_0.out x1_1 p209 q209; cases e209; replace hx209_0 := (HB.out.cell (World.block_lt_of_cell? w _ hx209_0)).trans hx209_0; replace hx209_1 := (HB.out.cell (World.block_lt_of_cell? w _ hx209_1)).trans hx209_1; replace hx209_2 := (HB.out.cell (World.block_lt_of_cell? w _ hx209_2)).trans hx209_2; have HR209_2 := Aside0.mk hi209_2; have HC209_2 := Aside0.mk hl209_2; clear hi209_2 hl209_2; replace p209 := eq_true p209; replace q209 := eq_true q209; have p210 : 0 ≤ ((ji12) : Int) := of_decide_eq_true (by assumption); have q210 : (ji12) < (((rd_T68 l0_0 x1_1).f2).length : Int) := of_decide_eq_true (by assumption); obtain ⟨ad210, e210, hx210_0⟩ := Kd.at_int HR209_2.out (ji12) p210 q210; cases e210; replace hx210_0 := (HB.out.cell (World.block_lt_of_cell? w _ hx210_0)).trans hx210_0; replace p210 := eq_true p210; replace q210 := eq_true q210)); try go_wp2_with (first | (go_at_call 85; (with_reducible refine (spec_l14Size.calls k1 x7_1 t208 _ A8.out).mono ?_); rintro e w' ⟨rfl, ⟨nd, rfl⟩⟩; (try first | exact ⟨rfl, _, World.drewN_drewN _ _ _⟩ | exact ⟨rfl, _, Eq.trans (World.drewN_drewN _ _ _) (congrArg (World.drewN _) (Nat.add_assoc _ _ _))⟩); have hcz15_0 : wr.cell? ⟨gb207, 0, none⟩ = some (.slice A0_0 l0_0.length c0_0) := (blk_cell BK207.out 0).trans rfl; have hcz15_1 : wr.cell? ⟨gb207, 1, none⟩ = some (.slice A0_1 l0_1.length c0_1) := (blk_cell BK207.out 1).trans rfl; have hcz15_2 : wr.cell? ⟨gb207, 2, none⟩ = some (.int .i64 a0_2) := (blk_cell BK207.out 2).trans rfl; have hfz15_0 := blk_frozen BK207.out 0; have hfz15_1 := blk_frozen BK207.out 1; have hfz15_2 := blk_frozen BK207.out 2; have p209 : 0 ≤ (x1_1 : Int) := of_decide_eq_true (by assumption); have q209 : x1_1 < (l0_0.length : Int) := of_decide_eq_true (by assumption); obtain ⟨ad209, A209_2, c209_2, e209, hx209_0, hx209_1, hx209_2, hl209_2, hi209_2⟩ := at_T68 HR0_0.out x1_1 p209 q209; cases e209; replace hx209_0 := (HB.out.cell (World.block_lt_of_cell? w _ hx209_0)).trans hx209_0; replace hx209_1 := (HB.out.cell (World.block_lt_of_cell? w _ hx209_1)).trans hx209_1; replace hx209_2 := (HB.out.cell (World.block_lt_of_cell? w _ hx209_2)).trans hx209_2; have HR209_2 := Aside0.mk hi209_2; have HC209_2 := Aside0.mk hl209_2; clear hi209_2 hl209_2; replace p209 := eq_true p209; replace q209 := eq_true q209; have p210 : 0 ≤ ((ji12) : Int) := of_decide_eq_true (by assumption); have q210 : (ji12) < (((rd_T68 l0_0 x1_1).f2).length : Int) := of_decide_eq_true (by assumption); obtain ⟨ad210, e210, hx210_0⟩ := Kd.at_int HR209_2.out (ji12) p210 q210; cases e210; replace hx210_0 := (HB.out.cell (World.block_lt_of_cell? w _ hx210_0)).trans hx210_0; replace p210 := eq_true p210; replace q210 := eq_true q210)))
          go_roundg k1
          case measure => have := HK1.out; omega
          case rel => exact ⟨(rd ((rd_T68 l0_0 x1_1).f2) (ji12)), (Int.tmod x2_1 (wrap64 (Int.tdiv t208 4))), (wrap64 (x7_1 - 1)), (by first | rfl | (simp; done) | (simp only [← hji12] <;> (first | rfl | simp)) | (simp [*]; done)), (by first | rfl | (simp; done) | (simp [*]; done)), (by first | rfl | (simp; done) | (simp [*]; done)), H', ⟨by have := HK1.out; omega⟩, ⟨by (with_reducible repeat (first | refine blk_drewN ?_ _ | refine blk_drew ?_ | refine blk_alloc ?_ _)); exact BK207.out⟩, ⟨by with_reducible repeat (first | exact HB.out | apply below_alloc | apply pw_below_drewN | apply below_drew1 | refine below_set ?_ GE207.out)⟩⟩
         ·rw [if_neg c14] at H
          exact absurd H (by simp)
        ·rw [if_neg c13] at H
         exact absurd H (by simp)
      ·rw [if_neg c10] at H
       exact absurd H (by simp)
     ·rw [if_neg c9] at H
      exact absurd H (by simp)
    ·rw [if_neg c7] at H
     have c7b0 : decide (1 < x7_1) = false := decide_eq_false c7
     clear c7
     by_cases c16 : x1_1 < 0
     ·rw [if_pos c16] at H
      have c16b0 : decide (x1_1 < 0) = true := decide_eq_true c16
      clear c16
      obtain rfl := Option.some.inj H
      go_wp2
      repeat (go_quiet (fail); try go_wp2)
      go_ret
      exact ⟨by first | rfl | (simp [errW_none, errW_some] <;> rfl) | (simp [*, errW_none, errW_some] <;> rfl) | (simp [E.isEmpty_bne]; done) | (rw [E.bne_empty]), by with_reducible repeat (first | exact HB.out | apply below_alloc | apply pw_below_drewN | apply below_drew1 | refine below_set ?_ GE207.out)⟩
     ·rw [if_neg c16] at H
      have c16b0 : decide (x1_1 < 0) = false := decide_eq_false c16
      clear c16
      by_cases c17 : 0 ≤ x1_1
      ·rw [if_pos c17] at H
       have c17b0 : decide (0 ≤ x1_1) = true := decide_eq_true c17
       clear c17
       by_cases c18 : x1_1 < (l0_0.length : Int)
       ·rw [if_pos c18] at H
        have c18b0 : decide (x1_1 < (l0_0.length : Int)) = true := decide_eq_true c18
        clear c18
        obtain rfl := Option.some.inj H
        have hcz19_0 : wr.cell? ⟨gb207, 0, none⟩ = some (.slice A0_0 l0_0.length c0_0) := (blk_cell BK207.out 0).trans rfl
        have hcz19_1 : wr.cell? ⟨gb207, 1, none⟩ = some (.slice A0_1 l0_1.length c0_1) := (blk_cell BK207.out 1).trans rfl
        have hcz19_2 : wr.cell? ⟨gb207, 2, none⟩ = some (.int .i64 a0_2) := (blk_cell BK207.out 2).trans rfl
        have hfz19_0 := blk_frozen BK207.out 0
        have hfz19_1 := blk_frozen BK207.out 1
        have hfz19_2 := blk_frozen BK207.out 2
        have p211 : 0 ≤ (x1_1 : Int) := of_decide_eq_true (by assumption)
        have q211 : x1_1 < (l0_0.length : Int) := of_decide_eq_true (by assumption)
        obtain ⟨ad211, A211_2, c211_2, e211, hx211_0, hx211_1, hx211_2, hl211_2, hi211_2⟩ := at_T68 HR0_0.out x1_1 p211 q211
        cases e211
        replace hx211_0 := (HB.out.cell (World.block_lt_of_cell? w _ hx211_0)).trans hx211_0
        replace hx211_1 := (HB.out.cell (World.block_lt_of_cell? w _ hx211_1)).trans hx211_1
        replace hx211_2 := (HB.out.cell (World.block_lt_of_cell? w _ hx211_2)).trans hx211_2
        have HR211_2 := Aside0.mk hi211_2
        have HC211_2 := Aside0.mk hl211_2
        clear hi211_2 hl211_2
        replace p211 := eq_true p211
        replace q211 := eq_true q211
        go_wp2
        repeat (go_quiet (fail); try go_wp2)
        go_ret
        exact ⟨by first | rfl | (simp [errW_none, errW_some] <;> rfl) | (simp [*, errW_none, errW_some] <;> rfl) | (simp [E.isEmpty_bne]; done) | (rw [E.bne_empty]), by with_reducible repeat (first | exact HB.out | apply below_alloc | apply pw_below_drewN | apply below_drew1 | refine below_set ?_ GE207.out)⟩
       ·rw [if_neg c18] at H
        exact absurd H (by simp)
      ·rw [if_neg c17] at H
       exact absurd H (by simp)
   ·rw [if_neg c6] at H
    have c6b0 : decide (0 ≤ x1_1) = false := decide_eq_false c6
    clear c6
    by_cases c20 : x1_1 < 0
    ·rw [if_pos c20] at H
     have c20b0 : decide (x1_1 < 0) = true := decide_eq_true c20
     clear c20
     obtain rfl := Option.some.inj H
     go_wp2
     repeat (go_quiet (fail); try go_wp2)
     go_ret
     exact ⟨by first | rfl | (simp [errW_none, errW_some] <;> rfl) | (simp [*, errW_none, errW_some] <;> rfl) | (simp [E.isEmpty_bne]; done) | (rw [E.bne_empty]), by with_reducible repeat (first | exact HB.out | apply below_alloc | apply pw_below_drewN | apply below_drew1 | refine below_set ?_ GE207.out)⟩
    ·rw [if_neg c20] at H
     exact (c20 (by have h_ := of_decide_eq_false c6b0; omega)).elim
attribute [local go_sem] max2_int min2_int max_two min_two max_three min_three max_four min_four
set_option linter.unusedVariables false
set_option linter.unusedSimpArgs false
def impl_Cow_places.f (l0_0 : List (S68)) (l0_1 : List Int) (a0_2 : Int) : Option (Int) := if 0 ≤ (wrap64 (2 * (wrap64 (a0_2 - 1)))) then (some (shl .i64 1 (wrap64 (2 * (wrap64 (a0_2 - 1)))))) else (none)
set_option maxHeartbeats 8000000 in
set_option maxRecDepth 100000 in
theorem impl_Cow_places.calls (A0_0 : Option Addr) (c0_0 : Nat) (l0_0 : List (S68)) (A0_1 : Option Addr) (c0_1 : Nat) (l0_1 : List Int) (a0_2 : Int) (r : Int) (w : World) (hr0_0 : Kd.C k68 w A0_0 l0_0.length l0_0) (hc0_0 : l0_0.length ≤ c0_0) (hr0_1 : Kd.C (Kd.int .i64) w A0_1 l0_1.length l0_1) (hc0_1 : l0_1.length ≤ c0_1) (h : impl_Cow_places.f l0_0 l0_1 a0_2 = some r) :
  Calls Try.prog 64 #[.agg #[.slice A0_0 l0_0.length c0_0, .slice A0_1 l0_1.length c0_1, .int .i64 a0_2]] w fun e w' => e = .returned (.int .i64 r) ∧ Below w.heap.size w w' := by
 have hu25 := Try.underlying25
 have HR0_0 := Aside0.mk hr0_0
 have HC0_0 := Aside0.mk hc0_0
 clear hr0_0 hc0_0
 have HR0_1 := Aside0.mk hr0_1
 have HC0_1 := Aside0.mk hc0_1
 clear hr0_1 hc0_1
 have HB := Aside0.mk (Below.refl w.heap.size w)
 have H : (if 0 ≤ (wrap64 (2 * (wrap64 (a0_2 - 1)))) then (some (shl .i64 1 (wrap64 (2 * (wrap64 (a0_2 - 1)))))) else (none)) = some r := h
 clear h
 obtain ⟨ji2, hji2⟩ : ∃ j_ : Int, (wrap64 (2 * (wrap64 (a0_2 - 1)))) = j_ := ⟨_, rfl⟩
 replace H : (if 0 ≤ (ji2) then (some (shl .i64 1 (ji2))) else (none)) = some r := by first | (rw [hji2] at H; exact H) | (simp only [hji2] at H ⊢; exact H)
 have hji2w : (IntKind.i64.wrap (2 * (wrap64 (a0_2 - 1)))) = ji2 := (i64_w _).trans hji2
 by_cases c3 : 0 ≤ (ji2)
 ·rw [if_pos c3] at H
  have c3b0 := eq_true c3
  have c3b1 : decide (0 ≤ (ji2)) = true := decide_eq_true c3
  clear c3
  obtain ⟨ji4, hji4⟩ : ∃ j_ : Int, (shl .i64 1 (ji2)) = j_ := ⟨_, rfl⟩
  replace H : (some ji4) = some r := by first | (rw [hji4] at H; exact H) | (simp only [hji4] at H ⊢; exact H)
  have hji4_ : (IntKind.i64.wrap (1 * 2 ^ min (ji2).toNat 64)) = ji4 := hji4
  have hji4z : (ji2) ≤ 64 → (IntKind.i64.wrap (1 * 2 ^ (ji2).toNat)) = ji4 := shl_small hji4
  have hji4u : (IntKind.i64.wrap (2 ^ min (ji2).toNat 64)) = ji4 := by have h_ := hji4_; rw [Int.one_mul] at h_; exact h_
  have hji4v : (ji2) ≤ 64 → (IntKind.i64.wrap (2 ^ (ji2).toNat)) = ji4 := fun hle_ => by have h_ := hji4z hle_; rw [Int.one_mul] at h_; exact h_
  have hji4y : (wrap64 (1 * 2 ^ min (ji2).toNat 64)) = ji4 := (i64_w _).symm.trans hji4_
  have hji4x : (ji2) ≤ 64 → (wrap64 (1 * 2 ^ (ji2).toNat)) = ji4 := fun h_ => (i64_w _).symm.trans (hji4z h_)
  obtain rfl := Option.some.inj H
  go_enter Try.func64, Try.ntmps64
  go_wp2_with (first | ((with_reducible refine gate_dst (N := 1) rfl ?_); refine box_event ?hg (N := 1) ?hd (cs := #[.slice A0_0 l0_0.length c0_0, .slice A0_1 l0_1.length c0_1, .int .i64 a0_2]) (t := 25) ?hr ?_; (case hd => rfl); (case hg => rfl); (case hr => first | (go_simp; done) | (go_simp; rfl)); intro gb223 hg w5 hbox hb; have BK223 := Aside0.mk (hbox); have GW223 := Aside0.mk ((by rw [hg]; exact (below_size (by with_reducible repeat (first | exact HB.out | apply below_alloc | apply pw_below_drewN | apply below_drew1))) : w.heap.size ≤ gb223)); have GE223 := Aside0.mk ((by rw [hg]; exact (below_size (by with_reducible repeat (first | exact HB.out | apply below_alloc | apply pw_below_drewN | apply below_drew1))) : w.heap.size ≤ gb223)); replace HB := Aside0.mk (below_step (by with_reducible repeat (first | exact HB.out | apply below_alloc | apply pw_below_drewN | apply below_drew1)) hb); clear hb hbox hg; have hcz6_0 : w5.cell? ⟨gb223, 0, none⟩ = some (.slice A0_0 l0_0.length c0_0) := (blk_cell BK223.out 0).trans rfl; have hcz6_1 : w5.cell? ⟨gb223, 1, none⟩ = some (.slice A0_1 l0_1.length c0_1) := (blk_cell BK223.out 1).trans rfl; have hcz6_2 : w5.cell? ⟨gb223, 2, none⟩ = some (.int .i64 a0_2) := (blk_cell BK223.out 2).trans rfl; have hfz6_0 := blk_frozen BK223.out 0; have hfz6_1 := blk_frozen BK223.out 1; have hfz6_2 := blk_frozen BK223.out 2))
  go_ret
  exact ⟨by first | rfl | (simp [errW_none, errW_some] <;> rfl) | (simp only [← hji2, ← hji4]; first | rfl | (simp [errW_none, errW_some] <;> rfl)) | (simp [*, errW_none, errW_some] <;> rfl) | (simp [E.isEmpty_bne]; done) | (rw [E.bne_empty]), by with_reducible repeat (first | exact HB.out | apply below_alloc | apply pw_below_drewN | apply below_drew1 | refine below_set ?_ GE223.out)⟩
 ·rw [if_neg c3] at H
  exact absurd H (by simp)
def impl_digit.f (a0 : Int) (a1 : Int) : Option (Int) := if 0 ≤ (wrap64 (2 * (wrap64 (a1 - 2)))) then (some (Go.bits .and .i64 (shr .i64 a0 (wrap64 (2 * (wrap64 (a1 - 2))))) 3)) else (none)
set_option maxHeartbeats 8000000 in
set_option maxRecDepth 100000 in
theorem impl_digit.calls (a0 : Int) (a1 : Int) (r : Int) (w : World) (h : impl_digit.f a0 a1 = some r) :
  Calls Try.prog 86 #[.int .i64 a0, .int .i64 a1] w fun e w' => e = .returned (.int .i64 r) ∧ Drawn0 w w' := by
 have H : (if 0 ≤ (wrap64 (2 * (wrap64 (a1 - 2)))) then (some (Go.bits .and .i64 (shr .i64 a0 (wrap64 (2 * (wrap64 (a1 - 2))))) 3)) else (none)) = some r := h
 clear h
 obtain ⟨ji3, hji3⟩ : ∃ j_ : Int, (wrap64 (2 * (wrap64 (a1 - 2)))) = j_ := ⟨_, rfl⟩
 replace H : (if 0 ≤ (ji3) then (some (Go.bits .and .i64 (shr .i64 a0 (ji3)) 3)) else (none)) = some r := by first | (rw [hji3] at H; exact H) | (simp only [hji3] at H ⊢; exact H)
 have hji3w : (IntKind.i64.wrap (2 * (wrap64 (a1 - 2)))) = ji3 := (i64_w _).trans hji3
 by_cases c4 : 0 ≤ (ji3)
 ·rw [if_pos c4] at H
  have c4b0 := eq_true c4
  have c4b1 : decide (0 ≤ (ji3)) = true := decide_eq_true c4
  clear c4
  obtain ⟨ji5, hji5⟩ : ∃ j_ : Int, (shr .i64 a0 (ji3)) = j_ := ⟨_, rfl⟩
  replace H : (some (Go.bits .and .i64 (ji5) 3)) = some r := by first | (rw [hji5] at H; exact H) | (simp only [hji5] at H ⊢; exact H)
  have hji5_ : (a0 / 2 ^ min (ji3).toNat 64) = ji5 := hji5
  have hji5z : (ji3) ≤ 64 → (a0 / 2 ^ (ji3).toNat) = ji5 := shr_small hji5
  obtain rfl := Option.some.inj H
  go_enter Try.func86, Try.ntmps86
  go_wp2
  go_ret
  exact ⟨by first | rfl | (simp; done) | (simp only [← hji3, ← hji5] <;> (first | rfl | simp)) | (simp [*]; done), by repeat (first | exact Drawn0.refl _ | apply Drawn0.step)⟩
 ·rw [if_neg c4] at H
  exact absurd H (by simp)
def impl_Cow_leafAt.l0 : Nat → Int → Int → Int → List (S68) → List Int → Int → Option (ByteArray)
 | 0, _, _, _, _, _, _ => none
 | k + 1, x2, x7, x8, x225000, x225001, x225002 => if x7 ≥ 0 then (if x8 > 1 then (if 0 ≤ x7 then (if x7 < (x225000.length : Int) then ((impl_digit.f x2 x8).bind fun t227 => (if 0 ≤ t227 then (if t227 < (((rd_T68 x225000 x7).f2).length : Int) then (impl_Cow_leafAt.l0 k x2 (rd ((rd_T68 x225000 x7).f2) t227) (wrap64 (x8 - 1)) x225000 x225001 x225002) else (none)) else (none))) else (none)) else (none)) else (if x7 < 0 then (some (⟨#[]⟩ : ByteArray)) else (if 0 ≤ x7 then (if x7 < (x225000.length : Int) then (some ((rd_T68 x225000 x7).f1)) else (none)) else (none)))) else (if x7 < 0 then (some (⟨#[]⟩ : ByteArray)) else (if 0 ≤ x7 then (if x7 < (x225000.length : Int) then (some ((rd_T68 x225000 x7).f1)) else (none)) else (none)))
def impl_Cow_leafAt.f (k : Nat) (l0_0 : List (S68)) (l0_1 : List Int) (a0_2 : Int) (a1 : Int) (a2 : Int) : Option (ByteArray) := if 0 ≤ a1 then (if a1 < (l0_1.length : Int) then (impl_Cow_leafAt.l0 k a2 (rd l0_1 a1) a0_2 l0_0 l0_1 a0_2) else (none)) else (none)
set_option maxHeartbeats 8000000 in
set_option maxRecDepth 100000 in
theorem impl_Cow_leafAt.calls (k : Nat) (A0_0 : Option Addr) (c0_0 : Nat) (l0_0 : List (S68)) (A0_1 : Option Addr) (c0_1 : Nat) (l0_1 : List Int) (a0_2 : Int) (a1 : Int) (a2 : Int) (r : ByteArray) (w : World) (hr0_0 : Kd.C k68 w A0_0 l0_0.length l0_0) (hc0_0 : l0_0.length ≤ c0_0) (hr0_1 : Kd.C (Kd.int .i64) w A0_1 l0_1.length l0_1) (hc0_1 : l0_1.length ≤ c0_1) (h : impl_Cow_leafAt.f k l0_0 l0_1 a0_2 a1 a2 = some r) :
  Calls Try.prog 65 #[.agg #[.slice A0_0 l0_0.length c0_0, .slice A0_1 l0_1.length c0_1, .int .i64 a0_2], .int .i64 a1, .int .i64 a2] w fun e w' => e = .returned (.string r) ∧ Below w.heap.size w w' := by
 have hu25 := Try.underlying25
 have HR0_0 := Aside0.mk hr0_0
 have HC0_0 := Aside0.mk hc0_0
 clear hr0_0 hc0_0
 have HR0_1 := Aside0.mk hr0_1
 have HC0_1 := Aside0.mk hc0_1
 clear hr0_1 hc0_1
 have HB := Aside0.mk (Below.refl w.heap.size w)
 have H : (if 0 ≤ a1 then (if a1 < (l0_1.length : Int) then (impl_Cow_leafAt.l0 k a2 (rd l0_1 a1) a0_2 l0_0 l0_1 a0_2) else (none)) else (none)) = some r := h
 clear h
 by_cases c4 : 0 ≤ a1
 ·rw [if_pos c4] at H
  have c4b0 : decide (0 ≤ a1) = true := decide_eq_true c4
  clear c4
  by_cases c5 : a1 < (l0_1.length : Int)
  ·rw [if_pos c5] at H
   have c5b0 : decide (a1 < (l0_1.length : Int)) = true := decide_eq_true c5
   clear c5
   have H' := Aside0.mk H
   clear H
   go_enter Try.func65, Try.ntmps65
   go_wp2_with (first | ((with_reducible refine gate_dst (N := 3) rfl ?_); refine box_event ?hg (N := 3) ?hd (cs := #[.slice A0_0 l0_0.length c0_0, .slice A0_1 l0_1.length c0_1, .int .i64 a0_2]) (t := 25) ?hr ?_; (case hd => rfl); (case hg => rfl); (case hr => first | (go_simp; done) | (go_simp; rfl)); intro gb224 hg w6 hbox hb; have BK224 := Aside0.mk (hbox); have GW224 := Aside0.mk ((by rw [hg]; exact (below_size (by with_reducible repeat (first | exact HB.out | apply below_alloc | apply pw_below_drewN | apply below_drew1))) : w.heap.size ≤ gb224)); have GE224 := Aside0.mk ((by rw [hg]; exact (below_size (by with_reducible repeat (first | exact HB.out | apply below_alloc | apply pw_below_drewN | apply below_drew1))) : w.heap.size ≤ gb224)); replace HB := Aside0.mk (below_step (by with_reducible repeat (first | exact HB.out | apply below_alloc | apply pw_below_drewN | apply below_drew1)) hb); clear hb hbox hg; have hcz7_0 : w6.cell? ⟨gb224, 0, none⟩ = some (.slice A0_0 l0_0.length c0_0) := (blk_cell BK224.out 0).trans rfl; have hcz7_1 : w6.cell? ⟨gb224, 1, none⟩ = some (.slice A0_1 l0_1.length c0_1) := (blk_cell BK224.out 1).trans rfl; have hcz7_2 : w6.cell? ⟨gb224, 2, none⟩ = some (.int .i64 a0_2) := (blk_cell BK224.out 2).trans rfl; have hfz7_0 := blk_frozen BK224.out 0; have hfz7_1 := blk_frozen BK224.out 1; have hfz7_2 := blk_frozen BK224.out 2; have p225 : 0 ≤ (a1 : Int) := of_decide_eq_true (by assumption); have q225 : a1 < (l0_1.length : Int) := of_decide_eq_true (by assumption); obtain ⟨ad225, e225, hx225_0⟩ := Kd.at_int HR0_1.out a1 p225 q225; cases e225; replace hx225_0 := (HB.out.cell (World.block_lt_of_cell? w _ hx225_0)).trans hx225_0; replace p225 := eq_true p225; replace q225 := eq_true q225))
   repeat (go_quiet (first | ((with_reducible refine gate_dst (N := 3) rfl ?_); refine box_event ?hg (N := 3) ?hd (cs := #[.slice A0_0 l0_0.length c0_0, .slice A0_1 l0_1.length c0_1, .int .i64 a0_2]) (t := 25) ?hr ?_; (case hd => rfl); (case hg => rfl); (case hr => first | (go_simp; done) | (go_simp; rfl)); intro gb224 hg w6 hbox hb; have BK224 := Aside0.mk (hbox); have GW224 := Aside0.mk ((by rw [hg]; exact (below_size (by with_reducible repeat (first | exact HB.out | apply below_alloc | apply pw_below_drewN | apply below_drew1))) : w.heap.size ≤ gb224)); have GE224 := Aside0.mk ((by rw [hg]; exact (below_size (by with_reducible repeat (first | exact HB.out | apply below_alloc | apply pw_below_drewN | apply below_drew1))) : w.heap.size ≤ gb224)); replace HB := Aside0.mk (below_step (by with_reducible repeat (first | exact HB.out | apply below_alloc | apply pw_below_drewN | apply below_drew1)) hb); clear hb hbox hg; have hcz7_0 : w6.cell? ⟨gb224, 0, none⟩ = some (.slice A0_0 l0_0.length c0_0) := (blk_cell BK224.out 0).trans rfl; have hcz7_1 : w6.cell? ⟨gb224, 1, none⟩ = some (.slice A0_1 l0_1.length c0_1) := (blk_cell BK224.out 1).trans rfl; have hcz7_2 : w6.cell? ⟨gb224, 2, none⟩ = some (.int .i64 a0_2) := (blk_cell BK224.out 2).trans rfl; have hfz7_0 := blk_frozen BK224.out 0; have hfz7_1 := blk_frozen BK224.out 1; have hfz7_2 := blk_frozen BK224.out 2; have p225 : 0 ≤ (a1 : Int) := of_decide_eq_true (by assumption); have q225 : a1 < (l0_1.length : Int) := of_decide_eq_true (by assumption); obtain ⟨ad225, e225, hx225_0⟩ := Kd.at_int HR0_1.out a1 p225 q225; cases e225; replace hx225_0 := (HB.out.cell (World.block_lt_of_cell? w _ hx225_0)).trans hx225_0; replace p225 := eq_true p225; replace q225 := eq_true q225)); try go_wp2_with (first | ((with_reducible refine gate_dst (N := 3) rfl ?_); refine box_event ?hg (N := 3) ?hd (cs := #[.slice A0_0 l0_0.length c0_0, .slice A0_1 l0_1.length c0_1, .int .i64 a0_2]) (t := 25) ?hr ?_; (case hd => rfl); (case hg => rfl); (case hr => first | (go_simp; done) | (go_simp; rfl)); intro gb224 hg w6 hbox hb; have BK224 := Aside0.mk (hbox); have GW224 := Aside0.mk ((by rw [hg]; exact (below_size (by with_reducible repeat (first | exact HB.out | apply below_alloc | apply pw_below_drewN | apply below_drew1))) : w.heap.size ≤ gb224)); have GE224 := Aside0.mk ((by rw [hg]; exact (below_size (by with_reducible repeat (first | exact HB.out | apply below_alloc | apply pw_below_drewN | apply below_drew1))) : w.heap.size ≤ gb224)); replace HB := Aside0.mk (below_step (by with_reducible repeat (first | exact HB.out | apply below_alloc | apply pw_below_drewN | apply below_drew1)) hb); clear hb hbox hg; have hcz7_0 : w6.cell? ⟨gb224, 0, none⟩ = some (.slice A0_0 l0_0.length c0_0) := (blk_cell BK224.out 0).trans rfl; have hcz7_1 : w6.cell? ⟨gb224, 1, none⟩ = some (.slice A0_1 l0_1.length c0_1) := (blk_cell BK224.out 1).trans rfl; have hcz7_2 : w6.cell? ⟨gb224, 2, none⟩ = some (.int .i64 a0_2) := (blk_cell BK224.out 2).trans rfl; have hfz7_0 := blk_frozen BK224.out 0; have hfz7_1 := blk_frozen BK224.out 1; have hfz7_2 := blk_frozen BK224.out 2; have p225 : 0 ≤ (a1 : Int) := of_decide_eq_true (by assumption); have q225 : a1 < (l0_1.length : Int) := of_decide_eq_true (by assumption); obtain ⟨ad225, e225, hx225_0⟩ := Kd.at_int HR0_1.out a1 p225 q225; cases e225; replace hx225_0 := (HB.out.cell (World.block_lt_of_cell? w _ hx225_0)).trans hx225_0; replace p225 := eq_true p225; replace q225 := eq_true q225)))
   go_loopg [7, 8] k (fun kq v7 v8 w' => ∃ (x7_1 : Int) (x8_1 : Int), v7 = .int .i64 x7_1 ∧ v8 = .int .i64 x8_1 ∧ Aside0 (impl_Cow_leafAt.l0 kq a2 x7_1 x8_1 l0_0 l0_1 a0_2 = some r) ∧ Aside0 (kq ≤ k) ∧ Aside0 (w'.heap[gb224]? = some (.cells #[(.slice A0_0 l0_0.length c0_0), (.slice (some ad225) l0_1.length c0_1), .int .i64 a0_2] 25 (0, 0))) ∧ Aside0 (Below w.heap.size w w'))
   case atStart => exact ⟨(rd l0_1 a1), (a0_2), (by first | rfl | (simp; done) | (simp [*]; done)), (by first | rfl | (simp; done) | (simp [*]; done)), H', ⟨Nat.le_refl _⟩, ⟨by (with_reducible repeat (first | refine blk_drewN ?_ _ | refine blk_drew ?_ | refine blk_alloc ?_ _)); exact BK224.out⟩, ⟨by with_reducible repeat (first | exact HB.out | apply below_alloc | apply pw_below_drewN | apply below_drew1 | refine below_set ?_ GE224.out)⟩⟩
   case round =>
    clear H'
    try clear p2
    try clear q2
    try clear hx2
    try clear c4
    try clear c4b0
    try clear c5
    try clear c5b0
    try clear c6
    try clear hcz7_0
    try clear hcz7_1
    try clear hcz7_2
    try clear hfz7_0
    try clear hfz7_1
    try clear hfz7_2
    try clear hx225_0
    try clear p225
    try clear q225
    obtain ⟨x7_1, x8_1, rfl, rfl, HA, HK1, BK224, HB⟩ := hrel
    cases gk with
    | zero => exact absurd HA.out (by simp [impl_Cow_leafAt.l0])
    | succ k1 =>
     have H := HA.out
     clear HA
     simp only [impl_Cow_leafAt.l0] at H
     by_cases c8 : x7_1 ≥ 0
     ·rw [if_pos c8] at H
      have c8b0 : decide (0 ≤ x7_1) = true := decide_eq_true c8
      clear c8
      by_cases c9 : x8_1 > 1
      ·rw [if_pos c9] at H
       have c9b0 : decide (1 < x8_1) = true := decide_eq_true c9
       clear c9
       by_cases c10 : 0 ≤ x7_1
       ·rw [if_pos c10] at H
        have c10b0 : decide (0 ≤ x7_1) = true := decide_eq_true c10
        clear c10
        by_cases c11 : x7_1 < (l0_0.length : Int)
        ·rw [if_pos c11] at H
         have c11b0 : decide (x7_1 < (l0_0.length : Int)) = true := decide_eq_true c11
         clear c11
         replace H := Option.bind_eq_some_iff.mp H
         obtain ⟨t227, A120, H⟩ := H
         replace H : (if 0 ≤ t227 then (if t227 < (((rd_T68 l0_0 x7_1).f2).length : Int) then (impl_Cow_leafAt.l0 k1 a2 (rd ((rd_T68 l0_0 x7_1).f2) t227) (wrap64 (x8_1 - 1)) l0_0 l0_1 a0_2) else (none)) else (none)) = some r := H
         have A12 := Aside0.mk A120
         clear A120
         by_cases c13 : 0 ≤ t227
         ·rw [if_pos c13] at H
          have c13b0 : decide (0 ≤ t227) = true := decide_eq_true c13
          clear c13
          by_cases c14 : t227 < (((rd_T68 l0_0 x7_1).f2).length : Int)
          ·rw [if_pos c14] at H
           have c14b0 : decide (t227 < (((rd_T68 l0_0 x7_1).f2).length : Int)) = true := decide_eq_true c14
           clear c14
           have H' := Aside0.mk H
           clear H
           have hcz15_0 : wr.cell? ⟨gb224, 0, none⟩ = some (.slice A0_0 l0_0.length c0_0) := (blk_cell BK224.out 0).trans rfl
           have hcz15_1 : wr.cell? ⟨gb224, 1, none⟩ = some (.slice (some ad225) l0_1.length c0_1) := (blk_cell BK224.out 1).trans rfl
           have hcz15_2 : wr.cell? ⟨gb224, 2, none⟩ = some (.int .i64 a0_2) := (blk_cell BK224.out 2).trans rfl
           have hfz15_0 := blk_frozen BK224.out 0
           have hfz15_1 := blk_frozen BK224.out 1
           have hfz15_2 := blk_frozen BK224.out 2
           have p226 : 0 ≤ (x7_1 : Int) := of_decide_eq_true (by assumption)
           have q226 : x7_1 < (l0_0.length : Int) := of_decide_eq_true (by assumption)
           obtain ⟨ad226, A226_2, c226_2, e226, hx226_0, hx226_1, hx226_2, hl226_2, hi226_2⟩ := at_T68 HR0_0.out x7_1 p226 q226
           cases e226
           replace hx226_0 := (HB.out.cell (World.block_lt_of_cell? w _ hx226_0)).trans hx226_0
           replace hx226_1 := (HB.out.cell (World.block_lt_of_cell? w _ hx226_1)).trans hx226_1
           replace hx226_2 := (HB.out.cell (World.block_lt_of_cell? w _ hx226_2)).trans hx226_2
           have HR226_2 := Aside0.mk hi226_2
           have HC226_2 := Aside0.mk hl226_2
           clear hi226_2 hl226_2
           replace p226 := eq_true p226
           replace q226 := eq_true q226
           go_wp2_with (first | (go_at_call 86; (with_reducible refine (impl_digit.calls a2 x8_1 t227 _ A12.out).mono ?_); rintro e w' ⟨rfl, ⟨nd, rfl⟩⟩; (try first | exact ⟨rfl, _, World.drewN_drewN _ _ _⟩ | exact ⟨rfl, _, Eq.trans (World.drewN_drewN _ _ _) (congrArg (World.drewN _) (Nat.add_assoc _ _ _))⟩); have p228 : 0 ≤ (t227 : Int) := of_decide_eq_true (by assumption); have q228 : t227 < (((rd_T68 l0_0 x7_1).f2).length : Int) := of_decide_eq_true (by assumption); obtain ⟨ad228, e228, hx228_0⟩ := Kd.at_int HR226_2.out t227 p228 q228; cases e228; replace hx228_0 := (HB.out.cell (World.block_lt_of_cell? w _ hx228_0)).trans hx228_0; replace p228 := eq_true p228; replace q228 := eq_true q228))
           repeat (go_quiet (first | (go_at_call 86; (with_reducible refine (impl_digit.calls a2 x8_1 t227 _ A12.out).mono ?_); rintro e w' ⟨rfl, ⟨nd, rfl⟩⟩; (try first | exact ⟨rfl, _, World.drewN_drewN _ _ _⟩ | exact ⟨rfl, _, Eq.trans (World.drewN_drewN _ _ _) (congrArg (World.drewN _) (Nat.add_assoc _ _ _))⟩); have p228 : 0 ≤ (t227 : Int) := of_decide_eq_true (by assumption); have q228 : t227 < (((rd_T68 l0_0 x7_1).f2).length : Int) := of_decide_eq_true (by assumption); obtain ⟨ad228, e228, hx228_0⟩ := Kd.at_int HR226_2.out t227 p228 q228; cases e228; replace hx228_0 := (HB.out.cell (World.block_lt_of_cell? w _ hx228_0)).trans hx228_0; replace p228 := eq_true p228; replace q228 := eq_true q228)); try go_wp2_with (first | (go_at_call 86; (with_reducible refine (impl_digit.calls a2 x8_1 t227 _ A12.out).mono ?_); rintro e w' ⟨rfl, ⟨nd, rfl⟩⟩; (try first | exact ⟨rfl, _, World.drewN_drewN _ _ _⟩ | exact ⟨rfl, _, Eq.trans (World.drewN_drewN _ _ _) (congrArg (World.drewN _) (Nat.add_assoc _ _ _))⟩); have p228 : 0 ≤ (t227 : Int) := of_decide_eq_true (by assumption); have q228 : t227 < (((rd_T68 l0_0 x7_1).f2).length : Int) := of_decide_eq_true (by assumption); obtain ⟨ad228, e228, hx228_0⟩ := Kd.at_int HR226_2.out t227 p228 q228; cases e228; replace hx228_0 := (HB.out.cell (World.block_lt_of_cell? w _ hx228_0)).trans hx228_0; replace p228 := eq_true p228; replace q228 := eq_true q228)))
           go_roundg k1
           case measure => have := HK1.out; omega
           case rel => exact ⟨(rd ((rd_T68 l0_0 x7_1).f2) t227), (wrap64 (x8_1 - 1)), (by first | rfl | (simp; done) | (simp [*]; done)), (by first | rfl | (simp; done) | (simp [*]; done)), H', ⟨by have := HK1.out; omega⟩, ⟨by (with_reducible repeat (first | refine blk_drewN ?_ _ | refine blk_drew ?_ | refine blk_alloc ?_ _)); exact BK224.out⟩, ⟨by with_reducible repeat (first | exact HB.out | apply below_alloc | apply pw_below_drewN | apply below_drew1 | refine below_set ?_ GE224.out)⟩⟩
          ·rw [if_neg c14] at H
           exact absurd H (by simp)
         ·rw [if_neg c13] at H
          exact absurd H (by simp)
        ·rw [if_neg c11] at H
         exact absurd H (by simp)
       ·rw [if_neg c10] at H
        exact absurd H (by simp)
      ·rw [if_neg c9] at H
       have c9b0 : decide (1 < x8_1) = false := decide_eq_false c9
       clear c9
       by_cases c16 : x7_1 < 0
       ·rw [if_pos c16] at H
        have c16b0 : decide (x7_1 < 0) = true := decide_eq_true c16
        clear c16
        obtain rfl := Option.some.inj H
        go_wp2
        repeat (go_quiet (fail); try go_wp2)
        go_ret
        exact ⟨by first | rfl | (simp [errW_none, errW_some] <;> rfl) | (simp [*, errW_none, errW_some] <;> rfl) | (simp [E.isEmpty_bne]; done) | (rw [E.bne_empty]), by with_reducible repeat (first | exact HB.out | apply below_alloc | apply pw_below_drewN | apply below_drew1 | refine below_set ?_ GE224.out)⟩
       ·rw [if_neg c16] at H
        have c16b0 : decide (x7_1 < 0) = false := decide_eq_false c16
        clear c16
        by_cases c17 : 0 ≤ x7_1
        ·rw [if_pos c17] at H
         have c17b0 : decide (0 ≤ x7_1) = true := decide_eq_true c17
         clear c17
         by_cases c18 : x7_1 < (l0_0.length : Int)
         ·rw [if_pos c18] at H
          have c18b0 : decide (x7_1 < (l0_0.length : Int)) = true := decide_eq_true c18
          clear c18
          obtain rfl := Option.some.inj H
          have hcz19_0 : wr.cell? ⟨gb224, 0, none⟩ = some (.slice A0_0 l0_0.length c0_0) := (blk_cell BK224.out 0).trans rfl
          have hcz19_1 : wr.cell? ⟨gb224, 1, none⟩ = some (.slice (some ad225) l0_1.length c0_1) := (blk_cell BK224.out 1).trans rfl
          have hcz19_2 : wr.cell? ⟨gb224, 2, none⟩ = some (.int .i64 a0_2) := (blk_cell BK224.out 2).trans rfl
          have hfz19_0 := blk_frozen BK224.out 0
          have hfz19_1 := blk_frozen BK224.out 1
          have hfz19_2 := blk_frozen BK224.out 2
          have p229 : 0 ≤ (x7_1 : Int) := of_decide_eq_true (by assumption)
          have q229 : x7_1 < (l0_0.length : Int) := of_decide_eq_true (by assumption)
          obtain ⟨ad229, A229_2, c229_2, e229, hx229_0, hx229_1, hx229_2, hl229_2, hi229_2⟩ := at_T68 HR0_0.out x7_1 p229 q229
          cases e229
          replace hx229_0 := (HB.out.cell (World.block_lt_of_cell? w _ hx229_0)).trans hx229_0
          replace hx229_1 := (HB.out.cell (World.block_lt_of_cell? w _ hx229_1)).trans hx229_1
          replace hx229_2 := (HB.out.cell (World.block_lt_of_cell? w _ hx229_2)).trans hx229_2
          have HR229_2 := Aside0.mk hi229_2
          have HC229_2 := Aside0.mk hl229_2
          clear hi229_2 hl229_2
          replace p229 := eq_true p229
          replace q229 := eq_true q229
          go_wp2
          repeat (go_quiet (fail); try go_wp2)
          go_ret
          exact ⟨by first | rfl | (simp [errW_none, errW_some] <;> rfl) | (simp [*, errW_none, errW_some] <;> rfl) | (simp [E.isEmpty_bne]; done) | (rw [E.bne_empty]), by with_reducible repeat (first | exact HB.out | apply below_alloc | apply pw_below_drewN | apply below_drew1 | refine below_set ?_ GE224.out)⟩
         ·rw [if_neg c18] at H
          exact absurd H (by simp)
        ·rw [if_neg c17] at H
         exact absurd H (by simp)
     ·rw [if_neg c8] at H
      have c8b0 : decide (0 ≤ x7_1) = false := decide_eq_false c8
      clear c8
      by_cases c20 : x7_1 < 0
      ·rw [if_pos c20] at H
       have c20b0 : decide (x7_1 < 0) = true := decide_eq_true c20
       clear c20
       obtain rfl := Option.some.inj H
       go_wp2
       repeat (go_quiet (fail); try go_wp2)
       go_ret
       exact ⟨by first | rfl | (simp [errW_none, errW_some] <;> rfl) | (simp [*, errW_none, errW_some] <;> rfl) | (simp [E.isEmpty_bne]; done) | (rw [E.bne_empty]), by with_reducible repeat (first | exact HB.out | apply below_alloc | apply pw_below_drewN | apply below_drew1 | refine below_set ?_ GE224.out)⟩
      ·rw [if_neg c20] at H
       exact (c20 (by have h_ := of_decide_eq_false c8b0; omega)).elim
  ·rw [if_neg c5] at H
   exact absurd H (by simp)
 ·rw [if_neg c4] at H
  exact absurd H (by simp)
theorem size1 (x : Int) : Ev (fun k => spec_l14Size.l0 k 1 x) x := Ev.step (fun _ => spec_l14Size.l0.eq_2 ..) (ev_neg (by omega) (ev_ret rfl))
theorem size_up {n n' x x' r : Int} (h0 : 1 < n) (h1 : n ≤ 4) (hx0 : 0 ≤ x) (hx1 : x ≤ 64) (hn : n' = n - 1) (hx : x' = x * 4) (h : Ev (fun k => spec_l14Size.l0 k n' x') r) : Ev (fun k => spec_l14Size.l0 k n x) r := by
  subst hn hx
  refine Ev.step (fun _ => spec_l14Size.l0.eq_2 ..) (ev_pos (by omega) ?_)
  rw [w64 (x := n - 1) (by omega) (by omega), w64 (x := x * 4) (by omega) (by omega)]
  exact h
theorem size_2 : Ev (fun k => spec_l14Size.f k 2) 4 := by
  unfold spec_l14Size.f
  exact size_up (n' := 1) (x' := 4) (by omega) (by omega) (by omega) (by omega) (by omega) (by omega) (size1 4)
theorem size_3 : Ev (fun k => spec_l14Size.f k 3) 16 := by
  unfold spec_l14Size.f
  exact size_up (n' := 2) (x' := 4) (by omega) (by omega) (by omega) (by omega) (by omega) (by omega) (size_up (n' := 1) (x' := 16) (by omega) (by omega) (by omega) (by omega) (by omega) (by omega) (size1 16))
theorem size_4 : Ev (fun k => spec_l14Size.f k 4) 64 := by
  unfold spec_l14Size.f
  exact size_up (n' := 3) (x' := 4) (by omega) (by omega) (by omega) (by omega) (by omega) (by omega) (size_up (n' := 2) (x' := 16) (by omega) (by omega) (by omega) (by omega) (by omega) (by omega) (size_up (n' := 1) (x' := 64) (by omega) (by omega) (by omega) (by omega) (by omega) (by omega) (size1 64)))
def plc (L : Int) : Int := if L = 1 then 1 else if L = 2 then 4 else 16
theorem places_both (C : List S68) (roots : List Int) (L : Int) (h1 : 1 ≤ L) (h3 : L ≤ 3) : Ev (fun k => spec_l14Places.f k C roots L) (plc L) ∧ impl_Cow_places.f C roots L = some (plc L) := by
  unfold spec_l14Places.f impl_Cow_places.f
  obtain rfl | rfl | rfl : L = 1 ∨ L = 2 ∨ L = 3 := by omega
  · exact ⟨Ev.bind (a := 4) (by rw [show wrap64 (1 + 1) = 2 by decide +kernel]; exact size_2) (ev_ret (by decide +kernel)), by decide +kernel⟩
  · exact ⟨Ev.bind (a := 16) (by rw [show wrap64 (2 + 1) = 3 by decide +kernel]; exact size_3) (ev_ret (by decide +kernel)), by decide +kernel⟩
  · exact ⟨Ev.bind (a := 64) (by rw [show wrap64 (3 + 1) = 4 by decide +kernel]; exact size_4) (ev_ret (by decide +kernel)), by decide +kernel⟩
theorem digit_all : ∀ i : Fin 16, impl_digit.f (((i : Nat) : Int)) 2 = some ((((i : Nat) : Int)) % 4) ∧ impl_digit.f (((i : Nat) : Int)) 3 = some ((((i : Nat) : Int)) / 4) := by decide +kernel
theorem digit_2 (b : Int) (h0 : 0 ≤ b) (h1 : b < 16) : impl_digit.f b 2 = some (b % 4) := by
  have := (digit_all ⟨b.toNat, by omega⟩).1
  simp only [show ((b.toNat : Nat) : Int) = b by omega] at this
  exact this
theorem digit_3 (b : Int) (h0 : 0 ≤ b) (h1 : b < 16) : impl_digit.f b 3 = some (b / 4) := by
  have := (digit_all ⟨b.toNat, by omega⟩).2
  simp only [show ((b.toNat : Nat) : Int) = b by omega] at this
  exact this
section
variable {C : List S68} {roots : List Int} {L : Int}
theorem leaf_none (a b l : Int) : ∃ r, Ev (fun n => spec_l14Leaf.l0 n (-1) a l C roots L) r ∧ Ev (fun n => impl_Cow_leafAt.l0 n b (-1) l C roots L) r :=
  ⟨_, Ev.step (fun _ => spec_l14Leaf.l0.eq_2 ..) (ev_neg (by omega) (ev_pos (by omega) (ev_ret rfl))), Ev.step (fun _ => impl_Cow_leafAt.l0.eq_2 ..) (ev_neg (by omega) (ev_pos (by omega) (ev_ret rfl)))⟩
theorem leaf_one {v : List Int} {k : Int} (hk : RefOK C v (k, 1)) (a b : Int) : ∃ r, Ev (fun n => spec_l14Leaf.l0 n k a 1 C roots L) r ∧ Ev (fun n => impl_Cow_leafAt.l0 n b k 1 C roots L) r := by
  rcases hk with e | ⟨h0, h1, _, _⟩
  · simp only at e
    subst e
    exact leaf_none a b 1
  · simp only at h0 h1
    exact ⟨_, Ev.step (fun _ => spec_l14Leaf.l0.eq_2 ..) (ev_pos h0 (ev_neg (by omega) (ev_neg (by omega) (ev_pos h0 (ev_pos h1 (ev_ret rfl)))))), Ev.step (fun _ => impl_Cow_leafAt.l0.eq_2 ..) (ev_pos h0 (ev_neg (by omega) (ev_neg (by omega) (ev_pos h0 (ev_pos h1 (ev_ret rfl))))))⟩
theorem leaf_two {V c v : List Int} (hI : Inv C roots L V [] c v) {k : Int} (hk : RefOK C v (k, 2)) (a b : Int) (h0 : 0 ≤ b) (h1 : b < 16) (hb : b % 4 = a) : ∃ r, Ev (fun n => spec_l14Leaf.l0 n k a 2 C roots L) r ∧ Ev (fun n => impl_Cow_leafAt.l0 n b k 2 C roots L) r := by
  by_cases hk1 : k = -1
  · subst hk1; exact leaf_none a b 2
  · obtain ⟨k0, k1, _, _, _, k6, k7⟩ := hI.below (m := 1) hk hk1
    have kl := k6 (by omega)
    have ha : a.toNat < (rd_T68 C k).f2.length := by omega
    have hz : RefOK C v (rd (rd_T68 C k).f2 a, 1) := by
      have := k7 _ (List.getElem_mem ha)
      rw [← rd_getD ha, show ((a.toNat : Nat) : Int) = a by omega] at this
      exact this
    have e1 : wrap64 (Int.tdiv 4 4) = 1 := by decide +kernel
    have e2 : wrap64 (2 - 1) = 1 := by decide +kernel
    have e3 : wrap64 (Int.tdiv a 1) = a := by rw [tdiv_pos (by omega), Int.ediv_one, w64 (by omega) (by omega)]
    obtain ⟨r, r1, r2⟩ := leaf_one (roots := roots) (L := L) hz (Int.tmod a 1) b
    refine ⟨r, Ev.step (fun _ => spec_l14Leaf.l0.eq_2 ..) (ev_pos k0 (ev_pos (by omega) (Ev.bind (a := 4) size_2 (ev_pos k0 (ev_pos k1 ?_))))), Ev.step (fun _ => impl_Cow_leafAt.l0.eq_2 ..) (ev_pos k0 (ev_pos (by omega) (ev_pos k0 (ev_pos k1 (ev_bindc (digit_2 b h0 h1) ?_)))))⟩
    · rw [e1, e2, e3]
      exact ev_neg (by omega) (ev_pos (by omega) (ev_pos (by omega) r1))
    · rw [hb, e2]
      exact ev_pos (by omega) (ev_pos (by omega) r2)
theorem leaf_three {V c v : List Int} (hI : Inv C roots L V [] c v) {k : Int} (hk : RefOK C v (k, 3)) (a : Int) (h0 : 0 ≤ a) (h1 : a < 16) : ∃ r, Ev (fun n => spec_l14Leaf.l0 n k a 3 C roots L) r ∧ Ev (fun n => impl_Cow_leafAt.l0 n a k 3 C roots L) r := by
  by_cases hk1 : k = -1
  · subst hk1; exact leaf_none a a 3
  · obtain ⟨k0, k1, _, _, _, k6, k7⟩ := hI.below (m := 2) hk hk1
    have kl := k6 (by omega)
    have ha : (a / 4).toNat < (rd_T68 C k).f2.length := by omega
    have hz : RefOK C v (rd (rd_T68 C k).f2 (a / 4), 2) := by
      have := k7 _ (List.getElem_mem ha)
      rw [← rd_getD ha, show (((a / 4).toNat : Nat) : Int) = a / 4 by omega] at this
      exact this
    have e1 : wrap64 (Int.tdiv 16 4) = 4 := by decide +kernel
    have e2 : wrap64 (3 - 1) = 2 := by decide +kernel
    have e3 : wrap64 (Int.tdiv a 4) = a / 4 := by rw [tdiv_pos (by omega), w64 (by omega) (by omega)]
    obtain ⟨r, r1, r2⟩ := leaf_two hI hz (a % 4) a h0 h1 rfl
    refine ⟨r, Ev.step (fun _ => spec_l14Leaf.l0.eq_2 ..) (ev_pos k0 (ev_pos (by omega) (Ev.bind (a := 16) size_3 (ev_pos k0 (ev_pos k1 ?_))))), Ev.step (fun _ => impl_Cow_leafAt.l0.eq_2 ..) (ev_pos k0 (ev_pos (by omega) (ev_pos k0 (ev_pos k1 (ev_bindc (digit_3 a h0 h1) ?_)))))⟩
    · rw [e1, e2, e3, tmod_pos h0]
      exact ev_neg (by omega) (ev_pos (by omega) (ev_pos (by omega) r1))
    · rw [e2]
      exact ev_pos (by omega) (ev_pos (by omega) r2)
theorem leaf_both {V c v : List Int} (hI : Inv C roots L V [] c v) (h1 : 1 ≤ L) (h3 : L ≤ 3) (a q : Int) (ha : 0 ≤ a ∧ a < (roots.length : Int)) (hq0 : 0 ≤ q) (hq1 : q < plc L) : ∃ r, Ev (fun n => spec_l14Leaf.f n C roots L (rd roots a) q) r ∧ Ev (fun n => impl_Cow_leafAt.f n C roots L a q) r := by
  unfold spec_l14Leaf.f impl_Cow_leafAt.f
  have hk : RefOK C v (rd roots a, L) := by
    have hl : a.toNat < roots.length := by omega
    have := hI.root _ (List.getElem_mem hl)
    rw [← rd_getD hl, show ((a.toNat : Nat) : Int) = a by omega] at this
    exact this
  obtain ⟨r, r1, r2⟩ : ∃ r, Ev (fun n => spec_l14Leaf.l0 n (rd roots a) q L C roots L) r ∧ Ev (fun n => impl_Cow_leafAt.l0 n q (rd roots a) L C roots L) r := by
    unfold plc at hq1
    obtain rfl | rfl | rfl : L = 1 ∨ L = 2 ∨ L = 3 := by omega
    · exact leaf_one hk q q
    · exact leaf_two hI hk q q hq0 (by simp at hq1; omega) (by simp at hq1; omega)
    · exact leaf_three hI hk q hq0 (by simp at hq1; omega)
  exact ⟨r, r1, ev_pos ha.1 (ev_pos ha.2 r2)⟩
end
end Go.Proofs.Ytacfalpgmibfnaa.PCow
