/- The law FnPictures answers true at all its arguments, and leaves them as they were; no condition. -/
import Derived.Test.YtacfalpgmibfnaaFPic6
import Derived.Test.YtacfalpgmibfnaaRows
import Derived.WalkKit
import Derived.ProofKit
import Derived.OpenShut
import Derived.ShutString
import Derived.ChangeOld
import Derived.Below
import Derived.SizedLaws
namespace Go.Proofs.Ytacfalpgmibfnaa.PCow
open Go.RowKit Go.Proofs.YtacfalpgmibfnaaW.PrintWords Go.Proofs.YtacfalpgmibfnaaW.PrintLast Go.Proofs.YtacfalpgmibfnaaW.PrintMore Go.Proofs.Ytacfalpgmibfnaa.E
set_option linter.unusedSimpArgs false
set_option linter.unusedVariables false
section
variable {C : List CL} {O : Nat → Bool} {E : List (Int × Nat)} {lev : Nat → Nat} {N : Int}
theorem new_held {m : Nat} {ks : List Int} (h : Held C O (ks.map (fun z => (z, m)) ++ E) lev N) (hO : ∀ j, j < C.length → O j = true → (rdn C j).f0 ≠ 0) (hN : 1 ≤ N) (x : CL) (x0 : x.f0 = 1) (x2 : x.f2 = ks) (m1 : m = 0 → ks = []) (m2 : m ≠ 0 → ks.length = 4) :
  ∃ lev1, Held (newC C x).1 O ((((newC C x).2 : Int), m + 1) :: E) lev1 N ∧ (∀ j, j < C.length → (O j = true ∨ (rdn C j).f0 ≠ 0) → rdn (newC C x).1 j = rdn C j) ∧ rdn (newC C x).1 (newC C x).2 = x ∧ usedN (newC C x).1 ≤ usedN C + 1 := by
 unfold newC
 split
 ·rename_i hf
  have hl : (C ++ [x]).length = C.length + 1 := by simp
  have hc := (h.pushed x).closed (k := C.length) (by omega) (h.far _ (Nat.le_refl _)) hN x x0 x2 m1 m2
  have es : (C ++ [x]).set C.length x = C ++ [x] := by simp
  rw [es] at hc
  exact ⟨_, hc, fun j hj _ => rdn_push C x j hj, rdn_last C x, usedN_push x⟩
 ·rename_i hf
  have hlt := freeK_lt C hf
  have h0 : (rdn C (freeK C).toNat).f0 = 0 := by
   rcases freeFrom_lt C 0 with e | ⟨j, hj, e, he⟩
   ·exact absurd (show freeK C < 0 by unfold freeK; omega) hf
   ·have ej : (freeK C).toNat = j := by unfold freeK; omega
    rw [ej, rdn_at hj]; exact he
  have ho : O (freeK C).toNat = false := by
   cases hb : O (freeK C).toNat with
   | false => rfl
   | true => exact absurd h0 (hO _ hlt hb)
  refine ⟨_, (h.free hlt ho h0).closed hlt ho hN x x0 x2 m1 m2, fun j hj hu => ?_, by rw [rdn_set hlt, if_pos rfl], (usedN_set hlt x).1⟩
  rw [rdn_set hlt, if_neg]
  intro e
  subst e
  rcases hu with e | e
  ·rw [ho] at e; cases e
  ·exact e h0
theorem own_held {k : Int} {m : Nat} {C1 : List CL} {k1 : Nat} (h : Held C O ((k, m + 1) :: E) lev N) (hO : ∀ j, j < C.length → O j = true → (rdn C j).f0 ≠ 0) (hN : 1 ≤ N ∧ N + 4 ≤ 90000) (e : ownM C k (m + 1) = some (C1, k1)) :
  ∃ lev1, Held C1 O (((k1 : Int), m + 1) :: E) lev1 (N + 4) ∧ (rdn C1 k1).f0 = 1 ∧ C.length ≤ C1.length ∧ (∀ j, j < C.length → O j = false → (rdn C j).f0 ≠ 0 → (rdn C1 j).f1 = (rdn C j).f1 ∧ (rdn C1 j).f2 = (rdn C j).f2) ∧ (∀ j, j < C.length → O j = true → rdn C1 j = rdn C j) ∧ usedN C1 ≤ usedN C + 1 ∧
   (k < 0 → (rdn C1 k1).f1 = ⟨#[]⟩ ∧ ∀ z ∈ (rdn C1 k1).f2, z = -1) ∧ (0 ≤ k → (rdn C1 k1).f1 = (rdn C k.toNat).f1 ∧ (rdn C1 k1).f2 = (rdn C k.toNat).f2) := by
 unfold ownM at e
 split at e
 ·split at e
  ·rename_i hk0
   have hx : ∃ ks : List Int, (if m + 1 = 1 then ([] : List Int) else [-1, -1, -1, -1]) = ks ∧ (∀ z ∈ ks, z = -1) ∧ (m = 0 → ks = []) ∧ (m ≠ 0 → ks.length = 4) := by
    by_cases e1 : m + 1 = 1
    ·exact ⟨[], by rw [if_pos e1], by simp, fun _ => rfl, fun h => by omega⟩
    ·exact ⟨[-1, -1, -1, -1], by rw [if_neg e1], by simp, fun h => by omega, fun _ => rfl⟩
   obtain ⟨ks, e1, e2, e3, e4⟩ := hx
   rw [e1] at e
   have hc0 : ∀ j : Nat, ks.count (j : Int) = 0 := fun j => List.count_eq_zero.2 (fun hm => by have := e2 _ hm; omega)
   have h1 : Held C O (ks.map (fun z => (z, m)) ++ E) lev N := by
    refine h.exch (fun j _ => ?_) (fun q hq => ?_)
    ·rw [fs_app, fs_map, hc0, fs_cons, if_neg (by omega)]; omega
    ·rcases List.mem_append.1 hq with hq | hq
     ·obtain ⟨z, hz, rfl⟩ := List.mem_map.1 hq
      exact .inl (e2 z hz)
     ·exact h.ext q (List.mem_cons_of_mem _ hq)
   obtain ⟨lev1, t1, t2, t3, t4⟩ := new_held h1 hO hN.1 ⟨1, ⟨#[]⟩, ks⟩ rfl rfl e3 e4
   have e5 := Option.some.inj e
   have a1 : (newC C ⟨1, ⟨#[]⟩, ks⟩).1 = C1 := by rw [e5]
   have a2 : (newC C ⟨1, ⟨#[]⟩, ks⟩).2 = k1 := by rw [e5]
   have hlen := (newC_len C ⟨1, ⟨#[]⟩, ks⟩).1
   rw [a1] at t1 t2 t3 t4 hlen
   rw [a2] at t1 t3
   exact ⟨lev1, t1.wide (by omega), by rw [t3], hlen, fun j hj _ hu => by rw [t2 j hj (.inr hu)]; exact ⟨rfl, rfl⟩, fun j hj ho => t2 j hj (.inl ho), t4, fun _ => by rw [t3]; exact ⟨rfl, e2⟩, fun h => by omega⟩
  ·rename_i hk0
   obtain ⟨hkl, hko, hku, hlv⟩ := h.hit (List.mem_cons_self ..) (by omega)
   rw [if_pos (by omega), rdn_int C (by omega)] at e
   have ek : ((k.toNat : Nat) : Int) = k := by omega
   split at e
   ·rename_i h1
    simp only [Option.some.injEq, Prod.mk.injEq] at e
    obtain ⟨rfl, rfl⟩ := e
    exact ⟨lev, by rw [ek]; exact h.wide (by omega), h1, Nat.le_refl _, fun j _ _ _ => ⟨rfl, rfl⟩, fun j _ _ => rfl, by omega, fun h => by omega, fun _ => ⟨rfl, rfl⟩⟩
   ·rename_i h1
    split at e
    ·have hcn := h.cnt _ hkl hko
     have hb := h.bd _ hkl hko
     obtain ⟨_, kd1, kd2, kd3⟩ := h.kid _ hkl hko hku
     have hks : (rdn C k.toNat).f2.length ≤ 4 := by
      by_cases e1 : lev k.toNat = 1
      ·rw [kd1 e1]; simp
      ·rw [kd2 e1]; omega
     rw [w64 (by omega) (by omega)] at e
     have h2 : Held (C.set k.toNat ⟨(rdn C k.toNat).f0 - 1, (rdn C k.toNat).f1, (rdn C k.toNat).f2⟩) O E lev N := by
      refine h.count hkl hko hku _ ?_ (by omega) (by omega) (by omega) (fun i hi hne => ?_) (fun q hq => h.ext q (List.mem_cons_of_mem _ hq))
      ·rw [hcn, fs_cons, if_pos ek.symm]; omega
      ·rw [fs_cons, if_neg (by omega), Nat.add_zero]
     obtain ⟨D, hD, e⟩ := Option.bind_eq_some_iff.1 e
     have hset := rdn_set hkl (⟨(rdn C k.toNat).f0 - 1, (rdn C k.toNat).f1, (rdn C k.toNat).f2⟩ : CL)
     have hf : ∀ j, (rdn (C.set k.toNat ⟨(rdn C k.toNat).f0 - 1, (rdn C k.toNat).f1, (rdn C k.toNat).f2⟩) j).f1 = (rdn C j).f1 ∧ (rdn (C.set k.toNat ⟨(rdn C k.toNat).f0 - 1, (rdn C k.toNat).f1, (rdn C k.toNat).f2⟩) j).f2 = (rdn C j).f2 ∧ ((rdn C j).f0 ≠ 0 → (rdn (C.set k.toNat ⟨(rdn C k.toNat).f0 - 1, (rdn C k.toNat).f1, (rdn C k.toNat).f2⟩) j).f0 ≠ 0) := fun j => by
      rw [hset]
      by_cases e : j = k.toNat
      ·subst e; rw [if_pos rfl]; exact ⟨rfl, rfl, fun _ => by show (rdn C k.toNat).f0 - 1 ≠ 0; omega⟩
      ·rw [if_neg e]; exact ⟨rfl, rfl, fun h => h⟩
     obtain ⟨i1, i2, i3, i4⟩ := inc_held m _ _ _ _ _ h2 hD (by omega) (fun z hz => by
      rw [List.length_set]
      rcases kd3 z hz with e1 | ⟨z0, z1, z2⟩
      ·exact .inl e1
      ·obtain ⟨q1, q2, q3, q4⟩ := h.kidhit hkl hko hku hz z0
       exact .inr ⟨z0, q1, q2, (hf _).2.2 q3, by omega⟩)
     rw [List.length_set] at i2 i3
     have hO2 : ∀ j, j < D.length → O j = true → (rdn D j).f0 ≠ 0 := fun j hj ho => by
      rw [(i3 j (by omega)).2.2.2 ho]
      exact (hf j).2.2 (hO j (by omega) ho)
     obtain ⟨lev1, t1, t2, t3, t4⟩ := new_held (i1.wide (N' := N + 4) (by omega)) hO2 (by omega) ⟨1, (rdn C k.toNat).f1, (rdn C k.toNat).f2⟩ rfl rfl (fun e1 => kd1 (by omega)) (fun e1 => kd2 (by omega))
     have hl1 := newC_len D ⟨1, (rdn C k.toNat).f1, (rdn C k.toNat).f2⟩
     have e5 := Option.some.inj e
     have a1 : (newC D ⟨1, (rdn C k.toNat).f1, (rdn C k.toNat).f2⟩).1 = C1 := by rw [e5]
     have a2 : (newC D ⟨1, (rdn C k.toNat).f1, (rdn C k.toNat).f2⟩).2 = k1 := by rw [e5]
     rw [a1] at t1 t2 t3 t4 hl1
     rw [a2] at t1 t3
     have hu4 : usedN D ≤ usedN C := Nat.le_trans i4 ((usedN_set hkl _).2 (by omega))
     refine ⟨lev1, t1, by rw [t3], by omega, fun j hj ho hu => ?_, fun j hj ho => ?_, by omega, fun h => by omega, fun _ => by rw [t3]; exact ⟨rfl, rfl⟩⟩
     ·have hu2 := (i3 j hj).2.2.1 ho ((hf j).2.2 hu)
      rw [t2 j (by omega) (.inr hu2), (i3 j hj).1, (i3 j hj).2.1]
      exact ⟨(hf j).1, (hf j).2.1⟩
     ·rw [t2 j (by omega) (.inl ho), (i3 j hj).2.2.2 ho, hset, if_neg]
      intro e
      subst e
      rw [hko] at ho; cases ho
    ·cases e
 ·cases e
theorem leaf_held {D : List CL} (h : Held C O E lev N) (hs : ∀ j, j < C.length → O j = false → (rdn C j).f0 ≠ 0 → (rdn D j).f1 = (rdn C j).f1 ∧ (rdn D j).f2 = (rdn C j).f2) {a : Int} (a0 : 0 ≤ a) (a1 : a < 16) :
  ∀ (m : Nat) (z : Int), m ≤ 3 → (z = -1 ∨ (0 ≤ z ∧ z.toNat < C.length ∧ O z.toNat = false ∧ (rdn C z.toNat).f0 ≠ 0 ∧ lev z.toNat = m)) → leafI D m z a = leafI C m z a := by
 intro m
 induction m with
 | zero => intro z _ _; rfl
 | succ m ih =>
  intro z hm hz
  rw [leafI, leafI]
  rcases hz with e | ⟨z0, z1, z2, z3, z4⟩
  ·rw [if_pos (by omega), if_pos (by omega)]
  ·rw [if_neg (show ¬ z < 0 by omega), if_neg (show ¬ z < 0 by omega), rdn_int C z0, rdn_int D z0, (hs _ z1 z2 z3).1, (hs _ z1 z2 z3).2]
   by_cases e : m = 0
   ·rw [if_pos e, if_pos e]
   ·rw [if_neg e, if_neg e]
    have hd := dgI_range a a0 a1 (m + 1) (by omega)
    rw [Int.toNat_natCast]
    have hk := h.kid _ z1 z2 z3
    have hmem := rd_memI hd.1 (by rw [hk.2.2.1 (by omega)]; exact hd.2 : dgI a (m + 1) < ((rdn C z.toNat).f2.length : Int))
    refine ih _ (by omega) ?_
    rcases hk.2.2.2 _ hmem with e1 | ⟨e1, e2, e3⟩
    ·exact .inl e1
    ·obtain ⟨q1, q2, q3, q4⟩ := h.kidhit z1 z2 z3 hmem e1
     exact .inr ⟨e1, q1, q2, q3, by omega⟩
theorem ref_held (h : Held C O E lev N) {p : Int × Nat} (hp : p ∈ E) : p.1 = -1 ∨ (0 ≤ p.1 ∧ p.1.toNat < C.length ∧ O p.1.toNat = false ∧ (rdn C p.1.toNat).f0 ≠ 0 ∧ lev p.1.toNat = p.2) := by
 rcases h.ext p hp with e | ⟨e, _, _⟩
 ·exact .inl e
 ·obtain ⟨a, b, c, d⟩ := h.hit (z := p.1) (m := p.2) hp e
  exact .inr ⟨e, a, b, c, d⟩
theorem someKid_no {ks : List Int} (h : ¬ someKid ks = true) : ∀ z ∈ ks, z < 0 := by
 intro z hz
 unfold someKid at h
 refine Classical.byContradiction fun hn => h ?_
 exact List.any_eq_true.2 ⟨z, hz, decide_eq_true (by omega)⟩
end
theorem put_held (q : Int) (leaf : ByteArray) (q0 : 0 ≤ q) (q1 : q < 16) : ∀ (l : Nat) (C : List CL) (O : Nat → Bool) (E : List (Int × Nat)) (lev : Nat → Nat) (k : Int) (N : Int) (C2 : List CL) (z2 : Int), l ≤ 3 → (∀ p ∈ E, p.2 ≤ 3) → Held C O ((k, l) :: E) lev N → (∀ j, j < C.length → O j = true → (rdn C j).f0 ≠ 0) → 1 ≤ N → N + 4 * (l : Int) ≤ 90000 → putM (dgI q) leaf l C k = some (C2, z2) →
  ∃ lev2, Held C2 O ((z2, l) :: E) lev2 (N + 4 * (l : Int)) ∧ C.length ≤ C2.length ∧ (∀ j, j < C.length → O j = true → rdn C2 j = rdn C j) ∧ usedN C2 ≤ usedN C + l ∧ (∀ p ∈ E, ∀ a, 0 ≤ a → a < 16 → leafI C2 p.2 p.1 a = leafI C p.2 p.1 a) ∧
   ∀ a, 0 ≤ a → a < 16 → ((∀ j, 2 ≤ j → j ≤ l → dgI a j = dgI q j) → leafI C2 l z2 a = leaf) ∧ (¬ (∀ j, 2 ≤ j → j ≤ l → dgI a j = dgI q j) → leafI C2 l z2 a = leafI C l k a) := by
 intro l
 induction l with
 | zero => intro C O E lev k N C2 z2 _ _ _ _ _ _ e; cases e
 | succ l ih =>
  intro C O E lev k N C2 z2 hl hE h hO hN hN2 e
  simp only [putM] at e
  split at e
  ·cases e
  ·rename_i hne
   obtain ⟨⟨C1, k1⟩, eo, e⟩ := Option.bind_eq_some_iff.1 e
   obtain ⟨lev1, t1, t2, t3, t4, t5, t6, t7, t8⟩ := own_held h hO ⟨hN, by omega⟩ eo
   have hO1 : ∀ j, j < C1.length → O j = true → (rdn C1 j).f0 ≠ 0 := fun j hj ho => by
    by_cases e2 : j < C.length
    ·rw [t5 j e2 ho]; exact hO j e2 ho
    ·rw [h.far j (by omega)] at ho; cases ho
   obtain ⟨hkl, hko, hku, hlv⟩ := t1.hit (z := (k1 : Int)) (List.mem_cons_self ..) (by omega)
   simp only [Int.toNat_natCast] at hkl hko hku hlv
   have hop := t1.opened t2
   have rk : rd_T68 C1 (k1 : Int) = rdn C1 k1 := rfl
   simp only at e
   rw [rk] at e
   have keep1 : ∀ p ∈ E, ∀ a, 0 ≤ a → a < 16 → leafI C1 p.2 p.1 a = leafI C p.2 p.1 a := fun p hp a a0 a1 =>
    leaf_held h t4 a0 a1 p.2 p.1 (hE p hp) (ref_held h (List.mem_cons_of_mem _ hp))
   have hkid := t1.kid k1 hkl hko hku
   by_cases h0 : l = 0
   ·subst h0
    rw [if_pos rfl] at e
    have hk0 : (rdn C1 k1).f2 = [] := hkid.2.1 hlv
    have cl : ∀ (x : CL) (lev2 : Nat → Nat) (E2 : List (Int × Nat)), Held (C1.set k1 x) O E2 lev2 (N + 4) → (∀ p ∈ E, ∀ a, 0 ≤ a → a < 16 → leafI (C1.set k1 x) p.2 p.1 a = leafI C p.2 p.1 a) ∧ (∀ j, j < C.length → O j = true → rdn (C1.set k1 x) j = rdn C j) ∧ usedN (C1.set k1 x) ≤ usedN C + 1 := fun x lev2 E2 _ => by
     refine ⟨fun p hp a a0 a1 => ?_, fun j hj ho => ?_, Nat.le_trans ((usedN_set hkl x).2 (by omega)) t6⟩
     ·rw [← keep1 p hp a a0 a1]
      refine leaf_held hop (fun j hj ho _ => ?_) a0 a1 p.2 p.1 (hE p hp) (ref_held hop (List.mem_append.2 (.inr hp)))
      rw [rdn_set hkl, if_neg]
      ·exact ⟨rfl, rfl⟩
      ·intro e2; subst e2; rw [orO_self] at ho; cases ho
     ·rw [rdn_set hkl, if_neg, t5 j hj ho]
      intro e2; subst e2; rw [hko] at ho; cases ho
    split at e
    ·rename_i hs
     simp only [Option.some.injEq, Prod.mk.injEq] at e
     obtain ⟨rfl, rfl⟩ := e
     have hc := hop.emptied (m' := 1) hkl hko (by omega) (by rw [hk0]; simp)
     obtain ⟨c1, c2, c3⟩ := cl _ _ _ hc
     refine ⟨_, hc.wide (by omega), by rw [List.length_set]; exact t3, c2, c3, c1, fun a a0 a1 => ⟨fun _ => ?_, fun hn => absurd (fun j h2 h1 => by omega) hn⟩⟩
     rw [leafI, if_pos (by omega), empty_of_size hs]
    ·rename_i hs
     simp only [Option.some.injEq, Prod.mk.injEq] at e
     obtain ⟨rfl, rfl⟩ := e
     have hc := hop.closed hkl hko (by omega) ⟨(rdn C1 k1).f0, leaf, (rdn C1 k1).f2⟩ t2 rfl (fun _ => hk0) (fun h => absurd rfl h)
     obtain ⟨c1, c2, c3⟩ := cl _ _ _ hc
     refine ⟨_, hc.wide (by omega), by rw [List.length_set]; exact t3, c2, c3, c1, fun a a0 a1 => ⟨fun _ => ?_, fun hn => absurd (fun j h2 h1 => by omega) hn⟩⟩
     rw [leafI, if_neg (by omega), if_pos rfl]
     show (rdn _ k1).f1 = leaf
     rw [rdn_set hkl, if_pos rfl]
   ·rw [if_neg h0] at e
    split at e
    ·rename_i hd
     obtain ⟨⟨C2', y2⟩, ep, e⟩ := Option.bind_eq_some_iff.1 e
     simp only at e
     obtain ⟨d0, d1, d2⟩ := hd
     generalize hde : dgI q (l + 1) = d at d0 d1 ep e
     generalize hks : (rdn C1 k1).f2 = ks at d2 ep e hop
     have hdl : d.toNat < ks.length := by omega
     have hrd : rd ks d = ks[d.toNat] := by
      have := rd_getD hdl
      rwa [show ((d.toNat : Nat) : Int) = d by omega] at this
     have hop2 : Held C1 (orO O k1) ((rd ks d, l) :: ((ks.eraseIdx d.toNat).map (fun z => (z, l)) ++ E)) lev1 (N + 4) := by
      refine hop.exch (fun j _ => ?_) (fun p hp => hop.ext p ?_)
      ·rw [fs_cons, fs_app, fs_app, fs_map, fs_map, count_erase ks d.toNat hdl, hrd]; omega
      ·rcases List.mem_cons.1 hp with e2 | hp
       ·subst e2
        exact List.mem_append.2 (.inl (List.mem_map.2 ⟨_, by rw [hrd]; exact List.getElem_mem hdl, rfl⟩))
       ·rcases List.mem_append.1 hp with hp | hp
        ·obtain ⟨z, hz, rfl⟩ := List.mem_map.1 hp
         exact List.mem_append.2 (.inl (List.mem_map.2 ⟨z, List.mem_of_mem_eraseIdx hz, rfl⟩))
        ·exact List.mem_append.2 (.inr hp)
     have hO3 : ∀ j, j < C1.length → orO O k1 j = true → (rdn C1 j).f0 ≠ 0 := fun j hj ho => by
      by_cases e2 : j = k1
      ·subst e2; exact hku
      ·rw [orO_ne O e2] at ho; exact hO1 j hj ho
     obtain ⟨lev2, s1, s2, s3, s4, s5, s6⟩ := ih C1 (orO O k1) _ lev1 (rd ks d) (N + 4) C2' y2 (by omega) (fun p hp => by
      rcases List.mem_append.1 hp with hp | hp
      ·obtain ⟨z, hz, rfl⟩ := List.mem_map.1 hp
       show l ≤ 3; omega
      ·exact hE p hp) hop2 hO3 (by omega) (by omega) ep
     have ek1 := s3 k1 hkl (orO_self O k1)
     have rk2 : rd_T68 C2' (k1 : Int) = rdn C2' k1 := rfl
     rw [rk2, ek1] at e
     have hk2 : k1 < C2'.length := by omega
     have hu2 : usedN C2' ≤ usedN C + 1 + l := by omega
     have cl : ∀ (x : CL), (∀ p ∈ E, ∀ a, 0 ≤ a → a < 16 → leafI (C2'.set k1 x) p.2 p.1 a = leafI C p.2 p.1 a) ∧ (∀ j, j < C.length → O j = true → rdn (C2'.set k1 x) j = rdn C j) ∧ usedN (C2'.set k1 x) ≤ usedN C + (l + 1) := fun x => by
      refine ⟨fun p hp a a0 a1 => ?_, fun j hj ho => ?_, Nat.le_trans ((usedN_set hk2 x).2 (by rw [ek1]; omega)) (by omega)⟩
      ·rw [← keep1 p hp a a0 a1, ← s5 p (List.mem_append.2 (.inr hp)) a a0 a1]
       refine leaf_held s1 (fun j hj ho _ => ?_) a0 a1 p.2 p.1 (hE p hp) (ref_held s1 (List.mem_cons_of_mem _ (List.mem_append.2 (.inr hp))))
       rw [rdn_set hk2, if_neg]
       ·exact ⟨rfl, rfl⟩
       ·intro e2; subst e2; rw [orO_self] at ho; cases ho
      ·have hjk : j ≠ k1 := fun e2 => by subst e2; rw [hko] at ho; cases ho
       rw [rdn_set hk2, if_neg hjk, s3 j (by omega) (by rw [orO_ne O hjk]; exact ho), t5 j hj ho]
     have s1' : Held C2' (orO O k1) ((ks.set d.toNat y2).map (fun z => (z, l)) ++ E) lev2 (N + 4 + 4 * (l : Int)) := by
      have hsl : d.toNat < (ks.set d.toNat y2).length := by rw [List.length_set]; exact hdl
      have hee : (ks.set d.toNat y2).eraseIdx d.toNat = ks.eraseIdx d.toNat := List.eraseIdx_set_eq
      refine s1.exch (fun j _ => ?_) (fun p hp => s1.ext p ?_)
      ·rw [fs_cons, fs_app, fs_app, fs_map, fs_map, count_erase (ks.set d.toNat y2) d.toNat hsl, hee, List.getElem_set_self]; omega
      ·rcases List.mem_append.1 hp with hp | hp
       ·obtain ⟨z, hz, rfl⟩ := List.mem_map.1 hp
        obtain ⟨i, hi, rfl⟩ := List.getElem_of_mem hz
        by_cases e2 : i = d.toNat
        ·subst e2; rw [List.getElem_set_self]; exact List.mem_cons_self ..
        ·rw [List.getElem_set_ne (by omega)]
         refine List.mem_cons_of_mem _ (List.mem_append.2 (.inl (List.mem_map.2 ⟨_, ?_, rfl⟩)))
         exact List.mem_eraseIdx_iff_getElem.2 ⟨i, by simpa using hi, e2, rfl⟩
       ·exact List.mem_cons_of_mem _ (List.mem_append.2 (.inr hp))
     have below : ∀ a, 0 ≤ a → a < 16 → ((∀ j, 2 ≤ j → j ≤ l + 1 → dgI a j = dgI q j) → leafI C2' l (rd (ks.set d.toNat y2) (dgI a (l + 1))) a = leaf) ∧ (¬ (∀ j, 2 ≤ j → j ≤ l + 1 → dgI a j = dgI q j) → leafI C2' l (rd (ks.set d.toNat y2) (dgI a (l + 1))) a = leafI C (l + 1) k a) := fun a a0 a1 => by
      obtain ⟨g0, g1⟩ := dgI_range a a0 a1 (l + 1) (by omega)
      have hgl : (dgI a (l + 1)).toNat < (ks.set d.toNat y2).length := by rw [List.length_set]; omega
      have hgr : rd (ks.set d.toNat y2) (dgI a (l + 1)) = (ks.set d.toNat y2)[(dgI a (l + 1)).toNat] := by
       have := rd_getD hgl
       rwa [show (((dgI a (l + 1)).toNat : Nat) : Int) = dgI a (l + 1) by omega] at this
      have old : leafI C1 l (rd ks (dgI a (l + 1))) a = leafI C (l + 1) k a := by
       by_cases hk0 : k < 0
       ·have hm1 : rd ks (dgI a (l + 1)) = -1 := (t7 hk0).2 _ (by rw [hks]; exact rd_memI g0 (by omega))
        rw [hm1, leafI, if_pos hk0]
        cases l with
        | zero => exact absurd rfl h0
        | succ l => rw [leafI, if_pos (by omega)]
       ·have hkk := (t8 (by omega)).2
        rw [← leaf_held h t4 a0 a1 (l + 1) k hl (ref_held h (List.mem_cons_self ..)), leafI, if_neg hk0, if_neg h0, rdn_int C1 (by omega), Int.toNat_natCast]
        obtain ⟨hkl', hko', hku', hlv'⟩ := h.hit (List.mem_cons_self ..) (show 0 ≤ k by omega)
        rw [(t4 k.toNat hkl' hko' hku').2, ← hkk, hks]
      by_cases hd : dgI a (l + 1) = d
      ·have ey : rd (ks.set d.toNat y2) (dgI a (l + 1)) = y2 := by
        rw [hgr]; simp [hd]
       have ek : rd ks (dgI a (l + 1)) = rd ks d := by rw [hd]
       rw [ek] at old
       rw [ey]
       obtain ⟨p1, p2⟩ := s6 a a0 a1
       refine ⟨fun hall => p1 (fun j j2 jl => hall j j2 (by omega)), fun hn => ?_⟩
       rw [p2 (fun hall => hn (fun j j2 jl => by
        by_cases e2 : j = l + 1
        ·rw [e2, hd, hde]
        ·exact hall j j2 (by omega)))]
       exact old
      ·have ey : rd (ks.set d.toNat y2) (dgI a (l + 1)) = rd ks (dgI a (l + 1)) := by
        rw [hgr, List.getElem_set_ne (by omega)]
        have hgk : (dgI a (l + 1)).toNat < ks.length := by omega
        have := rd_getD hgk
        rw [show (((dgI a (l + 1)).toNat : Nat) : Int) = dgI a (l + 1) by omega] at this
        exact this.symm
       rw [ey]
       refine ⟨fun hall => absurd (hall (l + 1) (by omega) (Nat.le_refl _)) (by rw [hde]; exact hd), fun _ => ?_⟩
       have hgk : (dgI a (l + 1)).toNat < ks.length := by omega
       have hme : rd ks (dgI a (l + 1)) ∈ ks.eraseIdx d.toNat := by
        have := rd_getD hgk
        rw [show (((dgI a (l + 1)).toNat : Nat) : Int) = dgI a (l + 1) by omega] at this
        rw [this]
        exact List.mem_eraseIdx_iff_getElem.2 ⟨_, hgk, by omega, rfl⟩
       rw [s5 (rd ks (dgI a (l + 1)), l) (List.mem_append.2 (.inl (List.mem_map.2 ⟨_, hme, rfl⟩))) a a0 a1]
       exact old
     split at e
     ·split at e
      ·simp only [Option.some.injEq, Prod.mk.injEq] at e
       obtain ⟨rfl, rfl⟩ := e
       rw [hks]
       have hc := s1'.closed (x := ⟨(rdn C1 k1).f0, (rdn C1 k1).f1, ks.set d.toNat y2⟩) hk2 hko (by omega) t2 rfl (fun h => absurd h h0) (fun _ => by rw [List.length_set]; exact d2)
       obtain ⟨c1, c2, c3⟩ := cl ⟨(rdn C1 k1).f0, (rdn C1 k1).f1, ks.set d.toNat y2⟩
       refine ⟨_, hc.wide (by omega), by rw [List.length_set]; omega, c2, c3, c1, fun a a0 a1 => ?_⟩
       have hb := below a a0 a1
       have hleaf : leafI (C2'.set k1 ⟨(rdn C1 k1).f0, (rdn C1 k1).f1, ks.set d.toNat y2⟩) (l + 1) (k1 : Int) a = leafI C2' l (rd (ks.set d.toNat y2) (dgI a (l + 1))) a := by
        rw [leafI, if_neg (by omega), if_neg h0, Int.toNat_natCast]
        have rk3 : rd_T68 (C2'.set k1 ⟨(rdn C1 k1).f0, (rdn C1 k1).f1, ks.set d.toNat y2⟩) (k1 : Int) = ⟨(rdn C1 k1).f0, (rdn C1 k1).f1, ks.set d.toNat y2⟩ := by
         show rdn _ k1 = _
         rw [rdn_set hk2, if_pos rfl]
        rw [rk3]
        obtain ⟨g0, g1⟩ := dgI_range a a0 a1 (l + 1) (by omega)
        have hmem : rd (ks.set d.toNat y2) (dgI a (l + 1)) ∈ ks.set d.toNat y2 := rd_memI g0 (by rw [List.length_set]; omega)
        refine leaf_held s1' (fun j hj ho _ => ?_) a0 a1 l _ (by omega) (ref_held s1' (p := (_, l)) (List.mem_append.2 (.inl (List.mem_map.2 ⟨_, hmem, rfl⟩))))
        rw [rdn_set hk2, if_neg]
        ·exact ⟨rfl, rfl⟩
        ·intro e2; subst e2; rw [orO_self] at ho; cases ho
       rw [hleaf]
       exact hb
      ·rename_i hsk
       simp only [Option.some.injEq, Prod.mk.injEq] at e
       obtain ⟨rfl, rfl⟩ := e
       rw [hks] at hsk
       have hno := someKid_no hsk
       have hc := s1'.emptied (m' := l + 1) hk2 hko (by omega) hno
       obtain ⟨c1, c2, c3⟩ := cl z68
       refine ⟨_, hc.wide (by omega), by rw [List.length_set]; omega, c2, c3, c1, fun a a0 a1 => ?_⟩
       have hb := below a a0 a1
       obtain ⟨g0, g1⟩ := dgI_range a a0 a1 (l + 1) (by omega)
       have hmem : rd (ks.set d.toNat y2) (dgI a (l + 1)) ∈ ks.set d.toNat y2 := rd_memI g0 (by rw [List.length_set]; omega)
       have hneg := hno _ hmem
       have hleaf : leafI (C2'.set k1 z68) (l + 1) (-1) a = leafI C2' l (rd (ks.set d.toNat y2) (dgI a (l + 1))) a := by
        rw [leafI, if_pos (by omega)]
        cases l with
        | zero => exact absurd rfl h0
        | succ l => rw [leafI, if_pos hneg]
       rw [hleaf]
       exact hb
     ·cases e
    ·cases e
section
variable {C : List CL} {R : List Int} {L : Int} {lev : Int → Int}
theorem goodB_four {n : Nat} {x : CL} {l : Int} (h : goodB n x l = true) (hl : l ≠ 1) : x.f2.length = 4 := by
 unfold goodB at h
 rw [if_neg hl] at h
 split at h
 ·split at h
  ·omega
  ·cases h
 ·cases h
theorem held_of (h : Tidy C R L [] lev) (hL : 1 ≤ L) : Held C (fun _ => false) (R.map fun z => (z, L.toNat)) (fun j => (lev (j : Int)).toNat) 1000 := by
 have hk : ∀ z : Int, kO C (fun _ => false) z = kc C z := fun z => by
  rw [kc_sumR]
  unfold kO
  exact sumR_congr _ (fun i _ => by simp)
 refine ⟨fun j hj _ => ?_, fun j hj ho => (by cases ho), fun j hj _ => h.bd (j : Int) (by omega) (by omega), fun j hj _ e => (h.emp (j : Int) (by omega) (by omega) e).2, fun j hj _ hu => ?_, fun q hq => ?_, fun _ _ => rfl⟩
 ·have := h.cnt (j : Int) (by omega) (by omega)
  rw [fs_map, hk]
  simp only [List.map_nil, List.count_nil, Nat.add_zero] at this
  exact this
 ·obtain ⟨g, g1, g2⟩ := h.good (j : Int) (by omega) (by omega) hu
  refine ⟨by omega, fun e => (goodB_kids g).2.1 (by omega), fun e => goodB_four g (by omega), fun z hz => ?_⟩
  rcases h.kid (j : Int) (by omega) (by omega) hu z hz with e | ⟨e1, e2, e3⟩
  ·exact .inl e
  ·have hu2 := h.used (j := (j : Int)) (by omega) (by omega) e1 e2 hz
   have := (h.good z e1 e2 (by omega)).2
   refine .inr ⟨e1, e2, ?_⟩
   show (lev ((z.toNat : Nat) : Int)).toNat + 1 = _
   rw [show ((z.toNat : Nat) : Int) = z by omega]
   omega
 ·obtain ⟨r, hr, rfl⟩ := List.mem_map.1 hq
  rcases h.rts r hr with e | ⟨e1, e2, e3⟩
  ·exact .inl e
  ·refine .inr ⟨e1, e2, ?_⟩
   show (lev ((r.toNat : Nat) : Int)).toNat = L.toNat
   rw [show ((r.toNat : Nat) : Int) = r by omega, e3]
theorem dg_same (L : Int) (h1 : 1 ≤ L) (h3 : L ≤ 3) (a q : Int) (a0 : 0 ≤ a) (a1 : a < plc L) (q0 : 0 ≤ q) (q1 : q < plc L) : (∀ j, 2 ≤ j → j ≤ L.toNat → dgI a j = dgI q j) ↔ a = q := by
 have e2 : ∀ b : Int, 0 ≤ b → b < 16 → dgI b 2 = b % 4 := fun b b0 b1 => by
  unfold dgI
  rw [show ((2 : Nat) : Int) = 2 from rfl, digit_2 b b0 b1]; rfl
 have e3 : ∀ b : Int, 0 ≤ b → b < 16 → dgI b 3 = b / 4 := fun b b0 b1 => by
  unfold dgI
  rw [show ((3 : Nat) : Int) = 3 from rfl, digit_3 b b0 b1]; rfl
 constructor
 ·intro h
  unfold plc at a1 q1
  obtain rfl | rfl | rfl : L = 1 ∨ L = 2 ∨ L = 3 := by omega
  ·simp at a1 q1; omega
  ·simp at a1 q1
   have := h 2 (by omega) (by decide)
   rw [e2 a a0 (by omega), e2 q q0 (by omega)] at this
   omega
  ·simp at a1 q1
   have h2 := h 2 (by omega) (by decide)
   have h3 := h 3 (by omega) (by decide)
   rw [e2 a a0 (by omega), e2 q q0 (by omega)] at h2
   rw [e3 a a0 (by omega), e3 q q0 (by omega)] at h3
   omega
 ·rintro rfl j _ _; rfl
structure Pics (C : List CL) (R : List Int) (L a q : Int) (leaf : ByteArray) (C1 : List CL) (R1 : List Int) : Prop where
 g : goodC 100 C R L = some true
 g1 : goodC 100 C1 R1 L = some true
 len : R1.length = R.length
 a0 : 0 ≤ a ∧ a < (R.length : Int)
 q0 : 0 ≤ q ∧ q < plc L
 lv : ∀ r : Int, 0 ≤ r → r < (R.length : Int) → ∀ i : Int, 0 ≤ i → i < plc L → leafI C1 L.toNat (rd R1 r) i = if r = a ∧ i = q then leaf else leafI C L.toNat (rd R r) i
 us : usedN C1 ≤ usedN C + L.toNat
theorem rd_set {R : List Int} {a r : Int} (z : Int) (h0 : 0 ≤ a) (h1 : a < (R.length : Int)) (r0 : 0 ≤ r) : rd (R.set a.toNat z) r = if r = a then z else rd R r := by
 unfold rd
 rw [List.getD_eq_getElem?_getD, List.getElem?_set, List.getD_eq_getElem?_getD]
 by_cases e : r = a
 ·subst e; rw [if_pos rfl, if_pos (by omega), if_pos rfl]; rfl
 ·rw [if_neg (by omega), if_neg e]
theorem pics_put {a q : Int} {leaf : ByteArray} {C2 : List CL} {z2 : Int} (hg : goodC 100 C R L = some true) (ha : 0 ≤ a ∧ a < (R.length : Int)) (hq : 0 ≤ q ∧ q < plc L) (e : putM (dgI q) leaf L.toNat C (rd R a) = some (C2, z2)) (g1 : goodC 100 C2 (R.set a.toNat z2) L = some true) : Pics C R L a q leaf C2 (R.set a.toNat z2) := by
 obtain ⟨hL1, hL3, hn, hr1, hr8, V, c, v, hI, hE⟩ := good_tree hg
 have hp := plc_bd L
 have hH := held_of (tidy_of hI hE hn (by omega)) hL1
 have hal : a.toNat < R.length := by omega
 have er : rd R a = R[a.toNat] := by
  have := rd_getD hal
  rwa [show ((a.toNat : Nat) : Int) = a by omega] at this
 have hH2 : Held C (fun _ => false) ((rd R a, L.toNat) :: (R.eraseIdx a.toNat).map fun z => (z, L.toNat)) (fun j => (rd v (j : Int)).toNat) 1000 := by
  refine hH.exch (fun j _ => ?_) (fun p hp => hH.ext p ?_)
  ·rw [fs_cons, fs_map, fs_map, count_erase R a.toNat hal, er]
  ·rcases List.mem_cons.1 hp with e2 | hp
   ·subst e2
    exact List.mem_map.2 ⟨_, by rw [er]; exact List.getElem_mem hal, rfl⟩
   ·obtain ⟨z, hz, rfl⟩ := List.mem_map.1 hp
    exact List.mem_map.2 ⟨z, List.mem_of_mem_eraseIdx hz, rfl⟩
 obtain ⟨lev2, _, _, _, hu, h5, h6⟩ := put_held q leaf hq.1 (by omega) L.toNat C _ _ _ (rd R a) 1000 C2 z2 (by omega) (fun p hp => by obtain ⟨z, hz, rfl⟩ := List.mem_map.1 hp; show L.toNat ≤ 3; omega) hH2 (fun j _ ho => by cases ho) (by omega) (by omega) e
 refine ⟨hg, g1, by rw [List.length_set], ha, hq, fun r r0 r1 i i0 i1 => ?_, hu⟩
 rw [rd_set z2 ha.1 ha.2 r0]
 by_cases e1 : r = a
 ·subst e1
  rw [if_pos rfl]
  obtain ⟨p1, p2⟩ := h6 i i0 (by omega)
  have hd := dg_same L hL1 hL3 i q i0 i1 hq.1 hq.2
  by_cases e2 : i = q
  ·rw [if_pos ⟨rfl, e2⟩]; exact p1 (hd.2 e2)
  ·rw [if_neg (fun h => e2 h.2)]; exact p2 (fun h => e2 (hd.1 h))
 ·rw [if_neg e1, if_neg (fun h => e1 h.1)]
  have hrl : r.toNat < R.length := by omega
  have err : rd R r = R[r.toNat] := by
   have := rd_getD hrl
   rwa [show ((r.toNat : Nat) : Int) = r by omega] at this
  have hm : rd R r ∈ R.eraseIdx a.toNat := by
   rw [err]
   exact List.mem_eraseIdx_iff_getElem.2 ⟨_, hrl, by omega, rfl⟩
  exact h5 (rd R r, L.toNat) (List.mem_map.2 ⟨_, hm, rfl⟩) i i0 (by omega)
theorem pics_same {a q : Int} {leaf : ByteArray} (hg : goodC 100 C R L = some true) (ha : 0 ≤ a ∧ a < (R.length : Int)) (hq : 0 ≤ q ∧ q < plc L) (e : leafI C L.toNat (rd R a) q = leaf) : Pics C R L a q leaf C R := by
 refine ⟨hg, hg, rfl, ha, hq, fun r _ _ i _ _ => ?_, by omega⟩
 by_cases h : r = a ∧ i = q
 ·rw [if_pos h, h.1, h.2]; exact e
 ·rw [if_neg h]
end
theorem pics_full (C : List CL) (roots : List Int) (L a q : Int) (leaf : ByteArray) (hk : ∀ x ∈ C, x.f2.length ≤ 1048576) : ∃ C1 R1 L1 b, (b = false → R1 = []) ∧ (b = true → L1 = L ∧ Pics C roots L a q leaf C1 R1) ∧ Ev (fun k => impl_PutLeaf.f k C roots L a q leaf) (C1, R1, L1, b) := by
 obtain ⟨g, hb1, hb2⟩ := spec_impl C roots L
 unfold impl_PutLeaf.f
 cases g with
 | false => exact ⟨[], [], 0, false, by simp, by simp, ev_bindc (is_root C roots L a false (by simp) hb2) (ev_false rfl (ev_ret rfl))⟩
 | true =>
  obtain ⟨hL1, hL3, hn, hr1, hr8, V, c, v, hI, hE⟩ := good_tree hb2
  have hR := is_root C roots L a true (fun _ => hr8) hb2
  by_cases ha : 0 ≤ a ∧ a < (roots.length : Int)
  ·have da := decide_eq_true ha
   obtain ⟨hp1, hp2⟩ := places_both C roots L hL1 hL3
   have hpl := plc_bd L
   have ep : wrap64 (plc L - 1) = plc L - 1 := w64 (by omega) (by omega)
   by_cases hq : 0 ≤ q ∧ q ≤ plc L - 1
   ·have eI : impl_within.f q 0 (wrap64 (plc L - 1)) = some true := by rw [ep, within_inR]; unfold inR; rw [decide_eq_true hq]
    by_cases h8 : (leaf.size : Int) > 8
    ·exact ⟨[], [], 0, false, by simp, by simp, ev_bindc hR (ev_true (by rw [da]; rfl) (ev_bindc hp2 (ev_bindc eI (ev_true rfl (ev_pos h8 (ev_ret rfl))))))⟩
    ·have er2 := leaf_root hI hL1 hL3 a ha.1 ha.2 q hq.1 (by omega)
     have hcond : ownB C roots = true ∧ 0 ≤ L ∧ L ≤ 1000 := ⟨ownB_of (by omega) (by omega) hk, by omega, by omega⟩
     suffices h : ∃ C1 R1 L1 b, (b = false → R1 = []) ∧ (b = true → L1 = L ∧ Pics C roots L a q leaf C1 R1) ∧ Ev (fun k => putI k C roots L a q leaf) (C1, R1, L1, b) by
      obtain ⟨C1, R1, L1, b, u1, u2, u5⟩ := h
      exact ⟨C1, R1, L1, b, u1, u2, ev_bindc hR (ev_true (by rw [da]; rfl) (ev_bindc hp2 (ev_bindc eI (ev_true rfl (ev_neg h8 u5)))))⟩
     unfold putI
     by_cases hle : leafI C L.toNat (rd roots a) q = leaf
     ·exact ⟨C, roots, L, true, by simp, fun _ => ⟨rfl, pics_same hb2 ha ⟨hq.1, by omega⟩ hle⟩, ev_pos hcond (Ev.bind er2 (ev_bindc (a := (C, roots)) (by unfold putR; rw [if_pos hle]) (ev_bindc (a := true) hb2 (ev_true rfl (ev_ret rfl)))))⟩
     ·have hkr := root_ref hI a ha.1 ha.2
      have hLn : ((L.toNat : Nat) : Int) = L := by omega
      obtain ⟨C2, z2, e2, e3, _⟩ := put_some (dgI q) leaf (dg_bound q hq.1 (by omega)) L.toNat C (vOf C v) (rd roots a) 328 (by omega) (by omega) (typed_of hI hE hn (by omega) hL1) ⟨by omega, by omega⟩ (by omega) (ref_of (by rw [hLn]; exact hkr)) (fun h => by
       refine Classical.byContradiction fun hz => hle ?_
       have hp := path_empty hI q hq.1 (by omega) L.toNat (rd roots a) (by omega) (by omega) (by rw [hLn]; exact hkr) hz
       rw [hLn] at hp
       have hp2 : Ev (fun n => impl_Cow_leafAt.f n C roots L a q) ⟨#[]⟩ := by
        unfold impl_Cow_leafAt.f
        exact ev_pos ha.1 (ev_pos ha.2 hp)
       rw [ev_unique er2 hp2, empty_of_size h])
      obtain ⟨g2, f1, f2⟩ := spec_impl C2 (roots.set a.toNat z2) L
      have fI : impl_GoodCow.f C2 (roots.set a.toNat z2) L = some g2 := f2
      have eR : putR q leaf (leafI C L.toNat (rd roots a) q) C roots L a = some (C2, roots.set a.toNat z2) := by
       unfold putR
       rw [if_neg hle, if_pos ha, e2]
       rfl
      cases g2 with
      | false => exact ⟨[], [], 0, false, by simp, by simp, ev_pos hcond (Ev.bind er2 (ev_bindc eR (ev_bindc fI (ev_false rfl (ev_ret rfl)))))⟩
      | true => exact ⟨C2, roots.set a.toNat z2, L, true, by simp, fun _ => ⟨rfl, pics_put hb2 ha ⟨hq.1, by omega⟩ e2 f2⟩, ev_pos hcond (Ev.bind er2 (ev_bindc eR (ev_bindc fI (ev_true rfl (ev_ret rfl)))))⟩
   ·have eI : impl_within.f q 0 (wrap64 (plc L - 1)) = some false := by rw [ep, within_inR]; unfold inR; rw [decide_eq_false hq]
    exact ⟨[], [], 0, false, by simp, by simp, ev_bindc hR (ev_true (by rw [da]; rfl) (ev_bindc hp2 (ev_bindc eI (ev_false rfl (ev_ret rfl)))))⟩
  ·have da := decide_eq_false ha
   exact ⟨[], [], 0, false, by simp, by simp, ev_bindc hR (ev_false (by rw [da]; rfl) (ev_ret rfl))⟩
theorem pics_both (C : List CL) (R : List Int) (L a q : Int) (leaf : ByteArray) (hk : ∀ x ∈ C, x.f2.length ≤ 1048576) : ∃ C1 R1 L1 b, (b = false → R1 = []) ∧ (b = true → L1 = L ∧ Pics C R L a q leaf C1 R1) ∧ Ev (fun k => spec_PutLeaf.f k C R L a q leaf) (C1, R1, L1, b) ∧ Ev (fun k => impl_PutLeaf.f k C R L a q leaf) (C1, R1, L1, b) := by
 obtain ⟨C1, R1, L1, b, _, _, _, hS, hI⟩ := put_both C R L a q leaf hk
 obtain ⟨C2, R2, L2, b2, h1, h2, hI2⟩ := pics_full C R L a q leaf hk
 have e := ev_unique hI hI2
 simp only [Prod.mk.injEq] at e
 obtain ⟨rfl, rfl, rfl, rfl⟩ := e
 exact ⟨C1, R1, L1, b, h1, h2, hS, hI⟩
theorem leavesI_len (C : List CL) (L k : Int) : ((leavesI C L k).length : Int) = plc L := by
 have := plc_bd L
 unfold leavesI
 simp
 omega
theorem leavesI_at (C : List CL) (L k : Int) {i : Int} (h0 : 0 ≤ i) (h1 : i < plc L) : rdOf ByteArray.empty (leavesI C L k) i = leafI C L.toNat k i := by
 have := plc_bd L
 unfold rdOf leavesI
 rw [List.getD_eq_getElem?_getD, List.getElem?_eq_getElem (by simp; omega)]
 simp
 rw [show max i 0 = i by omega]
theorem leafAt_is {C : List CL} {R : List Int} {L : Int} (hg : goodC 100 C R L = some true) {a q : Int} (ha : 0 ≤ a ∧ a < (R.length : Int)) (hq : 0 ≤ q ∧ q < plc L) : Ev (fun k => impl_LeafAt.f k C R L a q) (leafI C L.toNat (rd R a) q, true) := by
 obtain ⟨hL1, hL3, hn, hr1, hr8, V, c, v, hI, hE⟩ := good_tree hg
 have hp := plc_bd L
 have ep : wrap64 (plc L - 1) = plc L - 1 := w64 (by omega) (by omega)
 have eI : impl_within.f q 0 (wrap64 (plc L - 1)) = some true := by rw [ep, within_inR]; unfold inR; rw [decide_eq_true (by omega)]
 unfold impl_LeafAt.f
 exact ev_bindc (is_root C R L a true (fun _ => hr8) hg) (ev_true (by rw [decide_eq_true ha]; rfl) (ev_bindc (places_both C R L hL1 hL3).2 (ev_bindc eI (ev_true rfl (Ev.bind (leaf_root hI hL1 hL3 a ha.1 ha.2 q hq.1 (by omega)) (ev_ret rfl))))))
open Go.RowKit Go.Proofs.YtacfalpgmibfnaaW.PrintWords Go.Proofs.YtacfalpgmibfnaaW.PrintLast Go.Proofs.YtacfalpgmibfnaaW.PrintMore Go.Proofs.Ytacfalpgmibfnaa.E Go.Proofs.Ytacfalpgmibfnaa.ZCow
structure VC (W : World) (g : Nat) (A0 : Option Addr) (c0 : Nat) (C : List CL) (A1 : Option Addr) (c1 : Nat) (R : List Int) (L : Int) : Prop where
 z : W.heap[g]? = some (.cells #[.slice A0 C.length c0, .slice A1 R.length c1, .int .i64 L] 25 (0, 0))
 r0 : Kd.C k68 W A0 C.length C
 h0 : C.length ≤ c0
 r1 : Kd.C (Kd.int .i64) W A1 R.length R
 h1 : R.length ≤ c1
section
variable {W W1 : World} {g : Nat} {A0 : Option Addr} {c0 : Nat} {C : List CL} {A1 : Option Addr} {c1 : Nat} {R : List Int} {L : Int}
theorem VC.below (h : VC W g A0 c0 C A1 c1 R L) (hb : Below W.heap.size W W1) : VC W1 g A0 c0 C A1 c1 R L :=
 ⟨blk_below h.z hb, Kd.C_below h.r0 hb, h.h0, Kd.C_below h.r1 hb, h.h1⟩
theorem VC.new {B : Nat} {ok ok2 : Nat → Prop} (hs : CS W B ok (.slice A0 C.length c0) C) (hr : IR W B ok2 (.slice A1 R.length c1) R) (hz : W1.heap[g]? = some (.cells #[.slice A0 C.length c0, .slice A1 R.length c1, .int .i64 L] 25 (0, 0))) (hb : Below W.heap.size W W1) : VC W1 g A0 c0 C A1 c1 R L :=
 ⟨hz, Kd.C_below (Kd.S_reads' hs).2.2 hb, (Kd.S_reads' hs).2.1, Kd.C_below (Kd.R_reads' hr).2.2 hb, (Kd.R_reads' hr).2.1⟩
end
theorem VC.put {W : World} {g : Nat} {A0 : Option Addr} {c0 : Nat} {C : List CL} {A1 : Option Addr} {c1 : Nat} {R : List Int} {L : Int} {B : Nat} {ok ok2 : Nat → Prop} {a b c : Value} (hs : CS W B ok (.slice A0 C.length c0) C) (hr : IR W B ok2 (.slice A1 R.length c1) R) (hz : W.heap[g]? = some (.cells #[a, b, c] 25 (0, 0))) :
  VC (((W.setCell ⟨g, 0, none⟩ (.slice A0 C.length c0)).setCell ⟨g, 1, none⟩ (.slice A1 R.length c1)).setCell ⟨g, 2, none⟩ (.int .i64 L)) g A0 c0 C A1 c1 R L :=
 ⟨put3 hz _ _ _, (Kd.S_reads' (s_set3 hs hz)).2.2, (Kd.S_reads' hs).2.1, (Kd.R_reads' (r_set3 hr hz)).2.2, (Kd.R_reads' hr).2.1⟩
theorem good_spec {C : List CL} {R : List Int} {L : Int} (h : goodC 100 C R L = some true) : Ev (fun k => spec_GoodCow.f k C R L) true := by
 obtain ⟨b, h1, h2⟩ := spec_impl C R L
 rw [h] at h2
 rw [Option.some.inj h2]
 exact h1
theorem pics_len {C C1 : List CL} {R R1 : List Int} {L a q : Int} {leaf : ByteArray} (h : Pics C R L a q leaf C1 R1) : (R1.length : Int) = (R.length : Int) := by rw [h.len]
set_option maxHeartbeats 16000000 in
set_option maxRecDepth 100000 in
theorem fnPictures_calls (A0 : Option Addr) (c0 : Nat) (l0 : List Int) (w : World) (hl0 : Bytes l0) (hr0 : Kd.C (Kd.int .u8) w A0 l0.length l0) (hc0 : l0.length ≤ c0) (hz0 : l0.length ≤ 140737488351232) :
  Calls Try.prog 13 #[.slice A0 l0.length c0] w fun e w' => e = .returned (.bool true) ∧ Below w.heap.size w w' := by
 have huC := Try.underlying25
 have HB0 := Aside0.mk hl0
 have R0 := Aside0.mk hr0
 have HC0 := Aside0.mk hc0
 have B := Aside0.mk (Below.refl w.heap.size w)
 clear hl0 hr0 hc0 hz0
 by_cases hbig : (l0.length : Int) > 1048576
 ·have c1_ : (1048576 < (l0.length : Int)) = True := eq_true (by omega)
  have c2_ : (1048576 < l0.length) = True := eq_true (by omega)
  clear hbig
  go_enter Try.func13, Try.ntmps13
  go_wp2
  go_ret
  exact ⟨rfl, B.out⟩
 ·have c1_ : (1048576 < (l0.length : Int)) = False := eq_false (by omega)
  have c2_ : (1048576 < l0.length) = False := eq_false (by omega)
  clear hbig
  have TT := Aside0.mk (spec_DrawPutLeaf.calls A0 c0 l0 w HB0.out R0.out HC0.out)
  go_enter Try.func13, Try.ntmps13
  go_wp2_with (go_at_call 43; refine TT.out.mono ?_)
  rintro e w1 ⟨u0, u1, C, R, L, a, q, lf, rfl, hs, hr, hsz, hb⟩
  have HSZ := Aside0.mk hsz
  clear hsz TT c1_ c2_ R0 HB0 HC0
  replace B := Aside0.mk (below_step B.out hb)
  clear hb
  have GX := Aside0.mk (show w.heap.size ≤ w1.heap.size from B.out.size)
  obtain ⟨Pa1, ca1, rfl⟩ := Kd.S_slice hs
  obtain ⟨Pf1, cf1, rfl⟩ := Kd.R_slice hr
  obtain ⟨ZV1, V1, hxV1, hyV1, z0V1, z1V1, z2V1, y0V1, y1V1, y2V1, Zv, BL⟩ := local_cow w1 (.slice Pa1 C.length ca1) (.slice Pf1 R.length cf1) (.int .i64 L)
  have hb := BL.out
  have X := Aside0.mk (VC.new hs hr Zv.out hb)
  clear hs hr Zv BL
  replace B := Aside0.mk (below_step B.out hb)
  clear hb
  obtain ⟨C1, R1, L1, b, HF, HT, ⟨K1, hS⟩, ⟨K2, hI⟩⟩ := pics_both C R L a q lf HSZ.out.2.2.2
  obtain ⟨g, ⟨K3, hG⟩, hG2⟩ := spec_impl C R L
  have E1 := Aside0.mk (hI K2 (Nat.le_refl _))
  have E2 := Aside0.mk (hS K1 (Nat.le_refl _))
  have E3 := Aside0.mk (hG K3 (Nat.le_refl _))
  have E4 := Aside0.mk (show impl_GoodCow.f C R L = some g from hG2)
  replace HF := Aside0.mk HF
  replace HT := Aside0.mk HT
  clear hS hI hG hG2
  have dX_0 : V1.cell? ⟨w1.heap.size, 0, none⟩ = some (.slice Pa1 C.length ca1) := (blk_cell X.out.z 0).trans rfl
  have dX_1 : V1.cell? ⟨w1.heap.size, 1, none⟩ = some (.slice Pf1 R.length cf1) := (blk_cell X.out.z 1).trans rfl
  have dX_2 : V1.cell? ⟨w1.heap.size, 2, none⟩ = some (.int .i64 L) := (blk_cell X.out.z 2).trans rfl
  have TT := Aside0.mk (impl_PutLeaf.calls K2 Pa1 ca1 C Pf1 cf1 R L a q lf C1 R1 L1 b V1 X.out.r0 X.out.h0 X.out.r1 X.out.h1 E1.out)
  go_wp2_with (go_at_call 39; refine TT.out.mono ?_)
  rintro e w2 ⟨u0, u1, rfl, hs, hr, hb⟩
  clear TT hxV1 hyV1 z0V1 z1V1 z2V1 y0V1 y1V1 y2V1
  clear dX_0 dX_1 dX_2
  replace X := Aside0.mk (X.out.below hb)
  replace B := Aside0.mk (below_step B.out hb)
  clear hb
  have GY := Aside0.mk (show w.heap.size ≤ w2.heap.size from B.out.size)
  obtain ⟨Pa2, ca2, rfl⟩ := Kd.S_slice hs
  obtain ⟨Pf2, cf2, rfl⟩ := Kd.R_slice hr
  obtain ⟨ZV2, V2, hxV2, hyV2, z0V2, z1V2, z2V2, y0V2, y1V2, y2V2, Zv, BL⟩ := local_cow w2 (.slice Pa2 C1.length ca2) (.slice Pf2 R1.length cf2) (.int .i64 L1)
  have hb := BL.out
  have Y := Aside0.mk (VC.new hs hr Zv.out hb)
  clear hs hr Zv BL
  replace X := Aside0.mk (X.out.below hb)
  replace B := Aside0.mk (below_step B.out hb)
  clear hb
  have dX_0 : V2.cell? ⟨w1.heap.size, 0, none⟩ = some (.slice Pa1 C.length ca1) := (blk_cell X.out.z 0).trans rfl
  have dX_1 : V2.cell? ⟨w1.heap.size, 1, none⟩ = some (.slice Pf1 R.length cf1) := (blk_cell X.out.z 1).trans rfl
  have dX_2 : V2.cell? ⟨w1.heap.size, 2, none⟩ = some (.int .i64 L) := (blk_cell X.out.z 2).trans rfl
  have TT := Aside0.mk (spec_PutLeaf.calls K1 Pa1 ca1 C Pf1 cf1 R L a q lf C1 R1 L1 b V2 X.out.r0 X.out.h0 X.out.r1 X.out.h1 E2.out)
  go_wp2_with (go_at_call 38; refine TT.out.mono ?_)
  rintro e w3 ⟨u0, u1, rfl, hs, hr, hb⟩
  clear TT hxV2 hyV2 z0V2 z1V2 z2V2 y0V2 y1V2 y2V2
  clear dX_0 dX_1 dX_2
  replace X := Aside0.mk (X.out.below hb)
  replace Y := Aside0.mk (Y.out.below hb)
  replace B := Aside0.mk (below_step B.out hb)
  clear hb
  have GN := Aside0.mk (show w.heap.size ≤ w3.heap.size from B.out.size)
  obtain ⟨Pa3, ca3, rfl⟩ := Kd.S_slice hs
  obtain ⟨Pf3, cf3, rfl⟩ := Kd.R_slice hr
  obtain ⟨ZV3, V3, hxV3, hyV3, z0V3, z1V3, z2V3, y0V3, y1V3, y2V3, Zv, BL⟩ := local_cow w3 (.slice Pa3 C1.length ca3) (.slice Pf3 R1.length cf3) (.int .i64 L1)
  have hb := BL.out
  have N := Aside0.mk (VC.new hs hr Zv.out hb)
  clear hs hr Zv BL
  replace X := Aside0.mk (X.out.below hb)
  replace Y := Aside0.mk (Y.out.below hb)
  replace B := Aside0.mk (below_step B.out hb)
  clear hb
  clear N E1 E2
  have q1 : (b == b) = true := beq_self_eq_true b
  have q2 : (b != b) = false := by simp
  have q3 : (g == g) = true := beq_self_eq_true g
  have q4 : (g != g) = false := by simp
  go_wp2
  clear hxV3 hyV3 z0V3 z1V3 z2V3 y0V3 y1V3 y2V3
  generalize hgx : w1.heap.size = gx at X ⊢
  refine start_ (n := 10) (S := fun w' => w'.cell? ⟨gx, 0, none⟩ = some (.slice Pa1 C.length ca1) ∧ w'.cell? ⟨gx, 1, none⟩ = some (.slice Pf1 R.length cf1) ∧ w'.cell? ⟨gx, 2, none⟩ = some (.int .i64 L)) (ds := []) (fl 10 0) (by kernel_rfl) rfl (by kernel_rfl) ⟨(blk_cell X.out.z 0).trans rfl, (blk_cell X.out.z 1).trans rfl, (blk_cell X.out.z 2).trans rfl⟩ (fun hHeld => ?_)
  have hb := below_drew1 (Below.refl V3.heap.size V3)
  replace X := Aside0.mk (X.out.below hb)
  replace Y := Aside0.mk (Y.out.below hb)
  replace B := Aside0.mk (below_step B.out hb)
  clear hb
  generalize V3.drew = w5 at X Y B hHeld ⊢
  refine pure_ (i := 0) (N := some 50) (v := ?_) (a' := ?_) (fl 10 1) rfl rfl (by kernel_rfl) (fun _ _ _ h => h) (Or.inl ⟨by rfl, ?_⟩) ?_ ?_
  rotate_left
  ·intro w'
   go_simp
   with_reducible rfl
  rotate_left
  ·simp only [apu_]
   rfl
  refine pure_ (i := 1) (N := some 51) (v := ?_) (a' := ?_) (fl 10 3) rfl rfl (by kernel_rfl) (fun _ _ _ h => h) (Or.inl ⟨by rfl, ?_⟩) ?_ ?_
  rotate_left
  ·intro w'
   go_simp
   with_reducible rfl
  rotate_left
  ·simp only [apu_]
   rfl
  refine pure_ (i := 2) (N := some 52) (v := .bool false) (a' := ?_) (fl 10 7) rfl rfl (by kernel_rfl) (fun _ _ _ h => h) (Or.inl ⟨by rfl, ?run2⟩) ?eq2 ?next2
  case run2 =>
   intro w'
   go_simp
   all_goals (first | (cases b <;> rfl) | (simp; done))
  case eq2 =>
   simp only [apu_]
   rfl
  refine pure_ (i := 3) (N := some 53) (v := ?_) (a' := ?_) (fl 10 15) rfl rfl (by kernel_rfl) (fun _ _ _ h => h) (Or.inl ⟨by rfl, ?_⟩) ?_ ?_
  rotate_left
  ·intro w'
   go_simp
   with_reducible rfl
  rotate_left
  ·simp only [apu_]
   rfl
  refine take_ (i := 4) (N := some 54) (v := ?_) (a' := ?_) (fl 10 31) rfl rfl (by kernel_rfl) (fun _ _ _ h => h) (Or.inl ⟨by rfl, ?_⟩) hHeld ?_ ?_
  rotate_left
  ·rintro w' ⟨s0, s1, s2⟩
   go_simp
   with_reducible rfl
  rotate_left
  ·simp only [apu_]
   rfl
  refine take_ (i := 6) (N := some 56) (v := ?_) (a' := ?_) (fl 10 95) rfl rfl (by kernel_rfl) (fun _ _ _ h => h) (Or.inl ⟨by rfl, ?_⟩) hHeld ?_ ?_
  rotate_left
  ·rintro w' ⟨s0, s1, s2⟩
   go_simp
   with_reducible rfl
  rotate_left
  ·simp only [apu_]
   rfl
  refine one_ (i := 5) (N := some 55) (fl 10 127) rfl rfl (by kernel_rfl) (by decide) (fun K hK => ?_)
  refine goes_ Try.func22 (by kernel_rfl) rfl #[.agg #[.slice Pa1 C.length ca1, .slice Pf1 R.length cf1, .int .i64 L]] (by rfl) rfl rfl (by (try simp only [List.map_toArray, List.map_cons, List.map_nil]); first | done | rfl | (simp only [List.length_drop, List.length_take]; rfl)) ?_
  refine (impl_GoodCow.calls Pa1 ca1 C Pf1 cf1 R L g w5 X.out.r0 X.out.h0 X.out.r1 X.out.h1 E4.out).mono ?_
  (first | rintro e w6 rfl hb | rintro e w6 ⟨rfl, hb⟩)
  refine ⟨_, rfl, ?_⟩
  replace X := Aside0.mk (X.out.below hb)
  replace Y := Aside0.mk (Y.out.below hb)
  replace B := Aside0.mk (below_step B.out hb)
  clear hb
  refine hK.out _ _ ⟨(blk_cell X.out.z 0).trans rfl, (blk_cell X.out.z 1).trans rfl, (blk_cell X.out.z 2).trans rfl⟩ (fun hHeld => ?_)
  clear hK K
  refine norm_ (a' := ?_) ?_ ?_
  rotate_left
  ·show Act.put _ (some 55) _ = _
   simp only [apu_]
   rfl
  refine one_ (i := 7) (N := some 57) (fl 10 255) rfl rfl (by kernel_rfl) (by decide) (fun K hK => ?_)
  refine goes_ Try.func20 (by kernel_rfl) rfl #[.agg #[.slice Pa1 C.length ca1, .slice Pf1 R.length cf1, .int .i64 L]] (by rfl) rfl rfl (by (try simp only [List.map_toArray, List.map_cons, List.map_nil]); first | done | rfl | (simp only [List.length_drop, List.length_take]; rfl)) ?_
  refine (spec_GoodCow.calls K3 Pa1 ca1 C Pf1 cf1 R L g w6 X.out.r0 X.out.h0 X.out.r1 X.out.h1 E3.out).mono ?_
  (first | rintro e w8 rfl hb | rintro e w8 ⟨rfl, hb⟩)
  refine ⟨_, rfl, ?_⟩
  replace X := Aside0.mk (X.out.below hb)
  replace Y := Aside0.mk (Y.out.below hb)
  replace B := Aside0.mk (below_step B.out hb)
  clear hb
  refine hK.out _ _ ⟨(blk_cell X.out.z 0).trans rfl, (blk_cell X.out.z 1).trans rfl, (blk_cell X.out.z 2).trans rfl⟩ (fun hHeld => ?_)
  clear hK K
  refine norm_ (a' := ?_) ?_ ?_
  rotate_left
  ·show Act.put _ (some 57) _ = _
   simp only [apu_]
   rfl
  refine pure_ (i := 8) (N := some 58) (v := .bool false) (a' := ?_) (fl 10 511) rfl rfl (by kernel_rfl) (fun _ _ _ h => h) (Or.inl ⟨by rfl, ?run8⟩) ?eq8 ?next8
  case run8 =>
   intro w'
   go_simp
   all_goals (first | (cases g <;> rfl) | (simp; done))
  case eq8 =>
   simp only [apu_]
   rfl
  refine pure_ (i := 9) (N := some 59) (v := ?_) (a' := ?_) (fl 10 1023) rfl rfl (by kernel_rfl) (fun _ _ _ h => h) (Or.inl ⟨by rfl, ?_⟩) ?_ ?_
  rotate_left
  ·intro w'
   go_simp
   with_reducible rfl
  rotate_left
  ·simp only [apu_]
   rfl
  refine done_ (by kernel_rfl) ?_
  clear hHeld
  clear E3 E4
  cases b with
  | false =>
   obtain rfl := HF.out rfl
   have dY_0 : w8.cell? ⟨w2.heap.size, 0, none⟩ = some (.slice Pa2 C1.length ca2) := (blk_cell Y.out.z 0).trans rfl
   have dY_1 : w8.cell? ⟨w2.heap.size, 1, none⟩ = some (.slice Pf2 ([] : List Int).length cf2) := (blk_cell Y.out.z 1).trans rfl
   have dY_2 : w8.cell? ⟨w2.heap.size, 2, none⟩ = some (.int .i64 L1) := (blk_cell Y.out.z 2).trans rfl
   go_wp2
   go_ret
   exact ⟨rfl, B.out⟩
  | true =>
   obtain ⟨rfl, HP⟩ := HT.out rfl
   replace HP := Aside0.mk HP
   clear HF HT q1 q2 q3 q4
   obtain ⟨k1, h1⟩ := good_spec HP.out.g1
   have G1 := Aside0.mk (h1 k1 (Nat.le_refl _))
   have G0 := Aside0.mk (show impl_GoodCow.f C1 R1 L1 = some true from HP.out.g1)
   have e1 := pics_len HP.out
   have e2 : ((R1.length : Int) == (R.length : Int)) = true := beq_iff_eq.2 e1
   have e3 : ((R1.length : Int) != (R.length : Int)) = false := by simp [e1]
   have e4 : (R1.length == R.length) = true := beq_iff_eq.2 HP.out.len
   have e5 : (R1.length != R.length) = false := by simp [HP.out.len]
   clear h1 e1
   have dX_0 : w8.cell? ⟨gx, 0, none⟩ = some (.slice Pa1 C.length ca1) := (blk_cell X.out.z 0).trans rfl
   have dX_1 : w8.cell? ⟨gx, 1, none⟩ = some (.slice Pf1 R.length cf1) := (blk_cell X.out.z 1).trans rfl
   have dX_2 : w8.cell? ⟨gx, 2, none⟩ = some (.int .i64 L1) := (blk_cell X.out.z 2).trans rfl
   have dY_0 : w8.cell? ⟨w2.heap.size, 0, none⟩ = some (.slice Pa2 C1.length ca2) := (blk_cell Y.out.z 0).trans rfl
   have dY_1 : w8.cell? ⟨w2.heap.size, 1, none⟩ = some (.slice Pf2 R1.length cf2) := (blk_cell Y.out.z 1).trans rfl
   have dY_2 : w8.cell? ⟨w2.heap.size, 2, none⟩ = some (.int .i64 L1) := (blk_cell Y.out.z 2).trans rfl
   have TT := Aside0.mk (impl_GoodCow.calls Pa2 ca2 C1 Pf2 cf2 R1 L1 true w8 Y.out.r0 Y.out.h0 Y.out.r1 Y.out.h1 G0.out)
   go_wp2_with (go_at_call 22; refine TT.out.mono ?_)
   (first | rintro e w21 rfl hb | rintro e w21 ⟨rfl, hb⟩)
   clear TT
   clear dX_0 dX_1 dX_2 dY_0 dY_1 dY_2
   replace X := Aside0.mk (X.out.below hb)
   replace Y := Aside0.mk (Y.out.below hb)
   replace B := Aside0.mk (below_step B.out hb)
   clear hb
   have dX_0 : w21.cell? ⟨gx, 0, none⟩ = some (.slice Pa1 C.length ca1) := (blk_cell X.out.z 0).trans rfl
   have dX_1 : w21.cell? ⟨gx, 1, none⟩ = some (.slice Pf1 R.length cf1) := (blk_cell X.out.z 1).trans rfl
   have dX_2 : w21.cell? ⟨gx, 2, none⟩ = some (.int .i64 L1) := (blk_cell X.out.z 2).trans rfl
   have dY_0 : w21.cell? ⟨w2.heap.size, 0, none⟩ = some (.slice Pa2 C1.length ca2) := (blk_cell Y.out.z 0).trans rfl
   have dY_1 : w21.cell? ⟨w2.heap.size, 1, none⟩ = some (.slice Pf2 R1.length cf2) := (blk_cell Y.out.z 1).trans rfl
   have dY_2 : w21.cell? ⟨w2.heap.size, 2, none⟩ = some (.int .i64 L1) := (blk_cell Y.out.z 2).trans rfl
   have TT := Aside0.mk (spec_GoodCow.calls k1 Pa2 ca2 C1 Pf2 cf2 R1 L1 true w21 Y.out.r0 Y.out.h0 Y.out.r1 Y.out.h1 G1.out)
   go_wp2_with (go_at_call 20; refine TT.out.mono ?_)
   (first | rintro e w22 rfl hb | rintro e w22 ⟨rfl, hb⟩)
   clear TT
   clear dX_0 dX_1 dX_2 dY_0 dY_1 dY_2
   replace X := Aside0.mk (X.out.below hb)
   replace Y := Aside0.mk (Y.out.below hb)
   replace B := Aside0.mk (below_step B.out hb)
   clear hb
   have dX_0 : w22.cell? ⟨gx, 0, none⟩ = some (.slice Pa1 C.length ca1) := (blk_cell X.out.z 0).trans rfl
   have dX_1 : w22.cell? ⟨gx, 1, none⟩ = some (.slice Pf1 R.length cf1) := (blk_cell X.out.z 1).trans rfl
   have dX_2 : w22.cell? ⟨gx, 2, none⟩ = some (.int .i64 L1) := (blk_cell X.out.z 2).trans rfl
   have dY_0 : w22.cell? ⟨w2.heap.size, 0, none⟩ = some (.slice Pa2 C1.length ca2) := (blk_cell Y.out.z 0).trans rfl
   have dY_1 : w22.cell? ⟨w2.heap.size, 1, none⟩ = some (.slice Pf2 R1.length cf2) := (blk_cell Y.out.z 1).trans rfl
   have dY_2 : w22.cell? ⟨w2.heap.size, 2, none⟩ = some (.int .i64 L1) := (blk_cell Y.out.z 2).trans rfl
   go_wp2
   clear dX_0 dX_1 dX_2 dY_0 dY_1 dY_2
   clear G0 G1 e2 e3 e4 e5
   go_loopw [86] (fun v wr => ∃ n : Nat, n ≤ R.length ∧ v = .int .i64 n ∧ Aside0 (Below w22.heap.size w22 wr)) (fun v _ => R.length - (intOf v).toNat)
   case atStart => exact ⟨0, Nat.zero_le _, rfl, ⟨Below.refl _ _⟩⟩
   case round =>
    obtain ⟨n, hn, rfl, HB⟩ := hrel
    replace X := Aside0.mk (X.out.below HB.out)
    replace Y := Aside0.mk (Y.out.below HB.out)
    replace B := Aside0.mk (below_step B.out HB.out)
    by_cases hn0 : n < R.length
    ·have hnn : ((n : Int) < (R.length : Int)) = True := eq_true (by omega)
     obtain ⟨k5, h5⟩ := leaves_is HP.out.g (n : Int) (by omega) (by omega)
     obtain ⟨k6, h6⟩ := leaves_is HP.out.g1 (n : Int) (by omega) (by have := HP.out.len; omega)
     have hlv := HP.out.lv (n : Int) (by omega) (by omega)
     have l5 := leavesI_len C L1 (rd R (n : Int))
     have l6 := leavesI_len C1 L1 (rd R1 (n : Int))
     have v5 := fun i h0 h1 => leavesI_at C L1 (rd R (n : Int)) (i := i) h0 h1
     have v6 := fun i h0 h1 => leavesI_at C1 L1 (rd R1 (n : Int)) (i := i) h0 h1
     have hpl := plc_bd L1
     generalize leavesI C L1 (rd R (n : Int)) = ws at h5 l5 v5
     generalize leavesI C1 L1 (rd R1 (n : Int)) = vs at h6 l6 v6
     have G5 := Aside0.mk (h5 k5 (Nat.le_refl _))
     have G6 := Aside0.mk (h6 k6 (Nat.le_refl _))
     have HL := Aside0.mk (show ws.length = vs.length ∧ ws.length ≤ 16 by omega)
     have HV := Aside0.mk (show ∀ i : Int, 0 ≤ i → i < (ws.length : Int) → rdOf ByteArray.empty vs i = if (n : Int) = a ∧ i = q then lf else rdOf ByteArray.empty ws i from fun i h0 h1 => by
      rw [v6 i h0 (by omega), v5 i h0 (by omega)]
      exact hlv i h0 (by omega))
     have e1 : ((ws.length : Int) == (vs.length : Int)) = true := beq_iff_eq.2 (by have := HL.out.1; omega)
     have e2 : ((ws.length : Int) != (vs.length : Int)) = false := by simp [HL.out.1]
     have e3 : (ws.length == vs.length) = true := beq_iff_eq.2 HL.out.1
     have e4 : (ws.length != vs.length) = false := by simp [HL.out.1]
     clear h5 h6 hlv l5 l6 v5 v6 hpl
     have dX_0 : wr.cell? ⟨gx, 0, none⟩ = some (.slice Pa1 C.length ca1) := (blk_cell X.out.z 0).trans rfl
     have dX_1 : wr.cell? ⟨gx, 1, none⟩ = some (.slice Pf1 R.length cf1) := (blk_cell X.out.z 1).trans rfl
     have dX_2 : wr.cell? ⟨gx, 2, none⟩ = some (.int .i64 L1) := (blk_cell X.out.z 2).trans rfl
     have dY_0 : wr.cell? ⟨w2.heap.size, 0, none⟩ = some (.slice Pa2 C1.length ca2) := (blk_cell Y.out.z 0).trans rfl
     have dY_1 : wr.cell? ⟨w2.heap.size, 1, none⟩ = some (.slice Pf2 R1.length cf2) := (blk_cell Y.out.z 1).trans rfl
     have dY_2 : wr.cell? ⟨w2.heap.size, 2, none⟩ = some (.int .i64 L1) := (blk_cell Y.out.z 2).trans rfl
     have TT := Aside0.mk (impl_LeavesOf.calls k5 Pa1 ca1 C Pf1 cf1 R L1 (n : Int) ws true wr X.out.r0 X.out.h0 X.out.r1 X.out.h1 G5.out)
     go_wp2_with (go_at_call 30; refine TT.out.mono ?_; (rintro e w301 ⟨u0, rfl, hk, hb⟩); (obtain ⟨La, lc, rfl⟩ := Kd.R_slice hk); (clear TT); (clear dX_0 dX_1 dX_2 dY_0 dY_1 dY_2 ); (replace X := Aside0.mk (X.out.below hb)); (replace Y := Aside0.mk (Y.out.below hb)); (replace B := Aside0.mk (below_step B.out hb)); (replace HB := Aside0.mk (below_step HB.out hb)); (clear hb); (have Wa := Aside0.mk (Kd.R_reads' hk).2.2); (have Wac := (Kd.R_reads' hk).2.1); (clear hk); (have dY_0 : w301.cell? ⟨w2.heap.size, 0, none⟩ = some (.slice Pa2 C1.length ca2) := (blk_cell Y.out.z 0).trans rfl); (have dY_1 : w301.cell? ⟨w2.heap.size, 1, none⟩ = some (.slice Pf2 R1.length cf2) := (blk_cell Y.out.z 1).trans rfl); (have dY_2 : w301.cell? ⟨w2.heap.size, 2, none⟩ = some (.int .i64 L1) := (blk_cell Y.out.z 2).trans rfl))
     have TT := Aside0.mk (impl_LeavesOf.calls k6 Pa2 ca2 C1 Pf2 cf2 R1 L1 (n : Int) vs true w301 Y.out.r0 Y.out.h0 Y.out.r1 Y.out.h1 G6.out)
     go_wp2_with (go_at_call 30; refine TT.out.mono ?_; (rintro e w302 ⟨u0, rfl, hk, hb⟩); (obtain ⟨Lb, ld, rfl⟩ := Kd.R_slice hk); (clear TT); (clear dY_0 dY_1 dY_2 ); (replace X := Aside0.mk (X.out.below hb)); (replace Y := Aside0.mk (Y.out.below hb)); (replace Wa := Aside0.mk (Kd.C_below Wa.out hb)); (replace B := Aside0.mk (below_step B.out hb)); (replace HB := Aside0.mk (below_step HB.out hb)); (clear hb); (have Wb := Aside0.mk (Kd.R_reads' hk).2.2); (have Wbc := (Kd.R_reads' hk).2.1); (clear hk); (have dX_0 : w302.cell? ⟨gx, 0, none⟩ = some (.slice Pa1 C.length ca1) := (blk_cell X.out.z 0).trans rfl); (have dX_1 : w302.cell? ⟨gx, 1, none⟩ = some (.slice Pf1 R.length cf1) := (blk_cell X.out.z 1).trans rfl); (have dX_2 : w302.cell? ⟨gx, 2, none⟩ = some (.int .i64 L1) := (blk_cell X.out.z 2).trans rfl))
     clear dX_0 dX_1 dX_2
     clear G5 G6
     go_wp2
     clear e1 e2 e3 e4
     go_loopw [116] (fun v wr => ∃ i : Nat, i ≤ ws.length ∧ v = .int .i64 i ∧ Aside0 (Below w302.heap.size w302 wr)) (fun v _ => ws.length - (intOf v).toNat)
     case atStart => exact ⟨0, Nat.zero_le _, rfl, ⟨Below.refl _ _⟩⟩
     case round =>
      obtain ⟨i, hi, rfl, HI⟩ := hrel
      by_cases hi0 : i < ws.length
      ·have hii : ((i : Int) < (ws.length : Int)) = True := eq_true (by omega)
       have hi1 : i < vs.length := by have := HL.out.1; omega
       have hw16 := HL.out.2
       have hij : ((i : Int) < (vs.length : Int)) = True := eq_true (by omega)
       obtain ⟨ad1, f1, hx⟩ := Kd.at_string Wa.out (i : Int) (by omega) (by omega)
       obtain ⟨ad2, f2, hy⟩ := Kd.at_string Wb.out (i : Int) (by omega) (by omega)
       cases f1
       cases f2
       simp only [Int.toNat_natCast] at hx hy
       replace hx := pw_cell_below HI.out hx
       replace hy := pw_cell_below HI.out hy
       have hv := HV.out (i : Int) (by omega) (by omega)
       generalize rdOf ByteArray.empty ws (i : Int) = x at hx hv
       generalize rdOf ByteArray.empty vs (i : Int) = y at hy hv
       by_cases j1 : (n : Int) = a
       ·have r1 : ((n : Int) == a) = true := beq_iff_eq.2 j1
        by_cases j2 : (i : Int) = q
        ·have r2 : ((i : Int) == q) = true := beq_iff_eq.2 j2
         rw [if_pos ⟨j1, j2⟩] at hv
         subst hv
         have s1 : (y.toList == y.toList) = true := by simp
         have s2 : (y.toList != y.toList) = false := by simp
         clear j1 j2
         go_wp2
         go_roundw
         case rel => exact ⟨i + 1, hi0, by go_num, HI⟩
         case measure => simp [intOf]; omega
        ·have r2 : ((i : Int) == q) = false := beq_eq_false_iff_ne.2 j2
         rw [if_neg (fun h => j2 h.2)] at hv
         subst hv
         have s1 : (y.toList == y.toList) = true := by simp
         have s2 : (y.toList != y.toList) = false := by simp
         clear j1 j2
         go_wp2
         go_roundw
         case rel => exact ⟨i + 1, hi0, by go_num, HI⟩
         case measure => simp [intOf]; omega
       ·have r1 : ((n : Int) == a) = false := beq_eq_false_iff_ne.2 j1
        rw [if_neg (fun h => j1 h.1)] at hv
        subst hv
        have s1 : (y.toList == y.toList) = true := by simp
        have s2 : (y.toList != y.toList) = false := by simp
        clear j1
        go_wp2
        go_roundw
        case rel => exact ⟨i + 1, hi0, by go_num, HI⟩
        case measure => simp [intOf]; omega
      ·have hii : ((i : Int) < (ws.length : Int)) = False := eq_false (by omega)
       have HB2 := Aside0.mk (below_step HB.out HI.out)
       clear Wa Wb HV HL
       have hr8 := HSZ.out.2.2.1
       go_wp2
       go_roundw
       case rel => exact ⟨n + 1, hn0, by go_num, HB2⟩
       case measure => simp [intOf]; omega
    ·have hnn : ((n : Int) < (R.length : Int)) = False := eq_false (by omega)
     obtain ⟨k5, h5⟩ := leafAt_is HP.out.g1 (a := a) (q := q) (by have := HP.out.a0; have := HP.out.len; omega) HP.out.q0
     have hlv := HP.out.lv a HP.out.a0.1 HP.out.a0.2 q HP.out.q0.1 HP.out.q0.2
     rw [if_pos ⟨rfl, rfl⟩] at hlv
     have G5 := Aside0.mk (show impl_LeafAt.f k5 C1 R1 L1 a q = some (lf, true) by rw [← hlv]; exact h5 k5 (Nat.le_refl _))
     obtain ⟨k6, h6⟩ := used_is HP.out.g
     obtain ⟨k7, h7⟩ := used_is HP.out.g1
     have G6 := Aside0.mk (h6 k6 (Nat.le_refl _))
     have G7 := Aside0.mk (h7 k7 (Nat.le_refl _))
     have u1 : usedN C ≤ 80 := Nat.le_trans List.countP_le_length (good_tree HP.out.g).2.2.1
     have u2 := HP.out.us
     have u3 := (good_tree HP.out.g).1
     have u4 := (good_tree HP.out.g).2.1
     generalize usedN C = n1 at u1 u2 G6
     generalize usedN C1 = n2 at u2 G7
     have uu := Aside0.mk (show ((n2 : Nat) : Int) ≤ (n1 : Int) + L1 ∧ wrap64 ((n1 : Int) + L1) = (n1 : Int) + L1 from ⟨by omega, w64 (by omega) (by omega)⟩)
     clear h5 hlv h6 h7 u1 u2 u3 u4 hnn
     have hnn : ((n : Int) < (R.length : Int)) = False := eq_false (by omega)
     have dY_0 : wr.cell? ⟨w2.heap.size, 0, none⟩ = some (.slice Pa2 C1.length ca2) := (blk_cell Y.out.z 0).trans rfl
     have dY_1 : wr.cell? ⟨w2.heap.size, 1, none⟩ = some (.slice Pf2 R1.length cf2) := (blk_cell Y.out.z 1).trans rfl
     have dY_2 : wr.cell? ⟨w2.heap.size, 2, none⟩ = some (.int .i64 L1) := (blk_cell Y.out.z 2).trans rfl
     have TT := Aside0.mk (impl_LeafAt.calls k5 Pa2 ca2 C1 Pf2 cf2 R1 L1 a q lf true wr Y.out.r0 Y.out.h0 Y.out.r1 Y.out.h1 G5.out)
     go_wp2_with (go_at_call 26; refine TT.out.mono ?_)
     (first | rintro e w401 rfl hb | rintro e w401 ⟨rfl, hb⟩)
     clear TT hnn
     clear dY_0 dY_1 dY_2
     replace X := Aside0.mk (X.out.below hb)
     replace Y := Aside0.mk (Y.out.below hb)
     replace B := Aside0.mk (below_step B.out hb)
     clear hb
     have dX_0 : w401.cell? ⟨gx, 0, none⟩ = some (.slice Pa1 C.length ca1) := (blk_cell X.out.z 0).trans rfl
     have dX_1 : w401.cell? ⟨gx, 1, none⟩ = some (.slice Pf1 R.length cf1) := (blk_cell X.out.z 1).trans rfl
     have dX_2 : w401.cell? ⟨gx, 2, none⟩ = some (.int .i64 L1) := (blk_cell X.out.z 2).trans rfl
     have TT := Aside0.mk (impl_UsedCells.calls k6 Pa1 ca1 C Pf1 cf1 R L1 (n1 : Int) true w401 X.out.r0 X.out.h0 X.out.r1 X.out.h1 G6.out)
     go_wp2_with (go_at_call 24; refine TT.out.mono ?_)
     (first | rintro e w402 rfl hb | rintro e w402 ⟨rfl, hb⟩)
     clear TT
     clear dX_0 dX_1 dX_2
     replace X := Aside0.mk (X.out.below hb)
     replace Y := Aside0.mk (Y.out.below hb)
     replace B := Aside0.mk (below_step B.out hb)
     clear hb
     have dY_0 : w402.cell? ⟨w2.heap.size, 0, none⟩ = some (.slice Pa2 C1.length ca2) := (blk_cell Y.out.z 0).trans rfl
     have dY_1 : w402.cell? ⟨w2.heap.size, 1, none⟩ = some (.slice Pf2 R1.length cf2) := (blk_cell Y.out.z 1).trans rfl
     have dY_2 : w402.cell? ⟨w2.heap.size, 2, none⟩ = some (.int .i64 L1) := (blk_cell Y.out.z 2).trans rfl
     have TT := Aside0.mk (impl_UsedCells.calls k7 Pa2 ca2 C1 Pf2 cf2 R1 L1 (n2 : Int) true w402 Y.out.r0 Y.out.h0 Y.out.r1 Y.out.h1 G7.out)
     go_wp2_with (go_at_call 24; refine TT.out.mono ?_)
     (first | rintro e w403 rfl hb | rintro e w403 ⟨rfl, hb⟩)
     clear TT
     clear dY_0 dY_1 dY_2
     replace X := Aside0.mk (X.out.below hb)
     replace Y := Aside0.mk (Y.out.below hb)
     replace B := Aside0.mk (below_step B.out hb)
     clear hb
     have dX_0 : w403.cell? ⟨gx, 0, none⟩ = some (.slice Pa1 C.length ca1) := (blk_cell X.out.z 0).trans rfl
     have dX_1 : w403.cell? ⟨gx, 1, none⟩ = some (.slice Pf1 R.length cf1) := (blk_cell X.out.z 1).trans rfl
     have dX_2 : w403.cell? ⟨gx, 2, none⟩ = some (.int .i64 L1) := (blk_cell X.out.z 2).trans rfl
     have s1 : (lf.toList == lf.toList) = true := by simp
     have s2 : (lf.toList != lf.toList) = false := by simp
     have s3 := uu.out.2
     have s4 : ((n2 : Int) ≤ (n1 : Int) + L1) = True := eq_true uu.out.1
     go_wp2
     go_ret
     exact ⟨rfl, B.out⟩
end Go.Proofs.Ytacfalpgmibfnaa.PCow
namespace Go.Proofs.Ytacfalpgmibfnaa.fnPictures
open Go.ChangeShapes Go.WideShapes Go.ChangeAt Go.RowKit
open Go.ChangeMaps (open_string shut_string)
open Go.Proofs.Ytacfalpgmibfnaa.PCow Go.Proofs.Ytacfalpgmibfnaa.ZCow Go.Proofs.YtacfalpgmibfnaaW.PrintWords Go.Proofs.YtacfalpgmibfnaaW.PrintLast Go.Proofs.YtacfalpgmibfnaaW.PrintMore
set_option linter.unusedVariables false
theorem bytes_wf {l : List Int} (h : ∀ x ∈ l, (Lit.int .u8 x).wf = true) : Bytes l := fun x hx => by
  have := h x hx
  simp [Lit.wf, IntKind.min, IntKind.max, IntKind.signed, IntKind.bits] at this
  omega
theorem own : ownKnob Try.prog.godebug = none := by kernel_rfl
theorem laidOut : laidOutB Try.prog = true := by kernel_rfl
def IsRow (k : IntKind) (w : World) (a : Option Addr) (len cap : Nat) (zs : List Int) : Prop :=
  (a = none ∧ len = 0 ∧ cap = 0 ∧ zs = []) ∨
  ∃ x, a = some x ∧ len ≤ cap ∧ cap ≤ maxLen ∧ zs.length = cap ∧ (∀ i, i < zs.length → w.cell? (x.add i) = some (.int k (zs.getD i 0))) ∧ ∀ n ∈ zs, (Lit.int k n).wf = true
set_option maxRecDepth 100000 in
theorem lifted (os : Os) (started : os.Started) (H : Type) (enc : TypeId × Value → H) :
    ReturnsInHanded {} Try.checked os 13 .any (Rows.fnPicturesSpec.pre6 enc Try.prog Try.f13 Rows.fnPicturesRow.domain false) (Rows.fnPicturesSpec.post enc Try.prog Try.f13 false true false false) := by
  refine returnsInHanded_of_change_sized (C := Try.checked) own started (by kernel_rfl) Try.func13
    (ChangeSpec.witness6 (enc := enc) (C := Try.checked) false ⟨#[], #[.slice none 0 0], []⟩ 8 (by kernel_rfl) (by kernel_rfl) (by kernel_rfl) (by kernel_rfl)) ?_
  intro W base args ds gs before hval0 hW hcnd hsz0 _
  have hsz : (DataW.weightsEach Try.prog (Try.f13.params.toList ++ Rows.fnPicturesSpec.plain.varTypes Try.prog) (ds ++ gs)).all (· ≤ reachBytes) = true := hsz0
  have hval : ∀ (j : Nat) t v, Try.f13.params[j]? = some t → args[j]? = some v → Value.okWide Try.prog W .any base t v := hval0
  have hW' := hW
  obtain ⟨p, q, hA0, hV, rfl, hfz, hnd⟩ := hW
  have hA : DataW.TrodAll enc Try.prog W 0 (fun _ => true) true Try.f13.params.toList args.toList ds p := hA0
  rw [Try.params13] at hA hval hsz
  obtain ⟨v0, vs0, d0, ds0, p0, q0, hargs, rfl, rfl, h0, r0⟩ := trodAll_cons hA
  obtain ⟨rfl, rfl, rfl⟩ := trodAll_nil r0
  obtain rfl : args = #[v0] := by cases args; simp_all
  obtain ⟨rfl, rfl⟩ := trodVars_none hV
  obtain ⟨a0, len0, cap0, rfl⟩ := okWide_slice Try.underlying53 (hval 0 53 v0 rfl rfl)
  have k0 := h0
  have lt0 : ∀ x ∈ p0, x.block < W.heap.size := by obtain ⟨m, hm⟩ := k0; exact DataW.trod_lt m _ _ _ hm
  obtain ⟨z0, w0⟩ : ∃ zs, IsRow .u8 W a0 len0 cap0 zs := by
    obtain ⟨fuel, hf⟩ := h0
    rcases open_ints Try.underlying53 Try.underlying5 (by kernel_rfl) hf with ⟨hcs, _⟩ | ⟨x, l, c, zs, hcs, _, hl, hm, hz, _, hcell, hwz⟩
    · simp [Value.cells] at hcs
      obtain ⟨rfl, rfl, rfl⟩ := hcs
      exact ⟨[], .inl ⟨rfl, rfl, rfl, rfl⟩⟩
    · simp [Value.cells] at hcs
      obtain ⟨rfl, rfl, rfl⟩ := hcs
      exact ⟨zs, .inr ⟨_, rfl, hl, hm, by simpa using hz, hcell, hwz⟩⟩
  have y0 : len0 * 1 ≤ 140737488351232 := Go.Proofs.YtacfalpgmibfnaaW.PrintWords.sized_ints hsz (j := 0) (t := 53) rfl rfl Try.underlying53 Try.underlying5 (by kernel_rfl) (by kernel_rfl) h0
  clear hA0 hval0 hsz0 hsz
  obtain ⟨l0, rfl, hr0, hm0, hw0, hc0⟩ := ReadsInt.ofRowC w0
  refine (fnPictures_calls _ _ l0 W (bytes_wf hw0) (Kd.C_of_reads (d := (0 : Int)) (h1 := fun _ => rfl) hr0) hc0 (by omega)).mono fun e W' ⟨he, bel⟩ => ?_
  subst he
  exact ⟨_, rfl, _, _, _, [], _, [], hW', trodAll_mk1 (shut_bool Try.underlying4 _), (trodAll_cons_mk (Below.trod laidOut (by kernel_rfl) (of_decide_eq_true (by kernel_rfl)) k0 bel lt0) trodAll_mk0), rfl, bel.frame _, fun h => by cases h⟩
theorem over : Rows.fnPicturesRow.holds Try.pinned (OpenSpec.ofChange Rows.fnPicturesSpec) :=
  OpenClaim.holds_of_wide 13 Try.f13 rfl rfl rfl rfl rfl rfl rfl ⟨rfl, rfl, rfl, rfl, rfl⟩ rfl rfl rfl rfl rfl (by kernel_rfl) Try.func13 (by kernel_rfl)
    (of_decide_eq_true (by kernel_rfl)) (by unfold Func.isWrapper; first | (rw [if_pos (by decide +kernel)]; kernel_rfl) | (rw [if_neg (by decide +kernel)]; exact ⟨rfl, rfl⟩))
    (fun os started H enc _ => lifted os started H enc)
theorem proved : Rows.FnPicturesSaid := over
#print axioms proved
end Go.Proofs.Ytacfalpgmibfnaa.fnPictures
namespace Go.Proofs.Ytacfalpgmibfnaa
theorem fnPictures_holds : Rows.FnPicturesSaid := fnPictures.proved
end Go.Proofs.Ytacfalpgmibfnaa
