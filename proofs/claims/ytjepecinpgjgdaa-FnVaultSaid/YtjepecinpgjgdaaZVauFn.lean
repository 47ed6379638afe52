import Derived.Test.YtjepecinpgjgdaaZVauPieces
import Derived.Test.YtjepecinpgjgdaaZVauVaultText
import Derived.Test.YtjepecinpgjgdaaZVauFinP
import Derived.Test.YtjepecinpgjgdaaZVauDropPure
/-! What a put does to a vault, and what a drop behind it does: plain lists. -/
namespace Go.Proofs.Ytjepecinpgjgdaa.ZVau
open Go.RowKit Go.Proofs.Ytjepecinpgjgdaa.PVau Go.Proofs.YtjepecinpgjgdaaW.PrintWords Go.Proofs.YtjepecinpgjgdaaW.PrintLast Go.Proofs.YtjepecinpgjgdaaW.PrintMore Go.Proofs.Ytjepecinpgjgdaa.E
set_option linter.unusedSimpArgs false
set_option linter.unusedVariables false
theorem tl_eq {a b : ByteArray} (h : a.toList = b.toList) : a = b := by
 rw [Go.ByteArray.toList_eq, Go.ByteArray.toList_eq] at h
 exact ByteArray.ext (Array.ext' h)
def nm (p : List KL) : List ByteArray := p.map (·.f0)
theorem nm_len (p : List KL) : (nm p).length = p.length := List.length_map ..
theorem nm_at (p : List KL) (j : Nat) (h : j < p.length) : (nm p)[j]? = some (p[j]).f0 := by unfold nm; rw [List.getElem?_map, List.getElem?_eq_getElem h]; rfl
theorem rd_nm (p : List KL) (k : Int) : (rd_T89 p k).f0 = ((nm p)[k.toNat]?).getD ⟨#[]⟩ := by
 rw [rd_kl, List.getD_eq_getElem?_getD]
 unfold nm
 rw [List.getElem?_map]
 cases p[k.toNat]? <;> rfl
theorem idxFrom_at (t : ByteArray) : ∀ (l : List KL) (i : Nat), idxFrom t l i = -1 ∧ t ∉ nm l ∨ ∃ j, ∃ h : j < l.length, idxFrom t l i = ((i + j : Nat) : Int) ∧ (l[j]).f0 = t
 | [], i => .inl ⟨rfl, by simp [nm]⟩
 | x :: l, i => by
  unfold idxFrom
  split
  ·rename_i h
   exact .inr ⟨0, by simp, by simp, tl_eq h⟩
  ·rename_i h
   rcases idxFrom_at t l (i + 1) with ⟨h1, h2⟩ | ⟨j, hj, h1, h2⟩
   ·refine .inl ⟨h1, fun hm => ?_⟩
    rcases List.mem_cons.1 (show t ∈ x.f0 :: nm l from hm) with e | e
    ·exact h (by rw [e])
    ·exact h2 e
   ·exact .inr ⟨j + 1, by simp; omega, by rw [h1]; omega, by simpa using h2⟩
theorem putK_step (p : List KL) (t : ByteArray) : ∃ j : Nat, (putK p t).2 = (j : Int) ∧ ((t ∉ nm p ∧ j = p.length ∧ (putK p t).1 = p ++ [⟨t, 1⟩]) ∨ ∃ h : j < p.length, (p[j]).f0 = t ∧ (putK p t).1 = p.set j ⟨t, wrap64 ((p[j]).f1 + 1)⟩) := by
 rcases idxFrom_at t p 0 with ⟨h1, h2⟩ | ⟨j, hj, h1, h2⟩
 ·have h3 : idxK p t < 0 := by unfold idxK; omega
  unfold putK
  rw [if_pos h3]
  exact ⟨p.length, rfl, .inl ⟨h2, rfl, rfl⟩⟩
 ·have h3 : idxK p t = (j : Int) := by unfold idxK; omega
  unfold putK
  rw [if_neg (by omega), h3, rd_nat hj, Int.toNat_natCast, h2]
  exact ⟨j, rfl, .inr ⟨hj, h2, rfl⟩⟩
def ups (ks : List Nat) : List Int := ks.map (fun k : Nat => (k : Int))
theorem ups_cons (k : Nat) (ks : List Nat) : ups (k :: ks) = (k : Int) :: ups ks := rfl
def rng (x : KL) : Prop := wrap64 x.f1 = x.f1
theorem wrap_wrap (y : Int) : wrap64 (wrap64 y) = wrap64 y := by unfold wrap64; omega
theorem wrap_back (f : Int) (h : wrap64 f = f) : wrap64 (wrap64 (f + 1) - 1) = f := by unfold wrap64 at *; omega
def dn (x : KL) : KL := ⟨x.f0, wrap64 (x.f1 - 1)⟩
theorem dec_step (k : Nat) (r : List Int) (p : List KL) : decK ((k : Int) :: r) p = decK r (p.modify k dn) := by
 show decK r (p.set (k : Int).toNat ⟨(rd_T89 p (k : Int)).f0, wrap64 ((rd_T89 p (k : Int)).f1 - 1)⟩) = decK r (p.modify k dn)
 congr 1
 apply List.ext_getElem?
 intro i
 rw [List.getElem?_modify, Int.toNat_natCast, List.getElem?_set]
 by_cases e : k = i
 ·subst e
  by_cases h : k < p.length
  ·rw [if_pos rfl, if_pos h, rd_nat h, List.getElem?_eq_getElem h]
   simp [dn]
  ·rw [if_pos rfl, if_neg h, List.getElem?_eq_none (by omega)]
   rfl
 ·rw [if_neg e]
  simp [e]
theorem modify_comm (p : List KL) (i j : Nat) : (p.modify i dn).modify j dn = (p.modify j dn).modify i dn := by
 apply List.ext_getElem?
 intro k
 simp only [List.getElem?_modify]
 cases p[k]? with
 | none => rfl
 | some x => by_cases h1 : i = k <;> by_cases h2 : j = k <;> simp [h1, h2]
theorem decK_comm (j : Nat) : ∀ (r : List Nat) (p : List KL), decK (ups r) (p.modify j dn) = (decK (ups r) p).modify j dn
 | [], p => rfl
 | k :: r, p => by
  rw [ups_cons, dec_step, dec_step, modify_comm, decK_comm j r]
theorem modify_app (p Z : List KL) (j : Nat) (h : j < p.length) : (p ++ Z).modify j dn = p.modify j dn ++ Z := by
 apply List.ext_getElem?
 intro k
 rw [List.getElem?_modify]
 by_cases hk : k < p.length
 ·rw [List.getElem?_append_left hk, List.getElem?_append_left (by rw [List.length_modify]; exact hk), List.getElem?_modify]
 ·rw [List.getElem?_append_right (by omega), List.getElem?_append_right (by rw [List.length_modify]; omega), List.length_modify]
  cases Z[k - p.length]? with
  | none => rfl
  | some x => simp [show ¬ j = k by omega]
def sz (l : List ByteArray) : Nat := (l.map ByteArray.size).sum
theorem sz_app (a b : List ByteArray) : sz (a ++ b) = sz a + sz b := by unfold sz; rw [List.map_append, List.sum_append]
theorem nm_put (p : List KL) (j : Nat) (x : Int) (h : j < p.length) (t : ByteArray) (ht : (p[j]).f0 = t) : nm (p.set j ⟨t, x⟩) = nm p := by
 apply List.ext_getElem?
 intro i
 unfold nm
 rw [List.getElem?_map, List.getElem?_map, List.getElem?_set]
 by_cases e : j = i
 ·subst e
  rw [if_pos rfl, if_pos h, List.getElem?_eq_getElem h]
  simp [ht]
 ·rw [if_neg e]
theorem putL_law : ∀ (T : List ByteArray) (p : List KL) (o : List Int), ∃ (N : List ByteArray) (ks : List Nat) (p' : List KL),
  putL T p o = (p', o ++ ups ks) ∧ nm p' = nm p ++ N ∧ (∀ t ∈ T, t ∈ nm p') ∧ sz N ≤ sz T ∧ ((∀ t ∈ T, t ∈ nm p) → N = []) ∧ ks.map (fun k => (nm p')[k]?) = T.map some ∧
  ((∀ x ∈ p, rng x) → ∃ Z : List KL, (∀ z ∈ Z, z.f1 = 0) ∧ decK (ups ks) p' = p ++ Z)
 | [], p, o => ⟨[], [], p, by simp [putL, ups], by simp, by simp, Nat.le_refl _, fun _ => rfl, rfl, fun _ => ⟨[], by simp, by simp [decK, ups]⟩⟩
 | t :: T, p, o => by
  obtain ⟨j, hj2, hc⟩ := putK_step p t
  obtain ⟨N, ks, p', e, hn, hin, hsz, hN, hat, hd⟩ := putL_law T (putK p t).1 (o ++ [(putK p t).2])
  have hput : putL (t :: T) p o = (p', o ++ ups (j :: ks)) := by
   show putL T (putK p t).1 (o ++ [(putK p t).2]) = _
   rw [e, hj2]
   simp [ups]
  rcases hc with ⟨hnew, rfl, h1⟩ | ⟨h, ht, h1⟩
  ·have h2 : nm (putK p t).1 = nm p ++ [t] := by rw [h1]; simp [nm]
   rw [h2] at hn hN
   have hj : (nm p')[p.length]? = some t := by
    rw [hn, List.append_assoc, List.getElem?_append_right (by rw [nm_len]; exact Nat.le_refl _), nm_len, Nat.sub_self]
    rfl
   refine ⟨t :: N, p.length :: ks, p', hput, by rw [hn]; simp, ?_, ?_, fun ha => absurd (ha t (by simp)) hnew, ?_, ?_⟩
   ·intro u hu
    rcases List.mem_cons.1 hu with rfl | hu
    ·exact List.mem_of_getElem? hj
    ·exact hin u hu
   ·show sz ([t] ++ N) ≤ sz ([t] ++ T)
    rw [sz_app, sz_app]; omega
   ·rw [List.map_cons, List.map_cons, hat, hj]
   ·intro hr
    obtain ⟨Z, hz, hdz⟩ := hd (by
     rw [h1]
     intro x hx
     rcases List.mem_append.1 hx with hx | hx
     ·exact hr x hx
     ·rw [List.mem_singleton.1 hx]; exact w64 (x := 1) (by omega) (by omega))
    refine ⟨⟨t, 0⟩ :: Z, ?_, ?_⟩
    ·intro z hz1
     rcases List.mem_cons.1 hz1 with rfl | hz1
     ·rfl
     ·exact hz z hz1
    ·rw [ups_cons, dec_step, decK_comm, hdz, h1, modify_app _ _ _ (by simp)]
     have : (p ++ [(⟨t, 1⟩ : KL)]).modify p.length dn = p ++ [⟨t, 0⟩] := by
      apply List.ext_getElem?
      intro i
      rw [List.getElem?_modify]
      by_cases hi : i < p.length
      ·rw [List.getElem?_append_left hi, List.getElem?_append_left hi]
       simp [show ¬ p.length = i by omega]
      ·rw [List.getElem?_append_right (by omega), List.getElem?_append_right (by omega)]
       by_cases hi2 : i = p.length
       ·subst hi2
        simp [dn]
        exact w64 (by omega) (by omega)
       ·rw [List.getElem?_eq_none (by simp; omega), List.getElem?_eq_none (by simp; omega)]
        rfl
     rw [this]
     simp
  ·have h2 : nm (putK p t).1 = nm p := by rw [h1]; exact nm_put p j _ h t ht
   rw [h2] at hn hN
   have hj : (nm p')[j]? = some t := by
    rw [hn, List.getElem?_append_left (by rw [nm_len]; exact h), nm_at p j h, ht]
   refine ⟨N, j :: ks, p', hput, hn, ?_, ?_, fun ha => hN (fun u hu => ha u (List.mem_cons_of_mem _ hu)), ?_, ?_⟩
   ·intro u hu
    rcases List.mem_cons.1 hu with rfl | hu
    ·exact List.mem_of_getElem? hj
    ·exact hin u hu
   ·have : sz ([t] ++ T) = sz [t] + sz T := sz_app [t] T
    have h3 : sz (t :: T) = sz [t] + sz T := this
    omega
   ·rw [List.map_cons, List.map_cons, hat, hj]
   ·intro hr
    have hpj : rng p[j] := hr _ (List.getElem_mem h)
    obtain ⟨Z, hz, hdz⟩ := hd (by
     rw [h1]
     intro x hx
     rcases List.mem_or_eq_of_mem_set hx with hx | rfl
     ·exact hr x hx
     ·exact wrap_wrap _)
    refine ⟨Z, hz, ?_⟩
    rw [ups_cons, dec_step, decK_comm, hdz, h1, modify_app _ _ _ (by rw [List.length_set]; exact h)]
    congr 1
    apply List.ext_getElem?
    intro i
    rw [List.getElem?_modify, List.getElem?_set]
    by_cases e2 : j = i
    ·subst e2
     rw [if_pos rfl, if_pos h, List.getElem?_eq_getElem h]
     simp only [Option.map_some, Option.map_eq_map, if_true, dn]
     rw [wrap_back _ hpj, ← ht]
    ·rw [if_neg e2]
     simp [e2]
theorem pack_all : ∀ (p Z : List KL) (pl : List Int) (pc : List KL), (∀ x ∈ p, 0 < x.f1) → packK (p ++ Z) pl pc = packK Z (pl ++ ups (List.range' pc.length p.length)) (pc ++ p)
 | [], Z, pl, pc, h => by simp [ups]
 | x :: p, Z, pl, pc, h => by
  show packK (p ++ Z) (pl ++ [(pc.length : Int)]) (if x.f1 > 0 then pc ++ [x] else pc) = _
  rw [if_pos (h x (by simp)), pack_all p Z _ _ (fun y hy => h y (List.mem_cons_of_mem _ hy))]
  simp [List.range'_succ, ups]
theorem pack_none : ∀ (Z : List KL) (pl : List Int) (pc : List KL), (∀ z ∈ Z, z.f1 = 0) → packK Z pl pc = (pl ++ Z.map (fun _ => (pc.length : Int)), pc)
 | [], pl, pc, h => by simp [packK]
 | z :: Z, pl, pc, h => by
  have h0 := h z (by simp)
  show packK Z (pl ++ [(pc.length : Int)]) (if z.f1 > 0 then pc ++ [z] else pc) = _
  rw [if_neg (by omega), pack_none Z _ _ (fun y hy => h y (List.mem_cons_of_mem _ hy))]
  simp
theorem incs_wrap (n : Nat) : ∀ (ks U V : List Int), (∀ x ∈ U, wrap64 x = x) → incs n U ks = some V → ∀ x ∈ V, wrap64 x = x
 | [], U, V, hU, h => by
  simp only [incs] at h
  obtain rfl := Option.some.inj h
  exact hU
 | k :: ks, U, V, hU, h => by
  simp only [incs] at h
  split at h
  ·refine incs_wrap n ks _ V (fun x hx => ?_) h
   rcases List.mem_or_eq_of_mem_set hx with hx | rfl
   ·exact hU x hx
   ·exact wrap_wrap _
  ·cases h
theorem gV_wrap (n : Nat) : ∀ (fs : List FL) (U V : List Int), (∀ x ∈ U, wrap64 x = x) → gV n U fs = some V → ∀ x ∈ V, wrap64 x = x
 | [], U, V, hU, h => by
  simp only [gV] at h
  obtain rfl := Option.some.inj h
  exact hU
 | f :: fs, U, V, hU, h => by
  simp only [gV] at h
  split at h
  ·cases h
  ·obtain ⟨W, h1, h2⟩ := Option.bind_eq_some_iff.1 h
   exact gV_wrap n fs W V (incs_wrap n _ _ _ hU h1) h2
theorem rd_wrap (U : List Int) (h : ∀ x ∈ U, wrap64 x = x) (i : Int) : wrap64 (rd U i) = rd U i := by
 unfold rd
 rw [List.getD_eq_getElem?_getD]
 cases e : U[i.toNat]? with
 | none => exact w64 (x := 0) (by omega) (by omega)
 | some x => exact h x (List.mem_of_getElem? e)
theorem good_uses {ps : List KL} {fs : List FL} (h : good ps fs = true) : ∀ x ∈ ps, 0 < x.f1 ∧ rng x := by
 unfold good at h
 split at h
 ·cases h
 ·cases hg : gV ps.length (List.replicate ps.length 0) fs with
  | none => rw [hg] at h; cases h
  | some U =>
   rw [hg] at h
   have hw := gV_wrap _ _ _ _ (fun x hx => by rw [List.eq_of_mem_replicate hx]; exact w64 (by omega) (by omega)) hg
   intro x hx
   obtain ⟨i, hi, rfl⟩ := List.getElem_of_mem hx
   have h1 := goodP_in ps U ps.length 0 h i (by omega) (by omega)
   unfold okP at h1
   rw [show rd_T89 ps (i : Int) = ps[i] from rd_nat hi] at h1
   split at h1
   ·split at h1
    ·cases h1
    ·split at h1
     ·rename_i h2
      have h3 := of_decide_eq_true h1
      exact ⟨by omega, by unfold rng; rw [h2]; exact rd_wrap U hw _⟩
     ·cases h1
   ·cases h1
theorem textOf_nm (p q : List KL) (ks : List Int) (h : ∀ k ∈ ks, (nm p)[k.toNat]? = (nm q)[k.toNat]?) : textOf p ks = textOf q ks := by
 induction ks with
 | nil => rfl
 | cons k r ih =>
  have e : ∀ l : List KL, textOf l (k :: r) = (rd_T89 l k).f0.data.toList ++ textOf l r := fun _ => rfl
  rw [e, e, rd_nm p, rd_nm q, h k (by simp), ih (fun j hj => h j (List.mem_cons_of_mem _ hj))]
theorem nm_pre {p p' : List KL} {N : List ByteArray} (h : nm p' = nm p ++ N) (k : Nat) (hk : k < p.length) : (nm p')[k]? = (nm p)[k]? := by
 rw [h, List.getElem?_append_left (by rw [nm_len]; exact hk)]
theorem text_new (p : List KL) : ∀ (T : List ByteArray) (ks : List Nat), ks.map (fun k => (nm p)[k]?) = T.map some → textOf p (ups ks) = T.flatMap (fun t => t.data.toList)
 | [], [], _ => rfl
 | [], k :: ks, h => by simp at h
 | t :: T, [], h => by simp at h
 | t :: T, k :: ks, h => by
  have h1 : (nm p)[k]? = some t := by have := List.cons.inj h; exact this.1
  have h2 := (List.cons.inj h).2
  show (rd_T89 p (k : Int)).f0.data.toList ++ textOf p (ups ks) = t.data.toList ++ T.flatMap (fun t => t.data.toList)
  rw [text_new p T ks h2, rd_nm, Int.toNat_natCast, h1]
  rfl
theorem piecesM_join (s : ByteArray) (c : List Int) (hc : ∀ i : Int, 0 ≤ i → i < c.length → prv c i ≤ rd c i) (h0 : ∀ i : Int, 0 ≤ i → i ≤ c.length → 0 ≤ prv c i) : ∀ (f : Nat) (out : List ByteArray) (i : Int), 0 ≤ i → i + f = c.length → out.flatMap (fun t => t.data.toList) = (s.extract 0 (prv c i).toNat).data.toList →
  (piecesM s c f out (prv c i) i).flatMap (fun t => t.data.toList) = (s.extract 0 (prv c c.length).toNat).data.toList := by
 intro f
 induction f with
 | zero => intro out i h1 h2 h3; rw [show (c.length : Int) = i by omega]; exact h3
 | succ f ih =>
  intro out i h1 h2 h3
  have hn : prv c (i + 1) = rd c i := by
   unfold prv
   rw [if_neg (by omega), show i + 1 - 1 = i by omega]
  have h5 := hc i h1 (by omega)
  have h6 := h0 i h1 (by omega)
  have h4 := ih (out ++ [s.extract (prv c i).toNat (rd c i).toNat]) (i + 1) (by omega) (by omega) (by
   rw [List.flatMap_append, h3, hn]
   show _ ++ ((s.extract (prv c i).toNat (rd c i).toNat).data.toList ++ []) = _
   rw [List.append_nil, ← ByteArray.toList_data_append, ByteArray.extract_append_extract, Nat.min_eq_left (by omega), Nat.max_eq_right (by omega)])
  rw [hn] at h4
  exact h4
theorem pieces_join (s : ByteArray) : (pieces s).flatMap (fun t => t.data.toList) = s.data.toList := by
 have hst := cuts_steps s
 have hu := cuts_up s
 have := piecesM_join s (cuts s) (fun i h0 h1 => by have := hst.1 i h0 h1; omega) (fun i h0 h1 => by
  unfold prv
  split
  ·omega
  ·rw [rd_get _ (i - 1) (by omega) (by omega)]
   have := hu.1 _ (List.getElem_mem (l := cuts s) (n := (i - 1).toNat) (by omega))
   omega) (cuts s).length [] 0 (by omega) (by omega) (by simp [prv])
 unfold pieces
 rw [show (piecesM s (cuts s) (cuts s).length [] 0 0) = piecesM s (cuts s) (cuts s).length [] (prv (cuts s) 0) 0 from rfl, this, hst.2, Int.toNat_natCast, ByteArray.extract_zero_size]
theorem sz_join (T : List ByteArray) : (T.flatMap (fun t => t.data.toList)).length = sz T := by
 induction T with
 | nil => rfl
 | cons t T ih =>
  show (t.data.toList ++ T.flatMap (fun t => t.data.toList)).length = sz ([t] ++ T)
  rw [List.length_append, ih, sz_app]
  show _ = (t.size + 0) + sz T
  rw [Array.length_toList]; rfl
theorem sz_pieces (s : ByteArray) : sz (pieces s) = s.size := by rw [← sz_join, pieces_join, Array.length_toList]; rfl
def sumP (ps : List IK) : Nat → Int → Int → Int
 | 0, _, x => x
 | f + 1, i, x => sumP ps f (i + 1) (wrap64 (x + ((rd_T89 ps i).f0.size : Int)))
def sumF (ps : List IK) (fs : List IF) : Nat → Int → Int → Int
 | 0, _, x => x
 | f + 1, i, x => sumF ps fs f (i + 1) (wrap64 (x + ((⟨(textOf ps (rd_T87 fs i).f0).toArray⟩ : ByteArray).size : Int)))
def keptB (ps : List IK) : Int := sumP ps ps.length 0 0
def allB (ps : List IK) (fs : List IF) : Int := sumF ps fs fs.length 0 0
def txB (ps : List IK) (fs : List IF) (a : Int) : ByteArray := ⟨(textOf ps (rd_T87 fs a).f0).toArray⟩
theorem sumP_eq (ps : List IK) (hz : ∀ k : Int, (rd_T89 ps k).f0.size ≤ 24) : ∀ (f i : Nat) (x : Int), i + f = ps.length → 0 ≤ x → x + 24 * f ≤ 1000000 → sumP ps f i x = x + (sz ((nm ps).drop i) : Int) := by
 intro f
 induction f with
 | zero =>
  intro i x h h0 h1
  rw [List.drop_of_length_le (by rw [nm_len]; omega)]
  show x = x + 0
  omega
 | succ f ih =>
  intro i x h h0 h1
  have h2 := hz i
  have hi : i < (nm ps).length := by rw [nm_len]; omega
  have e : sz ((nm ps).drop i) = (rd_T89 ps (i : Int)).f0.size + sz ((nm ps).drop (i + 1)) := by
   rw [List.drop_eq_getElem_cons hi, rd_nm, Int.toNat_natCast, List.getElem?_eq_getElem hi]
   rfl
  show sumP ps f ((i : Int) + 1) (wrap64 (x + ((rd_T89 ps (i : Int)).f0.size : Int))) = _
  rw [w64 (by omega) (by omega), show ((i : Int) + 1) = ((i + 1 : Nat) : Int) by omega, ih (i + 1) _ (by omega) (by omega) (by omega), e]
  omega
def tl (ps : List IK) (fs : List IF) : Nat := (fs.map (fun f => (textOf ps f.f0).length)).sum
theorem sumF_eq (ps : List IK) (fs : List IF) (hz : ∀ k : Int, (rd_T89 ps k).f0.size ≤ 24) (hf : ∀ f ∈ fs, f.f0.length ≤ 200) : ∀ (f i : Nat) (x : Int), i + f = fs.length → 0 ≤ x → x + 4800 * f ≤ 1000000 → sumF ps fs f i x = x + (tl ps (fs.drop i) : Int) := by
 intro f
 induction f with
 | zero =>
  intro i x h h0 h1
  rw [List.drop_of_length_le (by omega)]
  show x = x + 0
  omega
 | succ f ih =>
  intro i x h h0 h1
  have hi : i < fs.length := by omega
  have er : rd_T87 fs (i : Int) = fs[i] := getD_at fs _ (i : Int) (by omega)
  have h2 := textOf_len ps hz (fs[i]).f0
  have h3 := hf _ (List.getElem_mem hi)
  have e : tl ps (fs.drop i) = (textOf ps (fs[i]).f0).length + tl ps (fs.drop (i + 1)) := by
   rw [List.drop_eq_getElem_cons hi]
   rfl
  show sumF ps fs f ((i : Int) + 1) (wrap64 (x + ((⟨(textOf ps (rd_T87 fs (i : Int)).f0).toArray⟩ : ByteArray).size : Int))) = _
  rw [er, ba_size, w64 (by omega) (by omega), show ((i : Int) + 1) = ((i + 1 : Nat) : Int) by omega, ih (i + 1) _ (by omega) (by omega) (by omega), e]
  omega
theorem kept_eq {ps : List IK} {fs : List IF} (h : good ps fs = true) : keptB ps = (sz (nm ps) : Int) := by
 have hF := good_fine h
 have := sumP_eq ps hF.size ps.length 0 0 (by omega) (by omega) (by have := hF.np; omega)
 unfold keptB
 rw [show ((0 : Nat) : Int) = 0 from rfl] at this
 rw [this, List.drop_zero]
 omega
theorem all_eq {ps : List IK} {fs : List IF} (h : good ps fs = true) : allB ps fs = (tl ps fs : Int) := by
 have hF := good_fine h
 have := sumF_eq ps fs hF.size (fun f hf => (hF.parts f hf).1) fs.length 0 0 (by omega) (by omega) (by have := hF.nf; omega)
 unfold allB
 rw [show ((0 : Nat) : Int) = 0 from rfl] at this
 rw [this, List.drop_zero]
 omega
theorem impl_l1 (ps : List IK) (fs : List IF) (hF : Fine ps fs) (a : Int) : ∀ (f : Nat) (i x : Int), 0 ≤ i → i + f = fs.length → Ev (fun k => impl_BytesKept.l1 k a x (fs.length : Int) i ps fs) (a, sumF ps fs f i x, true) := by
 have hnf := hF.nf
 intro f
 induction f with
 | zero =>
  intro i x h0 h1
  exact Ev.step (fun _ => impl_BytesKept.l1.eq_2 ..) (ev_neg (by omega) (ev_ret rfl))
 | succ f ih =>
  intro i x h0 h1
  refine Ev.step (fun _ => impl_BytesKept.l1.eq_2 ..) (ev_pos (by omega) (Ev.bind (impl_text ps fs i h0 (by omega) hF.size hF.parts) ?_))
  rw [w64 (x := i + 1) (by omega) (by omega)]
  exact ih (i + 1) _ (by omega) (by omega)
theorem impl_l0 (ps : List IK) (fs : List IF) (hF : Fine ps fs) : ∀ (f : Nat) (i x : Int), 0 ≤ i → i + f = ps.length → Ev (fun k => impl_BytesKept.l0 k x 0 ps (ps.length : Int) i ps fs) (sumP ps f i x, sumF ps fs fs.length 0 0, true) := by
 have hnp := hF.np
 intro f
 induction f with
 | zero =>
  intro i x h0 h1
  exact Ev.step (fun _ => impl_BytesKept.l0.eq_2 ..) (ev_neg (by omega) (impl_l1 ps fs hF x fs.length 0 0 (by omega) (by omega)))
 | succ f ih =>
  intro i x h0 h1
  refine Ev.step (fun _ => impl_BytesKept.l0.eq_2 ..) (ev_pos (by omega) (ev_pos h0 (ev_pos (by omega) ?_)))
  rw [w64 (x := i + 1) (by omega) (by omega)]
  exact ih (i + 1) _ (by omega) (by omega)
theorem impl_kept {ps : List IK} {fs : List IF} (h : good ps fs = true) : Ev (fun k => impl_BytesKept.f k ps fs) (keptB ps, allB ps fs, true) := by
 have hF := good_fine h
 unfold impl_BytesKept.f
 exact ev_bindc (show impl_GoodVault.f ps fs = some (good ps fs) from rfl) (ev_true h (impl_l0 ps fs hF ps.length 0 0 (by omega) (by omega)))
theorem impl_tx {ps : List IK} {fs : List IF} (h : good ps fs = true) (a : Int) (h0 : 0 ≤ a) (h1 : a < fs.length) : Ev (fun k => impl_TextIn.f k ps fs a) (txB ps fs a, true) := by
 have hF := good_fine h
 have hnf := hF.nf
 unfold impl_TextIn.f
 rw [w64 (x := (fs.length : Int) - 1) (by omega) (by omega)]
 exact ev_bindc (show impl_GoodVault.f ps fs = some (good ps fs) from rfl) (ev_true h (ev_bindc (within_eq _ _ _) (ev_true (decide_eq_true ⟨h0, by omega⟩) (Ev.bind (impl_text ps fs a h0 h1 hF.size hF.parts) (ev_ret rfl)))))
theorem text_both (ps : List IK) (fs : List IF) (a : Int) (hl : (ps.length : Int) ≤ 1048576) (hf : (fs.length : Int) ≤ 1048576) (hw : ∀ x ∈ fs, (x.f0.length : Int) ≤ 1048576) :
  ∃ r, Ev (fun k => spec_TextIn.f k ps fs a) r ∧ Ev (fun k => impl_TextIn.f k ps fs a) r := by
 unfold spec_TextIn.f impl_TextIn.f
 rw [w64 (x := (fs.length : Int) - 1) (by omega) (by omega)]
 by_cases hg : good ps fs = true
 ·have hF := good_fine hg
  by_cases ha : 0 ≤ a ∧ a ≤ (fs.length : Int) - 1
  ·have h2 : a < (fs.length : Int) := by omega
   have h3 : a.toNat < fs.length := by omega
   have e := hF.parts _ (List.getElem_mem h3)
   have er : rd_T87 fs a = fs[a.toNat] := getD_at fs _ a h3
   rw [← er] at e
   refine ⟨_, Ev.bind (spec_good ps fs hl hf hw) (ev_true hg (ev_bindc (l1In_eq _ _ _) (ev_true (decide_eq_true ha) (ev_pos ha.1 (ev_pos h2 (Ev.bind (spec_text ps fs _ hF.size e.1 e.2) (ev_ret rfl))))))), ?_⟩
   exact ev_bindc (show impl_GoodVault.f ps fs = some (good ps fs) from rfl) (ev_true hg (ev_bindc (within_eq _ _ _) (ev_true (decide_eq_true ha) (Ev.bind (impl_text ps fs a ha.1 h2 hF.size hF.parts) (ev_ret rfl)))))
  ·refine ⟨_, Ev.bind (spec_good ps fs hl hf hw) (ev_true hg (ev_bindc (l1In_eq _ _ _) (ev_false (decide_eq_false ha) (ev_ret rfl)))), ?_⟩
   exact ev_bindc (show impl_GoodVault.f ps fs = some (good ps fs) from rfl) (ev_true hg (ev_bindc (within_eq _ _ _) (ev_false (decide_eq_false ha) (ev_ret rfl))))
 ·refine ⟨_, Ev.bind (spec_good ps fs hl hf hw) (ev_false (by simpa using hg) (ev_ret rfl)), ?_⟩
  exact ev_bindc (show impl_GoodVault.f ps fs = some (good ps fs) from rfl) (ev_false (by simpa using hg) (ev_ret rfl))
/-- What a put that is done has done. -/
structure Done (ps : List KL) (fs : List FL) (s : ByteArray) (p2 : List KL) (f2 : List FL) : Prop where
 g : good ps fs = true
 g2 : good p2 f2 = true
 len : f2.length = fs.length + 1
 t : txB p2 f2 fs.length = s
 all_ : allB p2 f2 = allB ps fs + s.size
 more : keptB p2 ≤ keptB ps + s.size
 again : ∀ p3 f3, putF p2 f2 s = (p3, f3, true) → good p3 f3 = true ∧ keptB p3 = keptB p2
 back : dropF p2 f2 fs.length = (ps, fs, true)
 old : ∀ k : Nat, k < fs.length → txB p2 f2 k = txB ps fs k
theorem put_done {ps : List KL} {fs : List FL} {s : ByteArray} {p2 : List KL} {f2 : List FL} (h : putF ps fs s = (p2, f2, true)) : Done ps fs s p2 f2 := by
 unfold putF at h
 split at h
 ·cases h
 rename_i hs
 split at h
 rotate_left
 ·cases h
 rename_i g
 unfold finP at h
 obtain ⟨N, ks, p', e, hn, hin, hsz, hN, hat, hd⟩ := putL_law (pieces s) ps []
 rw [e, List.nil_append] at h
 split at h
 rotate_left
 ·cases h
 rename_i g2
 injection h with h1 h2
 injection h2 with h2 h3
 subst h1 h2
 clear h3
 have hu := good_uses g
 have hF := good_fine g
 obtain ⟨Z, hz, hdk⟩ := hd (fun x hx => (hu x hx).2)
 have hlast : rd_T87 (fs ++ [(⟨ups ks⟩ : FL)]) (fs.length : Int) = ⟨ups ks⟩ := by
  rw [rd_fl, Int.toNat_natCast, List.getD_eq_getElem?_getD, List.getElem?_append_right (Nat.le_refl _), Nat.sub_self]
  rfl
 have hold : ∀ f ∈ fs, textOf p' f.f0 = textOf ps f.f0 := fun f hf => textOf_nm p' ps f.f0 (fun k hk => by
  have := (hF.parts f hf).2 k hk
  exact nm_pre hn _ (by omega))
 have htl : tl p' fs = tl ps fs := by
  unfold tl
  rw [List.map_congr_left (fun f hf => by rw [hold f hf])]
 have hnew : textOf p' (ups ks) = s.data.toList := by rw [text_new p' _ ks hat, pieces_join]
 have hlen : (fs ++ [(⟨ups ks⟩ : FL)]).length = fs.length + 1 := by simp
 refine ⟨g, g2, hlen, ?_, ?_, ?_, ?_, ?_, ?_⟩
 ·unfold txB
  rw [hlast, hnew]
 ·rw [all_eq g2, all_eq g]
  have : tl p' (fs ++ [(⟨ups ks⟩ : FL)]) = tl p' fs + s.size := by
   unfold tl
   rw [List.map_append, List.sum_append]
   show _ + ((textOf p' (ups ks)).length + 0) = _
   rw [hnew, Array.length_toList]; rfl
  rw [this, htl]; omega
 ·rw [kept_eq g2, kept_eq g, hn, sz_app]
  rw [sz_pieces] at hsz
  omega
 ·intro p3 f3 h3
  unfold putF at h3
  rw [if_neg hs, if_pos g2] at h3
  unfold finP at h3
  obtain ⟨N3, ks3, q, e3, hn3, _, _, hN3, _, _⟩ := putL_law (pieces s) p' []
  rw [e3] at h3
  split at h3
  rotate_left
  ·cases h3
  rename_i g3
  injection h3 with h4 h5
  injection h5 with h5 h6
  subst h4 h5
  refine ⟨g3, ?_⟩
  rw [kept_eq g3, kept_eq g2, hn3, hN3 hin, List.append_nil]
 ·have hdrop : dropR p' (fs ++ [(⟨ups ks⟩ : FL)]) fs.length = (ps, fs) := by
   unfold dropR
   rw [hlast, hdk, pack_all ps Z [] [] (fun x hx => (hu x hx).1), pack_none Z _ _ hz]
   refine Prod.ext ?_ ?_
   ·simp
   ·show ((fs ++ [(⟨ups ks⟩ : FL)]).eraseIdx fs.length).map _ = fs
    rw [List.eraseIdx_append_of_length_le (Nat.le_refl _), Nat.sub_self]
    show (fs ++ []).map _ = fs
    rw [List.append_nil]
    have : ∀ f ∈ fs, mapP ([] ++ ups (List.range' ([] : List KL).length ps.length) ++ Z.map (fun _ => (([] ++ ps : List KL).length : Int))) f = f := by
     intro f hf
     have hp := (hF.parts f hf).2
     obtain ⟨l⟩ := f
     unfold mapP
     congr 1
     refine (List.map_congr_left (g := id) (fun k hk => ?_)).trans (List.map_id _)
     have := hp k hk
     unfold rd
     rw [List.getD_eq_getElem?_getD, List.getElem?_append_left (by simp [ups]; omega), List.nil_append]
     unfold ups
     rw [List.getElem?_map, List.getElem?_range' (by omega)]
     simp
     omega
    exact (List.map_congr_left (g := id) this).trans (List.map_id _)
  unfold dropF
  rw [if_pos ⟨g2, by omega, by rw [hlen]; omega⟩, Int.toNat_natCast, hdrop]
 ·intro k hk
  unfold txB
  have e1 : rd_T87 (fs ++ [(⟨ups ks⟩ : FL)]) (k : Int) = fs[k] := by
   rw [rd_fl, Int.toNat_natCast, List.getD_eq_getElem?_getD, List.getElem?_append_left hk, List.getElem?_eq_getElem hk]
   rfl
  have e2 : rd_T87 fs (k : Int) = fs[k] := getD_at fs _ (k : Int) (by omega)
  rw [e1, e2, hold _ (List.getElem_mem hk)]
theorem sz_le : ∀ l : List ByteArray, (∀ t ∈ l, t.size ≤ 24) → sz l ≤ 24 * l.length
 | [], _ => Nat.le_refl _
 | t :: l, h => by
  have h1 := h t (by simp)
  have h2 := sz_le l (fun u hu => h u (List.mem_cons_of_mem _ hu))
  have e : sz ([t] ++ l) = sz [t] + sz l := sz_app [t] l
  have e1 : sz [t] = t.size + 0 := rfl
  have e2 : sz (t :: l) = sz [t] + sz l := e
  simp only [List.length_cons]
  omega
theorem kept_bd {ps : List IK} {fs : List IF} (h : good ps fs = true) : 0 ≤ keptB ps ∧ keptB ps ≤ 2400 := by
 have hF := good_fine h
 rw [kept_eq h]
 have h1 := hF.np
 have h2 := sz_le (nm ps) (fun t ht => by
  obtain ⟨i, hi, rfl⟩ := List.getElem_of_mem ht
  have h3 := hF.size (i : Int)
  rw [rd_nm, Int.toNat_natCast, List.getElem?_eq_getElem hi] at h3
  exact h3)
 rw [nm_len] at h2
 omega
theorem tl_le (ps : List IK) (hz : ∀ k : Int, (rd_T89 ps k).f0.size ≤ 24) : ∀ fs : List IF, (∀ f ∈ fs, f.f0.length ≤ 200) → tl ps fs ≤ 4800 * fs.length
 | [], _ => Nat.le_refl _
 | f :: fs, h => by
  have h1 := h f (by simp)
  have h2 := tl_le ps hz fs (fun u hu => h u (List.mem_cons_of_mem _ hu))
  have h3 := textOf_len ps hz f.f0
  have e : tl ps (f :: fs) = (textOf ps f.f0).length + tl ps fs := rfl
  simp only [List.length_cons]
  omega
theorem all_bd {ps : List IK} {fs : List IF} (h : good ps fs = true) : 0 ≤ allB ps fs ∧ allB ps fs ≤ 96000 := by
 have hF := good_fine h
 rw [all_eq h]
 have h1 := hF.nf
 have h2 := tl_le ps hF.size fs (fun f hf => (hF.parts f hf).1)
 omega
theorem good_nil : good [] [] = true := rfl
theorem putF_good (ps : List KL) (fs : List FL) (s : ByteArray) : good (putF ps fs s).1 (putF ps fs s).2.1 = true := by
 unfold putF
 split
 ·exact good_nil
 ·split
  ·unfold finP
   split
   ·assumption
   ·exact good_nil
  ·exact good_nil
theorem put_small {ps : List KL} {fs : List FL} {s : ByteArray} {p2 : List KL} {f2 : List FL} (h : putF ps fs s = (p2, f2, true)) : s.size ≤ 400 := by
 unfold putF at h
 split at h
 ·cases h
 ·omega
end Go.Proofs.Ytjepecinpgjgdaa.ZVau
