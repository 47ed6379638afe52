import Derived.Test.YtacfalpgmibfnaaFPic5
namespace Go.Proofs.Ytacfalpgmibfnaa.PCow
open Go.RowKit Go.Proofs.YtacfalpgmibfnaaW.PrintWords Go.Proofs.YtacfalpgmibfnaaW.PrintLast Go.Proofs.YtacfalpgmibfnaaW.PrintMore Go.Proofs.Ytacfalpgmibfnaa.E
set_option linter.unusedSimpArgs false
set_option linter.unusedVariables false
def usedN (C : List CL) : Nat := C.countP fun x => decide (x.f0 > 0)
theorem used_val (C : List CL) (hn : C.length ≤ 80) : ∀ (f i : Nat) (a : Int), i + f = C.length → 0 ≤ a → a ≤ i → Ev (fun k => impl_UsedCells.l0 k a C (C.length : Int) (i : Int)) (a + (usedN (C.drop i) : Nat), true) := by
  intro f
  induction f with
  | zero =>
    intro i a hi h0 h1
    refine Ev.step (fun _ => impl_UsedCells.l0.eq_2 ..) (ev_neg (by omega) (ev_ret ?_))
    rw [List.drop_of_length_le (by omega)]
    simp [usedN]
  | succ f ih =>
    intro i a hi h0 h1
    have hl : i < C.length := by omega
    have e1 : wrap64 ((i : Int) + 1) = ((i + 1 : Nat) : Int) := by rw [w64 (by omega) (by omega)]; omega
    have e2 : wrap64 (a + 1) = a + 1 := w64 (by omega) (by omega)
    have e3 : usedN (C.drop i) = usedN (C.drop (i + 1)) + if (C[i]).f0 > 0 then 1 else 0 := by
      unfold usedN
      rw [List.drop_eq_getElem_cons hl, List.countP_cons]
      simp
    refine Ev.step (fun _ => impl_UsedCells.l0.eq_2 ..) (ev_pos (by omega) (ev_pos (by omega) (ev_pos (by omega) ?_)))
    rw [rd_cl_nat hl, e1, e2, e3]
    by_cases hp : (C[i]).f0 > 0
    · refine ev_pos hp ?_
      rw [if_pos hp]
      have := ih (i + 1) (a + 1) (by omega) (by omega) (by omega)
      rwa [show a + 1 + (usedN (C.drop (i + 1)) : Nat) = a + ((usedN (C.drop (i + 1)) + 1 : Nat) : Int) by omega] at this
    · refine ev_neg hp ?_
      rw [if_neg hp, Nat.add_zero]
      exact ih (i + 1) a (by omega) (by omega) (by omega)
theorem used_is {C : List CL} {R : List Int} {L : Int} (hg : goodC 100 C R L = some true) : Ev (fun k => impl_UsedCells.f k C R L) ((usedN C : Nat), true) := by
  obtain ⟨_, _, hn, _⟩ := good_tree hg
  unfold impl_UsedCells.f impl_GoodCow.f
  have := used_val C hn C.length 0 0 (by omega) (by omega) (by omega)
  rw [List.drop_zero, Int.zero_add] at this
  exact ev_bindc hg (ev_true rfl this)
theorem plc_bd (L : Int) : 1 ≤ plc L ∧ plc L ≤ 16 := by
  unfold plc
  split
  · omega
  · split <;> omega
def leafI (C : List CL) : Nat → Int → Int → ByteArray
  | 0, _, _ => ⟨#[]⟩
  | m + 1, k, a => if k < 0 then ⟨#[]⟩ else if m = 0 then (rd_T68 C k).f1 else leafI C m (rd (rd_T68 C k).f2 (dgI a ((m + 1 : Nat) : Int).toNat)) a
theorem dgI_range (a : Int) (h0 : 0 ≤ a) (h1 : a < 16) (m : Nat) (h2 : m = 2 ∨ m = 3) : 0 ≤ dgI a m ∧ dgI a m < 4 := by
  unfold dgI
  rcases h2 with rfl | rfl
  · rw [show ((2 : Nat) : Int) = 2 from rfl, digit_2 a h0 h1]; show 0 ≤ a % 4 ∧ a % 4 < 4; omega
  · rw [show ((3 : Nat) : Int) = 3 from rfl, digit_3 a h0 h1]; show 0 ≤ a / 4 ∧ a / 4 < 4; omega
section
variable {C : List CL} {roots : List Int} {L : Int}
theorem leaf_val {V c v : List Int} (hI : Inv C roots L V [] c v) {a : Int} (h0 : 0 ≤ a) (h1 : a < 16) : ∀ (m : Nat), 1 ≤ m → m ≤ 3 → ∀ k, RefOK C v (k, (m : Int)) → Ev (fun n => impl_Cow_leafAt.l0 n a k (m : Int) C roots L) (leafI C m k a) := by
  intro m
  induction m with
  | zero => intro h; omega
  | succ m ih =>
    intro _ hm k hk
    by_cases hk1 : k = -1
    · subst hk1
      refine Ev.step (fun _ => impl_Cow_leafAt.l0.eq_2 ..) (ev_neg (by omega) (ev_pos (by omega) (ev_ret ?_)))
      rw [leafI, if_pos (by omega)]
    · obtain ⟨k0, k1, _, _, _, k6, k7⟩ := hI.below (m := m) (by simpa using hk) hk1
      rw [leafI, if_neg (by omega)]
      by_cases hm0 : m = 0
      · subst hm0
        rw [if_pos rfl]
        exact Ev.step (fun _ => impl_Cow_leafAt.l0.eq_2 ..) (ev_pos k0 (ev_neg (by omega) (ev_neg (by omega) (ev_pos k0 (ev_pos k1 (ev_ret rfl))))))
      · rw [if_neg hm0]
        have kl := k6 hm0
        obtain ⟨d0, d1⟩ := dgI_range a h0 h1 (m + 1) (by omega)
        have ed : impl_digit.f a ((m + 1 : Nat) : Int) = some (dgI a (m + 1)) := dgI_some a (m + 1) (by omega) (by omega)
        rw [Int.toNat_natCast]
        generalize dgI a (m + 1) = d at d0 d1 ed ⊢
        have ha : d.toNat < (rd_T68 C k).f2.length := by omega
        have hz : RefOK C v (rd (rd_T68 C k).f2 d, (m : Int)) := by
          have := k7 _ (List.getElem_mem ha)
          rw [← rd_getD ha, show ((d.toNat : Nat) : Int) = d by omega] at this
          exact this
        refine Ev.step (fun _ => impl_Cow_leafAt.l0.eq_2 ..) (ev_pos k0 (ev_pos (by omega) (ev_pos k0 (ev_pos k1 (ev_bindc ed (ev_pos d0 (ev_pos (by omega) ?_)))))))
        rw [w64 (x := ((m + 1 : Nat) : Int) - 1) (by omega) (by omega), show ((m + 1 : Nat) : Int) - 1 = (m : Int) by omega]
        exact ih (by omega) (by omega) _ hz
def leavesI (C : List CL) (L r : Int) : List ByteArray := (List.range (plc L).toNat).map fun i : Nat => leafI C L.toNat r (i : Int)
theorem leaf_root {V c v : List Int} (hI : Inv C roots L V [] c v) (h1 : 1 ≤ L) (h3 : L ≤ 3) (r : Int) (h0 : 0 ≤ r) (hr : r < (roots.length : Int)) (a : Int) (a0 : 0 ≤ a) (a1 : a < 16) : Ev (fun n => impl_Cow_leafAt.f n C roots L r a) (leafI C L.toNat (rd roots r) a) := by
  unfold impl_Cow_leafAt.f
  have hk := root_ref hI r h0 hr
  have := leaf_val hI a0 a1 L.toNat (by omega) (by omega) (rd roots r) (by rw [show ((L.toNat : Nat) : Int) = L by omega]; exact hk)
  rw [show ((L.toNat : Nat) : Int) = L by omega] at this
  exact ev_pos h0 (ev_pos hr this)
theorem leaves_val {V c v : List Int} (hI : Inv C roots L V [] c v) (h1 : 1 ≤ L) (h3 : L ≤ 3) (r : Int) (h0 : 0 ≤ r) (hr : r < (roots.length : Int)) : ∀ (f i : Nat) (out : List ByteArray), i + f = (plc L).toNat → out.length = i →
    Ev (fun k => impl_LeavesOf.l0 k r out (plc L) (i : Int) C roots L) (out ++ (List.range' i f).map (fun i : Nat => leafI C L.toNat (rd roots r) (i : Int)), true) := by
  have hp := plc_bd L
  intro f
  induction f with
  | zero =>
    intro i out hi ho
    exact Ev.step (fun _ => impl_LeavesOf.l0.eq_2 ..) (ev_neg (by omega) (ev_ret (by simp)))
  | succ f ih =>
    intro i out hi ho
    have e : wrap64 ((i : Int) + 1) = ((i + 1 : Nat) : Int) := by rw [w64 (by omega) (by omega)]; omega
    have h2 := ih (i + 1) (out ++ [leafI C L.toNat (rd roots r) (i : Int)]) (by omega) (by simp [ho])
    rw [List.append_assoc] at h2
    refine Ev.step (fun _ => impl_LeavesOf.l0.eq_2 ..) (ev_pos (by omega) (Ev.bind (leaf_root hI h1 h3 r h0 hr (i : Int) (by omega) (by omega)) (ev_pos (by omega) ?_)))
    rw [e]
    simpa [List.range'_succ] using h2
theorem leaves_is (hg : goodC 100 C roots L = some true) (r : Int) (h0 : 0 ≤ r) (hr : r < (roots.length : Int)) : Ev (fun k => impl_LeavesOf.f k C roots L r) (leavesI C L (rd roots r), true) := by
  obtain ⟨hL1, hL3, hn, hr1, hr8, V, c, v, hI, _⟩ := good_tree hg
  have hR := is_root C roots L r true (fun _ => hr8) hg
  have hp := plc_bd L
  have := leaves_val hI hL1 hL3 r h0 hr (plc L).toNat 0 [] (by omega) rfl
  unfold impl_LeavesOf.f
  refine ev_bindc hR (ev_true (by rw [decide_eq_true ⟨h0, hr⟩]; rfl) (ev_bindc (places_both C roots L hL1 hL3).2 ?_))
  unfold leavesI
  rw [List.range_eq_range']
  exact this
end
section
variable {C : List CL} {R : List Int} {L : Int} {E : List (Int × Int)} {lev : Int → Int}
structure Grew (C : List CL) (s s' : List Bool) : Prop where
  len : s'.length = s.length
  old : ∀ j, 0 ≤ j → rdOf false s j = true → rdOf false s' j = true
  new : ∀ j, 0 ≤ j → j < (C.length : Int) → rdOf false s' j = true → rdOf false s j = true ∨ ((rd_T68 C j).f0 ≠ 0 ∧ ∀ z ∈ (rd_T68 C j).f2, 0 ≤ z → rdOf false s' z = true)
theorem Grew.refl (s : List Bool) : Grew C s s := ⟨rfl, fun _ _ h => h, fun _ _ _ h => .inl h⟩
theorem Grew.trans {s s1 s2 : List Bool} (h : Grew C s s1) (k : Grew C s1 s2) : Grew C s s2 := by
  refine ⟨k.len.trans h.len, fun j j0 hj => k.old j j0 (h.old j j0 hj), fun j j0 j1 hj => ?_⟩
  rcases k.new j j0 j1 hj with e | e
  · rcases h.new j j0 j1 e with e2 | ⟨e2, e3⟩
    · exact .inl e2
    · exact .inr ⟨e2, fun z hz z0 => k.old z z0 (e3 z hz z0)⟩
  · exact .inr e
structure Taken (C : List CL) (R : List Int) (L a : Int) (C2 : List CL) (R2 : List Int) : Prop where
  g : goodC 100 C R L = some true
  g2 : goodC 100 C2 R2 L = some true
  len : R2.length = R.length + 1
  lv : ∃ ws : List ByteArray, ws.length ≤ 16 ∧ Ev (fun k => impl_LeavesOf.f k C R L a) (ws, true) ∧ Ev (fun k => impl_LeavesOf.f k C2 R2 L (R.length : Int)) (ws, true)
  us : ∃ n : Int, Ev (fun k => impl_UsedCells.f k C R L) (n, true) ∧ Ev (fun k => impl_UsedCells.f k C2 R2 L) (n, true)
  sh : ∃ n : Int, Ev (fun k => impl_SharedBy.f k C2 R2 L a (R.length : Int)) (n, true) ∧ Ev (fun k => impl_SharedBy.f k C2 R2 L a a) (n, true)
  back : impl_DropPicture.f 0 C2 R2 L (R.length : Int) = some (C, R, L, true)
end
def sumR (n : Nat) (f : Nat → Nat) : Nat := ((List.range n).map f).sum
theorem sumR_succ (n : Nat) (f : Nat → Nat) : sumR (n + 1) f = sumR n f + f n := by
  unfold sumR
  rw [List.range_succ, List.map_append, List.sum_append]
  simp
theorem sumR_congr {f g : Nat → Nat} : ∀ (n : Nat), (∀ i, i < n → f i = g i) → sumR n f = sumR n g
  | 0, _ => rfl
  | n + 1, h => by rw [sumR_succ, sumR_succ, sumR_congr n (fun i hi => h i (by omega)), h n (by omega)]
theorem sumR_swap {f g : Nat → Nat} {j : Nat} : ∀ (n : Nat), j < n → (∀ i, i < n → i ≠ j → f i = g i) → sumR n f + g j = sumR n g + f j
  | 0, h, _ => by omega
  | n + 1, h, he => by
    rw [sumR_succ, sumR_succ]
    by_cases e : n = j
    · subst e
      rw [sumR_congr n (fun i hi => he i (by omega) (by omega))]
      omega
    · have := sumR_swap n (by omega) (fun i hi hne => he i (by omega) hne)
      have := he n (by omega) e
      omega
theorem sumR_le {f : Nat → Nat} {j : Nat} : ∀ (n : Nat), j < n → f j ≤ sumR n f
  | 0, h => by omega
  | n + 1, h => by
    rw [sumR_succ]
    by_cases e : n = j
    · subst e; omega
    · have := sumR_le (f := f) n (show j < n by omega)
      omega
theorem sumR_zero {f : Nat → Nat} : ∀ (n : Nat), (∀ i, i < n → f i = 0) → sumR n f = 0
  | 0, _ => rfl
  | n + 1, h => by rw [sumR_succ, sumR_zero n (fun i hi => h i (by omega)), h n (by omega)]
theorem kc_sumR (C : List CL) (k : Int) : kc C k = sumR C.length (fun i => (rdn C i).f2.count k) := by
  unfold kc sumR
  congr 1
  refine List.ext_getElem (by simp) (fun i h1 h2 => ?_)
  have hi : i < C.length := by simpa using h1
  simp [rdn_at hi]
def kO (C : List CL) (O : Nat → Bool) (k : Int) : Nat := sumR C.length fun i => if O i = true then 0 else (rdn C i).f2.count k
def fs (E : List (Int × Nat)) (j : Nat) : Nat := (E.map Prod.fst).count (j : Int)
theorem fs_cons (k : Int) (m : Nat) (E : List (Int × Nat)) (j : Nat) : fs ((k, m) :: E) j = fs E j + if k = (j : Int) then 1 else 0 := by
  unfold fs
  rw [List.map_cons, count_cons_if]
theorem fs_app (E F : List (Int × Nat)) (j : Nat) : fs (E ++ F) j = fs E j + fs F j := by
  unfold fs
  rw [List.map_append, List.count_append]
theorem fs_map (ks : List Int) (m : Nat) (j : Nat) : fs (ks.map fun z => (z, m)) j = ks.count (j : Int) := by
  unfold fs
  rw [List.map_map]
  congr 1
  exact (List.map_congr_left (g := id) (fun _ _ => rfl)).trans (List.map_id _)
def orO (O : Nat → Bool) (k : Nat) : Nat → Bool := fun j => if j = k then true else O j
theorem orO_self (O : Nat → Bool) (k : Nat) : orO O k k = true := if_pos rfl
theorem orO_ne (O : Nat → Bool) {k j : Nat} (h : j ≠ k) : orO O k j = O j := if_neg h
structure Held (C : List CL) (O : Nat → Bool) (E : List (Int × Nat)) (lev : Nat → Nat) (N : Int) : Prop where
  cnt : ∀ j, j < C.length → O j = false → (rdn C j).f0 = ((fs E j + kO C O (j : Int) : Nat) : Int)
  alone : ∀ j, j < C.length → O j = true → fs E j + kO C O (j : Int) = 0
  bd : ∀ j, j < C.length → O j = false → (rdn C j).f0 ≤ N
  emp : ∀ j, j < C.length → O j = false → (rdn C j).f0 = 0 → (rdn C j).f2 = []
  kid : ∀ j, j < C.length → O j = false → (rdn C j).f0 ≠ 0 → 1 ≤ lev j ∧ (lev j = 1 → (rdn C j).f2 = []) ∧ (lev j ≠ 1 → (rdn C j).f2.length = 4) ∧ ∀ z ∈ (rdn C j).f2, z = -1 ∨ (0 ≤ z ∧ z < (C.length : Int) ∧ lev z.toNat + 1 = lev j)
  ext : ∀ q ∈ E, q.1 = -1 ∨ (0 ≤ q.1 ∧ q.1 < (C.length : Int) ∧ lev q.1.toNat = q.2)
  far : ∀ j, C.length ≤ j → O j = false
section
variable {C : List CL} {O : Nat → Bool} {E : List (Int × Nat)} {lev : Nat → Nat} {N : Int}
theorem kO_at {j : Nat} (k : Int) (hj : j < C.length) (ho : O j = false) : (rdn C j).f2.count k ≤ kO C O k := by
  have := sumR_le (f := fun i => if O i = true then 0 else (rdn C i).f2.count k) C.length hj
  simp only [ho] at this
  exact this
theorem Held.hit (h : Held C O E lev N) {z : Int} {m : Nat} (hz : (z, m) ∈ E) (h0 : 0 ≤ z) : z.toNat < C.length ∧ O z.toNat = false ∧ (rdn C z.toNat).f0 ≠ 0 ∧ lev z.toNat = m := by
  rcases h.ext _ hz with e | ⟨_, e1, e2⟩
  · simp only at e; omega
  · simp only at e1 e2
    have hl : z.toNat < C.length := by omega
    have hf : 0 < fs E z.toNat := by
      unfold fs
      rw [show ((z.toNat : Nat) : Int) = z by omega]
      exact List.count_pos_iff.2 (List.mem_map.2 ⟨_, hz, rfl⟩)
    have ho : O z.toNat = false := by
      cases hb : O z.toNat with
      | false => rfl
      | true => have := h.alone _ hl hb; omega
    have := h.cnt _ hl ho
    exact ⟨hl, ho, by omega, e2⟩
theorem Held.kidhit (h : Held C O E lev N) {j : Nat} {z : Int} (hj : j < C.length) (ho : O j = false) (hu : (rdn C j).f0 ≠ 0) (hz : z ∈ (rdn C j).f2) (h0 : 0 ≤ z) : z.toNat < C.length ∧ O z.toNat = false ∧ (rdn C z.toNat).f0 ≠ 0 ∧ lev z.toNat + 1 = lev j := by
  rcases (h.kid j hj ho hu).2.2.2 z hz with e | ⟨_, e1, e2⟩
  · omega
  · have hl : z.toNat < C.length := by omega
    have hf : 0 < kO C O ((z.toNat : Nat) : Int) := by
      rw [show ((z.toNat : Nat) : Int) = z by omega]
      have := kO_at z hj ho
      have := List.count_pos_iff.2 hz
      omega
    have ho : O z.toNat = false := by
      cases hb : O z.toNat with
      | false => rfl
      | true => have := h.alone _ hl hb; omega
    have := h.cnt _ hl ho
    exact ⟨hl, ho, by omega, e2⟩
theorem Held.exch {E' : List (Int × Nat)} (h : Held C O E lev N) (hc : ∀ j, j < C.length → fs E' j = fs E j) (hE : ∀ q ∈ E', q.1 = -1 ∨ (0 ≤ q.1 ∧ q.1 < (C.length : Int) ∧ lev q.1.toNat = q.2)) : Held C O E' lev N :=
  ⟨fun j hj ho => by rw [hc j hj]; exact h.cnt j hj ho, fun j hj ho => by rw [hc j hj]; exact h.alone j hj ho, h.bd, h.emp, h.kid, hE, h.far⟩
theorem Held.wide {N' : Int} (h : Held C O E lev N) (hN : N ≤ N') : Held C O E lev N' :=
  ⟨h.cnt, h.alone, fun j hj ho => Int.le_trans (h.bd j hj ho) hN, h.emp, h.kid, h.ext, h.far⟩
theorem kO_congr {D : List CL} (hl : D.length = C.length) (hf : ∀ i, i < C.length → (rdn D i).f2 = (rdn C i).f2) (k : Int) : kO D O k = kO C O k := by
  unfold kO
  rw [hl]
  exact sumR_congr _ (fun i hi => by simp only [hf i hi])
theorem Held.count {E' : List (Int × Nat)} {N' : Int} (h : Held C O E lev N) {j : Nat} (hj : j < C.length) (ho : O j = false) (hu : (rdn C j).f0 ≠ 0) (a : Int) (ha : a = ((fs E' j + kO C O (j : Int) : Nat) : Int)) (h0 : 0 < a) (hN' : a ≤ N') (hN : N ≤ N')
    (hk : ∀ i, i < C.length → i ≠ j → fs E' i = fs E i) (hE : ∀ q ∈ E', q.1 = -1 ∨ (0 ≤ q.1 ∧ q.1 < (C.length : Int) ∧ lev q.1.toNat = q.2)) :
    Held (C.set j ⟨a, (rdn C j).f1, (rdn C j).f2⟩) O E' lev N' := by
  have hs := rdn_set hj (⟨a, (rdn C j).f1, (rdn C j).f2⟩ : CL)
  have h2 : ∀ i, (rdn (C.set j ⟨a, (rdn C j).f1, (rdn C j).f2⟩) i).f2 = (rdn C i).f2 := fun i => by
    rw [hs]
    split
    · rename_i e; subst e; rfl
    · rfl
  have hkO : ∀ k, kO (C.set j ⟨a, (rdn C j).f1, (rdn C j).f2⟩) O k = kO C O k := kO_congr (by simp) (fun i _ => h2 i)
  refine ⟨fun i hi hoi => ?_, fun i hi hoi => ?_, fun i hi hoi => ?_, fun i hi hoi => ?_, fun i hi hoi => ?_, fun q hq => ?_, fun i hi => ?_⟩ <;> (try rw [List.length_set] at hi)
  · rw [hkO, hs]
    by_cases e : i = j
    · subst e; rw [if_pos rfl]; exact ha
    · rw [if_neg e, hk i hi e]; exact h.cnt i hi hoi
  · rw [hkO]
    by_cases e : i = j
    · subst e; rw [ho] at hoi; cases hoi
    · rw [hk i hi e]; exact h.alone i hi hoi
  · rw [hs]
    by_cases e : i = j
    · rw [if_pos e]; exact hN'
    · rw [if_neg e]; exact Int.le_trans (h.bd i hi hoi) hN
  · rw [h2, hs]
    by_cases e : i = j
    · rw [if_pos e]; intro e2; exact absurd e2 (by show a ≠ 0; omega)
    · rw [if_neg e]; exact h.emp i hi hoi
  · rw [h2, hs, List.length_set]
    by_cases e : i = j
    · subst e; intro _; exact h.kid i hi hoi hu
    · rw [if_neg e]; exact h.kid i hi hoi
  · rw [List.length_set]; exact hE q hq
  · exact h.far i (by simpa using hi)
theorem usedN_set {j : Nat} (hj : j < C.length) (x : CL) : usedN (C.set j x) ≤ usedN C + 1 ∧ ((rdn C j).f0 > 0 → usedN (C.set j x) ≤ usedN C) := by
  unfold usedN
  rw [rdn_at hj, List.countP_set hj]
  constructor
  · split <;> split <;> omega
  · intro hp
    have hpos : 0 < C.countP fun x => decide (x.f0 > 0) := List.countP_pos_iff.2 ⟨C[j], List.getElem_mem hj, decide_eq_true hp⟩
    rw [if_pos (decide_eq_true hp)]
    split <;> omega
theorem usedN_push (x : CL) : usedN (C ++ [x]) ≤ usedN C + 1 := by
  unfold usedN
  rw [List.countP_append]
  have : List.countP (fun x : CL => decide (x.f0 > 0)) [x] ≤ 1 := List.countP_le_length
  omega
theorem inc_held (m : Nat) : ∀ (ks : List Int) (C : List CL) (E : List (Int × Nat)) (N : Int) (D : List CL), Held C O E lev N → incL ks C = some D → N + ks.length ≤ 100000 →
    (∀ z ∈ ks, z = -1 ∨ (0 ≤ z ∧ z.toNat < C.length ∧ O z.toNat = false ∧ (rdn C z.toNat).f0 ≠ 0 ∧ lev z.toNat = m)) →
    Held D O (ks.map (fun z => (z, m)) ++ E) lev (N + ks.length) ∧ D.length = C.length ∧ (∀ j, j < C.length → (rdn D j).f1 = (rdn C j).f1 ∧ (rdn D j).f2 = (rdn C j).f2 ∧ (O j = false → (rdn C j).f0 ≠ 0 → (rdn D j).f0 ≠ 0) ∧ (O j = true → rdn D j = rdn C j)) ∧ usedN D ≤ usedN C := by
  intro ks
  induction ks with
  | nil =>
    intro C E N D h e _ _
    simp only [incL, Option.some.injEq] at e
    subst e
    exact ⟨h.wide (by simp), rfl, fun j _ => ⟨rfl, rfl, fun _ h => h, fun _ => rfl⟩, Nat.le_refl _⟩
  | cons z r ih =>
    intro C E N D h e hN hk
    simp only [List.length_cons] at hN
    simp only [incL] at e
    rcases hk z (by simp) with hz | ⟨z0, z1, z2, z3, z4⟩
    · subst hz
      rw [if_neg (by omega)] at e
      obtain ⟨a, b, c, d⟩ := ih C E N D h e (by omega) (fun y hy => hk y (by simp [hy]))
      refine ⟨(a.wide (N' := N + ((-1 :: r : List Int).length : Int)) (by simp; omega)).exch (fun j hj => ?_) (fun q hq => ?_), b, c, d⟩
      · rw [List.map_cons, List.cons_append, fs_cons, if_neg (by omega), Nat.add_zero]
      · rw [List.map_cons, List.cons_append] at hq
        rcases List.mem_cons.1 hq with e2 | hq
        · subst e2; exact .inl rfl
        · exact a.ext q hq
    · rw [if_pos z0, if_pos (by omega), rdn_int C z0] at e
      have hc := h.cnt _ z1 z2
      have hb := h.bd _ z1 z2
      rw [w64 (by omega) (by omega)] at e
      have hset := rdn_set z1 (⟨(rdn C z.toNat).f0 + 1, (rdn C z.toNat).f1, (rdn C z.toNat).f2⟩ : CL)
      have h1 : Held (C.set z.toNat ⟨(rdn C z.toNat).f0 + 1, (rdn C z.toNat).f1, (rdn C z.toNat).f2⟩) O ((z, m) :: E) lev (N + 1) := by
        refine h.count z1 z2 z3 _ ?_ (by omega) (by omega) (by omega) (fun i hi hne => ?_) (fun q hq => ?_)
        · rw [fs_cons, if_pos (by omega)]; omega
        · rw [fs_cons, if_neg (by omega), Nat.add_zero]
        · rcases List.mem_cons.1 hq with e2 | hq
          · subst e2; exact .inr ⟨z0, by show z < _; omega, z4⟩
          · exact h.ext q hq
      obtain ⟨a, b, c, d⟩ := ih _ ((z, m) :: E) (N + 1) D h1 e (by omega) (fun y hy => by
        rw [List.length_set, hset]
        rcases hk y (by simp [hy]) with hz | ⟨y0, y1, y2, y3, y4⟩
        · exact .inl hz
        · refine .inr ⟨y0, y1, y2, ?_, y4⟩
          split
          · show (rdn C z.toNat).f0 + 1 ≠ 0; omega
          · exact y3)
      rw [List.length_set] at b c
      refine ⟨(a.wide (N' := N + ((z :: r : List Int).length : Int)) (by simp; omega)).exch (fun j hj => ?_) (fun q hq => ?_), b, fun j hj => ?_, ?_⟩
      · rw [List.map_cons, List.cons_append, fs_cons, fs_app, fs_app, fs_cons]; omega
      · refine a.ext q ?_
        rw [List.map_cons, List.cons_append] at hq
        rcases List.mem_cons.1 hq with e2 | hq
        · subst e2; simp
        · rcases List.mem_append.1 hq with hq | hq
          · exact List.mem_append.2 (.inl hq)
          · exact List.mem_append.2 (.inr (List.mem_cons_of_mem _ hq))
      · obtain ⟨c1, c2, c3, c4⟩ := c j hj
        rw [hset] at c1 c2 c3 c4
        by_cases ej : j = z.toNat
        · subst ej
          rw [if_pos rfl] at c1 c2 c3 c4
          exact ⟨c1, c2, fun ho _ => c3 ho (by show (rdn C z.toNat).f0 + 1 ≠ 0; omega), fun ho => by rw [z2] at ho; cases ho⟩
        · rw [if_neg ej] at c1 c2 c3 c4
          exact ⟨c1, c2, c3, c4⟩
      · exact Nat.le_trans d ((usedN_set z1 _).2 (by omega))
theorem kO_open {k : Nat} (hk : k < C.length) (ho : O k = false) (z : Int) : kO C (orO O k) z + (rdn C k).f2.count z = kO C O z := by
  have := sumR_swap (f := fun i => if orO O k i = true then 0 else (rdn C i).f2.count z) (g := fun i => if O i = true then 0 else (rdn C i).f2.count z) C.length hk (fun i _ hne => by simp only [orO_ne O hne])
  simp only [orO_self, ho, if_true] at this
  unfold kO
  simpa using this
theorem kO_set {k : Nat} (hk : k < C.length) (ho : O k = false) (x : CL) (z : Int) : kO (C.set k x) O z = kO C (orO O k) z + x.f2.count z := by
  have := sumR_swap (f := fun i => if O i = true then 0 else (rdn (C.set k x) i).f2.count z) (g := fun i => if orO O k i = true then 0 else (rdn C i).f2.count z) C.length hk (fun i _ hne => by simp only [orO_ne O hne, rdn_set hk, if_neg hne])
  simp only [orO_self, ho, if_true, rdn_set hk] at this
  unfold kO
  rw [List.length_set]
  simpa [rdn_set hk] using this
theorem Held.opened {k m : Nat} (h : Held C O (((k : Int), m + 1) :: E) lev N) (h1 : (rdn C k).f0 = 1) : Held C (orO O k) ((rdn C k).f2.map (fun z => (z, m)) ++ E) lev N := by
  obtain ⟨hk, ho, hu, hlv⟩ := h.hit (z := (k : Int)) (m := m + 1) (List.mem_cons_self ..) (by omega)
  simp only [Int.toNat_natCast] at hk ho hu hlv
  have hkid := h.kid k hk ho hu
  have hc := h.cnt k hk ho
  rw [fs_cons, if_pos rfl, h1] at hc
  refine ⟨fun j hj hoj => ?_, fun j hj hoj => ?_, fun j hj hoj => ?_, fun j hj hoj => ?_, fun j hj hoj => ?_, fun q hq => ?_, fun j hj => ?_⟩
  · by_cases e : j = k
    · subst e; rw [orO_self] at hoj; cases hoj
    · rw [orO_ne O e] at hoj
      have := h.cnt j hj hoj
      have h3 := kO_open hk ho (j : Int)
      rw [fs_cons, if_neg (by omega)] at this
      rw [fs_app, fs_map, this]
      omega
  · have h3 := kO_open hk ho (j : Int)
    rw [fs_app, fs_map]
    by_cases e : j = k
    · subst e; omega
    · rw [orO_ne O e] at hoj
      have := h.alone j hj hoj
      rw [fs_cons] at this
      omega
  · by_cases e : j = k
    · subst e; rw [orO_self] at hoj; cases hoj
    · rw [orO_ne O e] at hoj; exact h.bd j hj hoj
  · by_cases e : j = k
    · subst e; rw [orO_self] at hoj; cases hoj
    · rw [orO_ne O e] at hoj; exact h.emp j hj hoj
  · by_cases e : j = k
    · subst e; rw [orO_self] at hoj; cases hoj
    · rw [orO_ne O e] at hoj; exact h.kid j hj hoj
  · rcases List.mem_append.1 hq with hq | hq
    · obtain ⟨z, hz, rfl⟩ := List.mem_map.1 hq
      rcases hkid.2.2.2 z hz with e | ⟨e1, e2, e3⟩
      · exact .inl e
      · exact .inr ⟨e1, e2, by show lev z.toNat = m; omega⟩
    · exact h.ext q (List.mem_cons_of_mem _ hq)
  · rw [orO_ne O (by omega)]; exact h.far j hj
def upd (lev : Nat → Nat) (k m : Nat) : Nat → Nat := fun j => if j = k then m else lev j
theorem upd_self (lev : Nat → Nat) (k m : Nat) : upd lev k m k = m := if_pos rfl
theorem upd_ne (lev : Nat → Nat) {k j : Nat} (m : Nat) (h : j ≠ k) : upd lev k m j = lev j := if_neg h
theorem Held.closed {k m : Nat} {ks : List Int} (h : Held C (orO O k) (ks.map (fun z => (z, m)) ++ E) lev N) (hk : k < C.length) (ho : O k = false) (hN : 1 ≤ N) (x : CL) (x0 : x.f0 = 1) (x2 : x.f2 = ks) (m1 : m = 0 → ks = []) (m2 : m ≠ 0 → ks.length = 4) :
    Held (C.set k x) O (((k : Int), m + 1) :: E) (upd lev k (m + 1)) N := by
  have hs := rdn_set hk x
  have ha := h.alone k hk (orO_self O k)
  rw [fs_app, fs_map] at ha
  have hkO := fun z => kO_set hk ho x z
  rw [x2] at hkO
  have hnum : ∀ z : Int, 0 ≤ z → ks.count z = 0 ∨ z.toNat ≠ k := fun z hz => by
    by_cases e : z.toNat = k
    · exact .inl (by rw [show z = (k : Int) by omega]; omega)
    · exact .inr e
  refine ⟨fun j hj hoj => ?_, fun j hj hoj => ?_, fun j hj hoj => ?_, fun j hj hoj => ?_, fun j hj hoj => ?_, fun q hq => ?_, fun j hj => ?_⟩ <;> (try rw [List.length_set] at hj)
  · rw [hs, hkO, fs_cons]
    by_cases e : j = k
    · subst e; rw [if_pos rfl, if_pos rfl, x0]; omega
    · rw [if_neg e, if_neg (by omega)]
      have := h.cnt j hj (by rw [orO_ne O e]; exact hoj)
      rw [fs_app, fs_map] at this
      omega
  · rw [hkO, fs_cons]
    by_cases e : j = k
    · subst e; rw [ho] at hoj; cases hoj
    · have := h.alone j hj (by rw [orO_ne O e]; exact hoj)
      rw [fs_app, fs_map] at this
      rw [if_neg (by omega)]
      omega
  · rw [hs]
    by_cases e : j = k
    · rw [if_pos e, x0]; exact hN
    · rw [if_neg e]; exact h.bd j hj (by rw [orO_ne O e]; exact hoj)
  · rw [hs]
    by_cases e : j = k
    · rw [if_pos e, x0]; intro h; cases h
    · rw [if_neg e]; exact h.emp j hj (by rw [orO_ne O e]; exact hoj)
  · rw [hs, List.length_set]
    by_cases e : j = k
    · rw [if_pos e, x2]
      intro _
      subst e
      rw [upd_self]
      refine ⟨by omega, fun e => m1 (by omega), fun e => m2 (by omega), fun z hz => ?_⟩
      rcases h.ext (z, m) (List.mem_append.2 (.inl (List.mem_map.2 ⟨z, hz, rfl⟩))) with e | ⟨e1, e2, e3⟩
      · exact .inl e
      · have hne : z.toNat ≠ j := (hnum z e1).resolve_left (by have := List.count_pos_iff.2 hz; omega)
        exact .inr ⟨e1, e2, by rw [upd_ne lev _ hne]; simp only at e3; omega⟩
    · rw [if_neg e]
      intro hu
      have hoj' : orO O k j = false := by rw [orO_ne O e]; exact hoj
      obtain ⟨a, b, c, d⟩ := h.kid j hj hoj' hu
      rw [upd_ne lev _ e]
      refine ⟨a, b, c, fun z hz => ?_⟩
      rcases d z hz with e | ⟨e1, e2, e3⟩
      · exact .inl e
      · have hne : z.toNat ≠ k := fun e4 => by
          have h5 := kO_at z hj hoj'
          have h6 := List.count_pos_iff.2 hz
          rw [show z = (k : Int) by omega] at h5 h6
          omega
        exact .inr ⟨e1, e2, by rw [upd_ne lev _ hne]; exact e3⟩
  · rw [List.length_set]
    rcases List.mem_cons.1 hq with e | hq
    · subst e; exact .inr ⟨by show (0 : Int) ≤ k; omega, by show (k : Int) < _; omega, by show upd lev k (m + 1) ((k : Int)).toNat = m + 1; rw [Int.toNat_natCast, upd_self]⟩
    · rcases h.ext q (List.mem_append.2 (.inr hq)) with e | ⟨e1, e2, e3⟩
      · exact .inl e
      · have hne : q.1.toNat ≠ k := fun e4 => by
          have : 0 < fs E k := by
            unfold fs
            exact List.count_pos_iff.2 (List.mem_map.2 ⟨q, hq, by omega⟩)
          omega
        exact .inr ⟨e1, e2, by rw [upd_ne lev _ hne]; exact e3⟩
  · have := h.far j hj
    rwa [orO_ne O (by omega)] at this
theorem Held.emptied {k m m' : Nat} {ks : List Int} (h : Held C (orO O k) (ks.map (fun z => (z, m)) ++ E) lev N) (hk : k < C.length) (ho : O k = false) (hN : 0 ≤ N) (hks : ∀ z ∈ ks, z < 0) :
    Held (C.set k z68) O ((-1, m') :: E) lev N := by
  have hs := rdn_set hk z68
  have ha := h.alone k hk (orO_self O k)
  rw [fs_app, fs_map] at ha
  have hkO := fun z => kO_set hk ho z68 z
  have z2 : ∀ z : Int, (z68 : CL).f2.count z = 0 := fun _ => rfl
  have hc0 : ∀ j : Nat, ks.count (j : Int) = 0 := fun j => List.count_eq_zero.2 (fun hm => by have := hks _ hm; omega)
  refine ⟨fun j hj hoj => ?_, fun j hj hoj => ?_, fun j hj hoj => ?_, fun j hj hoj => ?_, fun j hj hoj => ?_, fun q hq => ?_, fun j hj => ?_⟩ <;> (try rw [List.length_set] at hj)
  · rw [hs, hkO, z2, fs_cons, if_neg (show ¬ ((-1 : Int) = (j : Int)) by omega)]
    by_cases e : j = k
    · subst e; rw [if_pos rfl]; show (0 : Int) = _; omega
    · rw [if_neg e]
      have := h.cnt j hj (by rw [orO_ne O e]; exact hoj)
      rw [fs_app, fs_map, hc0] at this
      omega
  · rw [hkO, z2, fs_cons, if_neg (show ¬ ((-1 : Int) = (j : Int)) by omega)]
    by_cases e : j = k
    · subst e; rw [ho] at hoj; cases hoj
    · have := h.alone j hj (by rw [orO_ne O e]; exact hoj)
      rw [fs_app, fs_map] at this
      omega
  · rw [hs]
    by_cases e : j = k
    · rw [if_pos e]; exact hN
    · rw [if_neg e]; exact h.bd j hj (by rw [orO_ne O e]; exact hoj)
  · rw [hs]
    by_cases e : j = k
    · rw [if_pos e]; exact fun _ => rfl
    · rw [if_neg e]; exact h.emp j hj (by rw [orO_ne O e]; exact hoj)
  · rw [hs, List.length_set]
    by_cases e : j = k
    · rw [if_pos e]; intro e; exact absurd rfl e
    · rw [if_neg e]; exact h.kid j hj (by rw [orO_ne O e]; exact hoj)
  · rw [List.length_set]
    rcases List.mem_cons.1 hq with e | hq
    · subst e; exact .inl rfl
    · exact h.ext q (List.mem_append.2 (.inr hq))
  · have := h.far j hj
    rwa [orO_ne O (by omega)] at this
theorem Held.free {k : Nat} (h : Held C O E lev N) (hk : k < C.length) (ho : O k = false) (h0 : (rdn C k).f0 = 0) : Held C (orO O k) E lev N := by
  have he := h.emp k hk ho h0
  have hkO : ∀ z, kO C (orO O k) z = kO C O z := fun z => by
    have := kO_open hk ho z
    rw [he] at this
    simpa using this
  have hc := h.cnt k hk ho
  refine ⟨fun j hj hoj => ?_, fun j hj hoj => ?_, fun j hj hoj => ?_, fun j hj hoj => ?_, fun j hj hoj => ?_, h.ext, fun j hj => ?_⟩
  · by_cases e : j = k
    · subst e; rw [orO_self] at hoj; cases hoj
    · rw [orO_ne O e] at hoj; rw [hkO]; exact h.cnt j hj hoj
  · rw [hkO]
    by_cases e : j = k
    · subst e; omega
    · rw [orO_ne O e] at hoj; exact h.alone j hj hoj
  · by_cases e : j = k
    · subst e; rw [orO_self] at hoj; cases hoj
    · rw [orO_ne O e] at hoj; exact h.bd j hj hoj
  · by_cases e : j = k
    · subst e; rw [orO_self] at hoj; cases hoj
    · rw [orO_ne O e] at hoj; exact h.emp j hj hoj
  · by_cases e : j = k
    · subst e; rw [orO_self] at hoj; cases hoj
    · rw [orO_ne O e] at hoj; exact h.kid j hj hoj
  · rw [orO_ne O (by omega)]; exact h.far j hj
theorem Held.pushed (h : Held C O E lev N) (x : CL) : Held (C ++ [x]) (orO O C.length) E lev N := by
  have hl : (C ++ [x]).length = C.length + 1 := by simp
  have hp := fun j hj => rdn_push C x j hj
  have hkO : ∀ z, kO (C ++ [x]) (orO O C.length) z = kO C O z := fun z => by
    unfold kO
    rw [hl, sumR_succ, orO_self, if_pos rfl, Nat.add_zero]
    exact sumR_congr _ (fun i hi => by simp only [orO_ne O (show i ≠ C.length by omega), hp i hi])
  have hz : fs E C.length + kO C O (C.length : Int) = 0 := by
    have e1 : fs E C.length = 0 := by
      unfold fs
      refine List.count_eq_zero.2 (fun hm => ?_)
      obtain ⟨q, hq, e⟩ := List.mem_map.1 hm
      rcases h.ext q hq with e2 | ⟨_, e2, _⟩ <;> omega
    have e2 : kO C O (C.length : Int) = 0 := by
      unfold kO
      refine sumR_zero _ (fun i hi => ?_)
      cases hb : O i with
      | true => rfl
      | false =>
        simp only [Bool.false_eq_true, if_false]
        refine List.count_eq_zero.2 (fun hm => ?_)
        by_cases hu : (rdn C i).f0 = 0
        · rw [h.emp i hi hb hu] at hm; cases hm
        · rcases (h.kid i hi hb hu).2.2.2 _ hm with e3 | ⟨_, e3, _⟩ <;> omega
    omega
  refine ⟨fun j hj hoj => ?_, fun j hj hoj => ?_, fun j hj hoj => ?_, fun j hj hoj => ?_, fun j hj hoj => ?_, fun q hq => ?_, fun j hj => ?_⟩ <;> (try rw [hl] at hj)
  · by_cases e : j = C.length
    · subst e; rw [orO_self] at hoj; cases hoj
    · rw [orO_ne O e] at hoj; rw [hkO, hp j (by omega)]; exact h.cnt j (by omega) hoj
  · rw [hkO]
    by_cases e : j = C.length
    · subst e; exact hz
    · rw [orO_ne O e] at hoj; exact h.alone j (by omega) hoj
  · by_cases e : j = C.length
    · subst e; rw [orO_self] at hoj; cases hoj
    · rw [orO_ne O e] at hoj; rw [hp j (by omega)]; exact h.bd j (by omega) hoj
  · by_cases e : j = C.length
    · subst e; rw [orO_self] at hoj; cases hoj
    · rw [orO_ne O e] at hoj; rw [hp j (by omega)]; exact h.emp j (by omega) hoj
  · by_cases e : j = C.length
    · subst e; rw [orO_self] at hoj; cases hoj
    · rw [orO_ne O e] at hoj; rw [hp j (by omega), hl]
      intro hu
      obtain ⟨a, b, c, d⟩ := h.kid j (by omega) hoj hu
      refine ⟨a, b, c, fun z hz => (d z hz).imp id (fun e => ⟨e.1, by omega, e.2.2⟩)⟩
  · rw [hl]
    exact (h.ext q hq).imp id (fun e => ⟨e.1, by omega, e.2.2⟩)
  · rw [orO_ne O (by omega)]; exact h.far j (by omega)
end
def takeM (C : List CL) (R : List Int) (L root : Int) : Option (List CL × List Int × Int × Bool) :=
 if ownB C R = true then (if 0 ≤ root ∧ root < (R.length : Int) then (if rd R root ≥ 0 then (if rd R root < (C.length : Int) then some (C.set (rd R root).toNat ⟨wrap64 ((rd_T68 C (rd R root)).f0 + 1), (rd_T68 C (rd R root)).f1, (rd_T68 C (rd R root)).f2⟩, R ++ [rd R root], L, true) else none) else some (C, R ++ [rd R root], L, true)) else none) else none
def impl_TakePicture.f (_k : Nat) (C : List CL) (R : List Int) (L root : Int) : Option (List CL × List Int × Int × Bool) :=
 (impl_isRoot.f C R L root).bind fun b => if b = true then (if (R.length : Int) = 8 then some ([], [], 0, false) else takeM C R L root) else some ([], [], 0, false)
open Go.RowKit Go.Proofs.YtacfalpgmibfnaaW.PrintWords Go.Proofs.YtacfalpgmibfnaaW.PrintLast Go.Proofs.YtacfalpgmibfnaaW.PrintMore
attribute [local go_sem] max2_int min2_int max_two min_two max_three min_three max_four min_four
set_option linter.unusedVariables false
set_option linter.unusedSimpArgs false
def spec_TakePicture.j0 : Nat → Int → Bool → List (S68) → List Int → Int → Option ((List (S68)) × List Int × Int × Bool)
 | 0, _, _, _, _, _ => none
 | k + 1, x1, x24, x418000, x418001, x418002 => if x24 = true then (some (([] : List (S68)), ([] : List Int), 0, false)) else ((spec_l14Own.f k x418000 x418001 x418002).bind fun bt421 => (if 0 ≤ x1 then (if x1 < (bt421.2.1.length : Int) then (if bt421.2.1.length < 17592186044416 then ((some (bt421.2.1 ++ [rd bt421.2.1 x1] : List Int)).bind fun y429 => (if (rd bt421.2.1 x1) ≥ 0 then (if 0 ≤ (rd bt421.2.1 x1) then (if (rd bt421.2.1 x1) < (bt421.1.length : Int) then (some ((bt421.1.set ((rd bt421.2.1 x1) : Int).toNat (⟨wrap64 (((rd_T68 bt421.1 (rd bt421.2.1 x1)).f0) + 1), (rd_T68 bt421.1 (rd bt421.2.1 x1)).f1, (rd_T68 bt421.1 (rd bt421.2.1 x1)).f2⟩ : S68)), y429, bt421.2.2, true)) else (none)) else (none)) else (some (bt421.1, y429, bt421.2.2, true)))) else (none)) else (none)) else (none)))
def spec_TakePicture.f (k : Nat) (l0_0 : List (S68)) (l0_1 : List Int) (a0_2 : Int) (a1 : Int) : Option ((List (S68)) × List Int × Int × Bool) := (spec_GoodCow.f k l0_0 l0_1 a0_2).bind fun t419 => (if t419 = true then ((spec_l1In.f a1 0 (wrap64 ((l0_1.length : Int) - 1))).bind fun t420 => (if t420 = true then (spec_TakePicture.j0 k a1 ((l0_1.length : Int) == 8) l0_0 l0_1 a0_2) else (spec_TakePicture.j0 k a1 true l0_0 l0_1 a0_2))) else (spec_TakePicture.j0 k a1 true l0_0 l0_1 a0_2))
set_option maxHeartbeats 8000000 in
set_option maxRecDepth 100000 in
theorem spec_TakePicture.calls (k : Nat) (A0_0 : Option Addr) (c0_0 : Nat) (l0_0 : List (S68)) (A0_1 : Option Addr) (c0_1 : Nat) (l0_1 : List Int) (a0_2 : Int) (a1 : Int) (r1 : List (S68)) (r2 : List Int) (r3 : Int) (r4 : Bool) (w : World) (hr0_0 : Kd.C k68 w A0_0 l0_0.length l0_0) (hc0_0 : l0_0.length ≤ c0_0) (hr0_1 : Kd.C (Kd.int .i64) w A0_1 l0_1.length l0_1) (hc0_1 : l0_1.length ≤ c0_1) (h : spec_TakePicture.f k l0_0 l0_1 a0_2 a1 = some (r1, r2, r3, r4)) :
  Calls Try.prog 34 #[.agg #[.slice A0_0 l0_0.length c0_0, .slice A0_1 l0_1.length c0_1, .int .i64 a0_2], .int .i64 a1] w fun e w' => ∃ v0_ v1_ : Value, e = .returned (.tuple #[.agg #[v0_, v1_, .int .i64 r3], .bool r4]) ∧ Kd.S k68 68 w' w.heap.size (fun k_ => some k_ ≠ (v1_ : Value).ownBlock) v0_ r1 ∧ Kd.R (Kd.int .i64) 3 w' w.heap.size (fun _ => True) v1_ r2 ∧ Below w.heap.size w w' := by
 have hu25 := Try.underlying25
 have HR0_0 := Aside0.mk hr0_0
 have HC0_0 := Aside0.mk hc0_0
 clear hr0_0 hc0_0
 have HR0_1 := Aside0.mk hr0_1
 have HC0_1 := Aside0.mk hc0_1
 clear hr0_1 hc0_1
 have HB := Aside0.mk (Below.refl w.heap.size w)
 have H : ((spec_GoodCow.f k l0_0 l0_1 a0_2).bind fun t419 => (if t419 = true then ((spec_l1In.f a1 0 (wrap64 ((l0_1.length : Int) - 1))).bind fun t420 => (if t420 = true then (spec_TakePicture.j0 k a1 ((l0_1.length : Int) == 8) l0_0 l0_1 a0_2) else (spec_TakePicture.j0 k a1 true l0_0 l0_1 a0_2))) else (spec_TakePicture.j0 k a1 true l0_0 l0_1 a0_2))) = some (r1, r2, r3, r4) := h
 clear h
 have HC3 := Aside0.mk H
 clear H
 go_enter Try.func34, Try.ntmps34
 go_upto_region 1 with (first | ((with_reducible refine gate_dst (N := 2) rfl ?_); (try (refine gate_guard (by rfl) ?_; dsimp only)); refine box_event ?hg (N := 2) ?hd (cs := #[.slice A0_0 l0_0.length c0_0, .slice A0_1 l0_1.length c0_1, .int .i64 a0_2]) (t := 25) ?hr ?_; (case hd => rfl); (case hg => rfl); (case hr => first | (go_simp; done) | (go_simp; rfl)); intro gb417 hg w4 hbox hb; have BK417 := Aside0.mk (hbox); have GW417 := Aside0.mk ((by rw [hg]; exact (below_size (by with_reducible repeat (first | exact HB.out | apply below_alloc | apply pw_below_drewN | apply below_drew1))) : w.heap.size ≤ gb417)); have GE417 := Aside0.mk ((by rw [hg]; exact (below_size (by with_reducible repeat (first | exact HB.out | apply below_alloc | apply pw_below_drewN | apply below_drew1))) : w.heap.size ≤ gb417)); replace HB := Aside0.mk (below_step (by with_reducible repeat (first | exact HB.out | apply below_alloc | apply pw_below_drewN | apply below_drew1)) hb); clear hb hbox hg) | ((with_reducible refine gate_dst (N := 4) rfl ?_); (try (refine gate_guard (by rfl) ?_; dsimp only)); refine box_event ?hg (N := 4) ?hd (cs := #[.slice none 0 0, .slice none 0 0, .int .i64 0]) (t := 25) ?hr ?_; (case hd => rfl); (case hg => rfl); (case hr => first | (go_simp; done) | (go_simp; rfl)); intro gb418 hg w5 hbox hb; have BK418 := Aside0.mk (hbox); have GW418 := Aside0.mk ((by rw [hg]; exact (below_size (by with_reducible repeat (first | exact HB.out | apply below_alloc | apply pw_below_drewN | apply below_drew1 | refine below_set ?_ GE417.out))) : w.heap.size ≤ gb418)); have GE418 := Aside0.mk ((by rw [hg]; exact (below_size (by with_reducible repeat (first | exact HB.out | apply below_alloc | apply pw_below_drewN | apply below_drew1 | refine below_set ?_ GE417.out))) : w.heap.size ≤ gb418)); replace HB := Aside0.mk (below_step (by with_reducible repeat (first | exact HB.out | apply below_alloc | apply pw_below_drewN | apply below_drew1 | refine below_set ?_ GE417.out)) hb); have NB417_418 := Aside0.mk ((by rw [hg]; exact Nat.ne_of_lt (blk_lt (g := gb417) (o := .cells #[.slice A0_0 l0_0.length c0_0, .slice A0_1 l0_1.length c0_1, .int .i64 a0_2] 25 (0, 0)) (by (with_reducible repeat (first | refine blk_drewN ?_ _ | refine blk_drew ?_ | refine blk_alloc ?_ _)); exact BK417.out)) : gb417 ≠ gb418)); have NB418_417 := Aside0.mk ((by rw [hg]; exact Nat.ne_of_gt (blk_lt (g := gb417) (o := .cells #[.slice A0_0 l0_0.length c0_0, .slice A0_1 l0_1.length c0_1, .int .i64 a0_2] 25 (0, 0)) (by (with_reducible repeat (first | refine blk_drewN ?_ _ | refine blk_drew ?_ | refine blk_alloc ?_ _)); exact BK417.out)) : gb418 ≠ gb417)); replace BK417 := Aside0.mk (blk_below (g := gb417) (o := .cells #[.slice A0_0 l0_0.length c0_0, .slice A0_1 l0_1.length c0_1, .int .i64 a0_2] 25 (0, 0)) (by (with_reducible repeat (first | refine blk_drewN ?_ _ | refine blk_drew ?_ | refine blk_alloc ?_ _)); exact BK417.out) hb); clear hb hbox hg))
 (try simp only [apu_])
 go_cut [24] (fun v24 wc => ∃ (kq : Nat) (x24_2 : Bool), v24 = .bool x24_2 ∧ Aside0 (spec_TakePicture.j0 kq a1 x24_2 l0_0 l0_1 a0_2 = some (r1, r2, r3, r4)) ∧ Aside0 (kq ≤ k) ∧ Aside0 (wc.heap[gb417]? = some (.cells #[(.slice A0_0 l0_0.length c0_0), (.slice A0_1 l0_1.length c0_1), .int .i64 a0_2] 25 (0, 0))) ∧ Aside0 (wc.heap[gb418]? = some (.cells #[(.slice none 0 0), (.slice none 0 0), .int .i64 0] 25 (0, 0))) ∧ Aside0 (Below w.heap.size w wc))
 case first =>
  have H := HC3.out
  clear HC3
  replace H := Option.bind_eq_some_iff.mp H
  obtain ⟨t419, A60, H⟩ := H
  replace H : (if t419 = true then ((spec_l1In.f a1 0 (wrap64 ((l0_1.length : Int) - 1))).bind fun t420 => (if t420 = true then (spec_TakePicture.j0 k a1 ((l0_1.length : Int) == 8) l0_0 l0_1 a0_2) else (spec_TakePicture.j0 k a1 true l0_0 l0_1 a0_2))) else (spec_TakePicture.j0 k a1 true l0_0 l0_1 a0_2)) = some (r1, r2, r3, r4) := H
  have A6 := Aside0.mk A60
  clear A60
  by_cases c7 : t419 = true
  ·subst c7
   have H1 : ((spec_l1In.f a1 0 (wrap64 ((l0_1.length : Int) - 1))).bind fun t420 => (if t420 = true then (spec_TakePicture.j0 k a1 ((l0_1.length : Int) == 8) l0_0 l0_1 a0_2) else (spec_TakePicture.j0 k a1 true l0_0 l0_1 a0_2))) = some (r1, r2, r3, r4) := by rw [if_pos rfl] at H; exact H
   clear H
   have H := H1
   clear H1
   replace H := Option.bind_eq_some_iff.mp H
   obtain ⟨t420, A80, H⟩ := H
   replace H : (if t420 = true then (spec_TakePicture.j0 k a1 ((l0_1.length : Int) == 8) l0_0 l0_1 a0_2) else (spec_TakePicture.j0 k a1 true l0_0 l0_1 a0_2)) = some (r1, r2, r3, r4) := H
   have A8 := Aside0.mk A80
   clear A80
   by_cases c9 : t420 = true
   ·subst c9
    have H1 : (spec_TakePicture.j0 k a1 ((l0_1.length : Int) == 8) l0_0 l0_1 a0_2) = some (r1, r2, r3, r4) := by rw [if_pos rfl] at H; exact H
    clear H
    have H := H1
    clear H1
    have H' := Aside0.mk H
    clear H
    have hnb10 := NB417_418.out
    have hnc10 := NB418_417.out
    have hcz11_0 : w5.cell? ⟨gb417, 0, none⟩ = some (.slice A0_0 l0_0.length c0_0) := (blk_cell BK417.out 0).trans rfl
    have hcz11_1 : w5.cell? ⟨gb417, 1, none⟩ = some (.slice A0_1 l0_1.length c0_1) := (blk_cell BK417.out 1).trans rfl
    have hcz11_2 : w5.cell? ⟨gb417, 2, none⟩ = some (.int .i64 a0_2) := (blk_cell BK417.out 2).trans rfl
    have hfz11_0 := blk_frozen BK417.out 0
    have hfz11_1 := blk_frozen BK417.out 1
    have hfz11_2 := blk_frozen BK417.out 2
    go_wp2_with (first | ((with_reducible refine gate_callee (f := 20) rfl ?_); refine goesL_ (some 8) rfl rfl Try.func20 (by kernel_rfl) rfl #[.agg #[.slice A0_0 l0_0.length c0_0, .slice A0_1 l0_1.length c0_1, .int .i64 a0_2]] rfl (by (try simp only [List.map_toArray, List.map_cons, List.map_nil]); first | done | rfl | (simp only [List.length_drop, List.length_take]; rfl)) ?_; (with_reducible refine (spec_GoodCow.calls k _ _ l0_0 _ _ l0_1 a0_2 true _ ?side1 ?side2 ?side3 ?side4 A6.out).mono ?_); (case side1 => repeat (first | exact (Kd.C_below HR0_0.out HB.out) | (with_reducible refine Kd.C_alloc ?_ _) | (with_reducible refine Kd.C_drewN ?_ _) | (with_reducible refine Kd.C_drew ?_))); (case side2 => exact HC0_0.out); (case side3 => repeat (first | exact (Kd.C_below HR0_1.out HB.out) | (with_reducible refine Kd.C_alloc ?_ _) | (with_reducible refine Kd.C_drewN ?_ _) | (with_reducible refine Kd.C_drew ?_))); (case side4 => exact HC0_1.out); rintro e w12 ⟨rfl, hb⟩; refine ⟨_, rfl, ?_⟩; replace BK417 := Aside0.mk (blk_below (g := gb417) (o := .cells #[.slice A0_0 l0_0.length c0_0, .slice A0_1 l0_1.length c0_1, .int .i64 a0_2] 25 (0, 0)) (by (with_reducible repeat (first | refine blk_drewN ?_ _ | refine blk_drew ?_ | refine blk_alloc ?_ _)); exact BK417.out) hb); replace BK418 := Aside0.mk (blk_below (g := gb418) (o := .cells #[.slice none 0 0, .slice none 0 0, .int .i64 0] 25 (0, 0)) (by (with_reducible repeat (first | refine blk_drewN ?_ _ | refine blk_drew ?_ | refine blk_alloc ?_ _)); exact BK418.out) hb); replace HB := Aside0.mk (below_step (by with_reducible repeat (first | exact HB.out | apply below_alloc | apply pw_below_drewN | apply below_drew1 | refine below_set ?_ GE417.out | refine below_set ?_ GE418.out)) hb); (try clear hb); (try clear hb2); (try clear hk); (try clear hi); have hcz13_0 : w12.cell? ⟨gb417, 0, none⟩ = some (.slice A0_0 l0_0.length c0_0) := (blk_cell BK417.out 0).trans rfl; have hcz13_1 : w12.cell? ⟨gb417, 1, none⟩ = some (.slice A0_1 l0_1.length c0_1) := (blk_cell BK417.out 1).trans rfl; have hcz13_2 : w12.cell? ⟨gb417, 2, none⟩ = some (.int .i64 a0_2) := (blk_cell BK417.out 2).trans rfl; have hfz13_0 := blk_frozen BK417.out 0; have hfz13_1 := blk_frozen BK417.out 1; have hfz13_2 := blk_frozen BK417.out 2) | (go_at_call 44; (with_reducible refine (spec_l1In.calls a1 0 (wrap64 ((l0_1.length : Int) - 1)) true _ A8.out).mono ?_); rintro e w' ⟨rfl, ⟨nd, rfl⟩⟩))
    go_meet
    case rel => exact ⟨_, (((l0_1.length : Int) == 8)), (by first | rfl | (simp; done) | (simp [*]; done)), H', ⟨by first | omega | exact Nat.le_refl _⟩, ⟨by (with_reducible repeat (first | refine blk_drewN ?_ _ | refine blk_drew ?_ | refine blk_alloc ?_ _)); exact BK417.out⟩, ⟨by (with_reducible repeat (first | refine blk_drewN ?_ _ | refine blk_drew ?_ | refine blk_alloc ?_ _)); exact BK418.out⟩, ⟨by with_reducible repeat (first | exact HB.out | apply below_alloc | apply pw_below_drewN | apply below_drew1 | refine below_set ?_ GE417.out | refine below_set ?_ GE418.out)⟩⟩
   ·replace c9 := Bool.eq_false_iff.mpr c9
    subst c9
    have H1 : (spec_TakePicture.j0 k a1 true l0_0 l0_1 a0_2) = some (r1, r2, r3, r4) := by rw [if_neg (show ¬ (false = true) by decide)] at H; exact H
    clear H
    have H := H1
    clear H1
    have H' := Aside0.mk H
    clear H
    have hnb14 := NB417_418.out
    have hnc14 := NB418_417.out
    have hcz15_0 : w5.cell? ⟨gb417, 0, none⟩ = some (.slice A0_0 l0_0.length c0_0) := (blk_cell BK417.out 0).trans rfl
    have hcz15_1 : w5.cell? ⟨gb417, 1, none⟩ = some (.slice A0_1 l0_1.length c0_1) := (blk_cell BK417.out 1).trans rfl
    have hcz15_2 : w5.cell? ⟨gb417, 2, none⟩ = some (.int .i64 a0_2) := (blk_cell BK417.out 2).trans rfl
    have hfz15_0 := blk_frozen BK417.out 0
    have hfz15_1 := blk_frozen BK417.out 1
    have hfz15_2 := blk_frozen BK417.out 2
    go_wp2_with (first | ((with_reducible refine gate_callee (f := 20) rfl ?_); refine goesL_ (some 8) rfl rfl Try.func20 (by kernel_rfl) rfl #[.agg #[.slice A0_0 l0_0.length c0_0, .slice A0_1 l0_1.length c0_1, .int .i64 a0_2]] rfl (by (try simp only [List.map_toArray, List.map_cons, List.map_nil]); first | done | rfl | (simp only [List.length_drop, List.length_take]; rfl)) ?_; (with_reducible refine (spec_GoodCow.calls k _ _ l0_0 _ _ l0_1 a0_2 true _ ?side1 ?side2 ?side3 ?side4 A6.out).mono ?_); (case side1 => repeat (first | exact (Kd.C_below HR0_0.out HB.out) | (with_reducible refine Kd.C_alloc ?_ _) | (with_reducible refine Kd.C_drewN ?_ _) | (with_reducible refine Kd.C_drew ?_))); (case side2 => exact HC0_0.out); (case side3 => repeat (first | exact (Kd.C_below HR0_1.out HB.out) | (with_reducible refine Kd.C_alloc ?_ _) | (with_reducible refine Kd.C_drewN ?_ _) | (with_reducible refine Kd.C_drew ?_))); (case side4 => exact HC0_1.out); rintro e w16 ⟨rfl, hb⟩; refine ⟨_, rfl, ?_⟩; replace BK417 := Aside0.mk (blk_below (g := gb417) (o := .cells #[.slice A0_0 l0_0.length c0_0, .slice A0_1 l0_1.length c0_1, .int .i64 a0_2] 25 (0, 0)) (by (with_reducible repeat (first | refine blk_drewN ?_ _ | refine blk_drew ?_ | refine blk_alloc ?_ _)); exact BK417.out) hb); replace BK418 := Aside0.mk (blk_below (g := gb418) (o := .cells #[.slice none 0 0, .slice none 0 0, .int .i64 0] 25 (0, 0)) (by (with_reducible repeat (first | refine blk_drewN ?_ _ | refine blk_drew ?_ | refine blk_alloc ?_ _)); exact BK418.out) hb); replace HB := Aside0.mk (below_step (by with_reducible repeat (first | exact HB.out | apply below_alloc | apply pw_below_drewN | apply below_drew1 | refine below_set ?_ GE417.out | refine below_set ?_ GE418.out)) hb); (try clear hb); (try clear hb2); (try clear hk); (try clear hi); have hcz17_0 : w16.cell? ⟨gb417, 0, none⟩ = some (.slice A0_0 l0_0.length c0_0) := (blk_cell BK417.out 0).trans rfl; have hcz17_1 : w16.cell? ⟨gb417, 1, none⟩ = some (.slice A0_1 l0_1.length c0_1) := (blk_cell BK417.out 1).trans rfl; have hcz17_2 : w16.cell? ⟨gb417, 2, none⟩ = some (.int .i64 a0_2) := (blk_cell BK417.out 2).trans rfl; have hfz17_0 := blk_frozen BK417.out 0; have hfz17_1 := blk_frozen BK417.out 1; have hfz17_2 := blk_frozen BK417.out 2) | (go_at_call 44; (with_reducible refine (spec_l1In.calls a1 0 (wrap64 ((l0_1.length : Int) - 1)) false _ A8.out).mono ?_); rintro e w' ⟨rfl, ⟨nd, rfl⟩⟩))
    go_meet
    case rel => exact ⟨_, (true), (by first | rfl | (simp; done) | (simp [*]; done)), H', ⟨by first | omega | exact Nat.le_refl _⟩, ⟨by (with_reducible repeat (first | refine blk_drewN ?_ _ | refine blk_drew ?_ | refine blk_alloc ?_ _)); exact BK417.out⟩, ⟨by (with_reducible repeat (first | refine blk_drewN ?_ _ | refine blk_drew ?_ | refine blk_alloc ?_ _)); exact BK418.out⟩, ⟨by with_reducible repeat (first | exact HB.out | apply below_alloc | apply pw_below_drewN | apply below_drew1 | refine below_set ?_ GE417.out | refine below_set ?_ GE418.out)⟩⟩
  ·replace c7 := Bool.eq_false_iff.mpr c7
   subst c7
   have H1 : (spec_TakePicture.j0 k a1 true l0_0 l0_1 a0_2) = some (r1, r2, r3, r4) := by rw [if_neg (show ¬ (false = true) by decide)] at H; exact H
   clear H
   have H := H1
   clear H1
   have H' := Aside0.mk H
   clear H
   have hnb18 := NB417_418.out
   have hnc18 := NB418_417.out
   have hcz19_0 : w5.cell? ⟨gb417, 0, none⟩ = some (.slice A0_0 l0_0.length c0_0) := (blk_cell BK417.out 0).trans rfl
   have hcz19_1 : w5.cell? ⟨gb417, 1, none⟩ = some (.slice A0_1 l0_1.length c0_1) := (blk_cell BK417.out 1).trans rfl
   have hcz19_2 : w5.cell? ⟨gb417, 2, none⟩ = some (.int .i64 a0_2) := (blk_cell BK417.out 2).trans rfl
   have hfz19_0 := blk_frozen BK417.out 0
   have hfz19_1 := blk_frozen BK417.out 1
   have hfz19_2 := blk_frozen BK417.out 2
   go_wp2_with (first | ((with_reducible refine gate_callee (f := 20) rfl ?_); refine goesL_ (some 8) rfl rfl Try.func20 (by kernel_rfl) rfl #[.agg #[.slice A0_0 l0_0.length c0_0, .slice A0_1 l0_1.length c0_1, .int .i64 a0_2]] rfl (by (try simp only [List.map_toArray, List.map_cons, List.map_nil]); first | done | rfl | (simp only [List.length_drop, List.length_take]; rfl)) ?_; (with_reducible refine (spec_GoodCow.calls k _ _ l0_0 _ _ l0_1 a0_2 false _ ?side1 ?side2 ?side3 ?side4 A6.out).mono ?_); (case side1 => repeat (first | exact (Kd.C_below HR0_0.out HB.out) | (with_reducible refine Kd.C_alloc ?_ _) | (with_reducible refine Kd.C_drewN ?_ _) | (with_reducible refine Kd.C_drew ?_))); (case side2 => exact HC0_0.out); (case side3 => repeat (first | exact (Kd.C_below HR0_1.out HB.out) | (with_reducible refine Kd.C_alloc ?_ _) | (with_reducible refine Kd.C_drewN ?_ _) | (with_reducible refine Kd.C_drew ?_))); (case side4 => exact HC0_1.out); rintro e w20 ⟨rfl, hb⟩; refine ⟨_, rfl, ?_⟩; replace BK417 := Aside0.mk (blk_below (g := gb417) (o := .cells #[.slice A0_0 l0_0.length c0_0, .slice A0_1 l0_1.length c0_1, .int .i64 a0_2] 25 (0, 0)) (by (with_reducible repeat (first | refine blk_drewN ?_ _ | refine blk_drew ?_ | refine blk_alloc ?_ _)); exact BK417.out) hb); replace BK418 := Aside0.mk (blk_below (g := gb418) (o := .cells #[.slice none 0 0, .slice none 0 0, .int .i64 0] 25 (0, 0)) (by (with_reducible repeat (first | refine blk_drewN ?_ _ | refine blk_drew ?_ | refine blk_alloc ?_ _)); exact BK418.out) hb); replace HB := Aside0.mk (below_step (by with_reducible repeat (first | exact HB.out | apply below_alloc | apply pw_below_drewN | apply below_drew1 | refine below_set ?_ GE417.out | refine below_set ?_ GE418.out)) hb); (try clear hb); (try clear hb2); (try clear hk); (try clear hi)))
   go_meet
   case rel => exact ⟨_, (true), (by first | rfl | (simp; done) | (simp [*]; done)), H', ⟨by first | omega | exact Nat.le_refl _⟩, ⟨by (with_reducible repeat (first | refine blk_drewN ?_ _ | refine blk_drew ?_ | refine blk_alloc ?_ _)); exact BK417.out⟩, ⟨by (with_reducible repeat (first | refine blk_drewN ?_ _ | refine blk_drew ?_ | refine blk_alloc ?_ _)); exact BK418.out⟩, ⟨by with_reducible repeat (first | exact HB.out | apply below_alloc | apply pw_below_drewN | apply below_drew1 | refine below_set ?_ GE417.out | refine below_set ?_ GE418.out)⟩⟩
 case rest =>
  clear HC3
  try clear c1
  try clear c2
  try clear p2
  try clear c3
  try clear p6
  try clear c7
  try clear c9
  try clear c10
  try clear c14
  try clear c18
  try clear c20
  try clear hcz11_0
  try clear hcz11_1
  try clear hcz11_2
  try clear hcz13_0
  try clear hcz13_1
  try clear hcz13_2
  try clear hcz15_0
  try clear hcz15_1
  try clear hcz15_2
  try clear hcz17_0
  try clear hcz17_1
  try clear hcz17_2
  try clear hcz19_0
  try clear hcz19_1
  try clear hcz19_2
  try clear hfz11_0
  try clear hfz11_1
  try clear hfz11_2
  try clear hfz13_0
  try clear hfz13_1
  try clear hfz13_2
  try clear hfz15_0
  try clear hfz15_1
  try clear hfz15_2
  try clear hfz17_0
  try clear hfz17_1
  try clear hfz17_2
  try clear hfz19_0
  try clear hfz19_1
  try clear hfz19_2
  obtain ⟨kq, x24_2, rfl, HA, HJ2, BK417, BK418, HB⟩ := hcut
  cases kq with
  | zero => exact absurd HA.out (by simp [spec_TakePicture.j0])
  | succ kj2 =>
   have H := HA.out
   clear HA
   simp only [spec_TakePicture.j0] at H
   by_cases c21 : x24_2 = true
   ·subst c21
    have H1 : (some (([] : List (S68)), ([] : List Int), 0, false)) = some (r1, r2, r3, r4) := by rw [if_pos rfl] at H; exact H
    clear H
    have H := H1
    clear H1
    simp only [Option.some.injEq, Prod.mk.injEq] at H
    obtain ⟨rfl, rfl, rfl, rfl⟩ := H
    have hnb22 := NB418_417.out
    have hnc22 := NB417_418.out
    have hcz23_0 : wc.cell? ⟨gb418, 0, none⟩ = some (.slice none 0 0) := (blk_cell BK418.out 0).trans rfl
    have hcz23_1 : wc.cell? ⟨gb418, 1, none⟩ = some (.slice none 0 0) := (blk_cell BK418.out 1).trans rfl
    have hcz23_2 : wc.cell? ⟨gb418, 2, none⟩ = some (.int .i64 0) := (blk_cell BK418.out 2).trans rfl
    have hfz23_0 := blk_frozen BK418.out 0
    have hfz23_1 := blk_frozen BK418.out 1
    have hfz23_2 := blk_frozen BK418.out 2
    go_wp2
    refine bodyPost_ret (results_ct rfl _ _ gb418 25 #[.slice none 0 0, .slice none 0 0, .int .i64 0] (0, 0) _ rfl (by (with_reducible repeat (first | refine blk_drewN ?_ _ | refine blk_drew ?_ | refine blk_alloc ?_ _)); refine blk_put (cs := #[.slice none 0 0, .slice none 0 0, .int .i64 0]) ?_ 2 _ rfl; (with_reducible repeat (first | refine blk_drewN ?_ _ | refine blk_drew ?_ | refine blk_alloc ?_ _)); refine blk_put (cs := #[.slice none 0 0, .slice none 0 0, .int .i64 0]) ?_ 1 _ rfl; (with_reducible repeat (first | refine blk_drewN ?_ _ | refine blk_drew ?_ | refine blk_alloc ?_ _)); refine blk_put (cs := #[.slice none 0 0, .slice none 0 0, .int .i64 0]) ?_ 0 _ rfl; (with_reducible repeat (first | refine blk_drewN ?_ _ | refine blk_drew ?_ | refine blk_alloc ?_ _)); exact BK418.out) Try.underlying25 rfl (by kernel_rfl)) rfl ?_
    exact ⟨_, _, by first | rfl | (simp [errW_none, errW_some] <;> rfl) | (simp [*, errW_none, errW_some] <;> rfl) | (simp [E.isEmpty_bne]; done) | (rw [E.bne_empty]), by first | exact Kd.S_nil _ _ _ _ _ | exact Kd.N_nil _ _ _ _ _ | exact Kd.V_nil _ _ _ _ _ | exact Kd.Q_nil _ _ _ _ _ | exact Kd.R_nil _ _ _ _ _, by first | exact Kd.R_nil _ _ _ _ _ | exact Kd.N_nil _ _ _ _ _ | exact Kd.V_nil _ _ _ _ _ | exact Kd.Q_nil _ _ _ _ _ | exact Kd.S_nil _ _ _ _ _, by with_reducible repeat (first | exact HB.out | apply below_alloc | apply pw_below_drewN | apply below_drew1 | refine below_set ?_ GE417.out | refine below_set ?_ GE418.out)⟩
   ·replace c21 := Bool.eq_false_iff.mpr c21
    subst c21
    have H1 : ((spec_l14Own.f kj2 l0_0 l0_1 a0_2).bind fun bt421 => (if 0 ≤ a1 then (if a1 < (bt421.2.1.length : Int) then (if bt421.2.1.length < 17592186044416 then ((some (bt421.2.1 ++ [rd bt421.2.1 a1] : List Int)).bind fun y429 => (if (rd bt421.2.1 a1) ≥ 0 then (if 0 ≤ (rd bt421.2.1 a1) then (if (rd bt421.2.1 a1) < (bt421.1.length : Int) then (some ((bt421.1.set ((rd bt421.2.1 a1) : Int).toNat (⟨wrap64 (((rd_T68 bt421.1 (rd bt421.2.1 a1)).f0) + 1), (rd_T68 bt421.1 (rd bt421.2.1 a1)).f1, (rd_T68 bt421.1 (rd bt421.2.1 a1)).f2⟩ : S68)), y429, bt421.2.2, true)) else (none)) else (none)) else (some (bt421.1, y429, bt421.2.2, true)))) else (none)) else (none)) else (none))) = some (r1, r2, r3, r4) := by rw [if_neg (show ¬ (false = true) by decide)] at H; exact H
    clear H
    have H := H1
    clear H1
    replace H := Option.bind_eq_some_iff.mp H
    obtain ⟨⟨t421, t424, t427⟩, A240, H⟩ := H
    replace H : (if 0 ≤ a1 then (if a1 < (t424.length : Int) then (if t424.length < 17592186044416 then ((some (t424 ++ [rd t424 a1] : List Int)).bind fun y429 => (if (rd t424 a1) ≥ 0 then (if 0 ≤ (rd t424 a1) then (if (rd t424 a1) < (t421.length : Int) then (some ((t421.set ((rd t424 a1) : Int).toNat (⟨wrap64 (((rd_T68 t421 (rd t424 a1)).f0) + 1), (rd_T68 t421 (rd t424 a1)).f1, (rd_T68 t421 (rd t424 a1)).f2⟩ : S68)), y429, t427, true)) else (none)) else (none)) else (some (t421, y429, t427, true)))) else (none)) else (none)) else (none)) = some (r1, r2, r3, r4) := H
    have A24 := Aside0.mk A240
    clear A240
    by_cases c25 : 0 ≤ a1
    ·rw [if_pos c25] at H
     have c25b0 : decide (0 ≤ a1) = true := decide_eq_true c25
     clear c25
     by_cases c26 : a1 < (t424.length : Int)
     ·rw [if_pos c26] at H
      have c26b0 : decide (a1 < (t424.length : Int)) = true := decide_eq_true c26
      clear c26
      by_cases c27 : t424.length < 17592186044416
      ·rw [if_pos c27] at H
       have LMc27 := Aside0.mk c27
       clear c27
       obtain ⟨y429, hy429⟩ : ∃ y_ : List Int, y_ = (t424 ++ [rd t424 a1]) := ⟨_, rfl⟩
       replace H : (if (rd t424 a1) ≥ 0 then (if 0 ≤ (rd t424 a1) then (if (rd t424 a1) < (t421.length : Int) then (some ((t421.set ((rd t424 a1) : Int).toNat (⟨wrap64 (((rd_T68 t421 (rd t424 a1)).f0) + 1), (rd_T68 t421 (rd t424 a1)).f1, (rd_T68 t421 (rd t424 a1)).f2⟩ : S68)), y429, t427, true)) else (none)) else (none)) else (some (t421, y429, t427, true))) = some (r1, r2, r3, r4) := by first | (rw [hy429]; with_reducible exact H) | (have H2_ := (Option.bind_some _ _).symm.trans H; rw [hy429]; with_reducible exact H2_) | (have H2_ := (Option.bind_some _ _).symm.trans H; with_reducible exact H2_) | with_reducible exact H | (rw [hy429]; exact H) | exact H
       have Ny429 := Aside0.mk hy429
       clear hy429
       by_cases c28 : (rd t424 a1) ≥ 0
       ·rw [if_pos c28] at H
        have c28b0 : decide (0 ≤ (rd t424 a1)) = true := decide_eq_true c28
        clear c28
        by_cases c29 : 0 ≤ (rd t424 a1)
        ·rw [if_pos c29] at H
         have c29b0 : decide (0 ≤ (rd t424 a1)) = true := decide_eq_true c29
         clear c29
         by_cases c30 : (rd t424 a1) < (t421.length : Int)
         ·rw [if_pos c30] at H
          have c30b0 : decide ((rd t424 a1) < (t421.length : Int)) = true := decide_eq_true c30
          clear c30
          obtain ⟨y433, hy433⟩ : ∃ y_ : List (S68), y_ = (t421.set ((rd t424 a1) : Int).toNat (⟨wrap64 (((rd_T68 t421 (rd t424 a1)).f0) + 1), (rd_T68 t421 (rd t424 a1)).f1, (rd_T68 t421 (rd t424 a1)).f2⟩ : S68)) := ⟨_, rfl⟩
          replace H : (some (y433, y429, t427, true)) = some (r1, r2, r3, r4) := by first | (rw [hy433]; with_reducible exact H) | (have H2_ := (Option.bind_some _ _).symm.trans H; rw [hy433]; with_reducible exact H2_) | (have H2_ := (Option.bind_some _ _).symm.trans H; with_reducible exact H2_) | with_reducible exact H | (rw [hy433]; exact H) | exact H
          have Ny433 := Aside0.mk hy433
          clear hy433
          simp only [Option.some.injEq, Prod.mk.injEq] at H
          obtain ⟨rfl, rfl, rfl, rfl⟩ := H
          have hnb32 := NB417_418.out
          have hnc32 := NB418_417.out
          have hcz33_0 : wc.cell? ⟨gb417, 0, none⟩ = some (.slice A0_0 l0_0.length c0_0) := (blk_cell BK417.out 0).trans rfl
          have hcz33_1 : wc.cell? ⟨gb417, 1, none⟩ = some (.slice A0_1 l0_1.length c0_1) := (blk_cell BK417.out 1).trans rfl
          have hcz33_2 : wc.cell? ⟨gb417, 2, none⟩ = some (.int .i64 a0_2) := (blk_cell BK417.out 2).trans rfl
          have hfz33_0 := blk_frozen BK417.out 0
          have hfz33_1 := blk_frozen BK417.out 1
          have hfz33_2 := blk_frozen BK417.out 2
          go_wp2_with (first | ((with_reducible refine gate_callee (f := 69) rfl ?_); refine goesL_ (some 27) rfl rfl Try.func69 (by kernel_rfl) rfl #[.agg #[.slice A0_0 l0_0.length c0_0, .slice A0_1 l0_1.length c0_1, .int .i64 a0_2]] rfl (by (try simp only [List.map_toArray, List.map_cons, List.map_nil]); first | done | rfl | (simp only [List.length_drop, List.length_take]; rfl)) ?_; (with_reducible refine (spec_l14Own.calls kj2 _ _ l0_0 _ _ l0_1 a0_2 t421 t424 t427 _ ?side1 ?side2 ?side3 ?side4 A24.out).mono ?_); (case side1 => repeat (first | exact (Kd.C_below HR0_0.out HB.out) | (with_reducible refine Kd.C_alloc ?_ _) | (with_reducible refine Kd.C_drewN ?_ _) | (with_reducible refine Kd.C_drew ?_))); (case side2 => exact HC0_0.out); (case side3 => repeat (first | exact (Kd.C_below HR0_1.out HB.out) | (with_reducible refine Kd.C_alloc ?_ _) | (with_reducible refine Kd.C_drewN ?_ _) | (with_reducible refine Kd.C_drew ?_))); (case side4 => exact HC0_1.out); rintro e w34 ⟨v422, v425, rfl, ho0, ho1, hb⟩; refine ⟨_, rfl, ?_⟩; have HO423 := Aside0.mk (Kd.S_lower ho0 (below_size (by with_reducible repeat (first | exact HB.out | apply below_alloc | apply pw_below_drewN | apply below_drew1 | refine below_set ?_ GE417.out | refine below_set ?_ GE418.out)))); have HO426 := Aside0.mk (Kd.R_lower ho1 (below_size (by with_reducible repeat (first | exact HB.out | apply below_alloc | apply pw_below_drewN | apply below_drew1 | refine below_set ?_ GE417.out | refine below_set ?_ GE418.out)))); replace BK417 := Aside0.mk (blk_below (g := gb417) (o := .cells #[.slice A0_0 l0_0.length c0_0, .slice A0_1 l0_1.length c0_1, .int .i64 a0_2] 25 (0, 0)) (by (with_reducible repeat (first | refine blk_drewN ?_ _ | refine blk_drew ?_ | refine blk_alloc ?_ _)); exact BK417.out) hb); replace BK418 := Aside0.mk (blk_below (g := gb418) (o := .cells #[.slice none 0 0, .slice none 0 0, .int .i64 0] 25 (0, 0)) (by (with_reducible repeat (first | refine blk_drewN ?_ _ | refine blk_drew ?_ | refine blk_alloc ?_ _)); exact BK418.out) hb); replace HB := Aside0.mk (below_step (by with_reducible repeat (first | exact HB.out | apply below_alloc | apply pw_below_drewN | apply below_drew1 | refine below_set ?_ GE417.out | refine below_set ?_ GE418.out)) hb); (try clear hb); (try clear hb2); (try clear hk); (try clear hi); (try clear ho0); (try clear ho1); obtain ⟨Ao35, co35, eo35⟩ := Kd.S_slice HO423.out; subst eo35; have hcz36_0 : w34.cell? ⟨gb417, 0, none⟩ = some (.slice A0_0 l0_0.length c0_0) := (blk_cell BK417.out 0).trans rfl; have hcz36_1 : w34.cell? ⟨gb417, 1, none⟩ = some (.slice A0_1 l0_1.length c0_1) := (blk_cell BK417.out 1).trans rfl; have hcz36_2 : w34.cell? ⟨gb417, 2, none⟩ = some (.int .i64 a0_2) := (blk_cell BK417.out 2).trans rfl; have hfz36_0 := blk_frozen BK417.out 0; have hfz36_1 := blk_frozen BK417.out 1; have hfz36_2 := blk_frozen BK417.out 2; obtain ⟨Ao37, co37, eo37⟩ := Kd.R_slice HO426.out; subst eo37; have p428 : 0 ≤ (a1 : Int) := of_decide_eq_true (by assumption); have q428 : a1 < (t424.length : Int) := of_decide_eq_true (by assumption); obtain ⟨ad428, e428, hx428_0⟩ := Kd.at_int (Kd.R_reads' HO426.out).2.2 a1 p428 q428; cases e428; have hn428_0 : ad428.block ≠ gb417 := Kd.own_blk (Kd.R_ne HO426.out BK417.out (by decide)); have hn428_1 : ad428.block ≠ gb417 := Kd.own_blk (Kd.R_ne HO426.out BK417.out (by decide)); have hn428_2 : ad428.block ≠ gb417 := Kd.own_blk (Kd.R_ne HO426.out BK417.out (by decide)); replace hx428_0 := (cell_far (p := ⟨gb417, 0, none⟩) (by first | (rw [add_block]; exact hn428_0) | (show (Addr.add _ _).block ≠ _; rw [add_block]; exact hn428_0) | exact hn428_0) (.slice Ao35 t421.length co35)).trans hx428_0; replace hx428_0 := (cell_far (p := ⟨gb417, 1, none⟩) (by first | (rw [add_block]; exact hn428_1) | (show (Addr.add _ _).block ≠ _; rw [add_block]; exact hn428_1) | exact hn428_1) (.slice (some ad428) t424.length co37)).trans hx428_0; replace hx428_0 := (cell_far (p := ⟨gb417, 2, none⟩) (by first | (rw [add_block]; exact hn428_2) | (show (Addr.add _ _).block ≠ _; rw [add_block]; exact hn428_2) | exact hn428_2) (.int .i64 t427)).trans hx428_0; clear hn428_0; clear hn428_1; clear hn428_2; replace p428 := eq_true p428; replace q428 := eq_true q428) | ((with_reducible refine gate_builtin (b := .append) (xs := #[.tmp 34, .tmp 36]) rfl ?_); (try (refine gate_guard (by rfl) ?_; dsimp only)); at_builtin; refine Kd.R_append (Kd.int .i64) (w0 := w) w.heap.size rfl (.tmp 34) (.tmp 36) 23 3 (.int .i64 0) 8 rfl Try.underlying23 info3 rfl (by decide) (by omega) (.slice (some ad428) t424.length co37) t424 (rd t424 a1) [.int .i64 (rd t424 a1)] (fun _ => True) (fun _ => False) rfl (by first | (go_simp; done) | (go_simp; rfl)) ?aP (fun _ hk => hk.elim) ?aF ?aO ?aB ?aS ?aL ?_; (case aP => exact rfl); (case aB => exact (by with_reducible repeat (first | exact HB.out | apply below_alloc | apply pw_below_drewN | apply below_drew1 | refine below_set ?_ GE417.out | refine below_set ?_ GE418.out))); (case aF => exact (fun _ _ => trivial)); (case aO => exact (by (with_reducible repeat (first | apply Kd.R_alloc | apply Kd.R_drewN | apply Kd.R_drew)); exact Kd.R_mono (Kd.R_far (p := ⟨gb417, 2, none⟩) (Kd.R_far (p := ⟨gb417, 1, none⟩) (Kd.R_far (p := ⟨gb417, 0, none⟩) (Kd.R_types HO426.out BK417.out (by decide)) (fun _ hk => hk.2) (.slice Ao35 t421.length co35)) (fun _ hk => hk.2) (.slice (some ad428) t424.length co37)) (fun _ hk => hk.2) (.int .i64 t427)) (fun _ hk => trivial))); (case aS => exact (below_size (by with_reducible repeat (first | exact HB.out | apply below_alloc | apply pw_below_drewN | apply below_drew1 | refine below_set ?_ GE417.out | refine below_set ?_ GE418.out)))); (case aL => have := LMc27.out; omega); intro v430 w38 ho hb hg hat; rw [← Ny429.out] at ho; replace BK418 := Aside0.mk (blk_grown (g := gb418) (o := .cells #[.slice none 0 0, .slice none 0 0, .int .i64 0] 25 (0, 0)) (by (with_reducible repeat (first | refine blk_drewN ?_ _ | refine blk_drew ?_ | refine blk_alloc ?_ _)); refine blk_far ?_ NB418_417.out _; (with_reducible repeat (first | refine blk_drewN ?_ _ | refine blk_drew ?_ | refine blk_alloc ?_ _)); refine blk_far ?_ NB418_417.out _; (with_reducible repeat (first | refine blk_drewN ?_ _ | refine blk_drew ?_ | refine blk_alloc ?_ _)); refine blk_far ?_ NB418_417.out _; (with_reducible repeat (first | refine blk_drewN ?_ _ | refine blk_drew ?_ | refine blk_alloc ?_ _)); exact BK418.out) hg (Kd.R_ne HO426.out BK418.out (by decide))); replace HO423 := Aside0.mk (Kd.S_after (ok := (fun _ => True)) (by (with_reducible repeat (first | apply Kd.S_alloc | apply Kd.S_drewN | apply Kd.S_drew)); exact Kd.S_mono (Kd.S_far (p := ⟨gb417, 2, none⟩) (Kd.S_far (p := ⟨gb417, 1, none⟩) (Kd.S_far (p := ⟨gb417, 0, none⟩) (Kd.S_types HO423.out BK417.out (by decide)) (fun _ hk => hk.2) (.slice Ao35 t421.length co35)) (fun _ hk => hk.2) (.slice (some ad428) t424.length co37)) (fun _ hk => hk.2) (.int .i64 t427)) (fun _ hk => ⟨trivial, hk.1⟩)) hg hat); replace BK417 := Aside0.mk (blk_grown (g := gb417) (o := .cells #[.slice Ao35 t421.length co35, .slice (some ad428) t424.length co37, .int .i64 t427] 25 (0, 0)) (by (with_reducible repeat (first | refine blk_drewN ?_ _ | refine blk_drew ?_ | refine blk_alloc ?_ _)); refine blk_put (cs := #[.slice Ao35 t421.length co35, .slice (some ad428) t424.length co37, .int .i64 a0_2]) ?_ 2 _ rfl; (with_reducible repeat (first | refine blk_drewN ?_ _ | refine blk_drew ?_ | refine blk_alloc ?_ _)); refine blk_put (cs := #[.slice Ao35 t421.length co35, .slice A0_1 l0_1.length c0_1, .int .i64 a0_2]) ?_ 1 _ rfl; (with_reducible repeat (first | refine blk_drewN ?_ _ | refine blk_drew ?_ | refine blk_alloc ?_ _)); refine blk_put (cs := #[.slice A0_0 l0_0.length c0_0, .slice A0_1 l0_1.length c0_1, .int .i64 a0_2]) ?_ 0 _ rfl; (with_reducible repeat (first | refine blk_drewN ?_ _ | refine blk_drew ?_ | refine blk_alloc ?_ _)); exact BK417.out) hg (Kd.R_ne HO426.out BK417.out (by decide))); replace HB := Aside0.mk (hb); have HO431 := Aside0.mk (ho); clear HO426; clear ho hb hg hat; obtain ⟨Ao39, co39, eo39⟩ := Kd.R_slice HO431.out; subst eo39; have hcz40_0 : w38.cell? ⟨gb417, 0, none⟩ = some (.slice Ao35 t421.length co35) := (blk_cell BK417.out 0).trans rfl; have hcz40_1 : w38.cell? ⟨gb417, 1, none⟩ = some (.slice (some ad428) t424.length co37) := (blk_cell BK417.out 1).trans rfl; have hcz40_2 : w38.cell? ⟨gb417, 2, none⟩ = some (.int .i64 t427) := (blk_cell BK417.out 2).trans rfl; have hfz40_0 := blk_frozen BK417.out 0; have hfz40_1 := blk_frozen BK417.out 1; have hfz40_2 := blk_frozen BK417.out 2) | ((with_reducible refine gate_store (t := 23) (p := 38) rfl ?_); refine store_event (t := 23) (p := 38) (v := ?vo_w41) (w1 := (w38.setCell ⟨gb417, 1, none⟩ (.slice Ao39 y429.length co39))) ?hg ?ho ?hn ?hr ?_; (case ho => rfl); (case hg => rfl); (case hn => rfl); (case hr => first | (go_simp; done) | (go_simp; rfl)); intro w41 hw; have n0_ : Aside0 (Kd.S k68 68 w41 w.heap.size (fun k_ => some k_ ≠ (.slice Ao39 y429.length co39 : Value).ownBlock) (.slice Ao35 t421.length co35) t421) := ⟨(by rw [hw]; exact (by (with_reducible repeat (first | apply Kd.S_alloc | apply Kd.S_drewN | apply Kd.S_drew)); exact Kd.S_mono (Kd.S_far (p := ⟨gb417, 1, none⟩) (Kd.S_types HO423.out BK417.out (by decide)) (fun _ hk => hk.2) (.slice Ao39 y429.length co39)) (fun _ hk => hk.1.2)))⟩; have n1_ : Aside0 (Kd.R (Kd.int .i64) 3 w41 w.heap.size (fun _ => True) (.slice Ao39 y429.length co39) y429) := ⟨(by rw [hw]; exact (by (with_reducible repeat (first | apply Kd.R_alloc | apply Kd.R_drewN | apply Kd.R_drew)); exact Kd.R_mono (Kd.R_far (p := ⟨gb417, 1, none⟩) (Kd.R_types HO431.out BK417.out (by decide)) (fun _ hk => hk.2) (.slice Ao39 y429.length co39)) (fun _ hk => trivial)))⟩; have n2_ : Aside0 (w41.heap[gb417]? = some (.cells #[.slice Ao35 t421.length co35, .slice Ao39 y429.length co39, .int .i64 t427] 25 (0, 0))) := ⟨(by rw [hw]; exact (by (with_reducible repeat (first | refine blk_drewN ?_ _ | refine blk_drew ?_ | refine blk_alloc ?_ _)); refine blk_put (cs := #[.slice Ao35 t421.length co35, .slice (some ad428) t424.length co37, .int .i64 t427]) ?_ 1 _ rfl; (with_reducible repeat (first | refine blk_drewN ?_ _ | refine blk_drew ?_ | refine blk_alloc ?_ _)); exact BK417.out))⟩; have n3_ : Aside0 (w41.heap[gb418]? = some (.cells #[.slice none 0 0, .slice none 0 0, .int .i64 0] 25 (0, 0))) := ⟨(by rw [hw]; exact (by (with_reducible repeat (first | refine blk_drewN ?_ _ | refine blk_drew ?_ | refine blk_alloc ?_ _)); refine blk_far ?_ NB418_417.out _; (with_reducible repeat (first | refine blk_drewN ?_ _ | refine blk_drew ?_ | refine blk_alloc ?_ _)); exact BK418.out))⟩; have n4_ : Aside0 (Below w.heap.size w w41) := ⟨(by rw [hw]; exact (by with_reducible repeat (first | exact HB.out | apply below_alloc | apply pw_below_drewN | apply below_drew1 | refine below_set ?_ GE417.out | refine below_set ?_ GE418.out)))⟩; clear hw; clear HO423; clear HO431; clear BK417; clear BK418; clear HB; have HO423 := n0_; have HO431 := n1_; have BK417 := n2_; have BK418 := n3_; have HB := n4_; clear n0_ n1_ n2_ n3_ n4_; have hcz42_0 : w41.cell? ⟨gb417, 0, none⟩ = some (.slice Ao35 t421.length co35) := (blk_cell BK417.out 0).trans rfl; have hcz42_1 : w41.cell? ⟨gb417, 1, none⟩ = some (.slice Ao39 y429.length co39) := (blk_cell BK417.out 1).trans rfl; have hcz42_2 : w41.cell? ⟨gb417, 2, none⟩ = some (.int .i64 t427) := (blk_cell BK417.out 2).trans rfl; have hfz42_0 := blk_frozen BK417.out 0; have hfz42_1 := blk_frozen BK417.out 1; have hfz42_2 := blk_frozen BK417.out 2; have p432 : 0 ≤ ((rd t424 a1) : Int) := of_decide_eq_true (by assumption); have q432 : (rd t424 a1) < (t421.length : Int) := of_decide_eq_true (by assumption); obtain ⟨ad432, A432_2, c432_2, e432, hx432_0, hx432_1, hx432_2, hl432_2, hi432_2⟩ := at_T68 (Kd.S_reads' HO423.out).2.2 (rd t424 a1) p432 q432; cases e432; obtain ⟨ce432, hce432, hMe432, hcc432⟩ := Kd.S_get HO423.out z68 (rd t424 a1) p432 (by first | exact q432 | exact of_decide_eq_true (by assumption) | (have e_ := (Kd.S_reads' HO423.out).1; omega)); obtain ⟨ve432_2, rfl, ge432_2⟩ := k68_openM hMe432; have hv432_2 := hcc432 2 _ rfl; rw [add_field _ _ 2 (by omega)] at hv432_2; replace hv432_2 := Option.some.inj (hv432_2.symm.trans hx432_2); rw [hv432_2] at ge432_2; have HL432_2 := Aside0.mk (show Kd.R (Kd.int .i64) 3 _ _ _ _ ((rd_T68 t421 (rd t424 a1)).f2) from ge432_2); clear hv432_2 ge432_2; clear hcc432 hce432; have HR432_2 := Aside0.mk hi432_2; have HC432_2 := Aside0.mk hl432_2; clear hi432_2 hl432_2; replace p432 := eq_true p432; replace q432 := eq_true q432; have p31 : 0 ≤ ((rd t424 a1) : Int) := of_decide_eq_true (by assumption); have q31 : ((rd t424 a1) : Int) < ((t421.length : Int) : Int) := of_decide_eq_true (by assumption); obtain ⟨go31, co31, eo31, gb31, gl31, cl31, HG31⟩ := Kd.S_form HO423.out (by omega); (first | cases eo31 | (injection eo31 with ea_ en_ ec_; (first | subst ea_ | (injection ea_ with ea_; subst ea_)); subst ec_; clear en_)); have GB31 := Aside0.mk gb31; have GG31 := Aside0.mk HG31; clear gb31 gl31 HG31; (first | simp only [add_plain] at hx432_0 | skip); (first | simp only [add_plain] at hx432_1 | skip); (first | simp only [add_plain] at hx432_2 | skip); obtain ⟨_, ce31, hcl31, hM31, hcc31, hfr31, _, _⟩ := Kd.S_elem HO423.out z68 ((rd t424 a1) : Int) p31 q31; obtain ⟨ve31_2, rfl, ge31_2⟩ := k68_openM hM31; have hx31_0 : w41.cell? ⟨go31, ((rd t424 a1) : Int).toNat * 3, none⟩ = some (.int .i64 ((rd_T68 t421 (rd t424 a1)).f0)) := hcc31 0 _ rfl; have hx31_1 : w41.cell? ⟨go31, ((rd t424 a1) : Int).toNat * 3 + 1, none⟩ = some (.string ((rd_T68 t421 (rd t424 a1)).f1)) := hcc31 1 _ rfl; have hx31_2 : w41.cell? ⟨go31, ((rd t424 a1) : Int).toNat * 3 + 2, none⟩ = some (ve31_2) := hcc31 2 _ rfl; have hf31_0 : w41.frozen? ⟨go31, ((rd t424 a1) : Int).toNat * 3, none⟩ = false := hfr31 0; have hf31_1 : w41.frozen? ⟨go31, ((rd t424 a1) : Int).toNat * 3 + 1, none⟩ = false := hfr31 1; have hf31_2 : w41.frozen? ⟨go31, ((rd t424 a1) : Int).toNat * 3 + 2, none⟩ = false := hfr31 2; clear hcl31 hcc31 hfr31 hM31; replace p31 := eq_true p31; replace q31 := eq_true q31; have HX43 := Aside0.mk (show Kd.S k68 68 w41 w.heap.size (fun k_ => ((fun k_ => some k_ ≠ (.slice Ao39 y429.length co39 : Value).ownBlock)) k_ ∧ ¬ ((fun _ => False)) k_) (.slice (some ⟨go31, 0, none⟩) t421.length co35) t421 from (by (with_reducible repeat (first | apply Kd.S_alloc | apply Kd.S_drewN | apply Kd.S_drew)); exact Kd.S_mono HO423.out (fun k_ hk => ⟨hk, fun e_ => e_⟩))); obtain ⟨oki43, ce43, hcl43, hM43, hcc43, hfr43, hoki43, hH43⟩ := Kd.S_elem HX43.out z68 ((rd t424 a1) : Int) (of_decide_eq_true (by assumption)) (by have h_ : ((rd t424 a1) : Int) < ((t421.length : Int) : Int) := of_decide_eq_true (by assumption); first | exact h_ | (have e_ := (Kd.S_reads' HO423.out).1; omega) | simpa using h_); obtain ⟨ve43_2, rfl, ge43_2⟩ := k68_openM hM43; have HP43 := Kd.S_seg hH43 (of_decide_eq_true (by assumption)) (by have h_ : ((rd t424 a1) : Int) < ((t421.length : Int) : Int) := of_decide_eq_true (by assumption); first | exact h_ | (have e_ := (Kd.S_reads' HO423.out).1; omega) | simpa using h_) (seg := [.int .i64 (wrap64 (((rd_T68 t421 (rd t424 a1)).f0) + 1))]) (j := 0) (show 1 ≤ 3 from by decide) (x' := (⟨wrap64 (((rd_T68 t421 (rd t424 a1)).f0) + 1), (rd_T68 t421 (rd t424 a1)).f1, (rd_T68 t421 (rd t424 a1)).f2⟩ : S68)) (k68_mkM _ _ _ (⟨wrap64 (((rd_T68 t421 (rd t424 a1)).f0) + 1), (rd_T68 t421 (rd t424 a1)).f1, (rd_T68 t421 (rd t424 a1)).f2⟩ : S68) (Kd.R_mono ge43_2 (fun _ h_ => Or.inl h_))) (fun _ hk => hk) (fun k_ hk_ => hk_.elim); have hx43_0 := hcc43 0 _ rfl; (try simp only [show (k68).sz = 3 from rfl, Nat.mul_one, Nat.add_zero] at hx43_0); have hf43_0 := hfr43 0; (try simp only [show (k68).sz = 3 from rfl, Nat.mul_one, Nat.add_zero] at hf43_0); clear hcl43 hcc43 hfr43 hM43 hoki43 hH43) | ((with_reducible refine gate_store (t := 3) (p := 49) rfl ?_); refine store_event (t := 3) (p := 49) (v := ?vo_w44) (w1 := (w41.setCell ⟨go31, ((rd t424 a1) : Int).toNat * 3, none⟩ (.int .i64 (wrap64 (((rd_T68 t421 (rd t424 a1)).f0) + 1))))) ?hg ?ho ?hn ?hr ?_; (case ho => rfl); (case hg => rfl); (case hn => rfl); (case hr => first | (go_simp; done) | (go_simp; rfl)); intro w44 hw; have hg : w41.grownBy w44 (some go31) := (by rw [hw]; exact HP43.2); have hp_ : Kd.S k68 68 w44 w.heap.size (fun k_ => some k_ ≠ (.slice Ao39 y429.length co39 : Value).ownBlock) (.slice (some ⟨go31, 0, none⟩) t421.length co35) y433 := (by rw [hw, Ny433.out]; exact HP43.1); clear HP43; replace BK417 := Aside0.mk (blk_grown (g := gb417) (o := .cells #[.slice (some ⟨go31, 0, none⟩) t421.length co35, .slice Ao39 y429.length co39, .int .i64 t427] 25 (0, 0)) (by (with_reducible repeat (first | refine blk_drewN ?_ _ | refine blk_drew ?_ | refine blk_alloc ?_ _)); exact BK417.out) hg (Kd.S_ne HO423.out BK417.out (by decide))); replace BK418 := Aside0.mk (blk_grown (g := gb418) (o := .cells #[.slice none 0 0, .slice none 0 0, .int .i64 0] 25 (0, 0)) (by (with_reducible repeat (first | refine blk_drewN ?_ _ | refine blk_drew ?_ | refine blk_alloc ?_ _)); exact BK418.out) hg (Kd.S_ne HO423.out BK418.out (by decide))); replace HO431 := Aside0.mk (Kd.R_over' (v := (.slice (some ⟨go31, 0, none⟩) t421.length co35)) (by (with_reducible repeat (first | apply Kd.R_alloc | apply Kd.R_drewN | apply Kd.R_drew)); exact HO431.out) (Kd.S_typed HO423.out) (by decide) hg); replace HO423 := Aside0.mk (hp_); replace HL432_2 := Aside0.mk (Kd.R_after (v := (.slice (some ⟨go31, 0, none⟩) t421.length co35)) (v1 := (.slice (some ⟨go31, 0, none⟩) t421.length co35)) (ok := (fun k_ => some k_ ≠ (.slice Ao39 y429.length co39 : Value).ownBlock)) (by (with_reducible repeat (first | apply Kd.R_alloc | apply Kd.R_drewN | apply Kd.R_drew)); exact HL432_2.out) hg (.inl rfl)); replace HB := Aside0.mk ((by rw [hw]; exact below_set (HB.out) GB31.out : Below w.heap.size w w44)); clear hg hw hp_; have hcz45_0 : w44.cell? ⟨gb417, 0, none⟩ = some (.slice (some ⟨go31, 0, none⟩) t421.length co35) := (blk_cell BK417.out 0).trans rfl; have hcz45_1 : w44.cell? ⟨gb417, 1, none⟩ = some (.slice Ao39 y429.length co39) := (blk_cell BK417.out 1).trans rfl; have hcz45_2 : w44.cell? ⟨gb417, 2, none⟩ = some (.int .i64 t427) := (blk_cell BK417.out 2).trans rfl; have hfz45_0 := blk_frozen BK417.out 0; have hfz45_1 := blk_frozen BK417.out 1; have hfz45_2 := blk_frozen BK417.out 2; have hcz46_0 : w44.cell? ⟨gb418, 0, none⟩ = some (.slice none 0 0) := (blk_cell BK418.out 0).trans rfl; have hcz46_1 : w44.cell? ⟨gb418, 1, none⟩ = some (.slice none 0 0) := (blk_cell BK418.out 1).trans rfl; have hcz46_2 : w44.cell? ⟨gb418, 2, none⟩ = some (.int .i64 0) := (blk_cell BK418.out 2).trans rfl; have hfz46_0 := blk_frozen BK418.out 0; have hfz46_1 := blk_frozen BK418.out 1; have hfz46_2 := blk_frozen BK418.out 2))
          refine bodyPost_ret (results_ct rfl _ _ gb418 25 #[.slice (some ⟨go31, 0, none⟩) t421.length co35, .slice Ao39 y429.length co39, .int .i64 t427] (0, 0) _ rfl (by (with_reducible repeat (first | refine blk_drewN ?_ _ | refine blk_drew ?_ | refine blk_alloc ?_ _)); refine blk_put (cs := #[.slice (some ⟨go31, 0, none⟩) t421.length co35, .slice Ao39 y429.length co39, .int .i64 0]) ?_ 2 _ rfl; (with_reducible repeat (first | refine blk_drewN ?_ _ | refine blk_drew ?_ | refine blk_alloc ?_ _)); refine blk_put (cs := #[.slice (some ⟨go31, 0, none⟩) t421.length co35, .slice none 0 0, .int .i64 0]) ?_ 1 _ rfl; (with_reducible repeat (first | refine blk_drewN ?_ _ | refine blk_drew ?_ | refine blk_alloc ?_ _)); refine blk_put (cs := #[.slice none 0 0, .slice none 0 0, .int .i64 0]) ?_ 0 _ rfl; (with_reducible repeat (first | refine blk_drewN ?_ _ | refine blk_drew ?_ | refine blk_alloc ?_ _)); exact BK418.out) Try.underlying25 rfl (by kernel_rfl)) rfl ?_
          exact ⟨_, _, by first | rfl | (simp [errW_none, errW_some] <;> rfl) | (simp [*, errW_none, errW_some] <;> rfl) | (simp [E.isEmpty_bne]; done) | (rw [E.bne_empty]), by (with_reducible repeat (first | apply Kd.S_alloc | apply Kd.S_drewN | apply Kd.S_drew)); exact Kd.S_mono (Kd.S_far (p := ⟨gb418, 2, none⟩) (Kd.S_far (p := ⟨gb418, 1, none⟩) (Kd.S_far (p := ⟨gb418, 0, none⟩) (Kd.S_types HO423.out BK418.out (by decide)) (fun _ hk => hk.2) (.slice (some ⟨go31, 0, none⟩) t421.length co35)) (fun _ hk => hk.2) (.slice Ao39 y429.length co39)) (fun _ hk => hk.2) (.int .i64 t427)) (fun _ hk => hk.1), by (with_reducible repeat (first | apply Kd.R_alloc | apply Kd.R_drewN | apply Kd.R_drew)); exact Kd.R_mono (Kd.R_far (p := ⟨gb418, 2, none⟩) (Kd.R_far (p := ⟨gb418, 1, none⟩) (Kd.R_far (p := ⟨gb418, 0, none⟩) (Kd.R_types HO431.out BK418.out (by decide)) (fun _ hk => hk.2) (.slice (some ⟨go31, 0, none⟩) t421.length co35)) (fun _ hk => hk.2) (.slice Ao39 y429.length co39)) (fun _ hk => hk.2) (.int .i64 t427)) (fun _ hk => trivial), by with_reducible repeat (first | exact HB.out | apply below_alloc | apply pw_below_drewN | apply below_drew1 | refine below_set ?_ GE417.out | refine below_set ?_ GE418.out)⟩
         ·rw [if_neg c30] at H
          exact absurd H (by simp)
        ·rw [if_neg c29] at H
         exact absurd H (by simp)
       ·rw [if_neg c28] at H
        have c28b0 : decide (0 ≤ (rd t424 a1)) = false := decide_eq_false c28
        clear c28
        simp only [Option.some.injEq, Prod.mk.injEq] at H
        obtain ⟨rfl, rfl, rfl, rfl⟩ := H
        have hnb47 := NB417_418.out
        have hnc47 := NB418_417.out
        have hcz48_0 : wc.cell? ⟨gb417, 0, none⟩ = some (.slice A0_0 l0_0.length c0_0) := (blk_cell BK417.out 0).trans rfl
        have hcz48_1 : wc.cell? ⟨gb417, 1, none⟩ = some (.slice A0_1 l0_1.length c0_1) := (blk_cell BK417.out 1).trans rfl
        have hcz48_2 : wc.cell? ⟨gb417, 2, none⟩ = some (.int .i64 a0_2) := (blk_cell BK417.out 2).trans rfl
        have hfz48_0 := blk_frozen BK417.out 0
        have hfz48_1 := blk_frozen BK417.out 1
        have hfz48_2 := blk_frozen BK417.out 2
        go_wp2_with (first | ((with_reducible refine gate_callee (f := 69) rfl ?_); refine goesL_ (some 27) rfl rfl Try.func69 (by kernel_rfl) rfl #[.agg #[.slice A0_0 l0_0.length c0_0, .slice A0_1 l0_1.length c0_1, .int .i64 a0_2]] rfl (by (try simp only [List.map_toArray, List.map_cons, List.map_nil]); first | done | rfl | (simp only [List.length_drop, List.length_take]; rfl)) ?_; (with_reducible refine (spec_l14Own.calls kj2 _ _ l0_0 _ _ l0_1 a0_2 t421 t424 t427 _ ?side1 ?side2 ?side3 ?side4 A24.out).mono ?_); (case side1 => repeat (first | exact (Kd.C_below HR0_0.out HB.out) | (with_reducible refine Kd.C_alloc ?_ _) | (with_reducible refine Kd.C_drewN ?_ _) | (with_reducible refine Kd.C_drew ?_))); (case side2 => exact HC0_0.out); (case side3 => repeat (first | exact (Kd.C_below HR0_1.out HB.out) | (with_reducible refine Kd.C_alloc ?_ _) | (with_reducible refine Kd.C_drewN ?_ _) | (with_reducible refine Kd.C_drew ?_))); (case side4 => exact HC0_1.out); rintro e w49 ⟨v422, v425, rfl, ho0, ho1, hb⟩; refine ⟨_, rfl, ?_⟩; have HO423 := Aside0.mk (Kd.S_lower ho0 (below_size (by with_reducible repeat (first | exact HB.out | apply below_alloc | apply pw_below_drewN | apply below_drew1 | refine below_set ?_ GE417.out | refine below_set ?_ GE418.out)))); have HO426 := Aside0.mk (Kd.R_lower ho1 (below_size (by with_reducible repeat (first | exact HB.out | apply below_alloc | apply pw_below_drewN | apply below_drew1 | refine below_set ?_ GE417.out | refine below_set ?_ GE418.out)))); replace BK417 := Aside0.mk (blk_below (g := gb417) (o := .cells #[.slice A0_0 l0_0.length c0_0, .slice A0_1 l0_1.length c0_1, .int .i64 a0_2] 25 (0, 0)) (by (with_reducible repeat (first | refine blk_drewN ?_ _ | refine blk_drew ?_ | refine blk_alloc ?_ _)); exact BK417.out) hb); replace BK418 := Aside0.mk (blk_below (g := gb418) (o := .cells #[.slice none 0 0, .slice none 0 0, .int .i64 0] 25 (0, 0)) (by (with_reducible repeat (first | refine blk_drewN ?_ _ | refine blk_drew ?_ | refine blk_alloc ?_ _)); exact BK418.out) hb); replace HB := Aside0.mk (below_step (by with_reducible repeat (first | exact HB.out | apply below_alloc | apply pw_below_drewN | apply below_drew1 | refine below_set ?_ GE417.out | refine below_set ?_ GE418.out)) hb); (try clear hb); (try clear hb2); (try clear hk); (try clear hi); (try clear ho0); (try clear ho1); obtain ⟨Ao50, co50, eo50⟩ := Kd.S_slice HO423.out; subst eo50; have hcz51_0 : w49.cell? ⟨gb417, 0, none⟩ = some (.slice A0_0 l0_0.length c0_0) := (blk_cell BK417.out 0).trans rfl; have hcz51_1 : w49.cell? ⟨gb417, 1, none⟩ = some (.slice A0_1 l0_1.length c0_1) := (blk_cell BK417.out 1).trans rfl; have hcz51_2 : w49.cell? ⟨gb417, 2, none⟩ = some (.int .i64 a0_2) := (blk_cell BK417.out 2).trans rfl; have hfz51_0 := blk_frozen BK417.out 0; have hfz51_1 := blk_frozen BK417.out 1; have hfz51_2 := blk_frozen BK417.out 2; obtain ⟨Ao52, co52, eo52⟩ := Kd.R_slice HO426.out; subst eo52; have p428 : 0 ≤ (a1 : Int) := of_decide_eq_true (by assumption); have q428 : a1 < (t424.length : Int) := of_decide_eq_true (by assumption); obtain ⟨ad428, e428, hx428_0⟩ := Kd.at_int (Kd.R_reads' HO426.out).2.2 a1 p428 q428; cases e428; have hn428_0 : ad428.block ≠ gb417 := Kd.own_blk (Kd.R_ne HO426.out BK417.out (by decide)); have hn428_1 : ad428.block ≠ gb417 := Kd.own_blk (Kd.R_ne HO426.out BK417.out (by decide)); have hn428_2 : ad428.block ≠ gb417 := Kd.own_blk (Kd.R_ne HO426.out BK417.out (by decide)); replace hx428_0 := (cell_far (p := ⟨gb417, 0, none⟩) (by first | (rw [add_block]; exact hn428_0) | (show (Addr.add _ _).block ≠ _; rw [add_block]; exact hn428_0) | exact hn428_0) (.slice Ao50 t421.length co50)).trans hx428_0; replace hx428_0 := (cell_far (p := ⟨gb417, 1, none⟩) (by first | (rw [add_block]; exact hn428_1) | (show (Addr.add _ _).block ≠ _; rw [add_block]; exact hn428_1) | exact hn428_1) (.slice (some ad428) t424.length co52)).trans hx428_0; replace hx428_0 := (cell_far (p := ⟨gb417, 2, none⟩) (by first | (rw [add_block]; exact hn428_2) | (show (Addr.add _ _).block ≠ _; rw [add_block]; exact hn428_2) | exact hn428_2) (.int .i64 t427)).trans hx428_0; clear hn428_0; clear hn428_1; clear hn428_2; replace p428 := eq_true p428; replace q428 := eq_true q428) | ((with_reducible refine gate_builtin (b := .append) (xs := #[.tmp 34, .tmp 36]) rfl ?_); (try (refine gate_guard (by rfl) ?_; dsimp only)); at_builtin; refine Kd.R_append (Kd.int .i64) (w0 := w) w.heap.size rfl (.tmp 34) (.tmp 36) 23 3 (.int .i64 0) 8 rfl Try.underlying23 info3 rfl (by decide) (by omega) (.slice (some ad428) t424.length co52) t424 (rd t424 a1) [.int .i64 (rd t424 a1)] (fun _ => True) (fun _ => False) rfl (by first | (go_simp; done) | (go_simp; rfl)) ?aP (fun _ hk => hk.elim) ?aF ?aO ?aB ?aS ?aL ?_; (case aP => exact rfl); (case aB => exact (by with_reducible repeat (first | exact HB.out | apply below_alloc | apply pw_below_drewN | apply below_drew1 | refine below_set ?_ GE417.out | refine below_set ?_ GE418.out))); (case aF => exact (fun _ _ => trivial)); (case aO => exact (by (with_reducible repeat (first | apply Kd.R_alloc | apply Kd.R_drewN | apply Kd.R_drew)); exact Kd.R_mono (Kd.R_far (p := ⟨gb417, 2, none⟩) (Kd.R_far (p := ⟨gb417, 1, none⟩) (Kd.R_far (p := ⟨gb417, 0, none⟩) (Kd.R_types HO426.out BK417.out (by decide)) (fun _ hk => hk.2) (.slice Ao50 t421.length co50)) (fun _ hk => hk.2) (.slice (some ad428) t424.length co52)) (fun _ hk => hk.2) (.int .i64 t427)) (fun _ hk => trivial))); (case aS => exact (below_size (by with_reducible repeat (first | exact HB.out | apply below_alloc | apply pw_below_drewN | apply below_drew1 | refine below_set ?_ GE417.out | refine below_set ?_ GE418.out)))); (case aL => have := LMc27.out; omega); intro v430 w53 ho hb hg hat; rw [← Ny429.out] at ho; replace BK418 := Aside0.mk (blk_grown (g := gb418) (o := .cells #[.slice none 0 0, .slice none 0 0, .int .i64 0] 25 (0, 0)) (by (with_reducible repeat (first | refine blk_drewN ?_ _ | refine blk_drew ?_ | refine blk_alloc ?_ _)); refine blk_far ?_ NB418_417.out _; (with_reducible repeat (first | refine blk_drewN ?_ _ | refine blk_drew ?_ | refine blk_alloc ?_ _)); refine blk_far ?_ NB418_417.out _; (with_reducible repeat (first | refine blk_drewN ?_ _ | refine blk_drew ?_ | refine blk_alloc ?_ _)); refine blk_far ?_ NB418_417.out _; (with_reducible repeat (first | refine blk_drewN ?_ _ | refine blk_drew ?_ | refine blk_alloc ?_ _)); exact BK418.out) hg (Kd.R_ne HO426.out BK418.out (by decide))); replace HO423 := Aside0.mk (Kd.S_after (ok := (fun _ => True)) (by (with_reducible repeat (first | apply Kd.S_alloc | apply Kd.S_drewN | apply Kd.S_drew)); exact Kd.S_mono (Kd.S_far (p := ⟨gb417, 2, none⟩) (Kd.S_far (p := ⟨gb417, 1, none⟩) (Kd.S_far (p := ⟨gb417, 0, none⟩) (Kd.S_types HO423.out BK417.out (by decide)) (fun _ hk => hk.2) (.slice Ao50 t421.length co50)) (fun _ hk => hk.2) (.slice (some ad428) t424.length co52)) (fun _ hk => hk.2) (.int .i64 t427)) (fun _ hk => ⟨trivial, hk.1⟩)) hg hat); replace BK417 := Aside0.mk (blk_grown (g := gb417) (o := .cells #[.slice Ao50 t421.length co50, .slice (some ad428) t424.length co52, .int .i64 t427] 25 (0, 0)) (by (with_reducible repeat (first | refine blk_drewN ?_ _ | refine blk_drew ?_ | refine blk_alloc ?_ _)); refine blk_put (cs := #[.slice Ao50 t421.length co50, .slice (some ad428) t424.length co52, .int .i64 a0_2]) ?_ 2 _ rfl; (with_reducible repeat (first | refine blk_drewN ?_ _ | refine blk_drew ?_ | refine blk_alloc ?_ _)); refine blk_put (cs := #[.slice Ao50 t421.length co50, .slice A0_1 l0_1.length c0_1, .int .i64 a0_2]) ?_ 1 _ rfl; (with_reducible repeat (first | refine blk_drewN ?_ _ | refine blk_drew ?_ | refine blk_alloc ?_ _)); refine blk_put (cs := #[.slice A0_0 l0_0.length c0_0, .slice A0_1 l0_1.length c0_1, .int .i64 a0_2]) ?_ 0 _ rfl; (with_reducible repeat (first | refine blk_drewN ?_ _ | refine blk_drew ?_ | refine blk_alloc ?_ _)); exact BK417.out) hg (Kd.R_ne HO426.out BK417.out (by decide))); replace HB := Aside0.mk (hb); have HO431 := Aside0.mk (ho); clear HO426; clear ho hb hg hat; obtain ⟨Ao54, co54, eo54⟩ := Kd.R_slice HO431.out; subst eo54; have hcz55_0 : w53.cell? ⟨gb417, 0, none⟩ = some (.slice Ao50 t421.length co50) := (blk_cell BK417.out 0).trans rfl; have hcz55_1 : w53.cell? ⟨gb417, 1, none⟩ = some (.slice (some ad428) t424.length co52) := (blk_cell BK417.out 1).trans rfl; have hcz55_2 : w53.cell? ⟨gb417, 2, none⟩ = some (.int .i64 t427) := (blk_cell BK417.out 2).trans rfl; have hfz55_0 := blk_frozen BK417.out 0; have hfz55_1 := blk_frozen BK417.out 1; have hfz55_2 := blk_frozen BK417.out 2; have hcz56_0 : w53.cell? ⟨gb418, 0, none⟩ = some (.slice none 0 0) := (blk_cell BK418.out 0).trans rfl; have hcz56_1 : w53.cell? ⟨gb418, 1, none⟩ = some (.slice none 0 0) := (blk_cell BK418.out 1).trans rfl; have hcz56_2 : w53.cell? ⟨gb418, 2, none⟩ = some (.int .i64 0) := (blk_cell BK418.out 2).trans rfl; have hfz56_0 := blk_frozen BK418.out 0; have hfz56_1 := blk_frozen BK418.out 1; have hfz56_2 := blk_frozen BK418.out 2))
        refine bodyPost_ret (results_ct rfl _ _ gb418 25 #[.slice Ao50 t421.length co50, .slice Ao54 y429.length co54, .int .i64 t427] (0, 0) _ rfl (by (with_reducible repeat (first | refine blk_drewN ?_ _ | refine blk_drew ?_ | refine blk_alloc ?_ _)); refine blk_put (cs := #[.slice Ao50 t421.length co50, .slice Ao54 y429.length co54, .int .i64 0]) ?_ 2 _ rfl; (with_reducible repeat (first | refine blk_drewN ?_ _ | refine blk_drew ?_ | refine blk_alloc ?_ _)); refine blk_put (cs := #[.slice Ao50 t421.length co50, .slice none 0 0, .int .i64 0]) ?_ 1 _ rfl; (with_reducible repeat (first | refine blk_drewN ?_ _ | refine blk_drew ?_ | refine blk_alloc ?_ _)); refine blk_put (cs := #[.slice none 0 0, .slice none 0 0, .int .i64 0]) ?_ 0 _ rfl; (with_reducible repeat (first | refine blk_drewN ?_ _ | refine blk_drew ?_ | refine blk_alloc ?_ _)); refine blk_far ?_ NB418_417.out _; (with_reducible repeat (first | refine blk_drewN ?_ _ | refine blk_drew ?_ | refine blk_alloc ?_ _)); exact BK418.out) Try.underlying25 rfl (by kernel_rfl)) rfl ?_
        exact ⟨_, _, by first | rfl | (simp [errW_none, errW_some] <;> rfl) | (simp [*, errW_none, errW_some] <;> rfl) | (simp [E.isEmpty_bne]; done) | (rw [E.bne_empty]), by (with_reducible repeat (first | apply Kd.S_alloc | apply Kd.S_drewN | apply Kd.S_drew)); exact Kd.S_mono (Kd.S_far (p := ⟨gb418, 2, none⟩) (Kd.S_far (p := ⟨gb418, 1, none⟩) (Kd.S_far (p := ⟨gb418, 0, none⟩) (Kd.S_far (p := ⟨gb417, 1, none⟩) (Kd.S_types (Kd.S_types HO423.out BK417.out (by decide)) BK418.out (by decide)) (fun _ hk => hk.1.2) (.slice Ao54 y429.length co54)) (fun _ hk => hk.2) (.slice Ao50 t421.length co50)) (fun _ hk => hk.2) (.slice Ao54 y429.length co54)) (fun _ hk => hk.2) (.int .i64 t427)) (fun _ hk => hk.1.1.2), by (with_reducible repeat (first | apply Kd.R_alloc | apply Kd.R_drewN | apply Kd.R_drew)); exact Kd.R_mono (Kd.R_far (p := ⟨gb418, 2, none⟩) (Kd.R_far (p := ⟨gb418, 1, none⟩) (Kd.R_far (p := ⟨gb418, 0, none⟩) (Kd.R_far (p := ⟨gb417, 1, none⟩) (Kd.R_types (Kd.R_types HO431.out BK417.out (by decide)) BK418.out (by decide)) (fun _ hk => hk.1.2) (.slice Ao54 y429.length co54)) (fun _ hk => hk.2) (.slice Ao50 t421.length co50)) (fun _ hk => hk.2) (.slice Ao54 y429.length co54)) (fun _ hk => hk.2) (.int .i64 t427)) (fun _ hk => trivial), by with_reducible repeat (first | exact HB.out | apply below_alloc | apply pw_below_drewN | apply below_drew1 | refine below_set ?_ GE417.out | refine below_set ?_ GE418.out)⟩
      ·rw [if_neg c27] at H
       exact absurd H (by simp)
     ·rw [if_neg c26] at H
      exact absurd H (by simp)
    ·rw [if_neg c25] at H
     exact absurd H (by simp)
theorem take_ev_s {C : List CL} {roots : List Int} {L a : Int} {V c v : List Int} (hI : Inv C roots L V [] c v) (hn : C.length ≤ 80) (hr8 : (roots.length : Int) < 8) (hk : ∀ x ∈ C, x.f2.length ≤ 1048576) (h0 : 0 ≤ a) (h1 : a < (roots.length : Int)) :
    ∃ C1 R1, C1.length = C.length ∧ 1 ≤ R1.length ∧ R1.length ≤ 8 ∧ (∀ x ∈ C1, x.f2.length ≤ 1048576) ∧ Ev (fun k => spec_TakePicture.j0 k a false C roots L) (C1, R1, L, true) := by
  have hk0 : ∀ i : Int, 0 ≤ i → i < (C.length : Int) → (rd_T68 C i).f2.length ≤ 1048576 := fun i i0 i1 => by
    have hl : i.toNat < C.length := by omega
    have e : rd_T68 C i = C[i.toNat] := by rw [rd_cl, List.getD_eq_getElem?_getD, List.getElem?_eq_getElem hl]; rfl
    rw [e]
    exact hk _ (List.getElem_mem hl)
  by_cases hp : rd roots a ≥ 0
  · have hlt : rd roots a < (C.length : Int) := by
      rcases root_ref hI a h0 h1 with e | ⟨_, e, _, _⟩
      · simp only at e; omega
      · exact e
    refine ⟨_, _, by rw [List.length_set], by simp, by simp; omega, fun x hx => ?_, Ev.step (fun _ => spec_TakePicture.j0.eq_2 ..) (ev_neg (by simp) (Ev.bind (own_ev C roots L (by omega) hk (by omega)) (ev_pos h0 (ev_pos h1 (ev_pos (show roots.length < 17592186044416 by omega) (ev_some (ev_pos hp (ev_pos hp (ev_pos hlt (ev_ret rfl)))))))))) ⟩
    rcases List.mem_or_eq_of_mem_set hx with e | e
    · exact hk x e
    · subst e
      exact hk0 _ hp hlt
  · exact ⟨C, _, rfl, by simp, by simp; omega, hk, Ev.step (fun _ => spec_TakePicture.j0.eq_2 ..) (ev_neg (by simp) (Ev.bind (own_ev C roots L (by omega) hk (by omega)) (ev_pos h0 (ev_pos h1 (ev_pos (show roots.length < 17592186044416 by omega) (ev_some (ev_neg hp (ev_ret rfl))))))))⟩
theorem take_s (C : List CL) (roots : List Int) (L a : Int) (hk : ∀ x ∈ C, x.f2.length ≤ 1048576) : ∃ C1 R1 L1 b, C1.length ≤ 80 ∧ R1.length ≤ 8 ∧ (∀ x ∈ C1, x.f2.length ≤ 1048576) ∧ (b = true → 1 ≤ R1.length ∧ 1 ≤ L1 ∧ L1 ≤ 3) ∧ Ev (fun k => spec_TakePicture.f k C roots L a) (C1, R1, L1, b) := by
  obtain ⟨g, hb1, hb2⟩ := spec_impl C roots L
  unfold spec_TakePicture.f
  have no : ∀ x, Ev (fun k => spec_TakePicture.j0 k a true C roots L) x ↔ ([], [], 0, false) = x := fun x => by
    constructor
    · intro h
      exact ev_unique (Ev.step (fun _ => spec_TakePicture.j0.eq_2 ..) (ev_pos rfl (ev_ret rfl))) h
    · rintro rfl
      exact Ev.step (fun _ => spec_TakePicture.j0.eq_2 ..) (ev_pos rfl (ev_ret rfl))
  cases g with
  | false => exact ⟨[], [], 0, false, by simp, by simp, by simp, by simp, Ev.bind hb1 (ev_false rfl ((no _).2 rfl))⟩
  | true =>
    obtain ⟨hL1, hL3, hn, hr1, hr8, V, c, v, hI, _⟩ := good_tree hb2
    have hS := l1In_root a roots hr8
    by_cases ha : 0 ≤ a ∧ a < (roots.length : Int)
    · have da := decide_eq_true ha
      by_cases h8 : (roots.length : Int) = 8
      · refine ⟨[], [], 0, false, by simp, by simp, by simp, by simp, Ev.bind hb1 (ev_true rfl (ev_bindc hS (ev_true da ?_)))⟩
        rw [show ((roots.length : Int) == 8) = true by simpa using h8]
        exact (no _).2 rfl
      · obtain ⟨C1, R1, q1, q2_, q2, q3, q5⟩ := take_ev_s hI hn (by omega) hk ha.1 ha.2
        refine ⟨C1, R1, L, true, by omega, q2, q3, fun _ => ⟨q2_, hL1, hL3⟩, Ev.bind hb1 (ev_true rfl (ev_bindc hS (ev_true da ?_)))⟩
        rw [show ((roots.length : Int) == 8) = false by simpa using h8]
        exact q5
    · have da := decide_eq_false ha
      exact ⟨[], [], 0, false, by simp, by simp, by simp, by simp, Ev.bind hb1 (ev_true rfl (ev_bindc hS (ev_false da ((no _).2 rfl))))⟩
theorem drop_s (C : List CL) (roots : List Int) (L a : Int) (hk : ∀ x ∈ C, x.f2.length ≤ 1048576) : ∃ C1 R1 L1 b, C1.length ≤ 80 ∧ R1.length ≤ 8 ∧ (∀ x ∈ C1, x.f2.length ≤ 1048576) ∧ (b = true → 1 ≤ R1.length ∧ 1 ≤ L1 ∧ L1 ≤ 3) ∧ Ev (fun k => spec_DropPicture.f k C roots L a) (C1, R1, L1, b) := by
  obtain ⟨g, hb1, hb2⟩ := spec_impl C roots L
  unfold spec_DropPicture.f
  cases g with
  | false => exact ⟨[], [], 0, false, by simp, by simp, by simp, by simp, Ev.bind hb1 (ev_false rfl (ev_ret rfl))⟩
  | true =>
    obtain ⟨hL1, hL3, hn, hr1, hr8, V, c, v, hI, _⟩ := good_tree hb2
    have hS := l1In_root a roots hr8
    by_cases ha : 0 ≤ a ∧ a < (roots.length : Int)
    · have da := decide_eq_true ha
      by_cases h1 : (roots.length : Int) = 1
      · exact ⟨[], [], 0, false, by simp, by simp, by simp, by simp, Ev.bind hb1 (ev_true rfl (ev_bindc hS (ev_true da (ev_pos h1 (ev_ret rfl)))))⟩
      · obtain ⟨D, e, hD⟩ := drop_tot hI L.toNat 5 (by omega) (rd roots a) (by rw [show ((L.toNat : Nat) : Int) = L by omega]; exact root_ref hI a ha.1 ha.2) C (KidsOf.refl C)
        refine ⟨D, roots.eraseIdx a.toNat, L, true, by have := hD.1; omega, by have := List.length_eraseIdx_le roots a.toNat; omega, hD.bound hk, fun _ => ⟨by rw [List.length_eraseIdx]; split <;> omega, hL1, hL3⟩, Ev.bind hb1 (ev_true rfl (ev_bindc hS (ev_true da (ev_neg h1 (ev_pos ha (Ev.bind (own_ev C roots L (by omega) hk (by omega)) (ev_const ?_)))))))⟩
        unfold dropS
        simp only
        rw [if_pos (by omega), if_pos ha, e, Option.bind_some, List.eraseIdx_eq_take_drop_succ]
    · have da := decide_eq_false ha
      exact ⟨[], [], 0, false, by simp, by simp, by simp, by simp, Ev.bind hb1 (ev_true rfl (ev_bindc hS (ev_false da (ev_ret rfl))))⟩
attribute [local go_sem] max2_int min2_int max_two min_two max_three min_three max_four min_four
set_option linter.unusedVariables false
set_option linter.unusedSimpArgs false
def IsS93 (w0 W : World) (g : Nat) (f0 : List Int) (f1 : Int) (f2 : Int) : Prop := ∃ A0 c0, W.heap[g]? = some (.cells #[.slice A0 f0.length c0, .int .i64 f1, .int .u64 f2] 93 (0, 0)) ∧ w0.heap.size ≤ g ∧ Kd.C (Kd.int .u8) w0 A0 f0.length f0
theorem IsS93.grown {w0 W : World} {g : Nat} {f0 : List Int} {f1 : Int} {f2 : Int} {W1 : World} {row : Option Nat} (h : IsS93 w0 W g f0 f1 f2) (hw : W.grownBy W1 row) (hne : some g ≠ row) : IsS93 w0 W1 g f0 f1 f2 := by
 obtain ⟨A0, c0, hb, hg, hr0⟩ := h
 exact ⟨A0, c0, blk_grown hb hw hne, hg, hr0⟩
theorem IsS93.kept {w0 W : World} {g : Nat} {f0 : List Int} {f1 : Int} {f2 : Int} {W1 : World} {S : Nat → Prop} (h : IsS93 w0 W g f0 f1 f2) (hk : Kept W W1 S) (hne : ¬ S g) : IsS93 w0 W1 g f0 f1 f2 := by
 obtain ⟨A0, c0, hb, hg, hr0⟩ := h
 exact ⟨A0, c0, blk_kept hb hk hne, hg, hr0⟩
theorem IsS93.below {w0 W : World} {g : Nat} {f0 : List Int} {f1 : Int} {f2 : Int} {W1 : World} (h : IsS93 w0 W g f0 f1 f2) (hw : Below W.heap.size W W1) : IsS93 w0 W1 g f0 f1 f2 := h.grown (grown_of_below hw none) (by simp)
theorem IsS93.alloc {w0 W : World} {g : Nat} {f0 : List Int} {f1 : Int} {f2 : Int} (h : IsS93 w0 W g f0 f1 f2) (o : Obj) : IsS93 w0 (W.alloc o) g f0 f1 f2 := h.below (below_alloc (Below.refl _ _) o)
theorem IsS93.drewN {w0 W : World} {g : Nat} {f0 : List Int} {f1 : Int} {f2 : Int} (h : IsS93 w0 W g f0 f1 f2) (m : Nat) : IsS93 w0 (W.drewN m) g f0 f1 f2 := h
theorem IsS93.drew {w0 W : World} {g : Nat} {f0 : List Int} {f1 : Int} {f2 : Int} (h : IsS93 w0 W g f0 f1 f2) : IsS93 w0 W.drew g f0 f1 f2 := h
theorem IsS93.at_ {w0 W : World} {g : Nat} {f0 : List Int} {f1 : Int} {f2 : Int} {w' : World} {m : Nat} (hq : W.drewN m = w') (h : IsS93 w0 W g f0 f1 f2) : IsS93 w0 w' g f0 f1 f2 := by subst hq; exact IsS93.drewN h m
theorem IsS93.apart {w0 W : World} {g : Nat} {f0 : List Int} {f1 : Int} {f2 : Int} {α : Type} {d : Kd α} {e : Nat} {base : Nat} {ok : Nat → Prop} {v : Value} {xs : List α} (h : IsS93 w0 W g f0 f1 f2) (ho : d.R e W base ok v xs) (ht : ∀ q, q ∈ e :: d.E → q ≠ 93) : d.R e W base (fun k => ok k ∧ k ≠ g) v xs := by
 obtain ⟨A0, c0, hb, hg, hr0⟩ := h
 exact Kd.R_types ho hb ht
theorem IsS93.own_ne {w0 W : World} {g : Nat} {f0 : List Int} {f1 : Int} {f2 : Int} {α : Type} {d : Kd α} {e : Nat} {base : Nat} {ok : Nat → Prop} {v : Value} {xs : List α} (h : IsS93 w0 W g f0 f1 f2) (ho : d.R e W base ok v xs) (ht : e ≠ 93) : some g ≠ v.ownBlock := by
 obtain ⟨A0, c0, hb, hg, hr0⟩ := h
 exact Kd.R_ne ho hb ht
theorem IsS93.lt {w0 W : World} {g : Nat} {f0 : List Int} {f1 : Int} {f2 : Int} (h : IsS93 w0 W g f0 f1 f2) : g < W.heap.size := by
 obtain ⟨A0, c0, hb, hg, hr0⟩ := h
 exact blk_lt hb
theorem IsS93.ge {w0 W : World} {g : Nat} {f0 : List Int} {f1 : Int} {f2 : Int} (h : IsS93 w0 W g f0 f1 f2) : w0.heap.size ≤ g := by
 obtain ⟨A0, c0, hb, hg, hr0⟩ := h
 exact hg
theorem IsS93.far {w0 W : World} {g : Nat} {f0 : List Int} {f1 : Int} {f2 : Int} {p : Addr} (h : IsS93 w0 W g f0 f1 f2) (hne : g ≠ p.block) (u : Value) : IsS93 w0 (W.setCell p u) g f0 f1 f2 := by
 obtain ⟨A0, c0, hb, hg, hr0⟩ := h
 exact ⟨A0, c0, blk_far hb hne u, hg, hr0⟩
theorem cellS93_0 {W : World} {g : Nat} {A0 : Option Addr} {c0 : Nat} {f0 : List Int} {f1 : Int} {f2 : Int} (h : W.heap[g]? = some (.cells #[.slice A0 f0.length c0, .int .i64 f1, .int .u64 f2] 93 (0, 0))) : W.cell? ⟨g, 0, none⟩ = some (.slice A0 f0.length c0) := (blk_cell h 0).trans rfl
theorem cellS93_1 {W : World} {g : Nat} {A0 : Option Addr} {c0 : Nat} {f0 : List Int} {f1 : Int} {f2 : Int} (h : W.heap[g]? = some (.cells #[.slice A0 f0.length c0, .int .i64 f1, .int .u64 f2] 93 (0, 0))) : W.cell? ⟨g, 1, none⟩ = some (.int .i64 f1) := (blk_cell h 1).trans rfl
theorem IsS93.set_1 {w0 W : World} {g : Nat} {f0 : List Int} {f1 : Int} {f2 : Int} (h : IsS93 w0 W g f0 f1 f2) (x : Int) : IsS93 w0 (W.setCell ⟨g, 1, none⟩ (.int .i64 x)) g f0 x f2 := by
 obtain ⟨A0, c0, hb, hg, hr0⟩ := h
 exact ⟨A0, c0, by simpa using blk_set hb 1 (.int .i64 x), hg, hr0⟩
theorem cellS93_2 {W : World} {g : Nat} {A0 : Option Addr} {c0 : Nat} {f0 : List Int} {f1 : Int} {f2 : Int} (h : W.heap[g]? = some (.cells #[.slice A0 f0.length c0, .int .i64 f1, .int .u64 f2] 93 (0, 0))) : W.cell? ⟨g, 2, none⟩ = some (.int .u64 f2) := (blk_cell h 2).trans rfl
theorem IsS93.set_2 {w0 W : World} {g : Nat} {f0 : List Int} {f1 : Int} {f2 : Int} (h : IsS93 w0 W g f0 f1 f2) (x : Int) : IsS93 w0 (W.setCell ⟨g, 2, none⟩ (.int .u64 x)) g f0 f1 x := by
 obtain ⟨A0, c0, hb, hg, hr0⟩ := h
 exact ⟨A0, c0, by simpa using blk_set hb 2 (.int .u64 x), hg, hr0⟩
theorem IsS93.new (w0 W : World) (A0 : Option Addr) (c0 : Nat) (f0 : List Int) (f1 : Int) (f2 : Int) (hB : Below w0.heap.size w0 W) (hr0 : Kd.C (Kd.int .u8) w0 A0 f0.length f0) : IsS93 w0 (W.alloc (.cells #[.slice A0 f0.length c0, .int .i64 f1, .int .u64 f2] 93)) W.heap.size f0 f1 f2 := ⟨A0, c0, by simpa using heap_alloc_new W _, hB.size, hr0⟩
def spec_l1Cur_next.f (s0_0 : List Int) (s0_1 : Int) (s0_2 : Int) : Option (Int × Int × Int) := if s0_1 < (s0_0.length : Int) then (if 0 ≤ s0_1 then (if (wrap64 (s0_1 + 1)) ≤ (s0_0.length : Int) then (some (wrap64 (rd s0_0 s0_1), wrap64 (s0_1 + 1), IntKind.u64.wrap ((IntKind.u64.wrap ((IntKind.u64.wrap (s0_2 * 6364136223846793005)) + (IntKind.u64.wrap (wrap64 (rd s0_0 s0_1))))) + 1442695040888963407))) else (some (wrap64 (Go.bits .and .u64 ((IntKind.u64.wrap ((IntKind.u64.wrap ((IntKind.u64.wrap (s0_2 * 6364136223846793005)) + (IntKind.u64.wrap (wrap64 (rd s0_0 s0_1))))) + 1442695040888963407)) / 1099511627776) 255), wrap64 (s0_1 + 1), IntKind.u64.wrap ((IntKind.u64.wrap ((IntKind.u64.wrap (s0_2 * 6364136223846793005)) + (IntKind.u64.wrap (wrap64 (rd s0_0 s0_1))))) + 1442695040888963407)))) else (none)) else (if (wrap64 (s0_1 + 1)) ≤ (s0_0.length : Int) then (some (0, wrap64 (s0_1 + 1), IntKind.u64.wrap ((IntKind.u64.wrap ((IntKind.u64.wrap (s0_2 * 6364136223846793005)) + 0)) + 1442695040888963407))) else (some (wrap64 (Go.bits .and .u64 ((IntKind.u64.wrap ((IntKind.u64.wrap ((IntKind.u64.wrap (s0_2 * 6364136223846793005)) + 0)) + 1442695040888963407)) / 1099511627776) 255), wrap64 (s0_1 + 1), IntKind.u64.wrap ((IntKind.u64.wrap ((IntKind.u64.wrap (s0_2 * 6364136223846793005)) + 0)) + 1442695040888963407))))
set_option maxHeartbeats 8000000 in
set_option maxRecDepth 100000 in
theorem spec_l1Cur_next.calls (g : Nat) (s0_0 : List Int) (s0_1 : Int) (s0_2 : Int) (r1 : Int) (r2 : Int) (r3 : Int) (w0 w : World) (hI : IsS93 w0 w g s0_0 s0_1 s0_2) (hB : Below w0.heap.size w0 w) (h : spec_l1Cur_next.f s0_0 s0_1 s0_2 = some (r1, r2, r3)) :
  Calls Try.prog 90 #[.pointer (some ⟨g, 0, none⟩)] w fun e w' => e = .returned (.int .i64 r1) ∧ IsS93 w0 w' g s0_0 r2 r3 ∧ Below w0.heap.size w0 w' ∧ KeepBut w w' g none := by
 have HI0 := Aside0.mk hI
 have HK := Aside0.mk (KeepBut.refl w g none)
 have HL := Aside0.mk hB.size
 clear hI
 have HW0 := Aside0.mk hB.size
 have HB := Aside0.mk hB
 clear hB
 have H : (if s0_1 < (s0_0.length : Int) then (if 0 ≤ s0_1 then (if (wrap64 (s0_1 + 1)) ≤ (s0_0.length : Int) then (some (wrap64 (rd s0_0 s0_1), wrap64 (s0_1 + 1), IntKind.u64.wrap ((IntKind.u64.wrap ((IntKind.u64.wrap (s0_2 * 6364136223846793005)) + (IntKind.u64.wrap (wrap64 (rd s0_0 s0_1))))) + 1442695040888963407))) else (some (wrap64 (Go.bits .and .u64 ((IntKind.u64.wrap ((IntKind.u64.wrap ((IntKind.u64.wrap (s0_2 * 6364136223846793005)) + (IntKind.u64.wrap (wrap64 (rd s0_0 s0_1))))) + 1442695040888963407)) / 1099511627776) 255), wrap64 (s0_1 + 1), IntKind.u64.wrap ((IntKind.u64.wrap ((IntKind.u64.wrap (s0_2 * 6364136223846793005)) + (IntKind.u64.wrap (wrap64 (rd s0_0 s0_1))))) + 1442695040888963407)))) else (none)) else (if (wrap64 (s0_1 + 1)) ≤ (s0_0.length : Int) then (some (0, wrap64 (s0_1 + 1), IntKind.u64.wrap ((IntKind.u64.wrap ((IntKind.u64.wrap (s0_2 * 6364136223846793005)) + 0)) + 1442695040888963407))) else (some (wrap64 (Go.bits .and .u64 ((IntKind.u64.wrap ((IntKind.u64.wrap ((IntKind.u64.wrap (s0_2 * 6364136223846793005)) + 0)) + 1442695040888963407)) / 1099511627776) 255), wrap64 (s0_1 + 1), IntKind.u64.wrap ((IntKind.u64.wrap ((IntKind.u64.wrap (s0_2 * 6364136223846793005)) + 0)) + 1442695040888963407))))) = some (r1, r2, r3) := h
 clear h
 by_cases c2 : s0_1 < (s0_0.length : Int)
 ·rw [if_pos c2] at H
  have c2b0 : decide (s0_1 < (s0_0.length : Int)) = true := decide_eq_true c2
  clear c2
  by_cases c3 : 0 ≤ s0_1
  ·rw [if_pos c3] at H
   have c3b0 : decide (0 ≤ s0_1) = true := decide_eq_true c3
   clear c3
   by_cases c4 : (wrap64 (s0_1 + 1)) ≤ (s0_0.length : Int)
   ·rw [if_pos c4] at H
    have c4b0 : decide ((wrap64 (s0_1 + 1)) ≤ (s0_0.length : Int)) = true := decide_eq_true c4
    clear c4
    simp only [Option.some.injEq, Prod.mk.injEq] at H
    obtain ⟨rfl, rfl, rfl⟩ := H
    obtain ⟨ASz5_0, cSz5_0, HGz5, hgz5, HSz5_0⟩ := HI0.out
    have hcz5_0 := cellS93_0 HGz5
    have hcz5_1 := cellS93_1 HGz5
    have hcz5_2 := cellS93_2 HGz5
    have hfz5_1 := blk_frozen HGz5 1
    have hfz5_2 := blk_frozen HGz5 2
    clear HGz5 hgz5
    have p560 : 0 ≤ (s0_1 : Int) := of_decide_eq_true (by assumption)
    have q560 : s0_1 < (s0_0.length : Int) := of_decide_eq_true (by assumption)
    obtain ⟨ad560, e560, hx560_0⟩ := Kd.at_int HSz5_0 s0_1 p560 q560
    cases e560
    replace hx560_0 := pw_cell_below HB.out hx560_0
    replace p560 := eq_true p560
    replace q560 := eq_true q560
    go_enter Try.func90, Try.ntmps90
    go_wp2
    repeat (go_quiet (fail); try go_wp2)
    go_ret
    exact ⟨by first | rfl | (simp [errW_none, errW_some] <;> rfl) | (simp [*, errW_none, errW_some] <;> rfl) | (simp [E.isEmpty_bne]; done) | (rw [E.bne_empty]), by (try simp only [Int.add_zero]); with_reducible repeat (first | exact HI0.out | apply IsS93.alloc | apply IsS93.drewN | apply IsS93.drew | apply IsS93.set_1 | apply IsS93.set_2), by with_reducible repeat (first | exact HB.out | apply below_alloc | apply pw_below_drewN | apply below_drew1 | refine below_set ?_ (IsS93.ge HI0.out)), by with_reducible repeat (first | exact HK.out | apply KeepBut.set_ | apply keep_drewN | apply keep_drew | apply keep_alloc)⟩
   ·rw [if_neg c4] at H
    have c4b0 : decide ((wrap64 (s0_1 + 1)) ≤ (s0_0.length : Int)) = false := decide_eq_false c4
    clear c4
    simp only [Option.some.injEq, Prod.mk.injEq] at H
    obtain ⟨rfl, rfl, rfl⟩ := H
    obtain ⟨ASz6_0, cSz6_0, HGz6, hgz6, HSz6_0⟩ := HI0.out
    have hcz6_0 := cellS93_0 HGz6
    have hcz6_1 := cellS93_1 HGz6
    have hcz6_2 := cellS93_2 HGz6
    have hfz6_1 := blk_frozen HGz6 1
    have hfz6_2 := blk_frozen HGz6 2
    clear HGz6 hgz6
    have p560 : 0 ≤ (s0_1 : Int) := of_decide_eq_true (by assumption)
    have q560 : s0_1 < (s0_0.length : Int) := of_decide_eq_true (by assumption)
    obtain ⟨ad560, e560, hx560_0⟩ := Kd.at_int HSz6_0 s0_1 p560 q560
    cases e560
    replace hx560_0 := pw_cell_below HB.out hx560_0
    replace p560 := eq_true p560
    replace q560 := eq_true q560
    go_enter Try.func90, Try.ntmps90
    go_wp2
    repeat (go_quiet (fail); try go_wp2)
    go_ret
    exact ⟨by first | rfl | (simp [errW_none, errW_some] <;> rfl) | (simp [*, errW_none, errW_some] <;> rfl) | (simp [E.isEmpty_bne]; done) | (rw [E.bne_empty]), by (try simp only [Int.add_zero]); with_reducible repeat (first | exact HI0.out | apply IsS93.alloc | apply IsS93.drewN | apply IsS93.drew | apply IsS93.set_1 | apply IsS93.set_2), by with_reducible repeat (first | exact HB.out | apply below_alloc | apply pw_below_drewN | apply below_drew1 | refine below_set ?_ (IsS93.ge HI0.out)), by with_reducible repeat (first | exact HK.out | apply KeepBut.set_ | apply keep_drewN | apply keep_drew | apply keep_alloc)⟩
  ·rw [if_neg c3] at H
   exact absurd H (by simp)
 ·rw [if_neg c2] at H
  have c2b0 : decide (s0_1 < (s0_0.length : Int)) = false := decide_eq_false c2
  clear c2
  by_cases c7 : (wrap64 (s0_1 + 1)) ≤ (s0_0.length : Int)
  ·rw [if_pos c7] at H
   have c7b0 : decide ((wrap64 (s0_1 + 1)) ≤ (s0_0.length : Int)) = true := decide_eq_true c7
   clear c7
   simp only [Option.some.injEq, Prod.mk.injEq] at H
   obtain ⟨rfl, rfl, rfl⟩ := H
   obtain ⟨ASz8_0, cSz8_0, HGz8, hgz8, HSz8_0⟩ := HI0.out
   have hcz8_0 := cellS93_0 HGz8
   have hcz8_1 := cellS93_1 HGz8
   have hcz8_2 := cellS93_2 HGz8
   have hfz8_1 := blk_frozen HGz8 1
   have hfz8_2 := blk_frozen HGz8 2
   clear HGz8 hgz8
   go_enter Try.func90, Try.ntmps90
   go_wp2
   repeat (go_quiet (fail); try go_wp2)
   go_ret
   exact ⟨by first | rfl | (simp [errW_none, errW_some] <;> rfl) | (simp [*, errW_none, errW_some] <;> rfl) | (simp [E.isEmpty_bne]; done) | (rw [E.bne_empty]), by (try simp only [Int.add_zero]); with_reducible repeat (first | exact HI0.out | apply IsS93.alloc | apply IsS93.drewN | apply IsS93.drew | apply IsS93.set_1 | apply IsS93.set_2), by with_reducible repeat (first | exact HB.out | apply below_alloc | apply pw_below_drewN | apply below_drew1 | refine below_set ?_ (IsS93.ge HI0.out)), by with_reducible repeat (first | exact HK.out | apply KeepBut.set_ | apply keep_drewN | apply keep_drew | apply keep_alloc)⟩
  ·rw [if_neg c7] at H
   have c7b0 : decide ((wrap64 (s0_1 + 1)) ≤ (s0_0.length : Int)) = false := decide_eq_false c7
   clear c7
   simp only [Option.some.injEq, Prod.mk.injEq] at H
   obtain ⟨rfl, rfl, rfl⟩ := H
   obtain ⟨ASz9_0, cSz9_0, HGz9, hgz9, HSz9_0⟩ := HI0.out
   have hcz9_0 := cellS93_0 HGz9
   have hcz9_1 := cellS93_1 HGz9
   have hcz9_2 := cellS93_2 HGz9
   have hfz9_1 := blk_frozen HGz9 1
   have hfz9_2 := blk_frozen HGz9 2
   clear HGz9 hgz9
   go_enter Try.func90, Try.ntmps90
   go_wp2
   repeat (go_quiet (fail); try go_wp2)
   go_ret
   exact ⟨by first | rfl | (simp [errW_none, errW_some] <;> rfl) | (simp [*, errW_none, errW_some] <;> rfl) | (simp [E.isEmpty_bne]; done) | (rw [E.bne_empty]), by (try simp only [Int.add_zero]); with_reducible repeat (first | exact HI0.out | apply IsS93.alloc | apply IsS93.drewN | apply IsS93.drew | apply IsS93.set_1 | apply IsS93.set_2), by with_reducible repeat (first | exact HB.out | apply below_alloc | apply pw_below_drewN | apply below_drew1 | refine below_set ?_ (IsS93.ge HI0.out)), by with_reducible repeat (first | exact HK.out | apply KeepBut.set_ | apply keep_drewN | apply keep_drew | apply keep_alloc)⟩
attribute [local go_sem] max2_int min2_int max_two min_two max_three min_three max_four min_four
set_option linter.unusedVariables false
set_option linter.unusedSimpArgs false
def spec_l1Cur_pick.f (s0_0 : List Int) (s0_1 : Int) (s0_2 : Int) (a1 : Int) : Option (Int × Int × Int) := if a1 ≤ 1 then (some (0, s0_1, s0_2)) else ((spec_l1Cur_next.f s0_0 s0_1 s0_2).bind fun bt561 => (if a1 > 200 then ((spec_l1Cur_next.f s0_0 bt561.2.1 bt561.2.2).bind fun bt564 => (if a1 = 0 then (none) else (some (Int.tmod (wrap64 ((wrap64 (bt561.1 * 256)) + bt564.1)) a1, bt564.2.1, bt564.2.2)))) else (if a1 = 0 then (none) else (some (Int.tmod bt561.1 a1, bt561.2.1, bt561.2.2)))))
set_option maxHeartbeats 8000000 in
set_option maxRecDepth 100000 in
theorem spec_l1Cur_pick.calls (g : Nat) (s0_0 : List Int) (s0_1 : Int) (s0_2 : Int) (a1 : Int) (r1 : Int) (r2 : Int) (r3 : Int) (w0 w : World) (hI : IsS93 w0 w g s0_0 s0_1 s0_2) (hB : Below w0.heap.size w0 w) (h : spec_l1Cur_pick.f s0_0 s0_1 s0_2 a1 = some (r1, r2, r3)) :
  Calls Try.prog 77 #[.pointer (some ⟨g, 0, none⟩), .int .i64 a1] w fun e w' => e = .returned (.int .i64 r1) ∧ IsS93 w0 w' g s0_0 r2 r3 ∧ Below w0.heap.size w0 w' ∧ KeepBut w w' g none := by
 have HI0 := Aside0.mk hI
 have HK := Aside0.mk (KeepBut.refl w g none)
 have HL := Aside0.mk hB.size
 clear hI
 have HW0 := Aside0.mk hB.size
 have HB := Aside0.mk hB
 clear hB
 have H : (if a1 ≤ 1 then (some (0, s0_1, s0_2)) else ((spec_l1Cur_next.f s0_0 s0_1 s0_2).bind fun bt561 => (if a1 > 200 then ((spec_l1Cur_next.f s0_0 bt561.2.1 bt561.2.2).bind fun bt564 => (if a1 = 0 then (none) else (some (Int.tmod (wrap64 ((wrap64 (bt561.1 * 256)) + bt564.1)) a1, bt564.2.1, bt564.2.2)))) else (if a1 = 0 then (none) else (some (Int.tmod bt561.1 a1, bt561.2.1, bt561.2.2)))))) = some (r1, r2, r3) := h
 clear h
 by_cases c3 : a1 ≤ 1
 ·rw [if_pos c3] at H
  have c3b0 : decide (a1 ≤ 1) = true := decide_eq_true c3
  clear c3
  simp only [Option.some.injEq, Prod.mk.injEq] at H
  obtain ⟨rfl, rfl, rfl⟩ := H
  go_enter Try.func77, Try.ntmps77
  go_wp2
  go_ret
  exact ⟨by first | rfl | (simp [errW_none, errW_some] <;> rfl) | (simp [*, errW_none, errW_some] <;> rfl) | (simp [E.isEmpty_bne]; done) | (rw [E.bne_empty]), by (try simp only [Int.add_zero]); with_reducible repeat (first | exact HI0.out | apply IsS93.alloc | apply IsS93.drewN | apply IsS93.drew | apply IsS93.set_1 | apply IsS93.set_2), by with_reducible repeat (first | exact HB.out | apply below_alloc | apply pw_below_drewN | apply below_drew1 | refine below_set ?_ (IsS93.ge HI0.out)), by with_reducible repeat (first | exact HK.out | apply KeepBut.set_ | apply keep_drewN | apply keep_drew | apply keep_alloc)⟩
 ·rw [if_neg c3] at H
  have c3b0 : decide (a1 ≤ 1) = false := decide_eq_false c3
  clear c3
  replace H := Option.bind_eq_some_iff.mp H
  obtain ⟨⟨t561, t562, t563⟩, A40, H⟩ := H
  replace H : (if a1 > 200 then ((spec_l1Cur_next.f s0_0 t562 t563).bind fun bt564 => (if a1 = 0 then (none) else (some (Int.tmod (wrap64 ((wrap64 (t561 * 256)) + bt564.1)) a1, bt564.2.1, bt564.2.2)))) else (if a1 = 0 then (none) else (some (Int.tmod t561 a1, t562, t563)))) = some (r1, r2, r3) := H
  have A4 := Aside0.mk A40
  clear A40
  by_cases c5 : a1 > 200
  ·rw [if_pos c5] at H
   have c5b0 : decide (200 < a1) = true := decide_eq_true c5
   clear c5
   replace H := Option.bind_eq_some_iff.mp H
   obtain ⟨⟨t564, t565, t566⟩, A60, H⟩ := H
   replace H : (if a1 = 0 then (none) else (some (Int.tmod (wrap64 ((wrap64 (t561 * 256)) + t564)) a1, t565, t566))) = some (r1, r2, r3) := H
   have A6 := Aside0.mk A60
   clear A60
   by_cases c7 : a1 = 0
   ·rw [if_pos c7] at H
    exact absurd H (by simp)
   ·rw [if_neg c7] at H
    have c7b0 : (a1 == 0) = false := beq_eq_false_iff_ne.mpr c7
    have c7b1 : (a1 != 0) = true := bne_iff_ne.mpr c7
    simp only [Option.some.injEq, Prod.mk.injEq] at H
    obtain ⟨rfl, rfl, rfl⟩ := H
    go_enter Try.func77, Try.ntmps77
    go_wp2_with (first | ((with_reducible refine gate_callee (f := 90) rfl ?_); refine goesL_ (some 9) rfl rfl Try.func90 (by kernel_rfl) rfl #[.pointer (some ⟨g, 0, none⟩)] rfl (by (try simp only [List.map_toArray, List.map_cons, List.map_nil]); first | done | rfl | (simp only [List.length_drop, List.length_take]; rfl)) ?_; (with_reducible refine (spec_l1Cur_next.calls g s0_0 s0_1 s0_2 t561 t562 t563 w0 _ ?side1 ?side2 A4.out).mono ?_); (case side1 => with_reducible repeat (first | exact HI0.out | apply IsS93.alloc | apply IsS93.drewN | apply IsS93.drew | apply IsS93.set_1 | apply IsS93.set_2)); (case side2 => with_reducible repeat (first | exact HB.out | apply below_alloc | apply pw_below_drewN | apply below_drew1 | refine below_set ?_ (IsS93.ge HI0.out))); rintro e w8 ⟨rfl, hi, hb, hk⟩; refine ⟨_, rfl, ?_⟩; replace HK := Aside0.mk (KeepBut.trans (by with_reducible repeat (first | exact HK.out | apply KeepBut.set_ | apply keep_drewN | apply keep_drew | apply keep_alloc)) hk (.inl rfl)); replace HB := Aside0.mk (hb); replace HI0 := Aside0.mk (hi); (try clear hb); (try clear hb2); (try clear hk); (try clear hi)) | ((with_reducible refine gate_callee (f := 90) rfl ?_); refine goesL_ (some 15) rfl rfl Try.func90 (by kernel_rfl) rfl #[.pointer (some ⟨g, 0, none⟩)] rfl (by (try simp only [List.map_toArray, List.map_cons, List.map_nil]); first | done | rfl | (simp only [List.length_drop, List.length_take]; rfl)) ?_; (with_reducible refine (spec_l1Cur_next.calls g s0_0 t562 t563 t564 t565 t566 w0 _ ?side1 ?side2 A6.out).mono ?_); (case side1 => with_reducible repeat (first | exact HI0.out | apply IsS93.alloc | apply IsS93.drewN | apply IsS93.drew | apply IsS93.set_1 | apply IsS93.set_2)); (case side2 => with_reducible repeat (first | exact HB.out | apply below_alloc | apply pw_below_drewN | apply below_drew1 | refine below_set ?_ (IsS93.ge HI0.out))); rintro e w9 ⟨rfl, hi, hb, hk⟩; refine ⟨_, rfl, ?_⟩; replace HK := Aside0.mk (KeepBut.trans (by with_reducible repeat (first | exact HK.out | apply KeepBut.set_ | apply keep_drewN | apply keep_drew | apply keep_alloc)) hk (.inl rfl)); replace HB := Aside0.mk (hb); replace HI0 := Aside0.mk (hi); (try clear hb); (try clear hb2); (try clear hk); (try clear hi)))
    go_ret
    exact ⟨by first | rfl | (simp [errW_none, errW_some] <;> rfl) | (simp [*, errW_none, errW_some] <;> rfl) | (simp [E.isEmpty_bne]; done) | (rw [E.bne_empty]), by (try simp only [Int.add_zero]); with_reducible repeat (first | exact HI0.out | apply IsS93.alloc | apply IsS93.drewN | apply IsS93.drew | apply IsS93.set_1 | apply IsS93.set_2), by with_reducible repeat (first | exact HB.out | apply below_alloc | apply pw_below_drewN | apply below_drew1 | refine below_set ?_ (IsS93.ge HI0.out)), by with_reducible repeat (first | exact HK.out | apply KeepBut.set_ | apply keep_drewN | apply keep_drew | apply keep_alloc)⟩
  ·rw [if_neg c5] at H
   have c5b0 : decide (200 < a1) = false := decide_eq_false c5
   clear c5
   by_cases c10 : a1 = 0
   ·rw [if_pos c10] at H
    exact absurd H (by simp)
   ·rw [if_neg c10] at H
    have c10b0 : (a1 == 0) = false := beq_eq_false_iff_ne.mpr c10
    have c10b1 : (a1 != 0) = true := bne_iff_ne.mpr c10
    simp only [Option.some.injEq, Prod.mk.injEq] at H
    obtain ⟨rfl, rfl, rfl⟩ := H
    go_enter Try.func77, Try.ntmps77
    go_wp2_with (first | ((with_reducible refine gate_callee (f := 90) rfl ?_); refine goesL_ (some 9) rfl rfl Try.func90 (by kernel_rfl) rfl #[.pointer (some ⟨g, 0, none⟩)] rfl (by (try simp only [List.map_toArray, List.map_cons, List.map_nil]); first | done | rfl | (simp only [List.length_drop, List.length_take]; rfl)) ?_; (with_reducible refine (spec_l1Cur_next.calls g s0_0 s0_1 s0_2 t561 t562 t563 w0 _ ?side1 ?side2 A4.out).mono ?_); (case side1 => with_reducible repeat (first | exact HI0.out | apply IsS93.alloc | apply IsS93.drewN | apply IsS93.drew | apply IsS93.set_1 | apply IsS93.set_2)); (case side2 => with_reducible repeat (first | exact HB.out | apply below_alloc | apply pw_below_drewN | apply below_drew1 | refine below_set ?_ (IsS93.ge HI0.out))); rintro e w11 ⟨rfl, hi, hb, hk⟩; refine ⟨_, rfl, ?_⟩; replace HK := Aside0.mk (KeepBut.trans (by with_reducible repeat (first | exact HK.out | apply KeepBut.set_ | apply keep_drewN | apply keep_drew | apply keep_alloc)) hk (.inl rfl)); replace HB := Aside0.mk (hb); replace HI0 := Aside0.mk (hi); (try clear hb); (try clear hb2); (try clear hk); (try clear hi)))
    go_ret
    exact ⟨by first | rfl | (simp [errW_none, errW_some] <;> rfl) | (simp [*, errW_none, errW_some] <;> rfl) | (simp [E.isEmpty_bne]; done) | (rw [E.bne_empty]), by (try simp only [Int.add_zero]); with_reducible repeat (first | exact HI0.out | apply IsS93.alloc | apply IsS93.drewN | apply IsS93.drew | apply IsS93.set_1 | apply IsS93.set_2), by with_reducible repeat (first | exact HB.out | apply below_alloc | apply pw_below_drewN | apply below_drew1 | refine below_set ?_ (IsS93.ge HI0.out)), by with_reducible repeat (first | exact HK.out | apply KeepBut.set_ | apply keep_drewN | apply keep_drew | apply keep_alloc)⟩
end Go.Proofs.Ytacfalpgmibfnaa.PCow
namespace Go.Proofs.Ytacfalpgmibfnaa.ZCow
open Go.RowKit Go.Proofs.Ytacfalpgmibfnaa.PCow Go.Proofs.YtacfalpgmibfnaaW.PrintWords Go.Proofs.YtacfalpgmibfnaaW.PrintLast Go.Proofs.YtacfalpgmibfnaaW.PrintMore Go.Proofs.Ytacfalpgmibfnaa.E
set_option linter.unusedSimpArgs false
set_option linter.unusedVariables false
theorem wrap_u64 (n : Int) : IntKind.u64.wrap n = n % 18446744073709551616 := by simp [IntKind.wrap, IntKind.bits, IntKind.signed]
theorem u64_and255 (x : Int) (h0 : 0 ≤ x) (h1 : x < 18446744073709551616) : bits .and .u64 x 255 = x % 256 :=
  bits_mask .u64 64 (by decide) (fun n a b => by rw [wrap_u64]; omega) 8 (by decide) x h0 h1
def Bytes (l : List Int) : Prop := ∀ x ∈ l, 0 ≤ x ∧ x ≤ 255
theorem bytes_rd {l : List Int} (h : Bytes l) (i : Int) : 0 ≤ rd l i ∧ rd l i ≤ 255 := by
  unfold rd
  rw [List.getD_eq_getElem?_getD]
  by_cases hi : i.toNat < l.length
  · rw [List.getElem?_eq_getElem hi]
    exact h _ (List.getElem_mem hi)
  · rw [List.getElem?_eq_none (by omega)]
    simp
theorem next_ok {l : List Int} (hl : Bytes l) (p q : Int) (h0 : 0 ≤ p) (h1 : p ≤ 1000000000000) : ∃ b q', spec_l1Cur_next.f l p q = some (b, p + 1, q') ∧ 0 ≤ b ∧ b ≤ 255 := by
  have hr := bytes_rd hl p
  have e : ∀ y : Int, 0 ≤ wrap64 (bits .and .u64 (IntKind.u64.wrap y / 1099511627776) 255) ∧ wrap64 (bits .and .u64 (IntKind.u64.wrap y / 1099511627776) 255) ≤ 255 := by
    intro y
    rw [wrap_u64, u64_and255 _ (by omega) (by omega), w64 (by omega) (by omega)]
    omega
  unfold spec_l1Cur_next.f
  rw [w64 (x := p + 1) (by omega) (by omega), w64 (x := rd l p) (by omega) (by omega)]
  by_cases a : p < (l.length : Int)
  · rw [if_pos a, if_pos h0]
    by_cases b : p + 1 ≤ (l.length : Int)
    · rw [if_pos b]
      exact ⟨_, _, rfl, hr⟩
    · rw [if_neg b]
      exact ⟨_, _, rfl, e _⟩
  · rw [if_neg a]
    by_cases b : p + 1 ≤ (l.length : Int)
    · rw [if_pos b]
      exact ⟨_, _, rfl, by omega⟩
    · rw [if_neg b]
      exact ⟨_, _, rfl, e _⟩
theorem pick_ok {l : List Int} (hl : Bytes l) (p q n : Int) (h0 : 0 ≤ p) (h1 : p ≤ 100000000000) (hn : n ≤ 1000000000000) : ∃ r p' q', spec_l1Cur_pick.f l p q n = some (r, p', q') ∧ 0 ≤ r ∧ (r < n ∨ n ≤ 1 ∧ r = 0) ∧ p ≤ p' ∧ p' ≤ p + 2 := by
  unfold spec_l1Cur_pick.f
  by_cases a : n ≤ 1
  · rw [if_pos a]
    exact ⟨0, p, q, rfl, by omega, by omega, by omega, by omega⟩
  · rw [if_neg a]
    obtain ⟨b, q1, e1, hb⟩ := next_ok hl p q h0 (by omega)
    rw [e1]
    simp only [Option.bind_some]
    by_cases c : n > 200
    · rw [if_pos c]
      obtain ⟨b2, q2, e2, hb2⟩ := next_ok hl (p + 1) q1 (by omega) (by omega)
      rw [e2]
      simp only [Option.bind_some]
      rw [if_neg (by omega), w64 (x := b * 256) (by omega) (by omega), w64 (x := b * 256 + b2) (by omega) (by omega), tmod_pos (by omega)]
      refine ⟨_, _, _, rfl, Int.emod_nonneg _ (by omega), .inl (Int.emod_lt_of_pos _ (by omega)), by omega, by omega⟩
    · rw [if_neg c, if_neg (by omega), tmod_pos (by omega)]
      refine ⟨_, _, _, rfl, Int.emod_nonneg _ (by omega), .inl (Int.emod_lt_of_pos _ (by omega)), by omega, by omega⟩
end Go.Proofs.Ytacfalpgmibfnaa.ZCow
namespace Go.Proofs.Ytacfalpgmibfnaa.PCow
open Go.RowKit Go.Proofs.YtacfalpgmibfnaaW.PrintWords Go.Proofs.YtacfalpgmibfnaaW.PrintLast Go.Proofs.YtacfalpgmibfnaaW.PrintMore
attribute [local go_sem] max2_int min2_int max_two min_two max_three min_three max_four min_four
set_option linter.unusedVariables false
set_option linter.unusedSimpArgs false
def spec_l1Cur_of.f (s0_0 : List Int) (s0_1 : Int) (s0_2 : Int) (l1 : List ByteArray) : Option (ByteArray × Int × Int) := (spec_l1Cur_pick.f s0_0 s0_1 s0_2 (l1.length : Int)).bind fun bt567 => (if 0 ≤ bt567.1 then (if bt567.1 < (l1.length : Int) then (some (rdOf ByteArray.empty l1 bt567.1, bt567.2.1, bt567.2.2)) else (none)) else (none))
set_option maxHeartbeats 8000000 in
set_option maxRecDepth 100000 in
theorem spec_l1Cur_of.calls (g : Nat) (s0_0 : List Int) (s0_1 : Int) (s0_2 : Int) (A1 : Option Addr) (c1 : Nat) (l1 : List ByteArray) (r1 : ByteArray) (r2 : Int) (r3 : Int) (w0 w : World) (hI : IsS93 w0 w g s0_0 s0_1 s0_2) (hB : Below w0.heap.size w0 w) (hr1 : Kd.C Kd.string w A1 l1.length l1) (hc1 : l1.length ≤ c1) (hf1 : ∀ ad, A1 = some ad → 0 < l1.length → ad.block ≠ g) (h : spec_l1Cur_of.f s0_0 s0_1 s0_2 l1 = some (r1, r2, r3)) :
  Calls Try.prog 78 #[.pointer (some ⟨g, 0, none⟩), .slice A1 l1.length c1] w fun e w' => e = .returned (.string r1) ∧ IsS93 w0 w' g s0_0 r2 r3 ∧ Below w0.heap.size w0 w' ∧ KeepBut w w' g none := by
 have HR1 := Aside0.mk hr1
 have HC1 := Aside0.mk hc1
 clear hr1 hc1
 have HI0 := Aside0.mk hI
 have HK := Aside0.mk (KeepBut.refl w g none)
 have HL := Aside0.mk hB.size
 clear hI
 have HW0 := Aside0.mk hB.size
 have HB := Aside0.mk hB
 clear hB
 have H : ((spec_l1Cur_pick.f s0_0 s0_1 s0_2 (l1.length : Int)).bind fun bt567 => (if 0 ≤ bt567.1 then (if bt567.1 < (l1.length : Int) then (some (rdOf ByteArray.empty l1 bt567.1, bt567.2.1, bt567.2.2)) else (none)) else (none))) = some (r1, r2, r3) := h
 clear h
 replace H := Option.bind_eq_some_iff.mp H
 obtain ⟨⟨t567, t568, t569⟩, A30, H⟩ := H
 replace H : (if 0 ≤ t567 then (if t567 < (l1.length : Int) then (some (rdOf ByteArray.empty l1 t567, t568, t569)) else (none)) else (none)) = some (r1, r2, r3) := H
 have A3 := Aside0.mk A30
 clear A30
 by_cases c4 : 0 ≤ t567
 ·rw [if_pos c4] at H
  have c4b0 : decide (0 ≤ t567) = true := decide_eq_true c4
  clear c4
  by_cases c5 : t567 < (l1.length : Int)
  ·rw [if_pos c5] at H
   have c5b0 : decide (t567 < (l1.length : Int)) = true := decide_eq_true c5
   clear c5
   simp only [Option.some.injEq, Prod.mk.injEq] at H
   obtain ⟨rfl, rfl, rfl⟩ := H
   go_enter Try.func78, Try.ntmps78
   go_wp2_with (first | ((with_reducible refine gate_callee (f := 77) rfl ?_); refine goesL_ (some 9) rfl rfl Try.func77 (by kernel_rfl) rfl #[.pointer (some ⟨g, 0, none⟩), .int .i64 (l1.length : Int)] rfl (by (try simp only [List.map_toArray, List.map_cons, List.map_nil]); first | done | rfl | (simp only [List.length_drop, List.length_take]; rfl)) ?_; (with_reducible refine (spec_l1Cur_pick.calls g s0_0 s0_1 s0_2 (l1.length : Int) t567 t568 t569 w0 _ ?side1 ?side2 A3.out).mono ?_); (case side1 => with_reducible repeat (first | exact HI0.out | apply IsS93.alloc | apply IsS93.drewN | apply IsS93.drew | apply IsS93.set_1 | apply IsS93.set_2)); (case side2 => with_reducible repeat (first | exact HB.out | apply below_alloc | apply pw_below_drewN | apply below_drew1 | refine below_set ?_ (IsS93.ge HI0.out))); rintro e w6 ⟨rfl, hi, hb, hk⟩; refine ⟨_, rfl, ?_⟩; replace HK := Aside0.mk (KeepBut.trans (by with_reducible repeat (first | exact HK.out | apply KeepBut.set_ | apply keep_drewN | apply keep_drew | apply keep_alloc)) hk (.inl rfl)); replace HB := Aside0.mk (hb); replace HI0 := Aside0.mk (hi); (try clear hb); (try clear hb2); (try clear hk); (try clear hi); have p570 : 0 ≤ (t567 : Int) := of_decide_eq_true (by assumption); have q570 : t567 < (l1.length : Int) := of_decide_eq_true (by assumption); obtain ⟨ad570, e570, hx570_0⟩ := Kd.at_string HR1.out t567 p570 q570; cases e570; replace hx570_0 := keep_cell HK.out hx570_0 (by first | (rw [add_block]; exact hf1 _ rfl (by omega)) | exact hf1 _ rfl (by omega) | exact hf1 ad570 rfl (by omega)); replace p570 := eq_true p570; replace q570 := eq_true q570))
   go_ret
   exact ⟨by first | rfl | (simp [errW_none, errW_some] <;> rfl) | (simp [*, errW_none, errW_some] <;> rfl) | (simp [E.isEmpty_bne]; done) | (rw [E.bne_empty]), by (try simp only [Int.add_zero]); with_reducible repeat (first | exact HI0.out | apply IsS93.alloc | apply IsS93.drewN | apply IsS93.drew | apply IsS93.set_1 | apply IsS93.set_2), by with_reducible repeat (first | exact HB.out | apply below_alloc | apply pw_below_drewN | apply below_drew1 | refine below_set ?_ (IsS93.ge HI0.out)), by with_reducible repeat (first | exact HK.out | apply KeepBut.set_ | apply keep_drewN | apply keep_drew | apply keep_alloc)⟩
  ·rw [if_neg c5] at H
   exact absurd H (by simp)
 ·rw [if_neg c4] at H
  exact absurd H (by simp)
end Go.Proofs.Ytacfalpgmibfnaa.PCow
namespace Go.Proofs.Ytacfalpgmibfnaa.ZCow
open Go.RowKit Go.Proofs.Ytacfalpgmibfnaa.PCow Go.Proofs.YtacfalpgmibfnaaW.PrintWords Go.Proofs.YtacfalpgmibfnaaW.PrintLast Go.Proofs.YtacfalpgmibfnaaW.PrintMore Go.Proofs.Ytacfalpgmibfnaa.E
set_option linter.unusedSimpArgs false
set_option linter.unusedVariables false
theorem of_ok {l : List Int} (hl : Bytes l) (p q : Int) (xs : List ByteArray) (h0 : 0 ≤ p) (h1 : p ≤ 100000000000) (hx : 1 ≤ xs.length) (hx2 : xs.length ≤ 1000000) :
    ∃ r p' q', spec_l1Cur_of.f l p q xs = some (r, p', q') ∧ r ∈ xs ∧ p ≤ p' ∧ p' ≤ p + 2 := by
  obtain ⟨i, p1, q1, e1, h2, h3, h4, h5⟩ := pick_ok hl p q xs.length h0 h1 (by omega)
  have hi : i.toNat < xs.length := by omega
  refine ⟨rdOf ByteArray.empty xs i, p1, q1, ?_, ?_, h4, h5⟩
  · unfold spec_l1Cur_of.f
    rw [e1]
    simp only [Option.bind_some]
    rw [if_pos h2, if_pos (by omega)]
  · unfold rdOf
    rw [List.getD_eq_getElem?_getD, List.getElem?_eq_getElem hi]
    exact List.getElem_mem hi
end Go.Proofs.Ytacfalpgmibfnaa.ZCow
namespace Go.Proofs.Ytacfalpgmibfnaa.PCow
open Go.RowKit Go.Proofs.YtacfalpgmibfnaaW.PrintWords Go.Proofs.YtacfalpgmibfnaaW.PrintLast Go.Proofs.YtacfalpgmibfnaaW.PrintMore
attribute [local go_sem] max2_int min2_int max_two min_two max_three min_three max_four min_four
set_option linter.unusedVariables false
set_option linter.unusedSimpArgs false
def spec_NewCow.f (a0 : Int) : Option ((List (S68)) × List Int × Int × Bool) := (spec_l1In.f a0 1 3).bind fun t556 => (if t556 = true then (some (([] : List (S68)), (([(-1)] : List Int)), a0, true)) else (some (([] : List (S68)), ([] : List Int), 0, false)))
set_option maxHeartbeats 8000000 in
set_option maxRecDepth 100000 in
theorem spec_NewCow.calls (a0 : Int) (r1 : List (S68)) (r2 : List Int) (r3 : Int) (r4 : Bool) (w : World) (h : spec_NewCow.f a0 = some (r1, r2, r3, r4)) :
  Calls Try.prog 14 #[.int .i64 a0] w fun e w' => ∃ v0_ v1_ : Value, e = .returned (.tuple #[.agg #[v0_, v1_, .int .i64 r3], .bool r4]) ∧ Kd.S k68 68 w' w.heap.size (fun k_ => some k_ ≠ (v1_ : Value).ownBlock) v0_ r1 ∧ Kd.R (Kd.int .i64) 3 w' w.heap.size (fun _ => True) v1_ r2 ∧ Below w.heap.size w w' := by
 have hu25 := Try.underlying25
 have HB := Aside0.mk (Below.refl w.heap.size w)
 have H : ((spec_l1In.f a0 1 3).bind fun t556 => (if t556 = true then (some (([] : List (S68)), (([(-1)] : List Int)), a0, true)) else (some (([] : List (S68)), ([] : List Int), 0, false)))) = some (r1, r2, r3, r4) := h
 clear h
 replace H := Option.bind_eq_some_iff.mp H
 obtain ⟨t556, A20, H⟩ := H
 replace H : (if t556 = true then (some (([] : List (S68)), (([(-1)] : List Int)), a0, true)) else (some (([] : List (S68)), ([] : List Int), 0, false))) = some (r1, r2, r3, r4) := H
 have A2 := Aside0.mk A20
 clear A20
 by_cases c3 : t556 = true
 ·subst c3
  have H1 : (some (([] : List (S68)), (([(-1)] : List Int)), a0, true)) = some (r1, r2, r3, r4) := by rw [if_pos rfl] at H; exact H
  clear H
  have H := H1
  clear H1
  obtain ⟨y557, hy557⟩ : ∃ y_ : List Int, y_ = (([(-1)] : List Int)) := ⟨_, rfl⟩
  replace H : (some (([] : List (S68)), y557, a0, true)) = some (r1, r2, r3, r4) := by first | (rw [hy557]; with_reducible exact H) | (have H2_ := (Option.bind_some _ _).symm.trans H; rw [hy557]; with_reducible exact H2_) | (have H2_ := (Option.bind_some _ _).symm.trans H; with_reducible exact H2_) | with_reducible exact H | (rw [hy557]; exact H) | exact H
  have Ny557 := Aside0.mk hy557
  clear hy557
  simp only [Option.some.injEq, Prod.mk.injEq] at H
  obtain ⟨rfl, rfl, rfl, rfl⟩ := H
  go_enter Try.func14, Try.ntmps14
  go_wp2_with (first | ((with_reducible refine gate_dst (N := 2) rfl ?_); refine box_event ?hg (N := 2) ?hd (cs := #[.slice none 0 0, .slice none 0 0, .int .i64 0]) (t := 25) ?hr ?_; (case hd => rfl); (case hg => rfl); (case hr => first | (go_simp; done) | (go_simp; rfl)); intro gb555 hg w4 hbox hb; have BK555 := Aside0.mk (hbox); have GW555 := Aside0.mk ((by rw [hg]; exact (below_size (by with_reducible repeat (first | exact HB.out | apply below_alloc | apply pw_below_drewN | apply below_drew1))) : w.heap.size ≤ gb555)); have GE555 := Aside0.mk ((by rw [hg]; exact (below_size (by with_reducible repeat (first | exact HB.out | apply below_alloc | apply pw_below_drewN | apply below_drew1))) : w.heap.size ≤ gb555)); replace HB := Aside0.mk (below_step (by with_reducible repeat (first | exact HB.out | apply below_alloc | apply pw_below_drewN | apply below_drew1)) hb); clear hb hbox hg) | ((with_reducible refine gate_callee (f := 44) rfl ?_); refine goesL_ (some 5) rfl rfl Try.func44 (by kernel_rfl) rfl #[.int .i64 a0, .int .i64 1, .int .i64 3] rfl (by (try simp only [List.map_toArray, List.map_cons, List.map_nil]); first | done | rfl | (simp only [List.length_drop, List.length_take]; rfl)) ?_; (with_reducible refine (spec_l1In.calls a0 1 3 true _ A2.out).mono ?_); rintro e w' ⟨rfl, ⟨nd, rfl⟩⟩; refine ⟨_, rfl, ?_⟩; (try (rw [drewN_self w4]; generalize hq_ : World.drewN w4 _ = w4; have n0_ : Aside0 (w4.heap[gb555]? = some (.cells #[.slice none 0 0, .slice none 0 0, .int .i64 0] 25 (0, 0))) := ⟨by rw [← hq_]; exact (by (with_reducible repeat (first | refine blk_drewN ?_ _ | refine blk_drew ?_ | refine blk_alloc ?_ _)); exact BK555.out)⟩; have n1_ : Aside0 (Below w.heap.size w w4) := ⟨by rw [← hq_]; exact (by with_reducible repeat (first | exact HB.out | apply below_alloc | apply pw_below_drewN | apply below_drew1 | refine below_set ?_ GE555.out))⟩; clear BK555 HB hq_; have BK555 := n0_; have HB := n1_; clear n0_ n1_))) | ((with_reducible refine gate_dst (N := 9) rfl ?_); refine Kd.R_lit (Kd.int .i64) _ 3 ?hg (N := 9) ?hd (xs := ([(-1)] : List Int)) (inner := [.int .i64 (-1)]) (ok := fun _ => True) (okp := fun _ => True) ?hr ?hp (fun _ hk => hk) trivial (Below.refl _ _) (Nat.le_refl _) (by simp) ?_; (case hd => rfl); (case hg => rfl); (case hr => first | (go_simp; done) | (go_simp; rfl)); (case hp => exact (Reps.one (show Kd.M (Kd.int .i64) _ _ _ (-1) [.int .i64 (-1)] from rfl) (Reps.none _ _))); intro v558 w5 ho6 hb hg_ hnew_; clear hg_ hnew_; (first | rw [← Ny557.out] at ho6 | (simp only [Int.reduceToNat] at ho6; rw [← Ny557.out] at ho6)); have HO559 := Aside0.mk (Kd.R_lower ho6 (below_size (by with_reducible repeat (first | exact HB.out | apply below_alloc | apply pw_below_drewN | apply below_drew1 | refine below_set ?_ GE555.out)))); replace BK555 := Aside0.mk (blk_below (g := gb555) (o := .cells #[.slice none 0 0, .slice none 0 0, .int .i64 0] 25 (0, 0)) (by (with_reducible repeat (first | refine blk_drewN ?_ _ | refine blk_drew ?_ | refine blk_alloc ?_ _)); exact BK555.out) hb); replace HB := Aside0.mk (below_step (by with_reducible repeat (first | exact HB.out | apply below_alloc | apply pw_below_drewN | apply below_drew1 | refine below_set ?_ GE555.out)) hb); clear hb ho6; obtain ⟨Ao7, co7, eo7⟩ := Kd.R_slice HO559.out; subst eo7; have hcz8_0 : w5.cell? ⟨gb555, 0, none⟩ = some (.slice none 0 0) := (blk_cell BK555.out 0).trans rfl; have hcz8_1 : w5.cell? ⟨gb555, 1, none⟩ = some (.slice none 0 0) := (blk_cell BK555.out 1).trans rfl; have hcz8_2 : w5.cell? ⟨gb555, 2, none⟩ = some (.int .i64 0) := (blk_cell BK555.out 2).trans rfl; have hfz8_0 := blk_frozen BK555.out 0; have hfz8_1 := blk_frozen BK555.out 1; have hfz8_2 := blk_frozen BK555.out 2))
  refine bodyPost_ret (results_ct rfl _ _ gb555 25 #[.slice none 0 0, .slice Ao7 y557.length co7, .int .i64 a0] (0, 0) _ rfl (by (with_reducible repeat (first | refine blk_drewN ?_ _ | refine blk_drew ?_ | refine blk_alloc ?_ _)); refine blk_put (cs := #[.slice none 0 0, .slice Ao7 y557.length co7, .int .i64 0]) ?_ 2 _ rfl; (with_reducible repeat (first | refine blk_drewN ?_ _ | refine blk_drew ?_ | refine blk_alloc ?_ _)); refine blk_put (cs := #[.slice none 0 0, .slice none 0 0, .int .i64 0]) ?_ 1 _ rfl; (with_reducible repeat (first | refine blk_drewN ?_ _ | refine blk_drew ?_ | refine blk_alloc ?_ _)); refine blk_put (cs := #[.slice none 0 0, .slice none 0 0, .int .i64 0]) ?_ 0 _ rfl; (with_reducible repeat (first | refine blk_drewN ?_ _ | refine blk_drew ?_ | refine blk_alloc ?_ _)); exact BK555.out) Try.underlying25 rfl (by kernel_rfl)) rfl ?_
  exact ⟨_, _, by first | rfl | (simp [errW_none, errW_some] <;> rfl) | (simp [*, errW_none, errW_some] <;> rfl) | (simp [E.isEmpty_bne]; done) | (rw [E.bne_empty]), by first | exact Kd.S_nil _ _ _ _ _ | exact Kd.N_nil _ _ _ _ _ | exact Kd.V_nil _ _ _ _ _ | exact Kd.Q_nil _ _ _ _ _ | exact Kd.R_nil _ _ _ _ _, by (with_reducible repeat (first | apply Kd.R_alloc | apply Kd.R_drewN | apply Kd.R_drew)); exact Kd.R_mono (Kd.R_far (p := ⟨gb555, 2, none⟩) (Kd.R_far (p := ⟨gb555, 1, none⟩) (Kd.R_far (p := ⟨gb555, 0, none⟩) (Kd.R_types HO559.out BK555.out (by decide)) (fun _ hk => hk.2) (.slice none 0 0)) (fun _ hk => hk.2) (.slice Ao7 y557.length co7)) (fun _ hk => hk.2) (.int .i64 a0)) (fun _ hk => trivial), by with_reducible repeat (first | exact HB.out | apply below_alloc | apply pw_below_drewN | apply below_drew1 | refine below_set ?_ GE555.out)⟩
 ·replace c3 := Bool.eq_false_iff.mpr c3
  subst c3
  have H1 : (some (([] : List (S68)), ([] : List Int), 0, false)) = some (r1, r2, r3, r4) := by rw [if_neg (show ¬ (false = true) by decide)] at H; exact H
  clear H
  have H := H1
  clear H1
  simp only [Option.some.injEq, Prod.mk.injEq] at H
  obtain ⟨rfl, rfl, rfl, rfl⟩ := H
  go_enter Try.func14, Try.ntmps14
  go_wp2_with (first | ((with_reducible refine gate_dst (N := 2) rfl ?_); refine box_event ?hg (N := 2) ?hd (cs := #[.slice none 0 0, .slice none 0 0, .int .i64 0]) (t := 25) ?hr ?_; (case hd => rfl); (case hg => rfl); (case hr => first | (go_simp; done) | (go_simp; rfl)); intro gb555 hg w9 hbox hb; have BK555 := Aside0.mk (hbox); have GW555 := Aside0.mk ((by rw [hg]; exact (below_size (by with_reducible repeat (first | exact HB.out | apply below_alloc | apply pw_below_drewN | apply below_drew1))) : w.heap.size ≤ gb555)); have GE555 := Aside0.mk ((by rw [hg]; exact (below_size (by with_reducible repeat (first | exact HB.out | apply below_alloc | apply pw_below_drewN | apply below_drew1))) : w.heap.size ≤ gb555)); replace HB := Aside0.mk (below_step (by with_reducible repeat (first | exact HB.out | apply below_alloc | apply pw_below_drewN | apply below_drew1)) hb); clear hb hbox hg) | ((with_reducible refine gate_callee (f := 44) rfl ?_); refine goesL_ (some 5) rfl rfl Try.func44 (by kernel_rfl) rfl #[.int .i64 a0, .int .i64 1, .int .i64 3] rfl (by (try simp only [List.map_toArray, List.map_cons, List.map_nil]); first | done | rfl | (simp only [List.length_drop, List.length_take]; rfl)) ?_; (with_reducible refine (spec_l1In.calls a0 1 3 false _ A2.out).mono ?_); rintro e w' ⟨rfl, ⟨nd, rfl⟩⟩; refine ⟨_, rfl, ?_⟩; (try (rw [drewN_self w9]; generalize hq_ : World.drewN w9 _ = w9; have n0_ : Aside0 (w9.heap[gb555]? = some (.cells #[.slice none 0 0, .slice none 0 0, .int .i64 0] 25 (0, 0))) := ⟨by rw [← hq_]; exact (by (with_reducible repeat (first | refine blk_drewN ?_ _ | refine blk_drew ?_ | refine blk_alloc ?_ _)); exact BK555.out)⟩; have n1_ : Aside0 (Below w.heap.size w w9) := ⟨by rw [← hq_]; exact (by with_reducible repeat (first | exact HB.out | apply below_alloc | apply pw_below_drewN | apply below_drew1 | refine below_set ?_ GE555.out))⟩; clear BK555 HB hq_; have BK555 := n0_; have HB := n1_; clear n0_ n1_)); have hcz10_0 : w9.cell? ⟨gb555, 0, none⟩ = some (.slice none 0 0) := (blk_cell BK555.out 0).trans rfl; have hcz10_1 : w9.cell? ⟨gb555, 1, none⟩ = some (.slice none 0 0) := (blk_cell BK555.out 1).trans rfl; have hcz10_2 : w9.cell? ⟨gb555, 2, none⟩ = some (.int .i64 0) := (blk_cell BK555.out 2).trans rfl; have hfz10_0 := blk_frozen BK555.out 0; have hfz10_1 := blk_frozen BK555.out 1; have hfz10_2 := blk_frozen BK555.out 2))
  refine bodyPost_ret (results_ct rfl _ _ gb555 25 #[.slice none 0 0, .slice none 0 0, .int .i64 0] (0, 0) _ rfl (by (with_reducible repeat (first | refine blk_drewN ?_ _ | refine blk_drew ?_ | refine blk_alloc ?_ _)); refine blk_put (cs := #[.slice none 0 0, .slice none 0 0, .int .i64 0]) ?_ 2 _ rfl; (with_reducible repeat (first | refine blk_drewN ?_ _ | refine blk_drew ?_ | refine blk_alloc ?_ _)); refine blk_put (cs := #[.slice none 0 0, .slice none 0 0, .int .i64 0]) ?_ 1 _ rfl; (with_reducible repeat (first | refine blk_drewN ?_ _ | refine blk_drew ?_ | refine blk_alloc ?_ _)); refine blk_put (cs := #[.slice none 0 0, .slice none 0 0, .int .i64 0]) ?_ 0 _ rfl; (with_reducible repeat (first | refine blk_drewN ?_ _ | refine blk_drew ?_ | refine blk_alloc ?_ _)); exact BK555.out) Try.underlying25 rfl (by kernel_rfl)) rfl ?_
  exact ⟨_, _, by first | rfl | (simp [errW_none, errW_some] <;> rfl) | (simp [*, errW_none, errW_some] <;> rfl) | (simp [E.isEmpty_bne]; done) | (rw [E.bne_empty]), by first | exact Kd.S_nil _ _ _ _ _ | exact Kd.N_nil _ _ _ _ _ | exact Kd.V_nil _ _ _ _ _ | exact Kd.Q_nil _ _ _ _ _ | exact Kd.R_nil _ _ _ _ _, by first | exact Kd.R_nil _ _ _ _ _ | exact Kd.N_nil _ _ _ _ _ | exact Kd.V_nil _ _ _ _ _ | exact Kd.Q_nil _ _ _ _ _ | exact Kd.S_nil _ _ _ _ _, by with_reducible repeat (first | exact HB.out | apply below_alloc | apply pw_below_drewN | apply below_drew1 | refine below_set ?_ GE555.out)⟩
open Go.RowKit Go.Proofs.YtacfalpgmibfnaaW.PrintWords Go.Proofs.YtacfalpgmibfnaaW.PrintLast Go.Proofs.YtacfalpgmibfnaaW.PrintMore Go.Proofs.Ytacfalpgmibfnaa.E Go.Proofs.Ytacfalpgmibfnaa.ZCow
def szC (C : List CL) (R : List Int) : Prop := C.length ≤ 80 ∧ 1 ≤ R.length ∧ R.length ≤ 8 ∧ ∀ x ∈ C, x.f2.length ≤ 1048576
theorem take_ex {C : List CL} {R : List Int} (h : szC C R) (L a : Int) : ∃ (k : Nat) (C1 : List CL) (R1 : List Int) (L1 : Int) (b : Bool), spec_TakePicture.f k C R L a = some (C1, R1, L1, b) ∧ (b = true → szC C1 R1 ∧ 1 ≤ L1 ∧ L1 ≤ 3) := by
 obtain ⟨C1, R1, L1, b, h1, h2, h3, h4, ⟨k, e⟩⟩ := take_s C R L a h.2.2.2
 exact ⟨k, C1, R1, L1, b, e k (Nat.le_refl _), fun hb => ⟨⟨h1, (h4 hb).1, h2, h3⟩, (h4 hb).2⟩⟩
theorem drop_ex {C : List CL} {R : List Int} (h : szC C R) (L a : Int) : ∃ (k : Nat) (C1 : List CL) (R1 : List Int) (L1 : Int) (b : Bool), spec_DropPicture.f k C R L a = some (C1, R1, L1, b) ∧ (b = true → szC C1 R1 ∧ 1 ≤ L1 ∧ L1 ≤ 3) := by
 obtain ⟨C1, R1, L1, b, h1, h2, h3, h4, ⟨k, e⟩⟩ := drop_s C R L a h.2.2.2
 exact ⟨k, C1, R1, L1, b, e k (Nat.le_refl _), fun hb => ⟨⟨h1, (h4 hb).1, h2, h3⟩, (h4 hb).2⟩⟩
theorem put_ex {C : List CL} {R : List Int} (h : szC C R) (L a q : Int) (s : ByteArray) : ∃ (k : Nat) (C1 : List CL) (R1 : List Int) (L1 : Int) (b : Bool), spec_PutLeaf.f k C R L a q s = some (C1, R1, L1, b) ∧ (b = true → szC C1 R1 ∧ 1 ≤ L1 ∧ L1 ≤ 3) := by
 obtain ⟨C1, R1, L1, b, h1, h2, h3, h4, ⟨k, e⟩, _⟩ := put_full C R L a q s h.2.2.2
 exact ⟨k, C1, R1, L1, b, e k (Nat.le_refl _), fun hb => ⟨⟨h1, (h4 hb).1, h2, h3⟩, (h4 hb).2⟩⟩
theorem local_cow (w : World) (a b c : Value) : ∃ W1 W2, w.alloc (.cells #[.slice none 0 0, .slice none 0 0, .int .i64 0] 25) = W1 ∧ ((W1.setCell ⟨w.heap.size, 0, none⟩ a).setCell ⟨w.heap.size, 1, none⟩ b).setCell ⟨w.heap.size, 2, none⟩ c = W2 ∧
  W1.cell? ⟨w.heap.size, 0, none⟩ = some (.slice none 0 0) ∧ W1.cell? ⟨w.heap.size, 1, none⟩ = some (.slice none 0 0) ∧ W1.cell? ⟨w.heap.size, 2, none⟩ = some (.int .i64 0) ∧ W1.frozen? ⟨w.heap.size, 0, none⟩ = false ∧ W1.frozen? ⟨w.heap.size, 1, none⟩ = false ∧ W1.frozen? ⟨w.heap.size, 2, none⟩ = false ∧
  Aside0 (W2.heap[w.heap.size]? = some (.cells #[a, b, c] 25 (0, 0))) ∧ Aside0 (Below w.heap.size w W2) := by
 have h1 := heap_alloc_new w (.cells #[.slice none 0 0, .slice none 0 0, .int .i64 0] 25)
 have hb := below_alloc (Below.refl w.heap.size w) (.cells #[.slice none 0 0, .slice none 0 0, .int .i64 0] 25)
 exact ⟨_, _, rfl, rfl, (blk_cell h1 0).trans rfl, (blk_cell h1 1).trans rfl, (blk_cell h1 2).trans rfl, blk_frozen h1 0, blk_frozen h1 1, blk_frozen h1 2, ⟨put3 h1 a b c⟩, ⟨below_set (below_set (below_set hb (Nat.le_refl _)) (Nat.le_refl _)) (Nat.le_refl _)⟩⟩
structure QB (w0 w W : World) (g gz gv : Nat) (l0 : List Int) (p q : Int) (A0 : Option Addr) (c0 : Nat) (C : List CL) (A1 : Option Addr) (c1 : Nat) (R : List Int) (L : Int) : Prop where
 i : IsS93 w0 W g l0 p q
 z : W.heap[gz]? = some (.cells #[.slice none 0 0, .slice none 0 0, .int .i64 0] 25 (0, 0))
 v : W.heap[gv]? = some (.cells #[.slice A0 C.length c0, .slice A1 R.length c1, .int .i64 L] 25 (0, 0))
 s : CS W w.heap.size (fun k => some k ≠ (Value.slice A1 R.length c1).ownBlock) (.slice A0 C.length c0) C
 r : IR W w.heap.size (fun _ => True) (.slice A1 R.length c1) R
 b : Below w0.heap.size w0 W
 k : KeepBut w W g none
structure QC (w0 w : World) (g gz gv : Nat) : Prop where
 lt : g < w.heap.size
 ge : w0.heap.size ≤ g
 z : w.heap.size ≤ gz
 v : w.heap.size ≤ gv
 ne : gz ≠ gv
theorem str5 {W : World} {bt : Nat} (h : W.heap[bt]? = some (.cells #[.string ⟨#[97]⟩, .string ⟨#[98]⟩, .string ⟨#[]⟩, .string ⟨#[108, 101, 97, 102]⟩, .string ⟨#[99]⟩] 9 (0, 0))) : Kd.C Kd.string W (some ⟨bt, 0, none⟩) 5 [⟨#[97]⟩, ⟨#[98]⟩, ⟨#[]⟩, ⟨#[108, 101, 97, 102]⟩, ⟨#[99]⟩] := by
 refine Kd.C_of_reads (enc := Value.string) (d := ByteArray.empty) ⟨rfl, by omega, fun _ => ⟨_, rfl, fun j hj => ?_⟩⟩
 obtain rfl | rfl | rfl | rfl | rfl : j = 0 ∨ j = 1 ∨ j = 2 ∨ j = 3 ∨ j = 4 := by omega
 ·exact (blk_cell h 0).trans rfl
 ·exact (blk_cell h 1).trans rfl
 ·exact (blk_cell h 2).trans rfl
 ·exact (blk_cell h 3).trans rfl
 ·exact (blk_cell h 4).trans rfl
section
variable {w0 w W W1 : World} {g gz gv : Nat} {l0 : List Int} {p q p' q' : Int} {A0 : Option Addr} {c0 : Nat} {C : List CL} {A1 : Option Addr} {c1 : Nat} {R : List Int} {L : Int}
theorem grown_cell (W : World) (g j : Nat) (u : Value) : W.grownBy (W.setCell ⟨g, j, none⟩ u) (some g) :=
 ⟨rfl, rfl, rfl, by simp [World.setCell], fun k _ hk => Below.heap_setCell W ⟨g, j, none⟩ u k (fun e_ => hk (by rw [e_]))⟩
theorem QB.below (h : QB w0 w W g gz gv l0 p q A0 c0 C A1 c1 R L) (hb : Below W.heap.size W W1) : QB w0 w W1 g gz gv l0 p q A0 c0 C A1 c1 R L :=
 ⟨h.i.below hb, blk_below h.z hb, blk_below h.v hb, Kd.S_below h.s hb, Kd.R_below h.r hb, below_step h.b hb, h.k.trans (KeepBut.of_below hb g none) (.inl rfl)⟩
theorem QB.drew (h : QB w0 w W g gz gv l0 p q A0 c0 C A1 c1 R L) : QB w0 w W.drew g gz gv l0 p q A0 c0 C A1 c1 R L := h.below (below_drew1 (Below.refl _ _))
theorem QB.cur (h : QB w0 w W g gz gv l0 p q A0 c0 C A1 c1 R L) (Q : QC w0 w g gz gv) (hi : IsS93 w0 W1 g l0 p' q') (hb : Below w0.heap.size w0 W1) (hk : KeepBut W W1 g none) : QB w0 w W1 g gz gv l0 p' q' A0 c0 C A1 c1 R L :=
 ⟨hi, hk.blk h.z (by have := Q.lt; have := Q.z; omega) (by simp), hk.blk h.v (by have := Q.lt; have := Q.v; omega) (by simp), Kd.S_mono (Kd.S_keep (Kd.S_bound h.s) hk (fun k h_ => by have := h_.2.1; have := Q.lt; omega)) (fun _ h_ => h_.1), Kd.R_mono (Kd.R_keep (Kd.R_bound h.r) hk (fun k h_ => by have := h_.2.1; have := Q.lt; omega)) (fun _ _ => trivial), hb, h.k.trans hk (.inl rfl)⟩
theorem QB.box (h : QB w0 w W g gz gv l0 p q A0 c0 C A1 c1 R L) (Q : QC w0 w g gz gv) {gx : Nat} {cells : Array Value} (hX : W.heap[gx]? = some (.cells cells 25 (0, 0))) (hge : w.heap.size ≤ gx) (hz : gz ≠ gx) (hv : gv ≠ gx) (j : Nat) (u : Value) : QB w0 w (W.setCell ⟨gx, j, none⟩ u) g gz gv l0 p q A0 c0 C A1 c1 R L := by
 have hg : W.grownBy (W.setCell ⟨gx, j, none⟩ u) (some gx) := grown_cell W gx j u
 exact ⟨h.i.grown hg (by have := Q.lt; intro e_; have := Option.some.inj e_; omega), blk_far h.z hz _, blk_far h.v hv _, Kd.S_set h.s hX (by decide) j u, Kd.R_set h.r hX (by decide) j u, below_set h.b (by have := Q.lt; have := Q.ge; show w0.heap.size ≤ gx; omega), keep_far h.k hge u⟩
theorem QB.box3 (h : QB w0 w W g gz gv l0 p q A0 c0 C A1 c1 R L) (Q : QC w0 w g gz gv) {gx : Nat} {a b c : Value} (hX : W.heap[gx]? = some (.cells #[a, b, c] 25 (0, 0))) (hge : w.heap.size ≤ gx) (hz : gz ≠ gx) (hv : gv ≠ gx) (x y z : Value) : QB w0 w (((W.setCell ⟨gx, 0, none⟩ x).setCell ⟨gx, 1, none⟩ y).setCell ⟨gx, 2, none⟩ z) g gz gv l0 p q A0 c0 C A1 c1 R L :=
 ((h.box Q hX hge hz hv 0 x).box Q (blk_put (cs := #[a, b, c]) hX 0 x rfl) hge hz hv 1 y).box Q (blk_put (cs := #[x, b, c]) (blk_put (cs := #[a, b, c]) hX 0 x rfl) 1 y rfl) hge hz hv 2 z
theorem s_set3 {base gx : Nat} {ok : Nat → Prop} {a b c x y z v : Value} {D : List CL} (h : CS W base ok v D) (hX : W.heap[gx]? = some (.cells #[a, b, c] 25 (0, 0))) : CS (((W.setCell ⟨gx, 0, none⟩ x).setCell ⟨gx, 1, none⟩ y).setCell ⟨gx, 2, none⟩ z) base ok v D :=
 Kd.S_set (Kd.S_set (Kd.S_set h hX (by decide) 0 x) (blk_put (cs := #[a, b, c]) hX 0 x rfl) (by decide) 1 y) (blk_put (cs := #[x, b, c]) (blk_put (cs := #[a, b, c]) hX 0 x rfl) 1 y rfl) (by decide) 2 z
theorem r_set3 {base gx : Nat} {ok : Nat → Prop} {a b c x y z v : Value} {D : List Int} (h : IR W base ok v D) (hX : W.heap[gx]? = some (.cells #[a, b, c] 25 (0, 0))) : IR (((W.setCell ⟨gx, 0, none⟩ x).setCell ⟨gx, 1, none⟩ y).setCell ⟨gx, 2, none⟩ z) base ok v D :=
 Kd.R_set (Kd.R_set (Kd.R_set h hX (by decide) 0 x) (blk_put (cs := #[a, b, c]) hX 0 x rfl) (by decide) 1 y) (blk_put (cs := #[x, b, c]) (blk_put (cs := #[a, b, c]) hX 0 x rfl) 1 y rfl) (by decide) 2 z
theorem QB.move {A0' : Option Addr} {c0' : Nat} {C' : List CL} {A1' : Option Addr} {c1' : Nat} {R' : List Int} {L' : Int} (h : QB w0 w W g gz gv l0 p q A0 c0 C A1 c1 R L) (Q : QC w0 w g gz gv) (hs : CS W w.heap.size (fun k => some k ≠ (Value.slice A1' R'.length c1').ownBlock) (.slice A0' C'.length c0') C') (hr : IR W w.heap.size (fun _ => True) (.slice A1' R'.length c1') R') :
  QB w0 w (((W.setCell ⟨gv, 0, none⟩ (.slice A0' C'.length c0')).setCell ⟨gv, 1, none⟩ (.slice A1' R'.length c1')).setCell ⟨gv, 2, none⟩ (.int .i64 L')) g gz gv l0 p q A0' c0' C' A1' c1' R' L' := by
 have hn : g ≠ gv := by have := Q.lt; have := Q.v; omega
 have hw0 : w0.heap.size ≤ gv := by have := Q.lt; have := Q.ge; have := Q.v; omega
 exact ⟨((h.i.far (p := ⟨gv, 0, none⟩) hn _).far (p := ⟨gv, 1, none⟩) hn _).far (p := ⟨gv, 2, none⟩) hn _, blk_far (blk_far (blk_far h.z (show gz ≠ (⟨gv, _, none⟩ : Addr).block from Q.ne) _) (show gz ≠ (⟨gv, _, none⟩ : Addr).block from Q.ne) _) (show gz ≠ (⟨gv, _, none⟩ : Addr).block from Q.ne) _, put3 h.v _ _ _, s_set3 hs h.v, r_set3 hr h.v, below_set (below_set (below_set h.b hw0) hw0) hw0, keep_far (keep_far (keep_far h.k (p := ⟨gv, 0, none⟩) Q.v _) (p := ⟨gv, 1, none⟩) Q.v _) (p := ⟨gv, 2, none⟩) Q.v _⟩
theorem QB.setC {gc : Nat} (h : QB w0 w W g gz gv l0 p q (some ⟨gc, 0, none⟩) c0 C A1 c1 R L) (Q : QC w0 w g gz gv) (i : Int) (h0 : 0 ≤ i) (h1 : i < (C.length : Int)) (x : Int) :
  gc ≠ g ∧ QB w0 w (W.setCell ⟨gc, i.toNat * 3, none⟩ (.int .i64 x)) g gz gv l0 p q (some ⟨gc, 0, none⟩) c0 (C.set i.toNat ⟨x, (rd_T68 C i).f1, (rd_T68 C i).f2⟩) A1 c1 R L := by
 have hb := Kd.S_base h.s gc rfl
 have hok := (Kd.S_R h.s).1 gc rfl
 have hz := Kd.S_ne h.s h.z (by decide)
 have hv := Kd.S_ne h.s h.v (by decide)
 have hgc : g ≠ gc := by have := Q.lt; omega
 refine ⟨Ne.symm hgc, h.i.far (p := ⟨gc, i.toNat * 3, none⟩) hgc _, blk_far h.z (p := ⟨gc, i.toNat * 3, none⟩) (fun e_ => hz (by rw [e_]; rfl)) _, ?_, ?_, ?_, below_set h.b (by have := Q.lt; have := Q.ge; omega), keep_far h.k (p := ⟨gc, i.toNat * 3, none⟩) hb _⟩
 ·rw [List.length_set]
  exact blk_far h.v (p := ⟨gc, i.toNat * 3, none⟩) (fun e_ => hv (by rw [e_]; rfl)) _
 ·have := cs_put0 h.s i h0 (by omega) x
  rw [List.length_set]
  exact this
 ·exact Kd.R_mono (Kd.R_far (p := ⟨gc, i.toNat * 3, none⟩) (Kd.R_of_own (Kd.own_of_R h.r) (fun k hk => hk.symm) : IR W w.heap.size (fun k => some k = (Value.slice A1 R.length c1).ownBlock) (.slice A1 R.length c1) R) (fun k hk e_ => hok (by rw [← hk, e_])) _) (fun _ _ => trivial)
theorem QB.setR {gr : Nat} (h : QB w0 w W g gz gv l0 p q A0 c0 C (some ⟨gr, 0, none⟩) c1 R L) (Q : QC w0 w g gz gv) (i : Nat) (x : Int) :
  gr ≠ g ∧ QB w0 w (W.setCell ⟨gr, i, none⟩ (.int .i64 x)) g gz gv l0 p q A0 c0 C (some ⟨gr, 0, none⟩) c1 (R.set i x) L := by
 have hb := Kd.R_base h.r gr rfl
 have hz := Kd.R_ne h.r h.z (by decide)
 have hv := Kd.R_ne h.r h.v (by decide)
 have hgr : g ≠ gr := by have := Q.lt; omega
 have hl : (R.set i x).length = R.length := List.length_set
 refine ⟨Ne.symm hgr, h.i.far (p := ⟨gr, i, none⟩) hgr _, blk_far h.z (p := ⟨gr, i, none⟩) (fun e_ => hz (by rw [e_]; rfl)) _, ?_, ?_, ?_, below_set h.b (by have := Q.lt; have := Q.ge; omega), keep_far h.k (p := ⟨gr, i, none⟩) hb _⟩
 ·rw [hl]
  exact blk_far h.v (p := ⟨gr, i, none⟩) (fun e_ => hv (by rw [e_]; rfl)) _
 ·rw [hl]
  exact Kd.S_far (p := ⟨gr, i, none⟩) h.s (fun k hk e_ => hk (by rw [e_]; rfl)) _
 ·rw [hl]
  exact Kd.R_putn h.r i x
theorem QB.setL (h : QB w0 w W g gz gv l0 p q A0 c0 C A1 c1 R L) (Q : QC w0 w g gz gv) (x : Int) : QB w0 w (W.setCell ⟨gv, 2, none⟩ (.int .i64 x)) g gz gv l0 p q A0 c0 C A1 c1 R x :=
 ⟨h.i.far (p := ⟨gv, 2, none⟩) (by have := Q.lt; have := Q.v; show g ≠ gv; omega) _, blk_far h.z (show gz ≠ (⟨gv, _, none⟩ : Addr).block from Q.ne) _, blk_put (cs := #[.slice A0 C.length c0, .slice A1 R.length c1, .int .i64 L]) h.v 2 _ rfl, Kd.S_set h.s h.v (by decide) 2 _, Kd.R_set h.r h.v (by decide) 2 _, below_set h.b (by have := Q.lt; have := Q.ge; have := Q.v; omega), keep_far h.k (p := ⟨gv, 2, none⟩) Q.v _⟩
theorem QB.ret {x y z : Value} (h : QB w0 w W g gz gv l0 p q A0 c0 C A1 c1 R L) (Q : QC w0 w g gz gv) : CS (((W.setCell ⟨gz, 0, none⟩ x).setCell ⟨gz, 1, none⟩ y).setCell ⟨gz, 2, none⟩ z) w.heap.size (fun k => some k ≠ (Value.slice A1 R.length c1).ownBlock) (.slice A0 C.length c0) C ∧ IR (((W.setCell ⟨gz, 0, none⟩ x).setCell ⟨gz, 1, none⟩ y).setCell ⟨gz, 2, none⟩ z) w.heap.size (fun _ => True) (.slice A1 R.length c1) R ∧
  IsS93 w0 (((W.setCell ⟨gz, 0, none⟩ x).setCell ⟨gz, 1, none⟩ y).setCell ⟨gz, 2, none⟩ z) g l0 p q ∧ Below w0.heap.size w0 (((W.setCell ⟨gz, 0, none⟩ x).setCell ⟨gz, 1, none⟩ y).setCell ⟨gz, 2, none⟩ z) ∧ KeepBut w (((W.setCell ⟨gz, 0, none⟩ x).setCell ⟨gz, 1, none⟩ y).setCell ⟨gz, 2, none⟩ z) g none := by
 have hn : g ≠ gz := by have := Q.lt; have := Q.z; omega
 have hw0 : w0.heap.size ≤ gz := by have := Q.lt; have := Q.ge; have := Q.z; omega
 exact ⟨s_set3 h.s h.z, r_set3 h.r h.z, ((h.i.far (p := ⟨gz, 0, none⟩) hn _).far (p := ⟨gz, 1, none⟩) hn _).far (p := ⟨gz, 2, none⟩) hn _, below_set (below_set (below_set h.b hw0) hw0) hw0, keep_far (keep_far (keep_far h.k (p := ⟨gz, 0, none⟩) Q.z _) (p := ⟨gz, 1, none⟩) Q.z _) (p := ⟨gz, 2, none⟩) Q.z _⟩
end
set_option maxHeartbeats 16000000 in
set_option maxRecDepth 100000 in
theorem curCow_calls (g : Nat) (l0 : List Int) (p0 q0 : Int) (w0 w : World) (hl : Bytes l0) (hp0 : 0 ≤ p0) (hp1 : p0 ≤ 1000) (hI : IsS93 w0 w g l0 p0 q0) (hB : Below w0.heap.size w0 w) :
  Calls Try.prog 76 #[.pointer (some ⟨g, 0, none⟩)] w fun e w' => ∃ (v0_ v1_ : Value) (C : List CL) (R : List Int) (L p q : Int), e = .returned (.agg #[v0_, v1_, .int .i64 L]) ∧ CS w' w.heap.size (fun k => some k ≠ v1_.ownBlock) v0_ C ∧ IR w' w.heap.size (fun _ => True) v1_ R ∧ (0 ≤ p ∧ p ≤ 500000) ∧ szC C R ∧ IsS93 w0 w' g l0 p q ∧ Below w0.heap.size w0 w' ∧ KeepBut w w' g none := by
 have huC := Try.underlying25
 have huE := Try.underlying68
 have huCS := Try.underlying22
 have huI := Try.underlying23
 have HBY := Aside0.mk hl
 obtain ⟨W1, hW1⟩ : ∃ W, w.alloc (.cells #[.slice none 0 0, .slice none 0 0, .int .i64 0] 25) = W := ⟨_, rfl⟩
 have hb1 : Below w.heap.size w W1 := by rw [← hW1]; exact below_alloc (Below.refl _ _) _
 have Z1 := Aside0.mk (show W1.heap[w.heap.size]? = some (.cells #[.slice none 0 0, .slice none 0 0, .int .i64 0] 25 (0, 0)) by rw [← hW1]; exact heap_alloc_new w _)
 obtain ⟨a0, p1, q1, e1, ha0, ha1, hp2, hp3⟩ := pick_ok hl p0 q0 3 hp0 (by omega) (by omega)
 have TT := Aside0.mk (spec_l1Cur_pick.calls g l0 p0 q0 3 a0 p1 q1 w0 W1 (hI.below hb1) (below_step hB hb1) e1)
 have GL := Aside0.mk (show g < w.heap.size ∧ w0.heap.size ≤ g from ⟨hI.lt, hI.ge⟩)
 have KB := Aside0.mk (KeepBut.of_below hb1 g none)
 obtain ⟨L0, hL0⟩ : ∃ z, wrap64 (1 + a0) = z := ⟨_, rfl⟩
 have HL0 := Aside0.mk (show 1 ≤ L0 ∧ L0 ≤ 3 by rw [← hL0, w64 (x := 1 + a0) (by omega) (by omega)]; omega)
 have HPP := Aside0.mk (show 0 ≤ p1 ∧ p1 ≤ 1002 by omega)
 have WZ := Aside0.mk (show w.heap.size < W1.heap.size from blk_lt Z1.out)
 clear hl hp0 hp1 hI hB hb1 e1 ha0 ha1 hp2 hp3
 go_enter Try.func76, Try.ntmps76
 go_wp2_with (go_at_call 77; refine TT.out.mono ?_)
 rintro e w2 ⟨rfl, hI, hB, hK⟩
 have Z2 := Aside0.mk (hK.blk Z1.out (by have := GL.out; omega) (by simp))
 have I2 := Aside0.mk hI
 have B2 := Aside0.mk hB
 replace KB := Aside0.mk (KB.out.trans hK (.inl rfl))
 clear hI hB hK TT Z1 hW1
 have TT := Aside0.mk (spec_NewCow.calls L0 [] [-1] L0 true w2 (by unfold spec_NewCow.f; rw [in_dec, decide_eq_true HL0.out]; rfl))
 go_wp2_with (go_at_call 14; refine TT.out.mono ?_; (rintro e w3 ⟨v0, v1, rfl, hs, hr, hb⟩); (obtain ⟨A0, c0, rfl⟩ := Kd.S_slice hs); (obtain ⟨A1, c1, rfl⟩ := Kd.R_slice hr); (obtain ⟨W4, W5, hW4, hW5, y0, y1, y2, z0, z1, z2, V5, BL⟩ := local_cow w3 (.slice A0 0 c0) (.slice A1 1 c1) (.int .i64 L0)); (have QI := Aside0.mk (show QB w0 w W5 g w.heap.size w3.heap.size l0 p1 q1 A0 c0 [] A1 c1 [-1] L0 from ⟨(I2.out.below hb).below BL.out, blk_below (blk_below Z2.out hb) BL.out, V5.out, Kd.S_lower (Kd.S_below hs BL.out) (keep_size KB.out), Kd.R_lower (Kd.R_below hr BL.out) (keep_size KB.out), below_step (below_step B2.out hb) BL.out, (KB.out.trans (KeepBut.of_below hb g none) (.inl rfl)).trans (KeepBut.of_below BL.out g none) (.inl rfl)⟩)); (have QX := Aside0.mk (show QC w0 w g w.heap.size w3.heap.size from ⟨GL.out.1, GL.out.2, Nat.le_refl _, Nat.le_trans (keep_size KB.out) hb.size, Nat.ne_of_lt (blk_lt (blk_below Z2.out hb))⟩)); clear hs hr hb V5 BL TT)
 generalize w3.heap.size = gv at QI QX ⊢
 clear I2 B2 Z2 KB hW4 hW5 y0 y1 y2 z0 z1 z2
 obtain ⟨a0, p2, q2, e1, ha0, ha1, hp2, hp3⟩ := pick_ok HBY.out p1 q1 16 HPP.out.1 (by have := HPP.out; omega) (by omega)
 have TT := Aside0.mk (spec_l1Cur_pick.calls g l0 p1 q1 16 a0 p2 q2 w0 W5 QI.out.i QI.out.b e1)
 have HA := Aside0.mk (show 0 ≤ a0 ∧ a0 < 16 by omega)
 have HP1 := Aside0.mk (show 0 ≤ p2 ∧ p2 ≤ 1004 by have := HPP.out; omega)
 clear e1 ha0 ha1 hp2 hp3
 go_wp2_with (go_at_call 77; refine TT.out.mono ?_)
 rintro e w6 ⟨rfl, hI, hB, hK⟩
 replace QI := Aside0.mk (QI.out.cur QX.out hI hB hK)
 clear hI hB hK TT HPP
 obtain ⟨n0, rfl⟩ : ∃ n0 : Nat, a0 = (n0 : Int) := ⟨a0.toNat, by have := HA.out; omega⟩
 go_wp2
 go_loopw [5] (fun vi wr => ∃ (n : Nat) (p q : Int) (A0 : Option Addr) (c0 : Nat) (C : List CL) (A1 : Option Addr) (c1 : Nat) (R : List Int) (L : Int), n ≤ 15 ∧ vi = .int .i64 n ∧ Aside0 (0 ≤ p ∧ p + 1000 * (n : Int) ≤ 100000) ∧ Aside0 (szC C R) ∧ Aside0 (1 ≤ L ∧ L ≤ 3) ∧ Aside0 (QB w0 w wr g w.heap.size gv l0 p q A0 c0 C A1 c1 R L)) (fun vi _ => (intOf vi).toNat)
 case atStart => exact ⟨n0, p2, q2, A0, c0, [], A1, c1, [-1], L0, by have := HA.out; omega, rfl, ⟨by have := HA.out; have := HP1.out; omega⟩, ⟨⟨by simp, by simp, by simp, fun x hx => by cases hx⟩⟩, HL0, QI⟩
 case round =>
  clear QI HP1 HA
  obtain ⟨n, p, q, A0, c0, C, A1, c1, R, L, hn, rfl, HPN, HSZ, HLV, B⟩ := hrel
  by_cases hn0 : 0 < n
  ·obtain ⟨n', rfl⟩ : ∃ n', n = n' + 1 := ⟨n - 1, by omega⟩
   have hnn : (0 < (((n' + 1 : Nat)) : Int)) = True := eq_true (by omega)
   have hnn2 : ((((n' + 1 : Nat)) : Int) > 0) = True := eq_true (by omega)
   obtain ⟨V1, V2, hV1, hV2, y0, y1, y2, z0, z1, z2, X, BL⟩ := local_cow wr (.slice A0 C.length c0) (.slice A1 R.length c1) (.int .i64 L)
   have XG := Aside0.mk (show w.heap.size ≤ wr.heap.size from keep_size B.out.k)
   have XZ := Aside0.mk (show w.heap.size ≠ wr.heap.size from Nat.ne_of_lt (blk_lt B.out.z))
   have XV := Aside0.mk (show gv ≠ wr.heap.size from Nat.ne_of_lt (blk_lt B.out.v))
   have k0 : wr.cell? ⟨gv, 0, none⟩ = some (.slice A0 C.length c0) := (blk_cell B.out.v 0).trans rfl
   have k1 : wr.cell? ⟨gv, 1, none⟩ = some (.slice A1 R.length c1) := (blk_cell B.out.v 1).trans rfl
   have k2 : wr.cell? ⟨gv, 2, none⟩ = some (.int .i64 L) := (blk_cell B.out.v 2).trans rfl
   replace B := Aside0.mk (B.out.below BL.out)
   have HP := Aside0.mk (show 0 ≤ p ∧ p + 1000 * ((n' + 1 : Nat) : Int) ≤ 100000 from HPN.out)
   have m0 : V2.cell? ⟨gv, 0, none⟩ = some (.slice A0 C.length c0) := (blk_cell B.out.v 0).trans rfl
   have m1 : V2.cell? ⟨gv, 1, none⟩ = some (.slice A1 R.length c1) := (blk_cell B.out.v 1).trans rfl
   have m2 : V2.cell? ⟨gv, 2, none⟩ = some (.int .i64 L) := (blk_cell B.out.v 2).trans rfl
   have hrl : R.length ≤ 9223372036854775807 := by have := HSZ.out.2.2.1; omega
   obtain ⟨r, p2, q2, e2, ha0, ha1, hp2, hp3⟩ := pick_ok HBY.out p q (R.length : Int) HP.out.1 (by have := HP.out; omega) (by have := HSZ.out.2.2.1; omega)
   have TT := Aside0.mk (spec_l1Cur_pick.calls g l0 p q (R.length : Int) r p2 q2 w0 V2 B.out.i B.out.b e2)
   have HP2 := Aside0.mk (show 0 ≤ p2 ∧ p2 + 1000 * ((n' + 1 : Nat) : Int) ≤ 100010 by have := HP.out; omega)
   have HN := Aside0.mk (show n' ≤ 14 by omega)
   have hn5 : n' ≤ 14 := HN.out
   clear e2 ha0 ha1 hp2 hp3 BL hn0 hn HPN
   go_wp2_with (go_at_call 77; refine TT.out.mono ?_)
   rintro e w4 ⟨rfl, hI, hB, hK⟩
   replace X := Aside0.mk (hK.blk X.out (by have := QX.out.lt; have := XG.out; omega) (by simp))
   replace B := Aside0.mk (B.out.cur QX.out hI hB hK)
   clear hI hB hK TT m0 m1 m2 k0 k1 k2 hV1 hV2 y0 y1 y2 z0 z1 z2 HP
   generalize wr.heap.size = gx at X XG XZ XV ⊢
   obtain ⟨a7, p3, q3, e2, ha0, ha1, hp2, hp3⟩ := pick_ok HBY.out p2 q2 7 HP2.out.1 (by have := HP2.out; omega) (by omega)
   have TT := Aside0.mk (spec_l1Cur_pick.calls g l0 p2 q2 7 a7 p3 q3 w0 w4 B.out.i B.out.b e2)
   have HP := Aside0.mk (show 0 ≤ p3 ∧ p3 + 1000 * ((n' + 1 : Nat) : Int) ≤ 100020 by have := HP2.out; omega)
   clear e2 ha0 ha1 hp2 hp3 HP2
   go_wp2_with (go_at_call 77; refine TT.out.mono ?_)
   rintro e w5 ⟨rfl, hI, hB, hK⟩
   replace X := Aside0.mk (hK.blk X.out (by have := QX.out.lt; have := XG.out; omega) (by simp))
   replace B := Aside0.mk (B.out.cur QX.out hI hB hK)
   clear hI hB hK TT
   by_cases h70 : a7 = 0
   ·subst h70
    obtain ⟨kk, C1, R1, L1, ob, e3, hsz⟩ := take_ex HSZ.out L r
    have TT := Aside0.mk (spec_TakePicture.calls kk A0 c0 C A1 c1 R L r C1 R1 L1 ob w5 (Kd.S_reads' B.out.s).2.2 (Kd.S_reads' B.out.s).2.1 (Kd.R_reads' B.out.r).2.2 (Kd.R_reads' B.out.r).2.1 e3)
    have HSZ2 := Aside0.mk hsz
    clear e3 hsz
    have m0 : w5.cell? ⟨gv, 0, none⟩ = some (.slice A0 C.length c0) := (blk_cell B.out.v 0).trans rfl
    have m1 : w5.cell? ⟨gv, 1, none⟩ = some (.slice A1 R.length c1) := (blk_cell B.out.v 1).trans rfl
    have m2 : w5.cell? ⟨gv, 2, none⟩ = some (.int .i64 L) := (blk_cell B.out.v 2).trans rfl
    cases ob with
    | true =>
     go_wp2_with (go_at_call 34; refine TT.out.mono ?_; (rintro e w7 ⟨v0, v1, rfl, hs, hr, hb⟩); (obtain ⟨A0', c0', rfl⟩ := Kd.S_slice hs); (obtain ⟨A1', c1', rfl⟩ := Kd.R_slice hr); (have S7 := Aside0.mk (Kd.S_lower hs (keep_size B.out.k))); (have R7 := Aside0.mk (Kd.R_lower hr (keep_size B.out.k))); (have B7 := Aside0.mk (B.out.below hb)); (have X7 := Aside0.mk (blk_below X.out hb)); clear hs hr hb; (have x0 : w7.cell? ⟨gx, 0, none⟩ = some (.slice A0 C.length c0) := (blk_cell X7.out 0).trans rfl); (have x1 : w7.cell? ⟨gx, 1, none⟩ = some (.slice A1 R.length c1) := (blk_cell X7.out 1).trans rfl); (have x2 : w7.cell? ⟨gx, 2, none⟩ = some (.int .i64 L) := (blk_cell X7.out 2).trans rfl); (have y0 := blk_frozen X7.out 0); (have y1 := blk_frozen X7.out 1); (have y2 := blk_frozen X7.out 2); (obtain ⟨W8, hW8⟩ : ∃ W, ((w7.setCell ⟨gx, 0, none⟩ (.slice A0' C1.length c0')).setCell ⟨gx, 1, none⟩ (.slice A1' R1.length c1')).setCell ⟨gx, 2, none⟩ (.int .i64 L1) = W := ⟨_, rfl⟩); (have X8 := Aside0.mk (show W8.heap[gx]? = some (.cells #[.slice A0' C1.length c0', .slice A1' R1.length c1', .int .i64 L1] 25 (0, 0)) by rw [← hW8]; exact put3 X7.out _ _ _)); (have B8 := Aside0.mk (show QB w0 w W8 g w.heap.size gv l0 p3 q3 A0 c0 C A1 c1 R L by rw [← hW8]; exact B7.out.box3 QX.out X7.out XG.out XZ.out XV.out _ _ _)); (have S8 := Aside0.mk (show CS W8 w.heap.size (fun k => some k ≠ (Value.slice A1' R1.length c1').ownBlock) (.slice A0' C1.length c0') C1 by rw [← hW8]; exact s_set3 S7.out X7.out)); (have R8 := Aside0.mk (show IR W8 w.heap.size (fun _ => True) (.slice A1' R1.length c1') R1 by rw [← hW8]; exact r_set3 R7.out X7.out)); (have g0 : W8.cell? ⟨gx, 0, none⟩ = some (.slice A0' C1.length c0') := (blk_cell X8.out 0).trans rfl); (have g1 : W8.cell? ⟨gx, 1, none⟩ = some (.slice A1' R1.length c1') := (blk_cell X8.out 1).trans rfl); (have g2 : W8.cell? ⟨gx, 2, none⟩ = some (.int .i64 L1) := (blk_cell X8.out 2).trans rfl); (have h0 : W8.cell? ⟨gv, 0, none⟩ = some (.slice A0 C.length c0) := (blk_cell B8.out.v 0).trans rfl); (have h1 : W8.cell? ⟨gv, 1, none⟩ = some (.slice A1 R.length c1) := (blk_cell B8.out.v 1).trans rfl); (have h2 : W8.cell? ⟨gv, 2, none⟩ = some (.int .i64 L) := (blk_cell B8.out.v 2).trans rfl); (have j0 := blk_frozen B8.out.v 0); (have j1 := blk_frozen B8.out.v 1); (have j2 := blk_frozen B8.out.v 2); (obtain ⟨W9, hW9⟩ : ∃ W, ((W8.setCell ⟨gv, 0, none⟩ (.slice A0' C1.length c0')).setCell ⟨gv, 1, none⟩ (.slice A1' R1.length c1')).setCell ⟨gv, 2, none⟩ (.int .i64 L1) = W := ⟨_, rfl⟩); (have B9 := Aside0.mk (show QB w0 w W9 g w.heap.size gv l0 p3 q3 A0' c0' C1 A1' c1' R1 L1 by rw [← hW9]; exact B8.out.move QX.out S8.out R8.out)); clear TT m0 m1 m2)
     clear x0 x1 x2 y0 y1 y2 g0 g1 g2 h0 h1 h2 j0 j1 j2 hW8 hW9
     go_roundw
     case rel => exact ⟨n', p3, q3, A0', c0', C1, A1', c1', R1, L1, by have := HN.out; omega, by go_num, ⟨by have := HP.out; have := HN.out; omega⟩, ⟨(HSZ2.out (by first | rfl | trivial)).1⟩, ⟨(HSZ2.out (by first | rfl | trivial)).2⟩, B9⟩
     case measure => first | (simp [intOf]; done) | (simp [intOf]; omega)
    | false =>
     go_wp2_with (go_at_call 34; refine TT.out.mono ?_; (rintro e w7 ⟨v0, v1, rfl, hs, hr, hb⟩); (obtain ⟨A0', c0', rfl⟩ := Kd.S_slice hs); (obtain ⟨A1', c1', rfl⟩ := Kd.R_slice hr); (have S7 := Aside0.mk (Kd.S_lower hs (keep_size B.out.k))); (have R7 := Aside0.mk (Kd.R_lower hr (keep_size B.out.k))); (have B7 := Aside0.mk (B.out.below hb)); (have X7 := Aside0.mk (blk_below X.out hb)); clear hs hr hb; (have x0 : w7.cell? ⟨gx, 0, none⟩ = some (.slice A0 C.length c0) := (blk_cell X7.out 0).trans rfl); (have x1 : w7.cell? ⟨gx, 1, none⟩ = some (.slice A1 R.length c1) := (blk_cell X7.out 1).trans rfl); (have x2 : w7.cell? ⟨gx, 2, none⟩ = some (.int .i64 L) := (blk_cell X7.out 2).trans rfl); (have y0 := blk_frozen X7.out 0); (have y1 := blk_frozen X7.out 1); (have y2 := blk_frozen X7.out 2); (obtain ⟨W8, hW8⟩ : ∃ W, ((w7.setCell ⟨gx, 0, none⟩ (.slice A0' C1.length c0')).setCell ⟨gx, 1, none⟩ (.slice A1' R1.length c1')).setCell ⟨gx, 2, none⟩ (.int .i64 L1) = W := ⟨_, rfl⟩); (have X8 := Aside0.mk (show W8.heap[gx]? = some (.cells #[.slice A0' C1.length c0', .slice A1' R1.length c1', .int .i64 L1] 25 (0, 0)) by rw [← hW8]; exact put3 X7.out _ _ _)); (have B8 := Aside0.mk (show QB w0 w W8 g w.heap.size gv l0 p3 q3 A0 c0 C A1 c1 R L by rw [← hW8]; exact B7.out.box3 QX.out X7.out XG.out XZ.out XV.out _ _ _)); (have S8 := Aside0.mk (show CS W8 w.heap.size (fun k => some k ≠ (Value.slice A1' R1.length c1').ownBlock) (.slice A0' C1.length c0') C1 by rw [← hW8]; exact s_set3 S7.out X7.out)); (have R8 := Aside0.mk (show IR W8 w.heap.size (fun _ => True) (.slice A1' R1.length c1') R1 by rw [← hW8]; exact r_set3 R7.out X7.out)); clear TT m0 m1 m2)
     clear x0 x1 x2 y0 y1 y2 hW8
     go_roundw
     case rel => exact ⟨n', p3, q3, A0, c0, C, A1, c1, R, L, by have := HN.out; omega, by go_num, ⟨by have := HP.out; have := HN.out; omega⟩, HSZ, HLV, B8⟩
     case measure => first | (simp [intOf]; done) | (simp [intOf]; omega)
   ·have u0 : (a7 = 0) = False := eq_false h70
    have u1 : (a7 == 0) = false := beq_eq_false_iff_ne.2 h70
    by_cases h71 : a7 = 1
    ·subst h71
     obtain ⟨kk, C1, R1, L1, ob, e3, hsz⟩ := drop_ex HSZ.out L r
     have TT := Aside0.mk (spec_DropPicture.calls kk A0 c0 C A1 c1 R L r C1 R1 L1 ob w5 (Kd.S_reads' B.out.s).2.2 (Kd.S_reads' B.out.s).2.1 (Kd.R_reads' B.out.r).2.2 (Kd.R_reads' B.out.r).2.1 e3)
     have HSZ2 := Aside0.mk hsz
     clear e3 hsz
     have m0 : w5.cell? ⟨gv, 0, none⟩ = some (.slice A0 C.length c0) := (blk_cell B.out.v 0).trans rfl
     have m1 : w5.cell? ⟨gv, 1, none⟩ = some (.slice A1 R.length c1) := (blk_cell B.out.v 1).trans rfl
     have m2 : w5.cell? ⟨gv, 2, none⟩ = some (.int .i64 L) := (blk_cell B.out.v 2).trans rfl
     cases ob with
     | true =>
      go_wp2_with (go_at_call 36; refine TT.out.mono ?_; (rintro e w7 ⟨v0, v1, rfl, hs, hr, hb⟩); (obtain ⟨A0', c0', rfl⟩ := Kd.S_slice hs); (obtain ⟨A1', c1', rfl⟩ := Kd.R_slice hr); (have S7 := Aside0.mk (Kd.S_lower hs (keep_size B.out.k))); (have R7 := Aside0.mk (Kd.R_lower hr (keep_size B.out.k))); (have B7 := Aside0.mk (B.out.below hb)); (have X7 := Aside0.mk (blk_below X.out hb)); clear hs hr hb; (have x0 : w7.cell? ⟨gx, 0, none⟩ = some (.slice A0 C.length c0) := (blk_cell X7.out 0).trans rfl); (have x1 : w7.cell? ⟨gx, 1, none⟩ = some (.slice A1 R.length c1) := (blk_cell X7.out 1).trans rfl); (have x2 : w7.cell? ⟨gx, 2, none⟩ = some (.int .i64 L) := (blk_cell X7.out 2).trans rfl); (have y0 := blk_frozen X7.out 0); (have y1 := blk_frozen X7.out 1); (have y2 := blk_frozen X7.out 2); (obtain ⟨W8, hW8⟩ : ∃ W, ((w7.setCell ⟨gx, 0, none⟩ (.slice A0' C1.length c0')).setCell ⟨gx, 1, none⟩ (.slice A1' R1.length c1')).setCell ⟨gx, 2, none⟩ (.int .i64 L1) = W := ⟨_, rfl⟩); (have X8 := Aside0.mk (show W8.heap[gx]? = some (.cells #[.slice A0' C1.length c0', .slice A1' R1.length c1', .int .i64 L1] 25 (0, 0)) by rw [← hW8]; exact put3 X7.out _ _ _)); (have B8 := Aside0.mk (show QB w0 w W8 g w.heap.size gv l0 p3 q3 A0 c0 C A1 c1 R L by rw [← hW8]; exact B7.out.box3 QX.out X7.out XG.out XZ.out XV.out _ _ _)); (have S8 := Aside0.mk (show CS W8 w.heap.size (fun k => some k ≠ (Value.slice A1' R1.length c1').ownBlock) (.slice A0' C1.length c0') C1 by rw [← hW8]; exact s_set3 S7.out X7.out)); (have R8 := Aside0.mk (show IR W8 w.heap.size (fun _ => True) (.slice A1' R1.length c1') R1 by rw [← hW8]; exact r_set3 R7.out X7.out)); (have g0 : W8.cell? ⟨gx, 0, none⟩ = some (.slice A0' C1.length c0') := (blk_cell X8.out 0).trans rfl); (have g1 : W8.cell? ⟨gx, 1, none⟩ = some (.slice A1' R1.length c1') := (blk_cell X8.out 1).trans rfl); (have g2 : W8.cell? ⟨gx, 2, none⟩ = some (.int .i64 L1) := (blk_cell X8.out 2).trans rfl); (have h0 : W8.cell? ⟨gv, 0, none⟩ = some (.slice A0 C.length c0) := (blk_cell B8.out.v 0).trans rfl); (have h1 : W8.cell? ⟨gv, 1, none⟩ = some (.slice A1 R.length c1) := (blk_cell B8.out.v 1).trans rfl); (have h2 : W8.cell? ⟨gv, 2, none⟩ = some (.int .i64 L) := (blk_cell B8.out.v 2).trans rfl); (have j0 := blk_frozen B8.out.v 0); (have j1 := blk_frozen B8.out.v 1); (have j2 := blk_frozen B8.out.v 2); (obtain ⟨W9, hW9⟩ : ∃ W, ((W8.setCell ⟨gv, 0, none⟩ (.slice A0' C1.length c0')).setCell ⟨gv, 1, none⟩ (.slice A1' R1.length c1')).setCell ⟨gv, 2, none⟩ (.int .i64 L1) = W := ⟨_, rfl⟩); (have B9 := Aside0.mk (show QB w0 w W9 g w.heap.size gv l0 p3 q3 A0' c0' C1 A1' c1' R1 L1 by rw [← hW9]; exact B8.out.move QX.out S8.out R8.out)); clear TT m0 m1 m2)
      clear x0 x1 x2 y0 y1 y2 g0 g1 g2 h0 h1 h2 j0 j1 j2 hW8 hW9
      go_roundw
      case rel => exact ⟨n', p3, q3, A0', c0', C1, A1', c1', R1, L1, by have := HN.out; omega, by go_num, ⟨by have := HP.out; have := HN.out; omega⟩, ⟨(HSZ2.out (by first | rfl | trivial)).1⟩, ⟨(HSZ2.out (by first | rfl | trivial)).2⟩, B9⟩
      case measure => first | (simp [intOf]; done) | (simp [intOf]; omega)
     | false =>
      go_wp2_with (go_at_call 36; refine TT.out.mono ?_; (rintro e w7 ⟨v0, v1, rfl, hs, hr, hb⟩); (obtain ⟨A0', c0', rfl⟩ := Kd.S_slice hs); (obtain ⟨A1', c1', rfl⟩ := Kd.R_slice hr); (have S7 := Aside0.mk (Kd.S_lower hs (keep_size B.out.k))); (have R7 := Aside0.mk (Kd.R_lower hr (keep_size B.out.k))); (have B7 := Aside0.mk (B.out.below hb)); (have X7 := Aside0.mk (blk_below X.out hb)); clear hs hr hb; (have x0 : w7.cell? ⟨gx, 0, none⟩ = some (.slice A0 C.length c0) := (blk_cell X7.out 0).trans rfl); (have x1 : w7.cell? ⟨gx, 1, none⟩ = some (.slice A1 R.length c1) := (blk_cell X7.out 1).trans rfl); (have x2 : w7.cell? ⟨gx, 2, none⟩ = some (.int .i64 L) := (blk_cell X7.out 2).trans rfl); (have y0 := blk_frozen X7.out 0); (have y1 := blk_frozen X7.out 1); (have y2 := blk_frozen X7.out 2); (obtain ⟨W8, hW8⟩ : ∃ W, ((w7.setCell ⟨gx, 0, none⟩ (.slice A0' C1.length c0')).setCell ⟨gx, 1, none⟩ (.slice A1' R1.length c1')).setCell ⟨gx, 2, none⟩ (.int .i64 L1) = W := ⟨_, rfl⟩); (have X8 := Aside0.mk (show W8.heap[gx]? = some (.cells #[.slice A0' C1.length c0', .slice A1' R1.length c1', .int .i64 L1] 25 (0, 0)) by rw [← hW8]; exact put3 X7.out _ _ _)); (have B8 := Aside0.mk (show QB w0 w W8 g w.heap.size gv l0 p3 q3 A0 c0 C A1 c1 R L by rw [← hW8]; exact B7.out.box3 QX.out X7.out XG.out XZ.out XV.out _ _ _)); (have S8 := Aside0.mk (show CS W8 w.heap.size (fun k => some k ≠ (Value.slice A1' R1.length c1').ownBlock) (.slice A0' C1.length c0') C1 by rw [← hW8]; exact s_set3 S7.out X7.out)); (have R8 := Aside0.mk (show IR W8 w.heap.size (fun _ => True) (.slice A1' R1.length c1') R1 by rw [← hW8]; exact r_set3 R7.out X7.out)); clear TT m0 m1 m2)
      clear x0 x1 x2 y0 y1 y2 hW8
      go_roundw
      case rel => exact ⟨n', p3, q3, A0, c0, C, A1, c1, R, L, by have := HN.out; omega, by go_num, ⟨by have := HP.out; have := HN.out; omega⟩, HSZ, HLV, B8⟩
      case measure => first | (simp [intOf]; done) | (simp [intOf]; omega)
    ·have u2 : (a7 = 1) = False := eq_false h71
     have u3 : (a7 == 1) = false := beq_eq_false_iff_ne.2 h71
     clear h70 h71
     obtain ⟨kp, hkp⟩ := (places_both C R L HLV.out.1 HLV.out.2).1
     obtain ⟨pl, hpl⟩ : ∃ pl, plc L = pl := ⟨_, rfl⟩
     have hpl2 : 1 ≤ pl ∧ pl ≤ 16 := by
      rw [← hpl]
      unfold plc
      split
      ·omega
      ·split <;> omega
     have EP := Aside0.mk (show spec_l14Places.f kp C R L = some pl by rw [← hpl]; exact hkp kp (Nat.le_refl _))
     obtain ⟨a5, p4, q4, e5, ha0, ha1, hp2, hp3⟩ := pick_ok HBY.out p3 q3 pl HP.out.1 (by have := HP.out; omega) (by omega)
     have E5 := Aside0.mk e5
     obtain ⟨s6, p5, q5, e6, hs0, hs1, hs2⟩ := of_ok HBY.out p4 q4 [⟨#[97]⟩, ⟨#[98]⟩, ⟨#[]⟩, ⟨#[108, 101, 97, 102]⟩, ⟨#[99]⟩] (by have := HP.out; omega) (by have := HP.out; omega) (by simp) (by simp)
     have E6 := Aside0.mk e6
     have HP5 := Aside0.mk (show 0 ≤ p5 ∧ p5 + 1000 * ((n' + 1 : Nat) : Int) ≤ 100040 by have := HP.out; omega)
     clear hkp hpl hpl2 e5 e6 ha0 ha1 hp2 hp3 hs0 hs1 hs2
     go_wp2
     refine start_ (n := 15) (S := fun w' => w'.cell? ⟨gv, 0, none⟩ = some (.slice A0 C.length c0) ∧ w'.cell? ⟨gv, 1, none⟩ = some (.slice A1 R.length c1) ∧ w'.cell? ⟨gv, 2, none⟩ = some (.int .i64 L)) (ds := [13]) #[false, false, false, false, false, false, false, false, false, false, false, false, false, false, false] (by kernel_rfl) rfl rfl ⟨(blk_cell B.out.v 0).trans rfl, (blk_cell B.out.v 1).trans rfl, (blk_cell B.out.v 2).trans rfl⟩ (fun hHeld => ?_)
     have BA := Aside0.mk (B.out.below (below_drew1 (Below.refl _ _)))
     have XA := Aside0.mk (blk_drew X.out)
     generalize w5.drew = wa at BA XA hHeld ⊢
     clear B X
     refine take_ (i := 0) (N := some 31) (v := ?_) (a' := ?_) #[true, false, false, false, false, false, false, false, false, false, false, false, false, false, false] rfl rfl (by kernel_rfl) (fun _ _ _ h => h) (Or.inl ⟨by rfl, ?_⟩) hHeld ?_ ?_
     rotate_left
     ·rintro w' ⟨s0, s1, s2⟩
      go_simp
      with_reducible rfl
     rotate_left
     ·simp only [apu_]
      rfl
     refine take_ (i := 1) (N := some 32) (v := ?_) (a' := ?_) #[true, true, false, false, false, false, false, false, false, false, false, false, false, false, false] rfl rfl (by kernel_rfl) (fun _ _ _ h => h) (Or.inl ⟨by rfl, ?_⟩) hHeld ?_ ?_
     rotate_left
     ·rintro w' ⟨s0, s1, s2⟩
      go_simp
      with_reducible rfl
     rotate_left
     ·simp only [apu_]
      rfl
     refine take_ (i := 2) (N := some 33) (v := ?_) (a' := ?_) #[true, true, true, false, false, false, false, false, false, false, false, false, false, false, false] rfl rfl (by kernel_rfl) (fun _ _ _ h => h) (Or.inl ⟨by rfl, ?_⟩) hHeld ?_ ?_
     rotate_left
     ·rintro w' ⟨s0, s1, s2⟩
      go_simp
      with_reducible rfl
     rotate_left
     ·simp only [apu_]
      rfl
     refine take_ (i := 3) (N := some 34) (v := ?_) (a' := ?_) #[true, true, true, true, false, false, false, false, false, false, false, false, false, false, false] rfl rfl (by kernel_rfl) (fun _ _ _ h => h) (Or.inl ⟨by rfl, ?_⟩) hHeld ?_ ?_
     rotate_left
     ·rintro w' ⟨s0, s1, s2⟩
      go_simp
      with_reducible rfl
     rotate_left
     ·simp only [apu_]
      rfl
     refine take_ (i := 6) (N := some 37) (v := ?_) (a' := ?_) #[true, true, true, true, false, false, true, false, false, false, false, false, false, false, false] rfl rfl (by kernel_rfl) (fun _ _ _ h => h) (Or.inl ⟨by rfl, ?_⟩) hHeld ?_ ?_
     rotate_left
     ·rintro w' ⟨s0, s1, s2⟩
      go_simp
      with_reducible rfl
     rotate_left
     ·simp only [apu_]
      rfl
     refine join_ (σ := Nat) 7 #[true, true, true, true, true, true, true, true, false, false, false, false, false, false, false] (fun s_ => [(35, .int .i64 pl), (36, .int .i64 a5), (38, .slice (some ⟨s_, 0, none⟩) 5 5)]) (fun s_ w' => w'.heap[s_]? = some (.cells #[.string ⟨#[97]⟩, .string ⟨#[98]⟩, .string ⟨#[]⟩, .string ⟨#[108, 101, 97, 102]⟩, .string ⟨#[99]⟩] 9 (0, 0)) ∧ w'.heap[gx]? = some (.cells #[.slice A0 C.length c0, .slice A1 R.length c1, .int .i64 L] 25 (0, 0)) ∧ QB w0 w w' g w.heap.size gv l0 p4 q4 A0 c0 C A1 c1 R L ∧ w.heap.size ≤ s_) ?_ ?_
     rotate_left
     ·intro hCont
      refine two_ (i := 4) (j := 7) (Ni := some 35) (Nj := some 38) #[true, true, true, true, true, false, true, false, false, false, false, false, false, false, false] #[true, true, true, true, false, false, true, true, false, false, false, false, false, false, false] rfl rfl rfl rfl (by kernel_rfl) (by decide) (by decide) (fun K hK => ?_) (fun K hK => ?_)
      ·skip
       refine goes_ Try.func61 (by kernel_rfl) rfl #[.agg #[.slice A0 C.length c0, .slice A1 R.length c1, .int .i64 L]] (by rfl) rfl rfl (by (try simp only [List.map_toArray, List.map_cons, List.map_nil]); first | done | rfl) ?_
       refine (spec_l14Places.calls kp A0 c0 C A1 c1 R L pl wa (Kd.S_reads' BA.out.s).2.2 (Kd.S_reads' BA.out.s).2.1 (Kd.R_reads' BA.out.r).2.2 (Kd.R_reads' BA.out.r).2.1 EP.out).mono ?_
       (first | rintro e wb rfl hb | rintro e wb ⟨rfl, hb⟩)
       refine ⟨_, rfl, ?_⟩
       have BB := Aside0.mk (BA.out.below hb)
       have XB := Aside0.mk (blk_below XA.out hb)
       clear hb
       refine hK.out _ _ ⟨(blk_cell BB.out.v 0).trans rfl, (blk_cell BB.out.v 1).trans rfl, (blk_cell BB.out.v 2).trans rfl⟩ (fun hHeld => ?_)
       clear hK K
       refine norm_ (a' := ?_) ?_ ?_
       rotate_left
       ·show Act.put _ (some 35) _ = _
        simp only [apu_]
        rfl
       refine two_ (i := 5) (j := 7) (Ni := some 36) (Nj := some 38) #[true, true, true, true, true, true, true, false, false, false, false, false, false, false, false] #[true, true, true, true, true, false, true, true, false, false, false, false, false, false, false] rfl rfl rfl rfl (by kernel_rfl) (by decide) (by decide) (fun K hK => ?_) (fun K hK => ?_)
       ·skip
        refine goes_ Try.func77 (by kernel_rfl) rfl #[.pointer (some ⟨g, 0, none⟩), .int .i64 pl] (by rfl) rfl rfl (by (try simp only [List.map_toArray, List.map_cons, List.map_nil]); first | done | rfl) ?_
        refine (spec_l1Cur_pick.calls g l0 p3 q3 pl a5 p4 q4 w0 wb BB.out.i BB.out.b E5.out).mono ?_
        rintro e wc ⟨rfl, hI, hB, hK5⟩
        refine ⟨_, rfl, ?_⟩
        have XC := Aside0.mk (hK5.blk XB.out (by have := QX.out.lt; have := XG.out; omega) (by simp))
        have BC := Aside0.mk (BB.out.cur QX.out hI hB hK5)
        clear hI hB hK5
        refine hK.out _ _ ⟨(blk_cell BC.out.v 0).trans rfl, (blk_cell BC.out.v 1).trans rfl, (blk_cell BC.out.v 2).trans rfl⟩ (fun hHeld => ?_)
        clear hK K
        refine norm_ (a' := ?_) ?_ ?_
        rotate_left
        ·show Act.put _ (some 36) _ = _
         simp only [apu_]
         rfl
        refine one_ (i := 7) (N := some 38) #[true, true, true, true, true, true, true, true, false, false, false, false, false, false, false] rfl rfl (by kernel_rfl) (by decide) (fun K hK => ?_)
        refine event_step (by rfl) (v := .slice (some ⟨wc.heap.size, 0, none⟩) 5 5) (w1 := wc.alloc (.cells #[.string ⟨#[97]⟩, .string ⟨#[98]⟩, .string ⟨#[]⟩, .string ⟨#[108, 101, 97, 102]⟩, .string ⟨#[99]⟩] 9)) (by first | (go_simp; done) | (go_simp; rfl)) ?_
        have hba := below_alloc (Below.refl wc.heap.size wc) (.cells #[.string ⟨#[97]⟩, .string ⟨#[98]⟩, .string ⟨#[]⟩, .string ⟨#[108, 101, 97, 102]⟩, .string ⟨#[99]⟩] 9)
        have TD := Aside0.mk (heap_alloc_new wc (.cells #[.string ⟨#[97]⟩, .string ⟨#[98]⟩, .string ⟨#[]⟩, .string ⟨#[108, 101, 97, 102]⟩, .string ⟨#[99]⟩] 9))
        have BD := Aside0.mk (BC.out.below hba)
        have XD := Aside0.mk (blk_below XC.out hba)
        have GT := Aside0.mk (show w.heap.size ≤ wc.heap.size from keep_size BC.out.k)
        refine hK.out _ _ ⟨(blk_cell BD.out.v 0).trans rfl, (blk_cell BD.out.v 1).trans rfl, (blk_cell BD.out.v 2).trans rfl⟩ (fun hHeld => ?_)
        clear hK K
        refine norm_ (a' := ?_) ?_ ?_
        rotate_left
        ·show Act.put _ (some 38) _ = _
         simp only [apu_]
         rfl
        obtain ⟨wd, hwo⟩ : ∃ W, wc.alloc (.cells #[.string ⟨#[97]⟩, .string ⟨#[98]⟩, .string ⟨#[]⟩, .string ⟨#[108, 101, 97, 102]⟩, .string ⟨#[99]⟩] 9) = W := ⟨_, rfl⟩
        rw [hwo] at TD BD XD hHeld ⊢
        clear hba hwo
        exact hCont wc.heap.size wd ⟨TD.out, XD.out, BD.out, GT.out⟩
       ·skip
        refine event_step (by rfl) (v := .slice (some ⟨wb.heap.size, 0, none⟩) 5 5) (w1 := wb.alloc (.cells #[.string ⟨#[97]⟩, .string ⟨#[98]⟩, .string ⟨#[]⟩, .string ⟨#[108, 101, 97, 102]⟩, .string ⟨#[99]⟩] 9)) (by first | (go_simp; done) | (go_simp; rfl)) ?_
        have hba := below_alloc (Below.refl wb.heap.size wb) (.cells #[.string ⟨#[97]⟩, .string ⟨#[98]⟩, .string ⟨#[]⟩, .string ⟨#[108, 101, 97, 102]⟩, .string ⟨#[99]⟩] 9)
        have TC := Aside0.mk (heap_alloc_new wb (.cells #[.string ⟨#[97]⟩, .string ⟨#[98]⟩, .string ⟨#[]⟩, .string ⟨#[108, 101, 97, 102]⟩, .string ⟨#[99]⟩] 9))
        have BC := Aside0.mk (BB.out.below hba)
        have XC := Aside0.mk (blk_below XB.out hba)
        have GT := Aside0.mk (show w.heap.size ≤ wb.heap.size from keep_size BB.out.k)
        refine hK.out _ _ ⟨(blk_cell BC.out.v 0).trans rfl, (blk_cell BC.out.v 1).trans rfl, (blk_cell BC.out.v 2).trans rfl⟩ (fun hHeld => ?_)
        clear hK K
        refine norm_ (a' := ?_) ?_ ?_
        rotate_left
        ·show Act.put _ (some 38) _ = _
         simp only [apu_]
         rfl
        obtain ⟨wc, hwo⟩ : ∃ W, wb.alloc (.cells #[.string ⟨#[97]⟩, .string ⟨#[98]⟩, .string ⟨#[]⟩, .string ⟨#[108, 101, 97, 102]⟩, .string ⟨#[99]⟩] 9) = W := ⟨_, rfl⟩
        rw [hwo] at TC BC XC hHeld ⊢
        clear hba hwo
        refine one_ (i := 5) (N := some 36) #[true, true, true, true, true, true, true, true, false, false, false, false, false, false, false] rfl rfl (by kernel_rfl) (by decide) (fun K hK => ?_)
        refine goes_ Try.func77 (by kernel_rfl) rfl #[.pointer (some ⟨g, 0, none⟩), .int .i64 pl] (by rfl) rfl rfl (by (try simp only [List.map_toArray, List.map_cons, List.map_nil]); first | done | rfl) ?_
        refine (spec_l1Cur_pick.calls g l0 p3 q3 pl a5 p4 q4 w0 wc BC.out.i BC.out.b E5.out).mono ?_
        rintro e wd ⟨rfl, hI, hB, hK5⟩
        refine ⟨_, rfl, ?_⟩
        have XD := Aside0.mk (hK5.blk XC.out (by have := QX.out.lt; have := XG.out; omega) (by simp))
        have BD := Aside0.mk (BC.out.cur QX.out hI hB hK5)
        have TD := Aside0.mk (hK5.blk TC.out (by have := QX.out.lt; have := GT.out; omega) (by simp))
        clear hI hB hK5
        refine hK.out _ _ ⟨(blk_cell BD.out.v 0).trans rfl, (blk_cell BD.out.v 1).trans rfl, (blk_cell BD.out.v 2).trans rfl⟩ (fun hHeld => ?_)
        clear hK K
        refine norm_ (a' := ?_) ?_ ?_
        rotate_left
        ·show Act.put _ (some 36) _ = _
         simp only [apu_]
         rfl
        exact hCont wb.heap.size wd ⟨TD.out, XD.out, BD.out, GT.out⟩
      ·skip
       refine event_step (by rfl) (v := .slice (some ⟨wa.heap.size, 0, none⟩) 5 5) (w1 := wa.alloc (.cells #[.string ⟨#[97]⟩, .string ⟨#[98]⟩, .string ⟨#[]⟩, .string ⟨#[108, 101, 97, 102]⟩, .string ⟨#[99]⟩] 9)) (by first | (go_simp; done) | (go_simp; rfl)) ?_
       have hba := below_alloc (Below.refl wa.heap.size wa) (.cells #[.string ⟨#[97]⟩, .string ⟨#[98]⟩, .string ⟨#[]⟩, .string ⟨#[108, 101, 97, 102]⟩, .string ⟨#[99]⟩] 9)
       have TB := Aside0.mk (heap_alloc_new wa (.cells #[.string ⟨#[97]⟩, .string ⟨#[98]⟩, .string ⟨#[]⟩, .string ⟨#[108, 101, 97, 102]⟩, .string ⟨#[99]⟩] 9))
       have BB := Aside0.mk (BA.out.below hba)
       have XB := Aside0.mk (blk_below XA.out hba)
       have GT := Aside0.mk (show w.heap.size ≤ wa.heap.size from keep_size BA.out.k)
       refine hK.out _ _ ⟨(blk_cell BB.out.v 0).trans rfl, (blk_cell BB.out.v 1).trans rfl, (blk_cell BB.out.v 2).trans rfl⟩ (fun hHeld => ?_)
       clear hK K
       refine norm_ (a' := ?_) ?_ ?_
       rotate_left
       ·show Act.put _ (some 38) _ = _
        simp only [apu_]
        rfl
       obtain ⟨wb, hwo⟩ : ∃ W, wa.alloc (.cells #[.string ⟨#[97]⟩, .string ⟨#[98]⟩, .string ⟨#[]⟩, .string ⟨#[108, 101, 97, 102]⟩, .string ⟨#[99]⟩] 9) = W := ⟨_, rfl⟩
       rw [hwo] at TB BB XB hHeld ⊢
       clear hba hwo
       refine one_ (i := 4) (N := some 35) #[true, true, true, true, true, false, true, true, false, false, false, false, false, false, false] rfl rfl (by kernel_rfl) (by decide) (fun K hK => ?_)
       refine goes_ Try.func61 (by kernel_rfl) rfl #[.agg #[.slice A0 C.length c0, .slice A1 R.length c1, .int .i64 L]] (by rfl) rfl rfl (by (try simp only [List.map_toArray, List.map_cons, List.map_nil]); first | done | rfl) ?_
       refine (spec_l14Places.calls kp A0 c0 C A1 c1 R L pl wb (Kd.S_reads' BB.out.s).2.2 (Kd.S_reads' BB.out.s).2.1 (Kd.R_reads' BB.out.r).2.2 (Kd.R_reads' BB.out.r).2.1 EP.out).mono ?_
       (first | rintro e wc rfl hb | rintro e wc ⟨rfl, hb⟩)
       refine ⟨_, rfl, ?_⟩
       have BC := Aside0.mk (BB.out.below hb)
       have XC := Aside0.mk (blk_below XB.out hb)
       have TC := Aside0.mk (blk_below TB.out hb)
       clear hb
       refine hK.out _ _ ⟨(blk_cell BC.out.v 0).trans rfl, (blk_cell BC.out.v 1).trans rfl, (blk_cell BC.out.v 2).trans rfl⟩ (fun hHeld => ?_)
       clear hK K
       refine norm_ (a' := ?_) ?_ ?_
       rotate_left
       ·show Act.put _ (some 35) _ = _
        simp only [apu_]
        rfl
       refine one_ (i := 5) (N := some 36) #[true, true, true, true, true, true, true, true, false, false, false, false, false, false, false] rfl rfl (by kernel_rfl) (by decide) (fun K hK => ?_)
       refine goes_ Try.func77 (by kernel_rfl) rfl #[.pointer (some ⟨g, 0, none⟩), .int .i64 pl] (by rfl) rfl rfl (by (try simp only [List.map_toArray, List.map_cons, List.map_nil]); first | done | rfl) ?_
       refine (spec_l1Cur_pick.calls g l0 p3 q3 pl a5 p4 q4 w0 wc BC.out.i BC.out.b E5.out).mono ?_
       rintro e wd ⟨rfl, hI, hB, hK5⟩
       refine ⟨_, rfl, ?_⟩
       have XD := Aside0.mk (hK5.blk XC.out (by have := QX.out.lt; have := XG.out; omega) (by simp))
       have BD := Aside0.mk (BC.out.cur QX.out hI hB hK5)
       have TD := Aside0.mk (hK5.blk TC.out (by have := QX.out.lt; have := GT.out; omega) (by simp))
       clear hI hB hK5
       refine hK.out _ _ ⟨(blk_cell BD.out.v 0).trans rfl, (blk_cell BD.out.v 1).trans rfl, (blk_cell BD.out.v 2).trans rfl⟩ (fun hHeld => ?_)
       clear hK K
       refine norm_ (a' := ?_) ?_ ?_
       rotate_left
       ·show Act.put _ (some 36) _ = _
        simp only [apu_]
        rfl
       exact hCont wa.heap.size wd ⟨TD.out, XD.out, BD.out, GT.out⟩
     rintro bt we ⟨hT, hX, hB, hG⟩
     try dsimp only at hT hG
     dsimp only [putAll]
     clear hHeld XA BA
     have XE := Aside0.mk hX
     have BE := Aside0.mk hB
     have TE := Aside0.mk hT
     have GT := Aside0.mk hG
     clear hT hX hB hG
     refine norm_ (a' := ?_) ?_ ?_
     rotate_left
     ·simp only [apu_]
      rfl
     refine one_ (i := 8) (N := some 39) #[true, true, true, true, true, true, true, true, true, false, false, false, false, false, false] rfl rfl (by kernel_rfl) (by decide) (fun K hK => ?_)
     refine goes_ Try.func78 (by kernel_rfl) rfl #[.pointer (some ⟨g, 0, none⟩), .slice (some ⟨bt, 0, none⟩) 5 5] (by rfl) rfl rfl (by (try simp only [List.map_toArray, List.map_cons, List.map_nil]); first | done | rfl | (simp only [List.length_drop, List.length_take]; rfl)) ?_
     refine (spec_l1Cur_of.calls g l0 p4 q4 (some ⟨bt, 0, none⟩) 5 [⟨#[97]⟩, ⟨#[98]⟩, ⟨#[]⟩, ⟨#[108, 101, 97, 102]⟩, ⟨#[99]⟩] s6 p5 q5 w0 we BE.out.i BE.out.b (str5 TE.out) (by simp) (fun ad h_ _ => by have h2_ := Option.some.inj h_; subst h2_; have := QX.out.lt; have := GT.out; show bt ≠ g; omega) E6.out).mono ?_
     rintro e wf ⟨rfl, hI, hB, hK5⟩
     refine ⟨_, rfl, ?_⟩
     have XF := Aside0.mk (hK5.blk XE.out (by have := QX.out.lt; have := XG.out; omega) (by simp))
     have BF := Aside0.mk (BE.out.cur QX.out hI hB hK5)
     clear hI hB hK5 XE BE TE
     refine hK.out _ _ ⟨(blk_cell BF.out.v 0).trans rfl, (blk_cell BF.out.v 1).trans rfl, (blk_cell BF.out.v 2).trans rfl⟩ (fun hHeld => ?_)
     clear hK K
     refine norm_ (a' := ?_) ?_ ?_
     rotate_left
     ·show Act.put _ (some 39) _ = _
      simp only [apu_]
      rfl
     obtain ⟨kk, C1, R1, L1, ob, e3, hsz⟩ := put_ex HSZ.out L r a5 s6
     refine one_ (i := 9) (N := some 40) #[true, true, true, true, true, true, true, true, true, true, false, false, false, false, false] rfl rfl (by kernel_rfl) (by decide) (fun K hK => ?_)
     refine goes_ Try.func38 (by kernel_rfl) rfl #[.agg #[.slice A0 C.length c0, .slice A1 R.length c1, .int .i64 L], .int .i64 r, .int .i64 a5, .string s6] (by rfl) rfl rfl (by (try simp only [List.map_toArray, List.map_cons, List.map_nil]); first | done | rfl | (simp only [List.length_drop, List.length_take]; rfl)) ?_
     refine (spec_PutLeaf.calls kk A0 c0 C A1 c1 R L r a5 s6 C1 R1 L1 ob wf (Kd.S_reads' BF.out.s).2.2 (Kd.S_reads' BF.out.s).2.1 (Kd.R_reads' BF.out.r).2.2 (Kd.R_reads' BF.out.r).2.1 e3).mono ?_
     rintro e w7 ⟨v0, v1, rfl, hs, hr, hb⟩
     refine ⟨_, rfl, ?_⟩
     obtain ⟨A0', c0', rfl⟩ := Kd.S_slice hs
     obtain ⟨A1', c1', rfl⟩ := Kd.R_slice hr
     have HSZ2 := Aside0.mk hsz
     have S7 := Aside0.mk (Kd.S_lower hs (keep_size BF.out.k))
     have R7 := Aside0.mk (Kd.R_lower hr (keep_size BF.out.k))
     have B7 := Aside0.mk (BF.out.below hb)
     have X7 := Aside0.mk (blk_below XF.out hb)
     clear hs hr hb hsz e3 XF BF
     refine hK.out _ _ ⟨(blk_cell B7.out.v 0).trans rfl, (blk_cell B7.out.v 1).trans rfl, (blk_cell B7.out.v 2).trans rfl⟩ (fun hHeld => ?_)
     clear hK K
     refine norm_ (a' := ?_) ?_ ?_
     rotate_left
     ·show Act.put _ (some 40) _ = _
      simp only [apu_]
      rfl
     refine pure_ (i := 10) (N := some 30) (v := ?_) (a' := ?_) #[true, true, true, true, true, true, true, true, true, true, true, false, false, false, false] rfl rfl (by kernel_rfl) (fun _ _ _ h => h) (Or.inl ⟨by rfl, ?_⟩) ?_ ?_
     rotate_left
     ·intro w'
      go_simp
      with_reducible rfl
     rotate_left
     ·simp only [apu_]
      rfl
     refine pure_ (i := 11) (N := some 41) (v := ?_) (a' := ?_) #[true, true, true, true, true, true, true, true, true, true, true, true, false, false, false] rfl rfl (by kernel_rfl) (fun _ _ _ h => h) (Or.inl ⟨by rfl, ?_⟩) ?_ ?_
     rotate_left
     ·intro w'
      go_simp
      with_reducible rfl
     rotate_left
     ·simp only [apu_]
      rfl
     refine pure_ (i := 12) (N := some 42) (v := ?_) (a' := ?_) #[true, true, true, true, true, true, true, true, true, true, true, true, true, false, false] rfl rfl (by kernel_rfl) (fun _ _ _ h => h) (Or.inl ⟨by rfl, ?_⟩) ?_ ?_
     rotate_left
     ·intro w'
      go_simp
      with_reducible rfl
     rotate_left
     ·simp only [apu_]
      rfl
     have x0 : w7.cell? ⟨gx, 0, none⟩ = some (.slice A0 C.length c0) := (blk_cell X7.out 0).trans rfl
     have x1 : w7.cell? ⟨gx, 1, none⟩ = some (.slice A1 R.length c1) := (blk_cell X7.out 1).trans rfl
     have x2 : w7.cell? ⟨gx, 2, none⟩ = some (.int .i64 L) := (blk_cell X7.out 2).trans rfl
     have y0 := blk_frozen X7.out 0
     have y1 := blk_frozen X7.out 1
     have y2 := blk_frozen X7.out 2
     refine last_ (i := 13) (N := none) #[true, true, true, true, true, true, true, true, true, true, true, true, true, true, false] rfl rfl (by kernel_rfl) (by decide) (fun K hK => ?_)
     refine skip_ (w1 := ((w7.setCell ⟨gx, 0, none⟩ (.slice A0' C1.length c0')).setCell ⟨gx, 1, none⟩ (.slice A1' R1.length c1')).setCell ⟨gx, 2, none⟩ (.int .i64 L1)) (by rfl) rfl ?_ ?_
     ·first | (go_simp; done) | (go_simp; rfl)
     refine hK.out _ _ ?_
     clear hK K x0 x1 x2 y0 y1 y2
     refine pure_ (i := 14) (N := some 7) (v := ?_) (a' := ?_) #[true, true, true, true, true, true, true, true, true, true, true, true, true, true, true] rfl rfl (by kernel_rfl) (fun _ _ _ h => h) (Or.inl ⟨by rfl, ?_⟩) ?_ ?_
     rotate_left
     ·intro w'
      go_simp
      with_reducible rfl
     rotate_left
     ·simp only [apu_]
      rfl
     refine done_ (by kernel_rfl) ?_
     clear hHeld
     have X8 := Aside0.mk (put3 X7.out (.slice A0' C1.length c0') (.slice A1' R1.length c1') (.int .i64 L1))
     have B8 := Aside0.mk (B7.out.box3 QX.out X7.out XG.out XZ.out XV.out (.slice A0' C1.length c0') (.slice A1' R1.length c1') (.int .i64 L1))
     have S8 := Aside0.mk (s_set3 (x := .slice A0' C1.length c0') (y := .slice A1' R1.length c1') (z := .int .i64 L1) S7.out X7.out)
     have R8 := Aside0.mk (r_set3 (x := .slice A0' C1.length c0') (y := .slice A1' R1.length c1') (z := .int .i64 L1) R7.out X7.out)
     generalize ((w7.setCell ⟨gx, 0, none⟩ (.slice A0' C1.length c0')).setCell ⟨gx, 1, none⟩ (.slice A1' R1.length c1')).setCell ⟨gx, 2, none⟩ (.int .i64 L1) = w8 at X8 B8 S8 R8 ⊢
     clear X7 B7 S7 R7
     replace HP := HP5
     have g0 : w8.cell? ⟨gx, 0, none⟩ = some (.slice A0' C1.length c0') := (blk_cell X8.out 0).trans rfl
     have g1 : w8.cell? ⟨gx, 1, none⟩ = some (.slice A1' R1.length c1') := (blk_cell X8.out 1).trans rfl
     have g2 : w8.cell? ⟨gx, 2, none⟩ = some (.int .i64 L1) := (blk_cell X8.out 2).trans rfl
     have h0 : w8.cell? ⟨gv, 0, none⟩ = some (.slice A0 C.length c0) := (blk_cell B8.out.v 0).trans rfl
     have h1 : w8.cell? ⟨gv, 1, none⟩ = some (.slice A1 R.length c1) := (blk_cell B8.out.v 1).trans rfl
     have h2 : w8.cell? ⟨gv, 2, none⟩ = some (.int .i64 L) := (blk_cell B8.out.v 2).trans rfl
     have j0 := blk_frozen B8.out.v 0
     have j1 := blk_frozen B8.out.v 1
     have j2 := blk_frozen B8.out.v 2
     cases ob with
     | true =>
      have B9 := Aside0.mk (B8.out.move (L' := L1) QX.out S8.out R8.out)
      try go_wp2
      go_roundw
      case rel => exact ⟨n', p5, q5, A0', c0', C1, A1', c1', R1, L1, by have := HN.out; omega, by go_num, ⟨by have := HP.out; have := HN.out; omega⟩, ⟨(HSZ2.out (by first | rfl | trivial)).1⟩, ⟨(HSZ2.out (by first | rfl | trivial)).2⟩, B9⟩
      case measure => first | (simp [intOf]; done) | (simp [intOf]; omega)
     | false =>
      try go_wp2
      go_roundw
      case rel => exact ⟨n', p5, q5, A0, c0, C, A1, c1, R, L, by have := HN.out; omega, by go_num, ⟨by have := HP.out; have := HN.out; omega⟩, HSZ, HLV, B8⟩
      case measure => first | (simp [intOf]; done) | (simp [intOf]; omega)
  ·obtain rfl : n = 0 := by omega
   obtain ⟨a, p2, q2, e2, ha0, ha1, hp2, hp3⟩ := pick_ok HBY.out p q 40 HPN.out.1 (by have := HPN.out; omega) (by omega)
   have TT := Aside0.mk (spec_l1Cur_pick.calls g l0 p q 40 a p2 q2 w0 wr B.out.i B.out.b e2)
   have HP := Aside0.mk (show 0 ≤ p2 ∧ p2 ≤ 100010 by have := HPN.out; omega)
   clear hn hn0 e2 ha0 ha1 hp2 hp3 HPN
   go_wp2_with (go_at_call 77; refine TT.out.mono ?_)
   rintro e w3 ⟨rfl, hI, hB, hK⟩
   replace B := Aside0.mk (B.out.cur QX.out hI hB hK)
   clear hI hB hK TT
   by_cases ha0 : a = 0
   ·subst ha0
    have k0 : w3.cell? ⟨gv, 0, none⟩ = some (.slice A0 C.length c0) := (blk_cell B.out.v 0).trans rfl
    have hcl : C.length ≤ 9223372036854775807 := by have := HSZ.out.1; omega
    by_cases hc : 0 < C.length
    ·have c1_ : (0 < (C.length : Int)) = True := eq_true (by omega)
     have c2_ : ((C.length : Int) > 0) = True := eq_true (by omega)
     have c3_ : (0 < C.length) = True := eq_true hc
     obtain ⟨gc, cap, hv, _, _, _⟩ := Kd.S_form B.out.s (by omega)
     injection hv with hA hn_ hc
     subst hA hc
     clear hn_
     obtain ⟨i, p3, q3, e3, hi0, hi1, hp4, hp5⟩ := pick_ok HBY.out p2 q2 (C.length : Int) HP.out.1 (by have := HP.out; omega) (by have := HSZ.out.1; omega)
     have E3 := Aside0.mk e3
     have HP3 := Aside0.mk (show 0 ≤ p3 ∧ p3 ≤ 500000 by have := HP.out; omega)
     have hlt : i < (C.length : Int) := by omega
     obtain ⟨_, _, e0, _, _, hfr, _, _, _⟩ := cs_elem B.out.s i hi0 hlt
     obtain ⟨x, hx⟩ : ∃ x, rd_T68 C i = x := ⟨_, rfl⟩
     rw [hx] at e0
     obtain ⟨hgc, _⟩ := B.out.setC QX.out i hi0 hlt 0
     have E0 := Aside0.mk e0
     have HX := Aside0.mk hx
     have HI := Aside0.mk (show 0 ≤ i ∧ i < (C.length : Int) from ⟨hi0, hlt⟩)
     have u1 : (0 ≤ i) = True := eq_true hi0
     have u2 : (i < (C.length : Int)) = True := eq_true hlt
     clear e3 hi0 hi1 hp4 hp5 hlt e0 hfr hx
     go_wp2
     refine start_ (n := 14) (S := fun w' => w'.cell? ⟨gv, 0, none⟩ = some (.slice (some ⟨gc, 0, none⟩) C.length c0) ∧ w'.cell? ⟨gc, i.toNat * 3, none⟩ = some (.int .i64 x.f0)) (ds := [13]) #[false, false, false, false, false, false, false, false, false, false, false, false, false, false] (by kernel_rfl) rfl rfl ⟨(blk_cell B.out.v 0).trans rfl, E0.out⟩ (fun hHeld => ?_)
     replace B := Aside0.mk B.out.drew
     replace E0 := Aside0.mk (show w3.drew.cell? ⟨gc, i.toNat * 3, none⟩ = some (.int .i64 x.f0) from E0.out)
     generalize w3.drew = w5 at B E0 hHeld ⊢
     refine take_ (i := 0) (N := some 69) (v := ?_) (a' := ?_) #[true, false, false, false, false, false, false, false, false, false, false, false, false, false] rfl rfl (by kernel_rfl) (fun _ _ _ h => h) (Or.inl ⟨by rfl, ?_⟩) hHeld ?_ ?_
     rotate_left
     ·rintro w' ⟨s0, s1⟩
      go_simp
      with_reducible rfl
     rotate_left
     ·simp only [apu_]
      rfl
     refine take_ (i := 1) (N := some 70) (v := ?_) (a' := ?_) #[true, true, false, false, false, false, false, false, false, false, false, false, false, false] rfl rfl (by kernel_rfl) (fun _ _ _ h => h) (Or.inl ⟨by rfl, ?_⟩) hHeld ?_ ?_
     rotate_left
     ·rintro w' ⟨s0, s1⟩
      go_simp
      with_reducible rfl
     rotate_left
     ·simp only [apu_]
      rfl
     refine take_ (i := 2) (N := some 71) (v := ?_) (a' := ?_) #[true, true, true, false, false, false, false, false, false, false, false, false, false, false] rfl rfl (by kernel_rfl) (fun _ _ _ h => h) (Or.inl ⟨by rfl, ?_⟩) hHeld ?_ ?_
     rotate_left
     ·rintro w' ⟨s0, s1⟩
      go_simp
      with_reducible rfl
     rotate_left
     ·simp only [apu_]
      rfl
     refine take_ (i := 3) (N := some 72) (v := ?_) (a' := ?_) #[true, true, true, true, false, false, false, false, false, false, false, false, false, false] rfl rfl (by kernel_rfl) (fun _ _ _ h => h) (Or.inl ⟨by rfl, ?_⟩) hHeld ?_ ?_
     rotate_left
     ·rintro w' ⟨s0, s1⟩
      go_simp
      with_reducible rfl
     rotate_left
     ·simp only [apu_]
      rfl
     refine take_ (i := 4) (N := some 73) (v := ?_) (a' := ?_) #[true, true, true, true, true, false, false, false, false, false, false, false, false, false] rfl rfl (by kernel_rfl) (fun _ _ _ h => h) (Or.inl ⟨by rfl, ?_⟩) hHeld ?_ ?_
     rotate_left
     ·rintro w' ⟨s0, s1⟩
      go_simp
      with_reducible rfl
     rotate_left
     ·simp only [apu_]
      rfl
     refine take_ (i := 5) (N := some 74) (v := ?_) (a' := ?_) #[true, true, true, true, true, true, false, false, false, false, false, false, false, false] rfl rfl (by kernel_rfl) (fun _ _ _ h => h) (Or.inl ⟨by rfl, ?_⟩) hHeld ?_ ?_
     rotate_left
     ·rintro w' ⟨s0, s1⟩
      go_simp
      with_reducible rfl
     rotate_left
     ·simp only [apu_]
      rfl
     refine one_ (i := 6) (N := some 75) #[true, true, true, true, true, true, true, false, false, false, false, false, false, false] rfl rfl (by kernel_rfl) (by decide) (fun K hK => ?_)
     refine goes_ Try.func77 (by kernel_rfl) rfl #[.pointer (some ⟨g, 0, none⟩), .int .i64 (C.length : Int)] (by rfl) rfl rfl (by (try simp only [List.map_toArray, List.map_cons, List.map_nil]); first | done | rfl | (simp only [List.length_drop, List.length_take]; rfl)) ?_
     refine (spec_l1Cur_pick.calls g l0 p2 q2 (C.length : Int) i p3 q3 w0 w5 B.out.i B.out.b E3.out).mono ?_
     rintro e w6 ⟨rfl, hI, hB, hK5⟩
     refine ⟨_, rfl, ?_⟩
     replace B := Aside0.mk (B.out.cur QX.out hI hB hK5)
     replace E0 := Aside0.mk (show w6.cell? ⟨gc, i.toNat * 3, none⟩ = some (.int .i64 x.f0) by
      obtain ⟨_, _, h1_, _⟩ := cs_elem B.out.s i HI.out.1 (by have := HI.out.2; omega)
      rw [HX.out] at h1_
      exact h1_)
     clear hI hB hK5
     refine hK.out _ _ ⟨(blk_cell B.out.v 0).trans rfl, E0.out⟩ (fun hHeld => ?_)
     clear hK K
     refine norm_ (a' := ?_) ?_ ?_
     rotate_left
     ·show Act.put _ (some 75) _ = _
      simp only [apu_]
      rfl
     refine take_ (i := 7) (N := some 76) (v := ?_) (a' := ?_) #[true, true, true, true, true, true, true, true, false, false, false, false, false, false] rfl rfl (by kernel_rfl) (fun _ _ _ h => h) (Or.inl ⟨by rfl, ?_⟩) hHeld ?_ ?_
     rotate_left
     ·rintro w' ⟨s0, s1⟩
      go_simp
      with_reducible rfl
     rotate_left
     ·simp only [apu_]
      rfl
     refine take_ (i := 8) (N := some 77) (v := ?_) (a' := ?_) #[true, true, true, true, true, true, true, true, true, false, false, false, false, false] rfl rfl (by kernel_rfl) (fun _ _ _ h => h) (Or.inl ⟨by rfl, ?_⟩) hHeld ?_ ?_
     rotate_left
     ·rintro w' ⟨s0, s1⟩
      go_simp
      with_reducible rfl
     rotate_left
     ·simp only [apu_]
      rfl
     refine take_ (i := 9) (N := some 78) (v := ?_) (a' := ?_) #[true, true, true, true, true, true, true, true, true, true, false, false, false, false] rfl rfl (by kernel_rfl) (fun _ _ _ h => h) (Or.inl ⟨by rfl, ?_⟩) hHeld ?_ ?_
     rotate_left
     ·rintro w' ⟨s0, s1⟩
      go_simp
      with_reducible rfl
     rotate_left
     ·simp only [apu_]
      rfl
     refine take_ (i := 10) (N := some 79) (v := ?_) (a' := ?_) #[true, true, true, true, true, true, true, true, true, true, true, false, false, false] rfl rfl (by kernel_rfl) (fun _ _ _ h => h) (Or.inl ⟨by rfl, ?_⟩) hHeld ?_ ?_
     rotate_left
     ·rintro w' ⟨s0, s1⟩
      go_simp
      with_reducible rfl
     rotate_left
     ·simp only [apu_]
      rfl
     refine take_ (i := 11) (N := some 80) (v := ?_) (a' := ?_) #[true, true, true, true, true, true, true, true, true, true, true, true, false, false] rfl rfl (by kernel_rfl) (fun _ _ _ h => h) (Or.inl ⟨by rfl, ?_⟩) hHeld ?_ ?_
     rotate_left
     ·rintro w' ⟨s0, s1⟩
      go_simp
      with_reducible rfl
     rotate_left
     ·simp only [apu_]
      rfl
     refine take_ (i := 12) (N := some 81) (v := ?_) (a' := ?_) #[true, true, true, true, true, true, true, true, true, true, true, true, true, false] rfl rfl (by kernel_rfl) (fun _ _ _ h => h) (Or.inl ⟨by rfl, ?_⟩) hHeld ?_ ?_
     rotate_left
     ·rintro w' ⟨s0, s1⟩
      go_simp
      with_reducible rfl
     rotate_left
     ·simp only [apu_]
      rfl
     obtain ⟨_, _, e0, _, _, hfr, _, _, _⟩ := cs_elem B.out.s i HI.out.1 (by have := HI.out.2; omega)
     rw [HX.out] at e0
     have fr0 : w6.frozen? ⟨gc, i.toNat * 3, none⟩ = false := hfr 0
     refine last_ (i := 13) (N := none) #[true, true, true, true, true, true, true, true, true, true, true, true, true, true] rfl rfl (by kernel_rfl) (by decide) (fun K hK => ?_)
     refine skip_ (w1 := w6.setCell ⟨gc, i.toNat * 3, none⟩ (.int .i64 (wrap64 (x.f0 + 1)))) (by rfl) rfl ?_ ?_
     ·first | (go_simp; done) | (go_simp; rfl)
     refine hK.out _ _ ?_
     clear hK K
     refine done_ (by kernel_rfl) ?_
     clear hHeld
     clear e0 fr0 hfr
     obtain ⟨_, hB9⟩ := B.out.setC QX.out i HI.out.1 HI.out.2 (wrap64 (x.f0 + 1))
     rw [HX.out] at hB9
     have hl9 : (C.set i.toNat (⟨wrap64 (x.f0 + 1), x.f1, x.f2⟩ : CL)).length = C.length := List.length_set
     have hz9 : szC (C.set i.toNat (⟨wrap64 (x.f0 + 1), x.f1, x.f2⟩ : CL)) R := by
      obtain ⟨h1, h2, h3, h4⟩ := HSZ.out
      refine ⟨by omega, h2, h3, fun y hy => ?_⟩
      rcases List.mem_or_eq_of_mem_set hy with e_ | e_
      ·exact h4 y e_
      ·subst e_
       have hk := HI.out
       have hl_ : i.toNat < C.length := by omega
       have e2_ : x = C[i.toNat] := by rw [← HX.out, rd_cl, List.getD_eq_getElem?_getD, List.getElem?_eq_getElem hl_]; rfl
       show x.f2.length ≤ 1048576
       rw [e2_]
       exact h4 _ (List.getElem_mem hl_)
     generalize C.set i.toNat (⟨wrap64 (x.f0 + 1), x.f1, x.f2⟩ : CL) = C9 at hB9 hl9 hz9
     rw [← hl9]
     generalize w6.setCell ⟨gc, i.toNat * 3, none⟩ (.int .i64 (wrap64 (x.f0 + 1))) = w9 at hB9 ⊢
     have B9 := Aside0.mk hB9
     have HZ9 := Aside0.mk hz9
     clear hB9 hz9 hl9 B E0
     have r0 : w9.cell? ⟨w.heap.size, 0, none⟩ = some (.slice none 0 0) := (blk_cell B9.out.z 0).trans rfl
     have r1 : w9.cell? ⟨w.heap.size, 1, none⟩ = some (.slice none 0 0) := (blk_cell B9.out.z 1).trans rfl
     have r2 : w9.cell? ⟨w.heap.size, 2, none⟩ = some (.int .i64 0) := (blk_cell B9.out.z 2).trans rfl
     have s0 := blk_frozen B9.out.z 0
     have s1 := blk_frozen B9.out.z 1
     have s2 := blk_frozen B9.out.z 2
     have m0 : w9.cell? ⟨gv, 0, none⟩ = some (.slice (some ⟨gc, 0, none⟩) C9.length c0) := (blk_cell B9.out.v 0).trans rfl
     have m1 : w9.cell? ⟨gv, 1, none⟩ = some (.slice A1 R.length c1) := (blk_cell B9.out.v 1).trans rfl
     have m2 : w9.cell? ⟨gv, 2, none⟩ = some (.int .i64 L) := (blk_cell B9.out.v 2).trans rfl
     try go_wp2
     refine bodyPost_ret (results_cell_row rfl _ _ w.heap.size 25 _ (0, 0) _ rfl (put3 B9.out.z _ _ _) Try.underlying25 rfl (by kernel_rfl)) rfl ?_
     obtain ⟨t1_, t2_, t3_, t4_, t5_⟩ := B9.out.ret QX.out
     refine ⟨_, _, _, _, _, _, _, rfl, t1_, t2_, ?_, ?_, t3_, t4_, t5_⟩
     ·exact HP3.out
     ·exact HZ9.out
    ·have c1_ : (0 < (C.length : Int)) = False := eq_false (by omega)
     have c2_ : ((C.length : Int) > 0) = False := eq_false (by omega)
     have c3_ : (0 < C.length) = False := eq_false hc
     have r0 : w3.cell? ⟨w.heap.size, 0, none⟩ = some (.slice none 0 0) := (blk_cell B.out.z 0).trans rfl
     have r1 : w3.cell? ⟨w.heap.size, 1, none⟩ = some (.slice none 0 0) := (blk_cell B.out.z 1).trans rfl
     have r2 : w3.cell? ⟨w.heap.size, 2, none⟩ = some (.int .i64 0) := (blk_cell B.out.z 2).trans rfl
     have s0 := blk_frozen B.out.z 0
     have s1 := blk_frozen B.out.z 1
     have s2 := blk_frozen B.out.z 2
     have m0 : w3.cell? ⟨gv, 0, none⟩ = some (.slice A0 C.length c0) := (blk_cell B.out.v 0).trans rfl
     have m1 : w3.cell? ⟨gv, 1, none⟩ = some (.slice A1 R.length c1) := (blk_cell B.out.v 1).trans rfl
     have m2 : w3.cell? ⟨gv, 2, none⟩ = some (.int .i64 L) := (blk_cell B.out.v 2).trans rfl
     try go_wp2
     refine bodyPost_ret (results_cell_row rfl _ _ w.heap.size 25 _ (0, 0) _ rfl (put3 B.out.z _ _ _) Try.underlying25 rfl (by kernel_rfl)) rfl ?_
     obtain ⟨t1_, t2_, t3_, t4_, t5_⟩ := B.out.ret QX.out
     refine ⟨_, _, _, _, _, _, _, rfl, t1_, t2_, ?_, ?_, t3_, t4_, t5_⟩
     ·have := HP.out; omega
     ·exact HSZ.out
   ·have q0_ : (a == 0) = false := beq_eq_false_iff_ne.2 ha0
    have q1_ : (a = 0) = False := eq_false ha0
    by_cases ha1 : a = 1
    ·subst ha1
     obtain ⟨gr, cap, hv, _, _, _⟩ := Kd.R_form B.out.r (by have := HSZ.out.2.1; omega)
     injection hv with hA hn_ hc
     subst hA hc
     clear hn_
     obtain ⟨i, p3, q3, e3, hi0, hi1, hp4, hp5⟩ := pick_ok HBY.out p2 q2 5 HP.out.1 (by have := HP.out; omega) (by omega)
     have E3 := Aside0.mk e3
     have HP3 := Aside0.mk (show 0 ≤ p3 ∧ p3 ≤ 500000 by have := HP.out; omega)
     obtain ⟨hgr, _⟩ := B.out.setR QX.out 0 0
     have u2 : (0 < (R.length : Int)) = True := eq_true (by have := HSZ.out.2.1; omega)
     have u3 : (0 < R.length) = True := eq_true (by have := HSZ.out.2.1; omega)
     clear e3 hi0 hi1 hp4 hp5
     go_wp2
     refine start_ (n := 7) (S := fun w' => w'.cell? ⟨gv, 1, none⟩ = some (.slice (some ⟨gr, 0, none⟩) R.length c1) ∧ w'.cell? ⟨gv, 1, none⟩ = some (.slice (some ⟨gr, 0, none⟩) R.length c1)) (ds := [6]) #[false, false, false, false, false, false, false] (by kernel_rfl) rfl rfl ⟨(blk_cell B.out.v 1).trans rfl, (blk_cell B.out.v 1).trans rfl⟩ (fun hHeld => ?_)
     replace B := Aside0.mk B.out.drew
     generalize w3.drew = w5 at B hHeld ⊢
     refine take_ (i := 0) (N := some 84) (v := ?_) (a' := ?_) #[true, false, false, false, false, false, false] rfl rfl (by kernel_rfl) (fun _ _ _ h => h) (Or.inl ⟨by rfl, ?_⟩) hHeld ?_ ?_
     rotate_left
     ·rintro w' ⟨s0, s1⟩
      go_simp
      with_reducible rfl
     rotate_left
     ·simp only [apu_]
      rfl
     refine take_ (i := 1) (N := some 85) (v := ?_) (a' := ?_) #[true, true, false, false, false, false, false] rfl rfl (by kernel_rfl) (fun _ _ _ h => h) (Or.inl ⟨by rfl, ?_⟩) hHeld ?_ ?_
     rotate_left
     ·rintro w' ⟨s0, s1⟩
      go_simp
      with_reducible rfl
     rotate_left
     ·simp only [apu_]
      rfl
     refine take_ (i := 2) (N := some 86) (v := ?_) (a' := ?_) #[true, true, true, false, false, false, false] rfl rfl (by kernel_rfl) (fun _ _ _ h => h) (Or.inl ⟨by rfl, ?_⟩) hHeld ?_ ?_
     rotate_left
     ·rintro w' ⟨s0, s1⟩
      go_simp
      with_reducible rfl
     rotate_left
     ·simp only [apu_]
      rfl
     refine one_ (i := 3) (N := some 87) #[true, true, true, true, false, false, false] rfl rfl (by kernel_rfl) (by decide) (fun K hK => ?_)
     refine goes_ Try.func77 (by kernel_rfl) rfl #[.pointer (some ⟨g, 0, none⟩), .int .i64 5] (by rfl) rfl rfl (by (try simp only [List.map_toArray, List.map_cons, List.map_nil]); first | done | rfl | (simp only [List.length_drop, List.length_take]; rfl)) ?_
     refine (spec_l1Cur_pick.calls g l0 p2 q2 5 i p3 q3 w0 w5 B.out.i B.out.b E3.out).mono ?_
     rintro e w6 ⟨rfl, hI, hB, hK5⟩
     refine ⟨_, rfl, ?_⟩
     replace B := Aside0.mk (B.out.cur QX.out hI hB hK5)
     clear hI hB hK5
     refine hK.out _ _ ⟨(blk_cell B.out.v 1).trans rfl, (blk_cell B.out.v 1).trans rfl⟩ (fun hHeld => ?_)
     clear hK K
     refine norm_ (a' := ?_) ?_ ?_
     rotate_left
     ·show Act.put _ (some 87) _ = _
      simp only [apu_]
      rfl
     refine take_ (i := 4) (N := some 88) (v := ?_) (a' := ?_) #[true, true, true, true, true, false, false] rfl rfl (by kernel_rfl) (fun _ _ _ h => h) (Or.inl ⟨by rfl, ?_⟩) hHeld ?_ ?_
     rotate_left
     ·rintro w' ⟨s0, s1⟩
      go_simp
      with_reducible rfl
     rotate_left
     ·simp only [apu_]
      rfl
     refine take_ (i := 5) (N := some 89) (v := ?_) (a' := ?_) #[true, true, true, true, true, true, false] rfl rfl (by kernel_rfl) (fun _ _ _ h => h) (Or.inl ⟨by rfl, ?_⟩) hHeld ?_ ?_
     rotate_left
     ·rintro w' ⟨s0, s1⟩
      go_simp
      with_reducible rfl
     rotate_left
     ·simp only [apu_]
      rfl
     obtain ⟨ad9, e9, hy9⟩ := Kd.at_int (Kd.R_reads' B.out.r).2.2 0 (by omega) (by have := HSZ.out.2.1; omega)
     injection e9 with e9
     subst e9
     have hy8 : w6.cell? ⟨gr, 0, none⟩ = some (.int .i64 (rd R 0)) := hy9
     obtain ⟨g_, c_, e_, _, _, cells9, hcl9⟩ := Kd.R_form B.out.r (by have := HSZ.out.2.1; omega)
     obtain rfl : gr = g_ := by injection e_ with e_ _ _; injection e_ with e_; injection e_
     have hf9 := blk_frozen hcl9 0
     refine last_ (i := 6) (N := none) #[true, true, true, true, true, true, true] rfl rfl (by kernel_rfl) (by decide) (fun K hK => ?_)
     refine skip_ (w1 := w6.setCell ⟨gr, 0, none⟩ (.int .i64 (wrap64 (i - 2)))) (by rfl) rfl ?_ ?_
     ·first | (go_simp; done) | (go_simp; rfl)
     refine hK.out _ _ ?_
     clear hK K
     refine done_ (by kernel_rfl) ?_
     clear hHeld
     clear hy9 hy8 hf9 hcl9 e_
     obtain ⟨_, hB9⟩ := B.out.setR QX.out 0 (wrap64 (i - 2))
     have hl9 : (R.set 0 (wrap64 (i - 2))).length = R.length := List.length_set
     have hz9 : szC C (R.set 0 (wrap64 (i - 2))) := ⟨HSZ.out.1, by have := HSZ.out.2.1; omega, by have := HSZ.out.2.2.1; omega, HSZ.out.2.2.2⟩
     generalize R.set 0 (wrap64 (i - 2)) = R9 at hB9 hl9 hz9
     rw [← hl9]
     generalize w6.setCell ⟨gr, 0, none⟩ (.int .i64 (wrap64 (i - 2))) = w9 at hB9 ⊢
     have B9 := Aside0.mk hB9
     have HZ9 := Aside0.mk hz9
     clear hB9 hz9 hl9 B
     have r0 : w9.cell? ⟨w.heap.size, 0, none⟩ = some (.slice none 0 0) := (blk_cell B9.out.z 0).trans rfl
     have r1 : w9.cell? ⟨w.heap.size, 1, none⟩ = some (.slice none 0 0) := (blk_cell B9.out.z 1).trans rfl
     have r2 : w9.cell? ⟨w.heap.size, 2, none⟩ = some (.int .i64 0) := (blk_cell B9.out.z 2).trans rfl
     have s0 := blk_frozen B9.out.z 0
     have s1 := blk_frozen B9.out.z 1
     have s2 := blk_frozen B9.out.z 2
     have m0 : w9.cell? ⟨gv, 0, none⟩ = some (.slice A0 C.length c0) := (blk_cell B9.out.v 0).trans rfl
     have m1 : w9.cell? ⟨gv, 1, none⟩ = some (.slice (some ⟨gr, 0, none⟩) R9.length c1) := (blk_cell B9.out.v 1).trans rfl
     have m2 : w9.cell? ⟨gv, 2, none⟩ = some (.int .i64 L) := (blk_cell B9.out.v 2).trans rfl
     try go_wp2
     refine bodyPost_ret (results_cell_row rfl _ _ w.heap.size 25 _ (0, 0) _ rfl (put3 B9.out.z _ _ _) Try.underlying25 rfl (by kernel_rfl)) rfl ?_
     obtain ⟨t1_, t2_, t3_, t4_, t5_⟩ := B9.out.ret QX.out
     refine ⟨_, _, _, _, _, _, _, rfl, t1_, t2_, ?_, ?_, t3_, t4_, t5_⟩
     ·exact HP3.out
     ·exact HZ9.out
    ·have q2_ : (a == 1) = false := beq_eq_false_iff_ne.2 ha1
     have q3_ : (a = 1) = False := eq_false ha1
     by_cases ha2 : a = 2
     ·subst ha2
      obtain ⟨i, p3, q3, e3, hi0, hi1, hp4, hp5⟩ := pick_ok HBY.out p2 q2 5 HP.out.1 (by have := HP.out; omega) (by omega)
      have TT := Aside0.mk (spec_l1Cur_pick.calls g l0 p2 q2 5 i p3 q3 w0 w3 B.out.i B.out.b e3)
      have HP3 := Aside0.mk (show 0 ≤ p3 ∧ p3 ≤ 500000 by have := HP.out; omega)
      clear e3 hi0 hi1 hp4 hp5
      go_wp2_with (go_at_call 77; refine TT.out.mono ?_; (rintro e w6 ⟨rfl, hI, hB, hK⟩); (replace B := Aside0.mk (B.out.cur QX.out hI hB hK)); (have k2 : w6.cell? ⟨gv, 2, none⟩ = some (.int .i64 L) := (blk_cell B.out.v 2).trans rfl); have k3 := blk_frozen B.out.v 2; (obtain ⟨w9, hw9⟩ : ∃ W, w6.setCell ⟨gv, 2, none⟩ (.int .i64 i) = W := ⟨_, rfl⟩); (have B9 := Aside0.mk (show QB w0 w w9 g w.heap.size gv l0 p3 q3 A0 c0 C A1 c1 R i by rw [← hw9]; exact B.out.setL QX.out i)); (have r0 : w9.cell? ⟨w.heap.size, 0, none⟩ = some (.slice none 0 0) := (blk_cell B9.out.z 0).trans rfl); (have r1 : w9.cell? ⟨w.heap.size, 1, none⟩ = some (.slice none 0 0) := (blk_cell B9.out.z 1).trans rfl); (have r2 : w9.cell? ⟨w.heap.size, 2, none⟩ = some (.int .i64 0) := (blk_cell B9.out.z 2).trans rfl); (have s0 := blk_frozen B9.out.z 0); (have s1 := blk_frozen B9.out.z 1); (have s2 := blk_frozen B9.out.z 2); (have m0 : w9.cell? ⟨gv, 0, none⟩ = some (.slice A0 C.length c0) := (blk_cell B9.out.v 0).trans rfl); (have m1 : w9.cell? ⟨gv, 1, none⟩ = some (.slice A1 R.length c1) := (blk_cell B9.out.v 1).trans rfl); (have m2 : w9.cell? ⟨gv, 2, none⟩ = some (.int .i64 i) := (blk_cell B9.out.v 2).trans rfl); clear hI hB hK TT)
      refine bodyPost_ret (results_cell_row rfl _ _ w.heap.size 25 _ (0, 0) _ rfl (put3 B9.out.z _ _ _) Try.underlying25 rfl (by kernel_rfl)) rfl ?_
      obtain ⟨t1_, t2_, t3_, t4_, t5_⟩ := B9.out.ret QX.out
      refine ⟨_, _, _, _, _, _, _, rfl, t1_, t2_, ?_, ?_, t3_, t4_, t5_⟩
      ·exact HP3.out
      ·exact HSZ.out
     ·have q4_ : (a == 2) = false := beq_eq_false_iff_ne.2 ha2
      have q5_ : (a = 2) = False := eq_false ha2
      have r0 : w3.cell? ⟨w.heap.size, 0, none⟩ = some (.slice none 0 0) := (blk_cell B.out.z 0).trans rfl
      have r1 : w3.cell? ⟨w.heap.size, 1, none⟩ = some (.slice none 0 0) := (blk_cell B.out.z 1).trans rfl
      have r2 : w3.cell? ⟨w.heap.size, 2, none⟩ = some (.int .i64 0) := (blk_cell B.out.z 2).trans rfl
      have s0 := blk_frozen B.out.z 0
      have s1 := blk_frozen B.out.z 1
      have s2 := blk_frozen B.out.z 2
      have m0 : w3.cell? ⟨gv, 0, none⟩ = some (.slice A0 C.length c0) := (blk_cell B.out.v 0).trans rfl
      have m1 : w3.cell? ⟨gv, 1, none⟩ = some (.slice A1 R.length c1) := (blk_cell B.out.v 1).trans rfl
      have m2 : w3.cell? ⟨gv, 2, none⟩ = some (.int .i64 L) := (blk_cell B.out.v 2).trans rfl
      try go_wp2
      refine bodyPost_ret (results_cell_row rfl _ _ w.heap.size 25 _ (0, 0) _ rfl (put3 B.out.z _ _ _) Try.underlying25 rfl (by kernel_rfl)) rfl ?_
      obtain ⟨t1_, t2_, t3_, t4_, t5_⟩ := B.out.ret QX.out
      refine ⟨_, _, _, _, _, _, _, rfl, t1_, t2_, ?_, ?_, t3_, t4_, t5_⟩
      ·have := HP.out; omega
      ·exact HSZ.out
theorem IsS93.alloc_self {w : World} {A0 : Option Addr} {c0 : Nat} {l0 : List Int} (h : Kd.C (Kd.int .u8) w A0 l0.length l0) : IsS93 w (w.alloc (.cells #[.slice A0 l0.length c0, .int .i64 0, .int .u64 0] 93)) w.heap.size l0 0 0 :=
 ⟨A0, c0, heap_alloc_new w _, Nat.le_refl _, h⟩
theorem results_cttt {P : Program} {fn : Func} {p u v x : Tmp} {ty : TypeId} (h : fn.results = #[.cell p ty, .tmp u, .tmp v, .tmp x]) (tmps : Array Value) (w : World) (g : Nat) (t : TypeId) (cs : Array Value) (fr : Nat × Nat) (d : TypeDesc)
  (hp : tmps.getD p undef = .pointer (some ⟨g, 0, none⟩)) (hg : w.heap[g]? = some (.cells cs t fr))
  (hu : P.underlying ty = some d) (hd : (match d with | .struct _ | .array _ _ => true | _ => false) = true) (hi : (P.info? ty).map (·.size) = some cs.size) :
  (results fn tmps).run P w = .ok (.tuple #[.agg cs, tmps.getD u undef, tmps.getD v undef, tmps.getD x undef]) w := by
 have hp' : tmps[p]?.getD undef = .pointer (some ⟨g, 0, none⟩) := by simpa using hp
 simp [results, h, hp', asAddr, run_loadVar_row w g t ty cs fr d hg hu hd hi]
structure DB (w0 W : World) (B g gv : Nat) (A0 : Option Addr) (c0 : Nat) (C : List CL) (A1 : Option Addr) (c1 : Nat) (R : List Int) (L : Int) (l0 : List Int) (p q : Int) : Prop where
 s : CS W B (fun k => some k ≠ (Value.slice A1 R.length c1).ownBlock) (.slice A0 C.length c0) C
 r : IR W B (fun _ => True) (.slice A1 R.length c1) R
 v : W.heap[gv]? = some (.cells #[.slice A0 C.length c0, .slice A1 R.length c1, .int .i64 L] 25 (0, 0))
 b : Below w0.heap.size w0 W
 i : IsS93 w0 W g l0 p q
section
variable {w0 W W1 : World} {B g gv : Nat} {A0 : Option Addr} {c0 : Nat} {C : List CL} {A1 : Option Addr} {c1 : Nat} {R : List Int} {L : Int} {l0 : List Int} {p q p' q' : Int}
theorem DB.below (h : DB w0 W B g gv A0 c0 C A1 c1 R L l0 p q) (hb : Below W.heap.size W W1) : DB w0 W1 B g gv A0 c0 C A1 c1 R L l0 p q :=
 ⟨Kd.S_below h.s hb, Kd.R_below h.r hb, blk_below h.v hb, below_step h.b hb, h.i.below hb⟩
theorem DB.drew (h : DB w0 W B g gv A0 c0 C A1 c1 R L l0 p q) : DB w0 W.drew B g gv A0 c0 C A1 c1 R L l0 p q := h.below (below_drew1 (Below.refl _ _))
theorem DB.cur (h : DB w0 W B g gv A0 c0 C A1 c1 R L l0 p q) (hg : g < B) (hv : g ≠ gv) (hi : IsS93 w0 W1 g l0 p' q') (hb : Below w0.heap.size w0 W1) (hk : KeepBut W W1 g none) : DB w0 W1 B g gv A0 c0 C A1 c1 R L l0 p' q' :=
 ⟨Kd.S_mono (Kd.S_keep (Kd.S_bound h.s) hk (fun k h_ => by have := h_.2.1; omega)) (fun _ h_ => h_.1), Kd.R_mono (Kd.R_keep (Kd.R_bound h.r) hk (fun k h_ => by have := h_.2.1; omega)) (fun _ _ => trivial), hk.blk h.v (fun e_ => hv e_.symm) (by simp), hb, hi⟩
theorem DB.ret {w : World} {gz : Nat} {a b c : Value} (h : DB w0 W B g gv A0 c0 C A1 c1 R L l0 p q) (hz : W.heap[gz]? = some (.cells #[a, b, c] 25 (0, 0))) (hg : w.heap.size ≤ gz) (h1 : Below w.heap.size w w0) (hB : w.heap.size ≤ B) (x y z : Value) :
  CS (((W.setCell ⟨gz, 0, none⟩ x).setCell ⟨gz, 1, none⟩ y).setCell ⟨gz, 2, none⟩ z) w.heap.size (fun k => some k ≠ (Value.slice A1 R.length c1).ownBlock) (.slice A0 C.length c0) C ∧ IR (((W.setCell ⟨gz, 0, none⟩ x).setCell ⟨gz, 1, none⟩ y).setCell ⟨gz, 2, none⟩ z) w.heap.size (fun _ => True) (.slice A1 R.length c1) R ∧ Below w.heap.size w (((W.setCell ⟨gz, 0, none⟩ x).setCell ⟨gz, 1, none⟩ y).setCell ⟨gz, 2, none⟩ z) :=
 ⟨s_set3 (Kd.S_lower h.s hB) hz, r_set3 (Kd.R_lower h.r hB) hz, below_set (below_set (below_set (below_weaken h1 h1.size h.b) hg) hg) hg⟩
end
theorem str5p {W : World} {bt : Nat} (h : W.heap[bt]? = some (.cells #[.string ⟨#[]⟩, .string ⟨#[120]⟩, .string ⟨#[97]⟩, .string ⟨#[49, 50, 51, 52, 53, 54, 55, 56, 57]⟩, .string ⟨#[49, 50, 51, 52, 53, 54, 55, 56]⟩] 9 (0, 0))) : Kd.C Kd.string W (some ⟨bt, 0, none⟩) 5 [⟨#[]⟩, ⟨#[120]⟩, ⟨#[97]⟩, ⟨#[49, 50, 51, 52, 53, 54, 55, 56, 57]⟩, ⟨#[49, 50, 51, 52, 53, 54, 55, 56]⟩] := by
 refine Kd.C_of_reads (enc := Value.string) (d := ByteArray.empty) ⟨rfl, by omega, fun _ => ⟨_, rfl, fun j hj => ?_⟩⟩
 obtain rfl | rfl | rfl | rfl | rfl : j = 0 ∨ j = 1 ∨ j = 2 ∨ j = 3 ∨ j = 4 := by omega
 ·exact (blk_cell h 0).trans rfl
 ·exact (blk_cell h 1).trans rfl
 ·exact (blk_cell h 2).trans rfl
 ·exact (blk_cell h 3).trans rfl
 ·exact (blk_cell h 4).trans rfl
set_option maxHeartbeats 8000000 in
set_option maxRecDepth 100000 in
theorem spec_DrawPutLeaf.calls (A0 : Option Addr) (c0 : Nat) (l0 : List Int) (w : World) (hl : Bytes l0) (hr0 : Kd.C (Kd.int .u8) w A0 l0.length l0) (hc0 : l0.length ≤ c0) :
  Calls Try.prog 43 #[.slice A0 l0.length c0] w fun e w' => ∃ (v0_ v1_ : Value) (C : List CL) (R : List Int) (L : Int) (x_ y_ : Int) (z_ : ByteArray), e = .returned (.tuple #[.agg #[v0_, v1_, .int .i64 L], .int .i64 x_, .int .i64 y_, .string z_]) ∧ CS w' w.heap.size (fun k => some k ≠ v1_.ownBlock) v0_ C ∧ IR w' w.heap.size (fun _ => True) v1_ R ∧ szC C R ∧ Below w.heap.size w w' := by
 have huC := Try.underlying25
 have HBY := Aside0.mk hl
 obtain ⟨W1, hW1⟩ : ∃ W, w.alloc (.cells #[.slice none 0 0, .slice none 0 0, .int .i64 0] 25) = W := ⟨_, rfl⟩
 obtain ⟨W2, hW2⟩ : ∃ W, W1.alloc (.cells #[.slice A0 l0.length c0, .int .i64 0, .int .u64 0] 93) = W := ⟨_, rfl⟩
 have hb1 : Below w.heap.size w W1 := by rw [← hW1]; exact below_alloc (Below.refl _ _) _
 have hb2 : Below W1.heap.size W1 W2 := by rw [← hW2]; exact below_alloc (Below.refl _ _) _
 have Z1 : W1.heap[w.heap.size]? = some (.cells #[.slice none 0 0, .slice none 0 0, .int .i64 0] 25 (0, 0)) := by rw [← hW1]; exact heap_alloc_new w _
 have I2 : IsS93 W1 W2 W1.heap.size l0 0 0 := by rw [← hW2]; exact IsS93.alloc_self (Kd.C_below hr0 hb1)
 have HH := Aside0.mk (show Below w.heap.size w W1 ∧ W1.heap[w.heap.size]? = some (.cells #[.slice none 0 0, .slice none 0 0, .int .i64 0] 25 (0, 0)) ∧ W1.heap.size ≤ W2.heap.size from ⟨hb1, Z1, hb2.size⟩)
 have HG := Aside0.mk (show W1.heap.size < W2.heap.size by obtain ⟨_, _, h_, _⟩ := I2; exact blk_lt h_)
 have TT := Aside0.mk (curCow_calls W1.heap.size l0 0 0 W1 W2 hl (by omega) (by omega) I2 hb2)
 clear hl hr0 hb1 hb2 Z1 I2
 go_enter Try.func43, Try.ntmps43
 go_wp2_with (go_at_call 76; refine TT.out.mono ?_; (rintro e w3 ⟨v0, v1, C, R, L, p, q, rfl, hs, hr, hp, hsz, hI, hB, hK⟩); have HSZ := Aside0.mk hsz; have HP := Aside0.mk hp; (obtain ⟨A0', c0', rfl⟩ := Kd.S_slice hs); (obtain ⟨A1', c1', rfl⟩ := Kd.R_slice hr); (obtain ⟨W4, w4, hW4, hw4, y0, y1, y2, z0, z1, z2, V5, BL⟩ := local_cow w3 (.slice A0' C.length c0') (.slice A1' R.length c1') (.int .i64 L)); (have B := Aside0.mk (show DB W1 w4 W2.heap.size W1.heap.size w3.heap.size A0' c0' C A1' c1' R L l0 p q from ⟨Kd.S_below hs BL.out, Kd.R_below hr BL.out, V5.out, below_step hB BL.out, hI.below BL.out⟩)); (have HV := Aside0.mk (show W1.heap.size ≠ w3.heap.size by have := HG.out; have := keep_size hK; omega)); (have HN := Aside0.mk (show w.heap.size ≠ w3.heap.size by have := HG.out; have := keep_size hK; have := blk_lt HH.out.2.1; omega)); have hrl := hsz.2.2.1; clear hsz hp hs hr hI hB hK TT V5 BL)
 clear hW1 hW2 hW4 hw4 y0 y1 y2 z0 z1 z2
 generalize w3.heap.size = gv at B HV HN ⊢
 have wq : wrap64 ((R.length : Int) + 1) = (R.length : Int) + 1 := w64 (by omega) (by have := hrl; omega)
 have hrp := HP.out
 obtain ⟨a1, p1, q1, e1, ha0, ha1, hp2, hp3⟩ := pick_ok HBY.out p q ((R.length : Int) + 1) HP.out.1 (by omega) (by omega)
 have E1 := Aside0.mk e1
 obtain ⟨a2, p2, q2, e2, hb0, hb1_, hp4, hp5⟩ := pick_ok HBY.out p1 q1 17 (by omega) (by omega) (by omega)
 have E2 := Aside0.mk e2
 obtain ⟨s6, p5, q5, e6, hs0, hs1, hs2⟩ := of_ok HBY.out p2 q2 [⟨#[]⟩, ⟨#[120]⟩, ⟨#[97]⟩, ⟨#[49, 50, 51, 52, 53, 54, 55, 56, 57]⟩, ⟨#[49, 50, 51, 52, 53, 54, 55, 56]⟩] (by omega) (by omega) (by simp) (by simp)
 have E6 := Aside0.mk e6
 clear hrp e1 e2 e6 ha0 ha1 hp2 hp3 hb0 hb1_ hp4 hp5 hs0 hs1 hs2
 go_wp2
 refine start_ (n := 16) (S := fun w' => w'.cell? ⟨gv, 0, none⟩ = some (.slice A0' C.length c0') ∧ w'.cell? ⟨gv, 1, none⟩ = some (.slice A1' R.length c1') ∧ w'.cell? ⟨gv, 2, none⟩ = some (.int .i64 L)) (ds := [12]) #[false, false, false, false, false, false, false, false, false, false, false, false, false, false, false, false] (by kernel_rfl) rfl rfl ⟨(blk_cell B.out.v 0).trans rfl, (blk_cell B.out.v 1).trans rfl, (blk_cell B.out.v 2).trans rfl⟩ (fun hHeld => ?_)
 have BA := Aside0.mk B.out.drew
 generalize w4.drew = wa at BA hHeld ⊢
 clear B
 refine take_ (i := 0) (N := some 13) (v := ?_) (a' := ?_) #[true, false, false, false, false, false, false, false, false, false, false, false, false, false, false, false] rfl rfl (by kernel_rfl) (fun _ _ _ h => h) (Or.inl ⟨by rfl, ?_⟩) hHeld ?_ ?_
 rotate_left
 ·rintro w' ⟨s0, s1, s2⟩
  go_simp
  with_reducible rfl
 rotate_left
 ·simp only [apu_]
  rfl
 refine take_ (i := 1) (N := some 14) (v := ?_) (a' := ?_) #[true, true, false, false, false, false, false, false, false, false, false, false, false, false, false, false] rfl rfl (by kernel_rfl) (fun _ _ _ h => h) (Or.inl ⟨by rfl, ?_⟩) hHeld ?_ ?_
 rotate_left
 ·rintro w' ⟨s0, s1, s2⟩
  go_simp
  with_reducible rfl
 rotate_left
 ·simp only [apu_]
  rfl
 refine take_ (i := 2) (N := some 15) (v := ?_) (a' := ?_) #[true, true, true, false, false, false, false, false, false, false, false, false, false, false, false, false] rfl rfl (by kernel_rfl) (fun _ _ _ h => h) (Or.inl ⟨by rfl, ?_⟩) hHeld ?_ ?_
 rotate_left
 ·rintro w' ⟨s0, s1, s2⟩
  go_simp
  with_reducible rfl
 rotate_left
 ·simp only [apu_]
  rfl
 refine take_ (i := 3) (N := some 16) (v := ?_) (a' := ?_) #[true, true, true, true, false, false, false, false, false, false, false, false, false, false, false, false] rfl rfl (by kernel_rfl) (fun _ _ _ h => h) (Or.inl ⟨by rfl, ?_⟩) hHeld ?_ ?_
 rotate_left
 ·rintro w' ⟨s0, s1, s2⟩
  go_simp
  with_reducible rfl
 rotate_left
 ·simp only [apu_]
  rfl
 refine take_ (i := 4) (N := some 17) (v := ?_) (a' := ?_) #[true, true, true, true, true, false, false, false, false, false, false, false, false, false, false, false] rfl rfl (by kernel_rfl) (fun _ _ _ h => h) (Or.inl ⟨by rfl, ?_⟩) hHeld ?_ ?_
 rotate_left
 ·rintro w' ⟨s0, s1, s2⟩
  go_simp
  with_reducible rfl
 rotate_left
 ·simp only [apu_]
  rfl
 refine take_ (i := 5) (N := some 18) (v := ?_) (a' := ?_) #[true, true, true, true, true, true, false, false, false, false, false, false, false, false, false, false] rfl rfl (by kernel_rfl) (fun _ _ _ h => h) (Or.inl ⟨by rfl, ?_⟩) hHeld ?_ ?_
 rotate_left
 ·rintro w' ⟨s0, s1, s2⟩
  go_simp
  with_reducible rfl
 rotate_left
 ·simp only [apu_]
  rfl
 refine take_ (i := 7) (N := some 20) (v := ?_) (a' := ?_) #[true, true, true, true, true, true, false, true, false, false, false, false, false, false, false, false] rfl rfl (by kernel_rfl) (fun _ _ _ h => h) (Or.inl ⟨by rfl, ?_⟩) hHeld ?_ ?_
 rotate_left
 ·rintro w' ⟨s0, s1, s2⟩
  go_simp
  with_reducible rfl
 rotate_left
 ·simp only [apu_]
  rfl
 refine take_ (i := 9) (N := some 22) (v := ?_) (a' := ?_) #[true, true, true, true, true, true, false, true, false, true, false, false, false, false, false, false] rfl rfl (by kernel_rfl) (fun _ _ _ h => h) (Or.inl ⟨by rfl, ?_⟩) hHeld ?_ ?_
 rotate_left
 ·rintro w' ⟨s0, s1, s2⟩
  go_simp
  with_reducible rfl
 rotate_left
 ·simp only [apu_]
  rfl
 rw [wq]
 refine join_ (σ := Nat) 5 #[true, true, true, true, true, true, true, true, true, true, true, false, false, false, false, false] (fun s_ => [(19, .int .i64 a1), (21, .int .i64 a2), (23, .slice (some ⟨s_, 0, none⟩) 5 5)]) (fun s_ w' => w'.heap[s_]? = some (.cells #[.string ⟨#[]⟩, .string ⟨#[120]⟩, .string ⟨#[97]⟩, .string ⟨#[49, 50, 51, 52, 53, 54, 55, 56, 57]⟩, .string ⟨#[49, 50, 51, 52, 53, 54, 55, 56]⟩] 9 (0, 0)) ∧ DB W1 w' W2.heap.size W1.heap.size gv A0' c0' C A1' c1' R L l0 p2 q2 ∧ s_ ≠ W1.heap.size) ?_ ?_
 rotate_left
 ·intro hCont
  refine two_ (i := 6) (j := 10) (Ni := some 19) (Nj := some 23) #[true, true, true, true, true, true, true, true, false, true, false, false, false, false, false, false] #[true, true, true, true, true, true, false, true, false, true, true, false, false, false, false, false] rfl rfl rfl rfl (by kernel_rfl) (by decide) (by decide) (fun K hK => ?_) (fun K hK => ?_)
  ·skip
   refine goes_ Try.func77 (by kernel_rfl) rfl #[.pointer (some ⟨W1.heap.size, 0, none⟩), .int .i64 ((R.length : Int) + 1)] (by rfl) rfl rfl (by (try simp only [List.map_toArray, List.map_cons, List.map_nil]); first | done | rfl) ?_
   refine (spec_l1Cur_pick.calls W1.heap.size l0 p q ((R.length : Int) + 1) a1 p1 q1 W1 wa BA.out.i BA.out.b E1.out).mono ?_
   rintro e wb ⟨rfl, hI, hB, hK5⟩
   refine ⟨_, rfl, ?_⟩
   have BB := Aside0.mk (BA.out.cur HG.out HV.out hI hB hK5)
   clear hI hB hK5
   refine hK.out _ _ ⟨(blk_cell BB.out.v 0).trans rfl, (blk_cell BB.out.v 1).trans rfl, (blk_cell BB.out.v 2).trans rfl⟩ (fun hHeld => ?_)
   clear hK K
   refine norm_ (a' := ?_) ?_ ?_
   rotate_left
   ·show Act.put _ (some 19) _ = _
    simp only [apu_]
    rfl
   refine two_ (i := 8) (j := 10) (Ni := some 21) (Nj := some 23) #[true, true, true, true, true, true, true, true, true, true, false, false, false, false, false, false] #[true, true, true, true, true, true, true, true, false, true, true, false, false, false, false, false] rfl rfl rfl rfl (by kernel_rfl) (by decide) (by decide) (fun K hK => ?_) (fun K hK => ?_)
   ·skip
    refine goes_ Try.func77 (by kernel_rfl) rfl #[.pointer (some ⟨W1.heap.size, 0, none⟩), .int .i64 17] (by rfl) rfl rfl (by (try simp only [List.map_toArray, List.map_cons, List.map_nil]); first | done | rfl) ?_
    refine (spec_l1Cur_pick.calls W1.heap.size l0 p1 q1 17 a2 p2 q2 W1 wb BB.out.i BB.out.b E2.out).mono ?_
    rintro e wc ⟨rfl, hI, hB, hK5⟩
    refine ⟨_, rfl, ?_⟩
    have BC := Aside0.mk (BB.out.cur HG.out HV.out hI hB hK5)
    clear hI hB hK5
    refine hK.out _ _ ⟨(blk_cell BC.out.v 0).trans rfl, (blk_cell BC.out.v 1).trans rfl, (blk_cell BC.out.v 2).trans rfl⟩ (fun hHeld => ?_)
    clear hK K
    refine norm_ (a' := ?_) ?_ ?_
    rotate_left
    ·show Act.put _ (some 21) _ = _
     simp only [apu_]
     rfl
    refine one_ (i := 10) (N := some 23) #[true, true, true, true, true, true, true, true, true, true, true, false, false, false, false, false] rfl rfl (by kernel_rfl) (by decide) (fun K hK => ?_)
    refine event_step (by rfl) (v := .slice (some ⟨wc.heap.size, 0, none⟩) 5 5) (w1 := wc.alloc (.cells #[.string ⟨#[]⟩, .string ⟨#[120]⟩, .string ⟨#[97]⟩, .string ⟨#[49, 50, 51, 52, 53, 54, 55, 56, 57]⟩, .string ⟨#[49, 50, 51, 52, 53, 54, 55, 56]⟩] 9)) (by first | (go_simp; done) | (go_simp; rfl)) ?_
    have hba := below_alloc (Below.refl wc.heap.size wc) (.cells #[.string ⟨#[]⟩, .string ⟨#[120]⟩, .string ⟨#[97]⟩, .string ⟨#[49, 50, 51, 52, 53, 54, 55, 56, 57]⟩, .string ⟨#[49, 50, 51, 52, 53, 54, 55, 56]⟩] 9)
    have TD := Aside0.mk (heap_alloc_new wc (.cells #[.string ⟨#[]⟩, .string ⟨#[120]⟩, .string ⟨#[97]⟩, .string ⟨#[49, 50, 51, 52, 53, 54, 55, 56, 57]⟩, .string ⟨#[49, 50, 51, 52, 53, 54, 55, 56]⟩] 9))
    have BD := Aside0.mk (BC.out.below hba)
    have GT := Aside0.mk (show wc.heap.size ≠ W1.heap.size from Nat.ne_of_gt BC.out.i.lt)
    refine hK.out _ _ ⟨(blk_cell BD.out.v 0).trans rfl, (blk_cell BD.out.v 1).trans rfl, (blk_cell BD.out.v 2).trans rfl⟩ (fun hHeld => ?_)
    clear hK K
    refine norm_ (a' := ?_) ?_ ?_
    rotate_left
    ·show Act.put _ (some 23) _ = _
     simp only [apu_]
     rfl
    obtain ⟨wd, hwo⟩ : ∃ W, wc.alloc (.cells #[.string ⟨#[]⟩, .string ⟨#[120]⟩, .string ⟨#[97]⟩, .string ⟨#[49, 50, 51, 52, 53, 54, 55, 56, 57]⟩, .string ⟨#[49, 50, 51, 52, 53, 54, 55, 56]⟩] 9) = W := ⟨_, rfl⟩
    rw [hwo] at TD BD hHeld ⊢
    clear hba hwo
    exact hCont wc.heap.size wd ⟨TD.out, BD.out, GT.out⟩
   ·skip
    refine event_step (by rfl) (v := .slice (some ⟨wb.heap.size, 0, none⟩) 5 5) (w1 := wb.alloc (.cells #[.string ⟨#[]⟩, .string ⟨#[120]⟩, .string ⟨#[97]⟩, .string ⟨#[49, 50, 51, 52, 53, 54, 55, 56, 57]⟩, .string ⟨#[49, 50, 51, 52, 53, 54, 55, 56]⟩] 9)) (by first | (go_simp; done) | (go_simp; rfl)) ?_
    have hba := below_alloc (Below.refl wb.heap.size wb) (.cells #[.string ⟨#[]⟩, .string ⟨#[120]⟩, .string ⟨#[97]⟩, .string ⟨#[49, 50, 51, 52, 53, 54, 55, 56, 57]⟩, .string ⟨#[49, 50, 51, 52, 53, 54, 55, 56]⟩] 9)
    have TC := Aside0.mk (heap_alloc_new wb (.cells #[.string ⟨#[]⟩, .string ⟨#[120]⟩, .string ⟨#[97]⟩, .string ⟨#[49, 50, 51, 52, 53, 54, 55, 56, 57]⟩, .string ⟨#[49, 50, 51, 52, 53, 54, 55, 56]⟩] 9))
    have BC := Aside0.mk (BB.out.below hba)
    have GT := Aside0.mk (show wb.heap.size ≠ W1.heap.size from Nat.ne_of_gt BB.out.i.lt)
    refine hK.out _ _ ⟨(blk_cell BC.out.v 0).trans rfl, (blk_cell BC.out.v 1).trans rfl, (blk_cell BC.out.v 2).trans rfl⟩ (fun hHeld => ?_)
    clear hK K
    refine norm_ (a' := ?_) ?_ ?_
    rotate_left
    ·show Act.put _ (some 23) _ = _
     simp only [apu_]
     rfl
    obtain ⟨wc, hwo⟩ : ∃ W, wb.alloc (.cells #[.string ⟨#[]⟩, .string ⟨#[120]⟩, .string ⟨#[97]⟩, .string ⟨#[49, 50, 51, 52, 53, 54, 55, 56, 57]⟩, .string ⟨#[49, 50, 51, 52, 53, 54, 55, 56]⟩] 9) = W := ⟨_, rfl⟩
    rw [hwo] at TC BC hHeld ⊢
    clear hba hwo
    refine one_ (i := 8) (N := some 21) #[true, true, true, true, true, true, true, true, true, true, true, false, false, false, false, false] rfl rfl (by kernel_rfl) (by decide) (fun K hK => ?_)
    refine goes_ Try.func77 (by kernel_rfl) rfl #[.pointer (some ⟨W1.heap.size, 0, none⟩), .int .i64 17] (by rfl) rfl rfl (by (try simp only [List.map_toArray, List.map_cons, List.map_nil]); first | done | rfl) ?_
    refine (spec_l1Cur_pick.calls W1.heap.size l0 p1 q1 17 a2 p2 q2 W1 wc BC.out.i BC.out.b E2.out).mono ?_
    rintro e wd ⟨rfl, hI, hB, hK5⟩
    refine ⟨_, rfl, ?_⟩
    have BD := Aside0.mk (BC.out.cur HG.out HV.out hI hB hK5)
    have TD := Aside0.mk (hK5.blk TC.out GT.out (by simp))
    clear hI hB hK5
    refine hK.out _ _ ⟨(blk_cell BD.out.v 0).trans rfl, (blk_cell BD.out.v 1).trans rfl, (blk_cell BD.out.v 2).trans rfl⟩ (fun hHeld => ?_)
    clear hK K
    refine norm_ (a' := ?_) ?_ ?_
    rotate_left
    ·show Act.put _ (some 21) _ = _
     simp only [apu_]
     rfl
    exact hCont wb.heap.size wd ⟨TD.out, BD.out, GT.out⟩
  ·skip
   refine event_step (by rfl) (v := .slice (some ⟨wa.heap.size, 0, none⟩) 5 5) (w1 := wa.alloc (.cells #[.string ⟨#[]⟩, .string ⟨#[120]⟩, .string ⟨#[97]⟩, .string ⟨#[49, 50, 51, 52, 53, 54, 55, 56, 57]⟩, .string ⟨#[49, 50, 51, 52, 53, 54, 55, 56]⟩] 9)) (by first | (go_simp; done) | (go_simp; rfl)) ?_
   have hba := below_alloc (Below.refl wa.heap.size wa) (.cells #[.string ⟨#[]⟩, .string ⟨#[120]⟩, .string ⟨#[97]⟩, .string ⟨#[49, 50, 51, 52, 53, 54, 55, 56, 57]⟩, .string ⟨#[49, 50, 51, 52, 53, 54, 55, 56]⟩] 9)
   have TB := Aside0.mk (heap_alloc_new wa (.cells #[.string ⟨#[]⟩, .string ⟨#[120]⟩, .string ⟨#[97]⟩, .string ⟨#[49, 50, 51, 52, 53, 54, 55, 56, 57]⟩, .string ⟨#[49, 50, 51, 52, 53, 54, 55, 56]⟩] 9))
   have BB := Aside0.mk (BA.out.below hba)
   have GT := Aside0.mk (show wa.heap.size ≠ W1.heap.size from Nat.ne_of_gt BA.out.i.lt)
   refine hK.out _ _ ⟨(blk_cell BB.out.v 0).trans rfl, (blk_cell BB.out.v 1).trans rfl, (blk_cell BB.out.v 2).trans rfl⟩ (fun hHeld => ?_)
   clear hK K
   refine norm_ (a' := ?_) ?_ ?_
   rotate_left
   ·show Act.put _ (some 23) _ = _
    simp only [apu_]
    rfl
   obtain ⟨wb, hwo⟩ : ∃ W, wa.alloc (.cells #[.string ⟨#[]⟩, .string ⟨#[120]⟩, .string ⟨#[97]⟩, .string ⟨#[49, 50, 51, 52, 53, 54, 55, 56, 57]⟩, .string ⟨#[49, 50, 51, 52, 53, 54, 55, 56]⟩] 9) = W := ⟨_, rfl⟩
   rw [hwo] at TB BB hHeld ⊢
   clear hba hwo
   refine one_ (i := 6) (N := some 19) #[true, true, true, true, true, true, true, true, false, true, true, false, false, false, false, false] rfl rfl (by kernel_rfl) (by decide) (fun K hK => ?_)
   refine goes_ Try.func77 (by kernel_rfl) rfl #[.pointer (some ⟨W1.heap.size, 0, none⟩), .int .i64 ((R.length : Int) + 1)] (by rfl) rfl rfl (by (try simp only [List.map_toArray, List.map_cons, List.map_nil]); first | done | rfl) ?_
   refine (spec_l1Cur_pick.calls W1.heap.size l0 p q ((R.length : Int) + 1) a1 p1 q1 W1 wb BB.out.i BB.out.b E1.out).mono ?_
   rintro e wc ⟨rfl, hI, hB, hK5⟩
   refine ⟨_, rfl, ?_⟩
   have BC := Aside0.mk (BB.out.cur HG.out HV.out hI hB hK5)
   have TC := Aside0.mk (hK5.blk TB.out GT.out (by simp))
   clear hI hB hK5
   refine hK.out _ _ ⟨(blk_cell BC.out.v 0).trans rfl, (blk_cell BC.out.v 1).trans rfl, (blk_cell BC.out.v 2).trans rfl⟩ (fun hHeld => ?_)
   clear hK K
   refine norm_ (a' := ?_) ?_ ?_
   rotate_left
   ·show Act.put _ (some 19) _ = _
    simp only [apu_]
    rfl
   refine one_ (i := 8) (N := some 21) #[true, true, true, true, true, true, true, true, true, true, true, false, false, false, false, false] rfl rfl (by kernel_rfl) (by decide) (fun K hK => ?_)
   refine goes_ Try.func77 (by kernel_rfl) rfl #[.pointer (some ⟨W1.heap.size, 0, none⟩), .int .i64 17] (by rfl) rfl rfl (by (try simp only [List.map_toArray, List.map_cons, List.map_nil]); first | done | rfl) ?_
   refine (spec_l1Cur_pick.calls W1.heap.size l0 p1 q1 17 a2 p2 q2 W1 wc BC.out.i BC.out.b E2.out).mono ?_
   rintro e wd ⟨rfl, hI, hB, hK5⟩
   refine ⟨_, rfl, ?_⟩
   have BD := Aside0.mk (BC.out.cur HG.out HV.out hI hB hK5)
   have TD := Aside0.mk (hK5.blk TC.out GT.out (by simp))
   clear hI hB hK5
   refine hK.out _ _ ⟨(blk_cell BD.out.v 0).trans rfl, (blk_cell BD.out.v 1).trans rfl, (blk_cell BD.out.v 2).trans rfl⟩ (fun hHeld => ?_)
   clear hK K
   refine norm_ (a' := ?_) ?_ ?_
   rotate_left
   ·show Act.put _ (some 21) _ = _
    simp only [apu_]
    rfl
   exact hCont wa.heap.size wd ⟨TD.out, BD.out, GT.out⟩
 rintro bt we ⟨hT, hB, hG⟩
 try dsimp only at hT hG
 dsimp only [putAll]
 clear hHeld BA
 have BE := Aside0.mk hB
 have TE := Aside0.mk hT
 have GT := Aside0.mk hG
 clear hT hB hG
 refine norm_ (a' := ?_) ?_ ?_
 rotate_left
 ·simp only [apu_]
  rfl
 refine one_ (i := 11) (N := some 24) #[true, true, true, true, true, true, true, true, true, true, true, true, false, false, false, false] rfl rfl (by kernel_rfl) (by decide) (fun K hK => ?_)
 refine goes_ Try.func78 (by kernel_rfl) rfl #[.pointer (some ⟨W1.heap.size, 0, none⟩), .slice (some ⟨bt, 0, none⟩) 5 5] (by rfl) rfl rfl (by (try simp only [List.map_toArray, List.map_cons, List.map_nil]); first | done | rfl | (simp only [List.length_drop, List.length_take]; rfl)) ?_
 refine (spec_l1Cur_of.calls W1.heap.size l0 p2 q2 (some ⟨bt, 0, none⟩) 5 [⟨#[]⟩, ⟨#[120]⟩, ⟨#[97]⟩, ⟨#[49, 50, 51, 52, 53, 54, 55, 56, 57]⟩, ⟨#[49, 50, 51, 52, 53, 54, 55, 56]⟩] s6 p5 q5 W1 we BE.out.i BE.out.b (str5p TE.out) (by simp) (fun ad h_ _ => by have h2_ := Option.some.inj h_; subst h2_; exact GT.out) E6.out).mono ?_
 rintro e wf ⟨rfl, hI, hB, hK5⟩
 refine ⟨_, rfl, ?_⟩
 have B6 := Aside0.mk (BE.out.cur HG.out HV.out hI hB hK5)
 clear hI hB hK5 BE TE
 refine hK.out _ _ ⟨(blk_cell B6.out.v 0).trans rfl, (blk_cell B6.out.v 1).trans rfl, (blk_cell B6.out.v 2).trans rfl⟩ (fun hHeld => ?_)
 clear hK K
 refine norm_ (a' := ?_) ?_ ?_
 rotate_left
 ·show Act.put _ (some 24) _ = _
  simp only [apu_]
  rfl
 have Z6 := Aside0.mk (blk_below HH.out.2.1 B6.out.b)
 have x0 : wf.cell? ⟨w.heap.size, 0, none⟩ = some (.slice none 0 0) := (blk_cell Z6.out 0).trans rfl
 have x1 : wf.cell? ⟨w.heap.size, 1, none⟩ = some (.slice none 0 0) := (blk_cell Z6.out 1).trans rfl
 have x2 : wf.cell? ⟨w.heap.size, 2, none⟩ = some (.int .i64 0) := (blk_cell Z6.out 2).trans rfl
 have y0 := blk_frozen Z6.out 0
 have y1 := blk_frozen Z6.out 1
 have y2 := blk_frozen Z6.out 2
 refine last_ (i := 12) (N := none) #[true, true, true, true, true, true, true, true, true, true, true, true, true, false, false, false] rfl rfl (by kernel_rfl) (by decide) (fun K hK => ?_)
 refine skip_ (w1 := ((wf.setCell ⟨w.heap.size, 0, none⟩ (.slice A0' C.length c0')).setCell ⟨w.heap.size, 1, none⟩ (.slice A1' R.length c1')).setCell ⟨w.heap.size, 2, none⟩ (.int .i64 L)) (by rfl) rfl ?_ ?_
 ·first | (go_simp; done) | (go_simp; rfl)
 obtain ⟨t1_, t2_, t3_⟩ := B6.out.ret Z6.out (Nat.le_refl _) HH.out.1 (Nat.le_trans HH.out.1.size HH.out.2.2) (.slice A0' C.length c0') (.slice A1' R.length c1') (.int .i64 L)
 have V6 := Aside0.mk (put3 Z6.out (.slice A0' C.length c0') (.slice A1' R.length c1') (.int .i64 L))
 have T6 := Aside0.mk (And.intro t1_ (And.intro t2_ t3_))
 clear t1_ t2_ t3_ x0 x1 x2 y0 y1 y2
 refine hK.out _ _ ?_
 clear hK K
 refine pure_ (i := 13) (N := some 3) (v := ?_) (a' := ?_) #[true, true, true, true, true, true, true, true, true, true, true, true, true, true, false, false] rfl rfl (by kernel_rfl) (fun _ _ _ h => h) (Or.inl ⟨by rfl, ?_⟩) ?_ ?_
 rotate_left
 ·intro w'
  go_simp
  with_reducible rfl
 rotate_left
 ·simp only [apu_]
  rfl
 refine pure_ (i := 14) (N := some 4) (v := ?_) (a' := ?_) #[true, true, true, true, true, true, true, true, true, true, true, true, true, true, true, false] rfl rfl (by kernel_rfl) (fun _ _ _ h => h) (Or.inl ⟨by rfl, ?_⟩) ?_ ?_
 rotate_left
 ·intro w'
  go_simp
  with_reducible rfl
 rotate_left
 ·simp only [apu_]
  rfl
 refine pure_ (i := 15) (N := some 5) (v := ?_) (a' := ?_) #[true, true, true, true, true, true, true, true, true, true, true, true, true, true, true, true] rfl rfl (by kernel_rfl) (fun _ _ _ h => h) (Or.inl ⟨by rfl, ?_⟩) ?_ ?_
 rotate_left
 ·intro w'
  go_simp
  with_reducible rfl
 rotate_left
 ·simp only [apu_]
  rfl
 refine done_ (by kernel_rfl) ?_
 clear hHeld
 go_wp2
 refine bodyPost_ret (results_cttt rfl _ _ w.heap.size 25 #[.slice A0' C.length c0', .slice A1' R.length c1', .int .i64 L] (0, 0) _ rfl V6.out Try.underlying25 rfl (by kernel_rfl)) rfl ?_
 exact ⟨_, _, _, _, _, _, _, _, rfl, T6.out.1, T6.out.2.1, HSZ.out, T6.out.2.2⟩
end Go.Proofs.Ytacfalpgmibfnaa.PCow
