import Derived.Test.YthljjgolloiamaaDoorWMore
import Derived.ChangeArms
import Derived.Deep.Slices
import Derived.Test.YthljjgolloiamaaDoorEv
import Derived.Test.YthljjgolloiamaaDoorYNamlawsA
import Derived.Test.YthljjgolloiamaaDoorYNamlawsE
import Derived.Test.YthljjgolloiamaaDoorYNamlawsT
import Derived.Test.YthljjgolloiamaaDoorYNamspecWalkPath
import Derived.Test.YthljjgolloiamaaDoorXNamWalk
import Derived.Test.YthljjgolloiamaaDoorXNamLFnExactListDir
/-! What comes in, laid open: a value that can be read as data is told by its kind. -/
namespace Go.Proofs.YthljjgolloiamaaDoor.O
open Go.ChangeShapes Go.WideShapes Go.Deep Go.RowKit Go.Proofs.YthljjgolloiamaaDoorW.PrintWords
set_option linter.unusedSimpArgs false
set_option linter.unusedVariables false

section
variable {H : Type} {enc : TypeId × Value → H} {P : Program} {w : World} {base : Nat} {spare : Nat → Bool} {held : Bool}

def Opens (enc : TypeId × Value → H) (P : Program) (w : World) (base : Nat) (spare : Nat → Bool) (held : Bool) {α : Type} (d : Kd α) (t : TypeId) (wf : α → Prop) : Prop :=
  ∀ fuel cs x, DataW.trod enc P w base spare held fuel t cs = some x → ∃ a, d.K w a cs ∧ wf a
theorem opens_int {t : TypeId} {k : IntKind} (ht : P.underlying t = some (.int k)) : Opens enc P w base spare held (Kd.int k) t (fun n => (Lit.int k n).wf = true) := by
  intro fuel cs x h
  obtain ⟨n, hc, _, hw⟩ := DataW.trod_int ht h
  exact ⟨n, hc, hw⟩
theorem opens_string {t : TypeId} (ht : P.underlying t = some .string) : Opens enc P w base spare held Kd.string t (fun s => s.size ≤ 9223372036854775807) := by
  intro fuel cs x h
  obtain ⟨s, hc, _, hw⟩ := DataW.trod_string ht h
  exact ⟨s, hc, by simpa only [maxLen] using hw⟩
theorem opens_bool {t : TypeId} (ht : P.underlying t = some .bool) : Opens enc P w base spare held Kd.bool t (fun _ => True) := by
  intro fuel cs x h
  obtain ⟨b, hc, _⟩ := DataW.trod_bool ht h
  exact ⟨b, hc, trivial⟩
theorem opens_slice {α : Type} {d : Kd α} {t e : TypeId} {wf : α → Prop} (e' : Nat) (ht : P.underlying t = some (.slice e)) (hC : P.cellsOf e = d.sz) (he : Opens enc P w base spare held d e wf) :
    Opens enc P w base spare held (Kd.slice e' d) t (fun l => l.length ≤ 9223372036854775807 ∧ ∀ x ∈ l, wf x) := by
  intro fuel cs x h
  rcases open_slice ht h with ⟨rfl, _⟩ | ⟨a, len, cap, m, n, D, Pl, rfl, hb, hl, hm, hmm, _, hi⟩
  · exact ⟨[], ⟨none, 0, rfl, Nat.le_refl _, rfl, by simp, fun h => absurd h (by simp)⟩, by simp, by simp⟩
  · have hle : len ≤ m := by rw [hmm]; split <;> omega
    have hmx : cap ≤ 9223372036854775807 := by simpa only [maxLen] using hm
    have key : ∀ i : Fin len, ∃ y, (∃ c : List Value, c.length = d.sz ∧ d.K w y c ∧ ∀ j u, c[j]? = some u → w.cell? (a.add (i.1 * d.sz + j)) = some u) ∧ wf y := by
      intro i
      have := i.2
      obtain ⟨cs', hcs, ht'⟩ := hi i.1 (by omega)
      obtain ⟨y, hK, hw⟩ := he _ _ _ ht'
      rw [hC] at hcs
      obtain ⟨_, hlen, hcell⟩ := World.cells?_some hcs
      refine ⟨y, ⟨cs', hlen, hK, fun j u hj => ?_⟩, hw⟩
      have h1 := hcell j (by have := (List.getElem?_eq_some_iff.1 hj).1; omega)
      rw [← Go.Deep.add_add, h1, hj]
    refine ⟨List.ofFn fun i => (key i).choose, ⟨some a, cap, by rw [List.length_ofFn], by rw [List.length_ofFn]; exact hl, by rw [List.length_ofFn], by rw [List.length_ofFn]; omega, fun _ => ⟨a, rfl, fun j p hj => ?_⟩⟩, by rw [List.length_ofFn]; omega, fun y hy => ?_⟩
    · have hjl := (List.getElem?_eq_some_iff.1 hj).1
      rw [List.length_ofFn] at hjl
      rw [List.getElem?_ofFn, dif_pos hjl] at hj
      obtain rfl := Option.some.inj hj
      exact (key ⟨j, hjl⟩).choose_spec.1
    · obtain ⟨i, rfl⟩ := List.mem_ofFn.1 hy
      exact (key i).choose_spec.2
/-- The fields of a struct from a place on. -/
def OpensS (enc : TypeId × Value → H) (P : Program) (w : World) (base : Nat) (spare : Nat → Bool) (held : Bool) {α : Type} (d : Kd α) (fs : List Field) (off : Nat) (wf : α → Prop) : Prop :=
  ∀ n (cs : List Value), cs.length = off + d.sz → (∀ f ∈ fs, ∃ y, DataW.trod enc P w base spare held n f.type ((cs.drop f.offset).take (P.cellsOf f.type)) = some y) → ∃ a, d.K w a (cs.drop off) ∧ wf a
theorem openss_one {α : Type} {d : Kd α} {f : Field} {off : Nat} {wf : α → Prop} (ho : f.offset = off) (hC : P.cellsOf f.type = d.sz) (h : Opens enc P w base spare held d f.type wf) : OpensS enc P w base spare held d [f] off wf := by
  intro n cs hl hf
  obtain ⟨y, hy⟩ := hf f (by simp)
  rw [ho, hC, List.take_of_length_le (by rw [List.length_drop]; omega)] at hy
  exact h _ _ _ hy
theorem openss_cons {α β : Type} {d : Kd α} {d' : Kd β} {f : Field} {fs : List Field} {off : Nat} {wf : α → Prop} {wf' : β → Prop} (ho : f.offset = off) (hC : P.cellsOf f.type = d.sz) (h : Opens enc P w base spare held d f.type wf)
    (h' : OpensS enc P w base spare held d' fs (off + d.sz) wf') : OpensS enc P w base spare held (Kd.pair d d') (f :: fs) off (fun x => wf x.1 ∧ wf' x.2) := by
  intro n cs hl hf
  have hs : (Kd.pair d d').sz = d.sz + d'.sz := rfl
  rw [hs] at hl
  obtain ⟨y, hy⟩ := hf f (by simp)
  rw [ho, hC] at hy
  obtain ⟨a, ha, hw⟩ := h _ _ _ hy
  obtain ⟨b, hb, hw'⟩ := h' n cs (by omega) (fun g hg => hf g (by simp [hg]))
  refine ⟨(a, b), ⟨(cs.drop off).take d.sz, cs.drop (off + d.sz), ?_, ha, hb⟩, hw, hw'⟩
  rw [← List.drop_drop, List.take_append_drop]
theorem opens_struct {α : Type} {d : Kd α} {t : TypeId} {fs : Array Field} {wf : α → Prop} (ht : P.underlying t = some (.struct fs)) (hC : P.cellsOf t = d.sz) (h : OpensS enc P w base spare held d fs.toList 0 wf) : Opens enc P w base spare held d t wf := by
  intro fuel cs x hx
  obtain ⟨xs, n, _, _, hl, hlen, hf⟩ := DataW.trod_struct ht hx
  refine h n cs (by omega) (fun f hfm => ?_)
  obtain ⟨i, hi, he⟩ := List.getElem_of_mem hfm
  have hi' : i < fs.size := by simpa using hi
  have h1 : fs[i]? = some f := by rw [Array.getElem?_eq_getElem hi']; rw [← he]; simp
  rw [hf i f h1, List.getElem?_eq_getElem (by omega)]
  exact ⟨_, rfl⟩
theorem opens_iso {α β : Type} {d : Kd α} {t : TypeId} {wf : α → Prop} (f : β → α) (g : α → β) (hfg : ∀ a, f (g a) = a) (h : Opens enc P w base spare held d t wf) : Opens enc P w base spare held (Kd.iso d f) t (fun x => wf (f x)) := by
  intro fuel cs x hx
  obtain ⟨a, ha, hw⟩ := h fuel cs x hx
  refine ⟨g a, ?_, ?_⟩
  · show d.K w (f (g a)) cs
    rw [hfg]; exact ha
  · show wf (f (g a))
    rw [hfg]; exact hw
theorem opens_mono {α : Type} {d : Kd α} {t : TypeId} {wf wf' : α → Prop} (h : Opens enc P w base spare held d t wf) (hw : ∀ a, wf a → wf' a) : Opens enc P w base spare held d t wf' := by
  intro fuel cs x hx
  obtain ⟨a, ha, h1⟩ := h fuel cs x hx
  exact ⟨a, ha, hw a h1⟩
/-- A slice that came in as an argument. -/
theorem slice_arg {α : Type} {d : Kd α} {t e' : Nat} {v : Value} {dd : DataW H} {ps : List MemPlace} {wf : List α → Prop} (h : Opens enc P w base spare held (Kd.slice e' d) t wf) (ht : ∃ a len cap, v = .slice a len cap) (hd : DataW.Trod enc P w base spare held t v dd ps) :
    ∃ (l : List α) (A : Option Addr) (c : Nat), v = .slice A l.length c ∧ l.length ≤ c ∧ d.C w A l.length l ∧ wf l := by
  obtain ⟨a, len, cap, rfl⟩ := ht
  obtain ⟨fuel, hf⟩ := hd
  obtain ⟨l, ⟨A, c, hc, hl, hr⟩, hw⟩ := h _ _ _ hf
  exact ⟨l, A, c, by simpa [Value.cells] using hc, hl, hr, hw⟩
end
end Go.Proofs.YthljjgolloiamaaDoor.O
/-! Loops over a row, told once: a state, what holds of it, and one step. -/
namespace Go.Proofs.YthljjgolloiamaaDoor.E
open Go.RowKit Go.Proofs.YthljjgolloiamaaDoorW.PrintWords Go.Proofs.YthljjgolloiamaaDoorW.PrintMore
theorem st_loop {σ ρ : Type} (F : Nat → σ → Int → Option ρ) (n : Nat) (Inv : Int → σ → Prop)
    (hstep : ∀ (s : σ) (i : Int), 0 ≤ i → i < (n : Int) → Inv i s → ∃ s', Inv (i + 1) s' ∧ ∀ r, Ev (fun k => F k s' (i + 1)) r → Ev (fun k => F k s i) r) (s : σ) (h0 : Inv 0 s) :
    ∃ s', Inv (n : Int) s' ∧ ∀ r, Ev (fun k => F k s' n) r → Ev (fun k => F k s 0) r := by
  have key : ∀ (f : Nat) (s : σ) (i : Int), 0 ≤ i → i + f = n → Inv i s → ∃ s', Inv (n : Int) s' ∧ ∀ r, Ev (fun k => F k s' n) r → Ev (fun k => F k s i) r := by
    intro f
    induction f with
    | zero =>
      intro s i h1 h2 h3
      obtain rfl : i = n := by omega
      exact ⟨s, h3, fun _ h => h⟩
    | succ f ih =>
      intro s i h1 h2 h3
      obtain ⟨s1, h4, h5⟩ := hstep s i h1 (by omega) h3
      obtain ⟨s2, h6, h7⟩ := ih s1 (i + 1) (by omega) (by omega) h4
      exact ⟨s2, h6, fun r hr => h5 r (h7 r hr)⟩
  exact key n s 0 (by omega) (by omega) h0
theorem ex_loop {σ ρ : Type} (F : Nat → σ → Int → Option ρ) (n : Nat) (Inv : Int → σ → Prop) (Post : ρ → Prop)
    (hend : ∀ s, Inv (n : Int) s → ∃ r, Post r ∧ Ev (fun k => F k s n) r)
    (hstep : ∀ (s : σ) (i : Int), 0 ≤ i → i < (n : Int) → Inv i s → (∃ r, Post r ∧ Ev (fun k => F k s i) r) ∨ ∃ s', Inv (i + 1) s' ∧ ∀ r, Ev (fun k => F k s' (i + 1)) r → Ev (fun k => F k s i) r) (s : σ) (h0 : Inv 0 s) :
    ∃ r, Post r ∧ Ev (fun k => F k s 0) r := by
  have key : ∀ (f : Nat) (s : σ) (i : Int), 0 ≤ i → i + f = n → Inv i s → ∃ r, Post r ∧ Ev (fun k => F k s i) r := by
    intro f
    induction f with
    | zero =>
      intro s i h1 h2 h3
      obtain rfl : i = n := by omega
      exact hend s h3
    | succ f ih =>
      intro s i h1 h2 h3
      rcases hstep s i h1 (by omega) h3 with h4 | ⟨s1, h4, h5⟩
      · exact h4
      · obtain ⟨r, hp, hr⟩ := ih s1 (i + 1) (by omega) (by omega) h4
        exact ⟨r, hp, h5 r hr⟩
  exact key n s 0 (by omega) (by omega) h0
/-- A loop that only counts up. -/
theorem up_loop {ρ : Type} (F : Nat → Int → Option ρ) (n : Nat) (r : ρ) (hend : Ev (fun k => F k n) r)
    (hstep : ∀ i : Int, 0 ≤ i → i < (n : Int) → Ev (fun k => F k (i + 1)) r → Ev (fun k => F k i) r) : Ev (fun k => F k 0) r := by
  obtain ⟨_, _, h⟩ := st_loop (σ := Unit) (fun k _ i => F k i) n (fun i _ => ∀ j : Int, j = i → True) (fun _ i h0 h1 _ => ⟨(), fun _ _ => trivial, fun q hq => by
    by_cases e : q = r
    · subst e; exact hstep i h0 h1 hq
    · exfalso
      have key : ∀ (f : Nat) (i : Int), 0 ≤ i → i + f = n → Ev (fun k => F k i) r := by
        intro f
        induction f with
        | zero => intro i h1 h2; obtain rfl : i = n := by omega
                  exact hend
        | succ f ih => intro i h1 h2; exact hstep i h1 (by omega) (ih (i + 1) (by omega) (by omega))
      exact e (ev_unique hq (key (n - (i + 1)).toNat (i + 1) (by omega) (by omega)))⟩) () (fun _ _ => trivial)
  exact h r hend
/-- A row made element by element. -/
theorem to_loop {α β ρ : Type} (l : List α) (g : α → β) (F : Nat → List β → Int → Option ρ) (x0 : List β) (hx : x0.length = l.length)
    (hstep : ∀ (x : List β) (i : Int) (hi : i.toNat < l.length), 0 ≤ i → i < (l.length : Int) → x.length = l.length → ∀ r, Ev (fun k => F k (x.set i.toNat (g l[i.toNat])) (i + 1)) r → Ev (fun k => F k x i) r) (r : ρ)
    (hend : Ev (fun k => F k (l.map g) l.length) r) : Ev (fun k => F k x0 0) r := by
  obtain ⟨x, ⟨h1, h2⟩, h3⟩ := st_loop F l.length (fun i x => x.length = l.length ∧ ∀ j : Nat, (j : Int) < i → x[j]? = (l.map g)[j]?) (fun x i h0 hi hI => by
    have hi2 : i.toNat < l.length := by omega
    refine ⟨x.set i.toNat (g l[i.toNat]), ⟨by simpa using hI.1, fun j hj => ?_⟩, hstep x i hi2 h0 hi hI.1⟩
    by_cases hji : j = i.toNat
    · subst hji
      rw [List.getElem?_set_self (by omega)]
      simp [List.getElem?_eq_getElem hi2]
    · rw [List.getElem?_set_ne (by omega)]
      exact hI.2 j (by omega)) x0 ⟨hx, fun j hj => by omega⟩
  refine h3 r ?_
  have : x = l.map g := by
    refine List.ext_getElem? fun j => ?_
    by_cases hj : j < l.length
    · exact h2 j (by omega)
    · rw [List.getElem?_eq_none (by omega), List.getElem?_eq_none (by simp; omega)]
  rw [this]
  exact hend
theorem getD_at {α : Type} (l : List α) (d : α) (i : Int) (h : i.toNat < l.length) : l.getD i.toNat d = l[i.toNat] := by
  rw [List.getD_eq_getElem?_getD, List.getElem?_eq_getElem h]
  rfl
end Go.Proofs.YthljjgolloiamaaDoor.E
/-! A name space that came in: its size, its copy of the program's own type, and that it is like itself. -/
namespace Go.Proofs.YthljjgolloiamaaDoor.ZNam
open Go.RowKit Go.Proofs.YthljjgolloiamaaDoor.PNam Go.Proofs.YthljjgolloiamaaDoorW.PrintWords Go.Proofs.YthljjgolloiamaaDoorW.PrintLast Go.Proofs.YthljjgolloiamaaDoorW.PrintMore Go.Proofs.YthljjgolloiamaaDoor.E
set_option linter.unusedSimpArgs false
set_option linter.unusedVariables false
abbrev LN := S51
abbrev LI := S114
theorem szNameS (l : List LN) (a : Int) (h0 : 0 ≤ a) (h1 : a ≤ 1048576) (hm : l.length ≤ 9223372036854775807) (hw : ∀ x ∈ l, x.f0.size ≤ 9223372036854775807) :
    ∃ r, (r < 0 ∨ (0 ≤ r ∧ r ≤ 1048576 ∧ (l.length : Int) ≤ 1048576 ∧ ∀ x ∈ l, x.f0.size ≤ 1048576)) ∧ Ev (fun k => laws_szNameS.f k l a) r := by
  unfold laws_szNameS.f
  rw [w64 (x := a - (l.length : Int)) (by omega) (by omega)]
  by_cases hn : a - (l.length : Int) < 0
  · exact ⟨-1, .inl (by omega), ev_pos hn (ev_ret rfl)⟩
  · obtain ⟨r, hp, hr⟩ := ex_loop (fun k (a : Int) i => laws_szNameS.l0 k l a i) l.length (fun i a => 0 ≤ a ∧ a ≤ 1048576 ∧ ∀ j : Nat, (j : Int) < i → ∀ x, l[j]? = some x → x.f0.size ≤ 1048576)
      (fun r => r < 0 ∨ (0 ≤ r ∧ r ≤ 1048576 ∧ (l.length : Int) ≤ 1048576 ∧ ∀ x ∈ l, x.f0.size ≤ 1048576))
      (fun s hs => ⟨s, .inr ⟨hs.1, hs.2.1, by omega, fun x hx => by
        obtain ⟨j, hj, rfl⟩ := List.getElem_of_mem hx
        exact hs.2.2 j (by omega) _ (List.getElem?_eq_getElem hj)⟩, Ev.step (fun _ => laws_szNameS.l0.eq_2 ..) (ev_neg (by omega) (ev_ret rfl))⟩)
      (fun s i h2 h3 hs => by
        have hi : i.toNat < l.length := by omega
        have er : rd_T51 l i = l[i.toNat] := getD_at l _ i hi
        have hx := hw _ (List.getElem_mem hi)
        rw [← er] at hx
        have e : wrap64 (s - ((rd_T51 l i).f0.size : Int)) = s - (rd_T51 l i).f0.size := w64 (by omega) (by omega)
        by_cases hn : s - ((rd_T51 l i).f0.size : Int) < 0
        · refine .inl ⟨-1, .inl (by omega), Ev.step (fun _ => laws_szNameS.l0.eq_2 ..) (ev_pos (by omega) (ev_pos h2 (ev_bindc (a := -1) ?_ (ev_pos (by omega) (ev_ret rfl)))))⟩
          unfold laws_szName.f
          rw [e, if_pos hn]
        · refine .inr ⟨s - ((rd_T51 l i).f0.size : Int), ⟨by omega, by omega, fun j hj x hjx => ?_⟩, fun r hr => Ev.step (fun _ => laws_szNameS.l0.eq_2 ..) (ev_pos (by omega) (ev_pos h2 (ev_bindc (a := s - ((rd_T51 l i).f0.size : Int)) ?_ (ev_neg hn ?_))))⟩
          · by_cases hji : j = i.toNat
            · subst hji
              rw [List.getElem?_eq_getElem hi] at hjx
              obtain rfl := Option.some.inj hjx
              rw [← er]; omega
            · exact hs.2.2 j (by omega) x hjx
          · unfold laws_szName.f
            rw [e, if_neg hn]
          · rw [w64 (x := i + 1) (by omega) (by omega)]
            exact hr) (a - (l.length : Int)) ⟨by omega, by omega, fun j hj => by omega⟩
    exact ⟨r, hp, ev_neg hn hr⟩
/-- What the size of an inode says, where it isn't too large. -/
def SmI (v : LI) : Prop := (v.f2.length : Int) ≤ 1048576 ∧ ∀ x ∈ v.f2, x.f0.size ≤ 1048576
def SmN (l : List LI) : Prop := (l.length : Int) ≤ 1048576 ∧ ∀ v ∈ l, SmI v
theorem szInode (v : LI) (a : Int) (h0 : 0 ≤ a) (h1 : a ≤ 1048576) (hw : v.f2.length ≤ 9223372036854775807 ∧ ∀ x ∈ v.f2, x.f0.size ≤ 9223372036854775807) :
    ∃ r, (r < 0 ∨ (0 ≤ r ∧ r ≤ 1048576 ∧ SmI v)) ∧ Ev (fun k => laws_szInode.f k v.f0 v.f1 v.f2 a) r := by
  obtain ⟨r, hp, hr⟩ := szNameS v.f2 a h0 h1 hw.1 hw.2
  unfold laws_szInode.f
  by_cases hn : r < 0
  · exact ⟨-1, .inl (by omega), Ev.bind hr (ev_pos hn (ev_ret rfl))⟩
  · obtain ⟨a1, a2, a3, a4⟩ := hp.resolve_left hn
    exact ⟨r, .inr ⟨a1, a2, a3, a4⟩, Ev.bind hr (ev_neg hn (ev_ret rfl))⟩
theorem szInodeS (l : List LI) (a : Int) (h0 : 0 ≤ a) (h1 : a ≤ 1048576) (hm : l.length ≤ 9223372036854775807) (hw : ∀ v ∈ l, v.f2.length ≤ 9223372036854775807 ∧ ∀ x ∈ v.f2, x.f0.size ≤ 9223372036854775807) :
    ∃ r, (r < 0 ∨ (0 ≤ r ∧ r ≤ 1048576 ∧ SmN l)) ∧ Ev (fun k => laws_szInodeS.f k l a) r := by
  unfold laws_szInodeS.f
  rw [w64 (x := a - (l.length : Int)) (by omega) (by omega)]
  by_cases hn : a - (l.length : Int) < 0
  · exact ⟨-1, .inl (by omega), ev_pos hn (ev_ret rfl)⟩
  · obtain ⟨r, hp, hr⟩ := ex_loop (fun k (a : Int) i => laws_szInodeS.l0 k l a i) l.length (fun i a => 0 ≤ a ∧ a ≤ 1048576 ∧ ∀ j : Nat, (j : Int) < i → ∀ x, l[j]? = some x → SmI x)
      (fun r => r < 0 ∨ (0 ≤ r ∧ r ≤ 1048576 ∧ SmN l))
      (fun s hs => ⟨s, .inr ⟨hs.1, hs.2.1, by omega, fun x hx => by
        obtain ⟨j, hj, rfl⟩ := List.getElem_of_mem hx
        exact hs.2.2 j (by omega) _ (List.getElem?_eq_getElem hj)⟩, Ev.step (fun _ => laws_szInodeS.l0.eq_2 ..) (ev_neg (by omega) (ev_ret rfl))⟩)
      (fun s i h2 h3 hs => by
        have hi : i.toNat < l.length := by omega
        have er : rd_T114 l i = l[i.toNat] := getD_at l _ i hi
        have hx := hw _ (List.getElem_mem hi)
        rw [← er] at hx
        obtain ⟨q, hq, hqr⟩ := szInode (rd_T114 l i) s hs.1 hs.2.1 hx
        by_cases hn : q < 0
        · exact .inl ⟨-1, .inl (by omega), Ev.step (fun _ => laws_szInodeS.l0.eq_2 ..) (ev_pos (by omega) (ev_pos h2 (Ev.bind hqr (ev_pos hn (ev_ret rfl)))))⟩
        · obtain ⟨a1, a2, a3⟩ := hq.resolve_left hn
          refine .inr ⟨q, ⟨a1, a2, fun j hj x hjx => ?_⟩, fun r hr => Ev.step (fun _ => laws_szInodeS.l0.eq_2 ..) (ev_pos (by omega) (ev_pos h2 (Ev.bind hqr (ev_neg hn ?_))))⟩
          · by_cases hji : j = i.toNat
            · subst hji
              rw [List.getElem?_eq_getElem hi] at hjx
              obtain rfl := Option.some.inj hjx
              rw [← er]; exact a3
            · exact hs.2.2 j (by omega) x hjx
          · rw [w64 (x := i + 1) (by omega) (by omega)]
            exact hr) (a - (l.length : Int)) ⟨by omega, by omega, fun j hj => by omega⟩
    exact ⟨r, hp, ev_neg hn hr⟩
theorem szNames (l : List LI) (hm : l.length ≤ 9223372036854775807) (hw : ∀ v ∈ l, v.f2.length ≤ 9223372036854775807 ∧ ∀ x ∈ v.f2, x.f0.size ≤ 9223372036854775807) :
    ∃ r, (r < 0 ∨ (0 ≤ r ∧ r ≤ 1048576 ∧ SmN l)) ∧ Ev (fun k => laws_szNames.f k l 1048576) r := by
  obtain ⟨r, hp, hr⟩ := szInodeS l 1048576 (by omega) (by omega) hm hw
  unfold laws_szNames.f
  by_cases hn : r < 0
  · exact ⟨-1, .inl (by omega), Ev.bind hr (ev_pos hn (ev_ret rfl))⟩
  · exact ⟨r, hp, Ev.bind hr (ev_neg hn (ev_ret rfl))⟩
def cN (x : LN) : NL := ⟨x.f0, x.f1⟩
def cI (v : LI) : IN := ⟨v.f0, v.f1, v.f2.map cN⟩
theorem toNameS (l : List LN) (hl : (l.length : Int) ≤ 1048576) : Ev (fun k => laws_toNameS.f k l) (l.map cN) := by
  unfold laws_toNameS.f
  refine ev_pos (by omega) (ev_pos (by omega) ?_)
  refine to_loop l cN (fun k x i => laws_toNameS.l0 k l x i) _ (by simp) (fun x i hi h0 h1 hx r hr => ?_) _ (Ev.step (fun _ => laws_toNameS.l0.eq_2 ..) (ev_neg (by omega) (ev_ret rfl)))
  have er : rd_T51 l i = l[i.toNat] := getD_at l _ i hi
  refine Ev.step (fun _ => laws_toNameS.l0.eq_2 ..) (ev_pos (by omega) (ev_pos h0 (ev_bindc (a := ((rd_T51 l i).f0, (rd_T51 l i).f1)) rfl (ev_pos (by omega) ?_))))
  rw [w64 (x := i + 1) (by omega) (by omega), er]
  exact hr
theorem toInodeS (l : List LI) (h : SmN l) : Ev (fun k => laws_toInodeS.f k l) (l.map cI) := by
  obtain ⟨hl, hw⟩ := h
  unfold laws_toInodeS.f
  refine ev_pos (by omega) (ev_pos (by omega) ?_)
  refine to_loop l cI (fun k x i => laws_toInodeS.l0 k l x i) _ (by simp) (fun x i hi h0 h1 hx r hr => ?_) _ (Ev.step (fun _ => laws_toInodeS.l0.eq_2 ..) (ev_neg (by omega) (ev_ret rfl)))
  have er : rd_T114 l i = l[i.toNat] := getD_at l _ i hi
  have h2 := hw _ (List.getElem_mem hi)
  rw [← er] at h2
  refine Ev.step (fun _ => laws_toInodeS.l0.eq_2 ..) (ev_pos (by omega) (ev_pos h0 (Ev.bind (a := ((rd_T114 l i).f0, (rd_T114 l i).f1, (rd_T114 l i).f2.map cN)) ?_ (ev_pos (by omega) ?_))))
  · unfold laws_toInode.f
    exact Ev.bind (toNameS _ h2.1) (ev_ret rfl)
  · rw [w64 (x := i + 1) (by omega) (by omega), er]
    exact hr
theorem toNames (l : List LI) (h : SmN l) : Ev (fun k => laws_toNames.f k l) (l.map cI) := by
  unfold laws_toNames.f
  exact Ev.bind (toInodeS l h) (ev_ret rfl)
theorem eqNameS (l : List NL) (h : (l.length : Int) ≤ 100000000000) : Ev (fun k => laws_eqNameS.f k l l) true := by
  unfold laws_eqNameS.f
  refine ev_pos rfl (up_loop (fun k i => laws_eqNameS.l0 k l l i) l.length true (Ev.step (fun _ => laws_eqNameS.l0.eq_2 ..) (ev_neg (by omega) (ev_ret rfl))) (fun i h0 h1 hr => ?_))
  refine Ev.step (fun _ => laws_eqNameS.l0.eq_2 ..) (ev_pos (by omega) (ev_pos h0 (ev_pos (by omega) (ev_bindc (a := true) ?_ (ev_true rfl ?_)))))
  · unfold laws_eqName.f
    rw [if_pos rfl, if_pos rfl]
  · rw [w64 (x := i + 1) (by omega) (by omega)]
    exact hr
theorem eqInodeS (l : List IN) (h : (l.length : Int) ≤ 100000000000) (hw : ∀ x ∈ l, (x.f2.length : Int) ≤ 100000000000) : Ev (fun k => laws_eqInodeS.f k l l) true := by
  unfold laws_eqInodeS.f
  refine ev_pos rfl (up_loop (fun k i => laws_eqInodeS.l0 k l l i) l.length true (Ev.step (fun _ => laws_eqInodeS.l0.eq_2 ..) (ev_neg (by omega) (ev_ret rfl))) (fun i h0 h1 hr => ?_))
  have hi : i.toNat < l.length := by omega
  have er : rd_T76 l i = l[i.toNat] := getD_at l _ i hi
  have h2 := hw _ (List.getElem_mem hi)
  rw [← er] at h2
  refine Ev.step (fun _ => laws_eqInodeS.l0.eq_2 ..) (ev_pos (by omega) (ev_pos h0 (ev_pos (by omega) (Ev.bind (a := true) ?_ (ev_true rfl ?_)))))
  · unfold laws_eqInode.f
    exact ev_neg (by simp) (ev_pos rfl (Ev.bind (eqNameS _ h2) (ev_true rfl (ev_ret rfl))))
  · rw [w64 (x := i + 1) (by omega) (by omega)]
    exact hr
theorem eqNames (l : List LI) (h : SmN l) : Ev (fun k => laws_eqNames.f k (l.map cI) (l.map cI)) true := by
  unfold laws_eqNames.f
  refine Ev.bind (eqInodeS _ (by rw [List.length_map]; have := h.1; omega) (fun x hx => ?_)) (ev_true rfl (ev_ret rfl))
  obtain ⟨v, hv, rfl⟩ := List.mem_map.1 hx
  have := (h.2 v hv).1
  show (((v.f2.map cN).length : Nat) : Int) ≤ 100000000000
  rw [List.length_map]; omega
theorem szOk_map (l : List LI) (h : SmN l) : szOk (l.map cI) = true := by
  unfold szOk
  refine List.all_eq_true.2 fun x hx => ?_
  obtain ⟨v, hv, rfl⟩ := List.mem_map.1 hx
  refine List.all_eq_true.2 fun y hy => ?_
  obtain ⟨z, hz, rfl⟩ := List.mem_map.1 hy
  have := (h.2 v hv).2 z hz
  exact decide_eq_true (show z.f0.size ≤ 9223372036854775807 by omega)
end Go.Proofs.YthljjgolloiamaaDoor.ZNam
/-! Both sides walk a path alike in a name space that is right. -/
namespace Go.Proofs.YthljjgolloiamaaDoor.ZNam
open Go.RowKit Go.Proofs.YthljjgolloiamaaDoor.PNam Go.Proofs.YthljjgolloiamaaDoorW.PrintWords Go.Proofs.YthljjgolloiamaaDoorW.PrintLast Go.Proofs.YthljjgolloiamaaDoorW.PrintMore Go.Proofs.YthljjgolloiamaaDoor.E
set_option linter.unusedSimpArgs false
set_option linter.unusedVariables false
theorem less_trans : ∀ (a b c : List UInt8), Op.bytesLess a b = true → Op.bytesLess b c = true → Op.bytesLess a c = true
  | [], [], _, h, _ => by simp [Op.bytesLess] at h
  | [], _ :: _, [], _, h => by simp [Op.bytesLess] at h
  | [], _ :: _, _ :: _, _, _ => rfl
  | _ :: _, [], _, h, _ => by simp [Op.bytesLess] at h
  | _ :: _, _ :: _, [], _, h => by simp [Op.bytesLess] at h
  | x :: a, y :: b, z :: c, h1, h2 => by
    have ih := less_trans a b c
    rw [Op.bytesLess, Bool.or_eq_true, Bool.and_eq_true, decide_eq_true_iff, beq_iff_eq] at h1 h2 ⊢
    rcases h1 with h1 | ⟨rfl, h1⟩
    · rcases h2 with h2 | ⟨rfl, h2⟩
      · exact Or.inl (UInt8.lt_trans h1 h2)
      · exact Or.inl h1
    · rcases h2 with h2 | ⟨rfl, h2⟩
      · exact Or.inl h2
      · exact Or.inr ⟨rfl, ih h1 h2⟩
theorem first_no (lt : Nat → Bool) : ∀ n : Nat, ∃ m, m ≤ n ∧ (∀ k, k < m → lt k = true) ∧ (m = n ∨ lt m = false)
  | 0 => ⟨0, Nat.le_refl _, fun k h => by omega, Or.inl rfl⟩
  | n + 1 => by
    obtain ⟨m, h1, h2, h3⟩ := first_no lt n
    rcases h3 with rfl | h3
    · cases hm : lt m with
      | true => exact ⟨m + 1, Nat.le_refl _, fun k hk => by
          by_cases e : k = m
          · rw [e]; exact hm
          · exact h2 k (by omega), Or.inl rfl⟩
      | false => exact ⟨m, by omega, h2, Or.inr hm⟩
    · exact ⟨m, by omega, h2, Or.inr h3⟩
/-- In a list in order: the place that the search comes to. -/
theorem find_at {L : List NL} (hs : ∀ j : Nat, j + 1 < L.length → Op.bytesLess (rd_T60 L (j : Int)).f0.toList (rd_T60 L ((j + 1 : Nat) : Int)).f0.toList = true) (x : ByteArray) :
    findN L x ≤ L.length ∧ (∀ k, k < findN L x → ltN L x k = true) ∧ (findN L x < L.length → ltN L x (findN L x) = false) := by
  have hlt : ∀ k : Nat, ltN L x k = Op.bytesLess (rd_T60 L (k : Int)).f0.toList x.toList := fun k => by
    unfold ltN
    rw [cmp_lt, ByteArray.toList_eq, ByteArray.toList_eq]
  obtain ⟨m, h1, h2, h3⟩ := first_no (ltN L x) L.length
  have hmono : ∀ d : Nat, m + d < L.length → ltN L x (m + d) = false := by
    intro d
    induction d with
    | zero =>
      intro h
      rcases h3 with rfl | h3
      · omega
      · exact h3
    | succ d ih =>
      intro h
      cases hc : ltN L x (m + (d + 1)) with
      | false => rfl
      | true =>
        have h4 := ih (by omega)
        rw [hlt] at h4 hc
        have h5 := less_trans _ _ _ (hs (m + d) (by omega)) hc
        rw [h4] at h5
        cases h5
  have e : findN L x = m := by
    unfold findN
    exact bsL_is _ m L.length 0 L.length (by omega) (Nat.zero_le _) h1 h2 (fun k hk1 hk2 => by
      have := hmono (k - m) (by omega)
      rwa [show m + (k - m) = k by omega] at this)
  rw [e]
  refine ⟨h1, h2, fun h => ?_⟩
  have := hmono 0 (by omega)
  simpa using this
theorem l8At_is {L : List NL} (hl : L.length ≤ 1000) (hs : ∀ j : Nat, j + 1 < L.length → Op.bytesLess (rd_T60 L (j : Int)).f0.toList (rd_T60 L ((j + 1 : Nat) : Int)).f0.toList = true) (x : ByteArray) :
    Ev (fun k => spec_l8At.f k L x) ((findN L x : Int), hasN L x) := by
  obtain ⟨h1, h2, h3⟩ := find_at hs x
  have hlt : ∀ k : Nat, ltN L x k = Op.bytesLess (rd_T60 L (k : Int)).f0.toList x.toList := fun k => by
    unfold ltN
    rw [cmp_lt, ByteArray.toList_eq, ByteArray.toList_eq]
  have key : ∀ (f i : Nat), i + f = findN L x → Ev (fun k => spec_l8At.l0 k L x (i : Int)) ((findN L x : Int), hasN L x) := by
    intro f
    induction f with
    | zero =>
      intro i hi
      obtain rfl : i = findN L x := by omega
      by_cases hm : findN L x < L.length
      · refine Ev.step (fun _ => spec_l8At.l0.eq_2 ..) (ev_pos (by omega) (ev_pos (by omega) (ev_neg ?_ (ev_ret ?_))))
        · have h4 := h3 hm
          rw [hlt] at h4
          rw [h4]; simp
        · congr 1
          unfold hasN
          rw [decide_eq_true hm, Bool.true_and, Bool.eq_iff_iff, beq_iff_eq, decide_eq_true_iff, cmp_eq, ByteArray.toList_eq, ByteArray.toList_eq]
      · refine Ev.step (fun _ => spec_l8At.l0.eq_2 ..) (ev_neg (by omega) (ev_ret ?_))
        congr 1
        unfold hasN
        rw [decide_eq_false hm, Bool.false_and]
    | succ f ih =>
      intro i hi
      have h4 := h2 i (by omega)
      rw [hlt] at h4
      refine Ev.step (fun _ => spec_l8At.l0.eq_2 ..) (ev_pos (by omega) (ev_pos (by omega) (ev_pos h4 ?_)))
      rw [w64 (by omega) (by omega)]
      exact ih (i + 1) (by omega)
  exact key (findN L x) 0 (by omega)
theorem walk_l {l : List IN} (hg : GoodS l) (a : List ByteArray) (ha : a.length ≤ 1000) : ∀ (f i n : Nat), i + f = a.length → n < l.length →
    ∃ r : Int × Int, Ev (fun k => impl_Names_walk.l0 k (n : Int) a (a.length : Int) (i : Int) l) r ∧ Ev (fun k => spec_l13Walk.l0 k (n : Int) a (a.length : Int) (i : Int) l) r ∧ (r.2 = 0 → 0 ≤ r.1 ∧ r.1 < (l.length : Int)) := by
  intro f
  induction f with
  | zero =>
    intro i n hi hn
    exact ⟨((n : Int), 0), Ev.step (fun _ => impl_Names_walk.l0.eq_2 ..) (ev_neg (by omega) (ev_ret rfl)), Ev.step (fun _ => spec_l13Walk.l0.eq_2 ..) (ev_neg (by omega) (ev_ret rfl)), fun _ => ⟨by dsimp only; omega, by dsimp only; omega⟩⟩
  | succ f ih =>
    intro i n hi hn
    have hino := hg.ino n hn
    have hL20 := hino.few
    have hs : ∀ j : Nat, j + 1 < (inoAt l n).f2.length → Op.bytesLess (rd_T60 (inoAt l n).f2 (j : Int)).f0.toList (rd_T60 (inoAt l n).f2 ((j + 1 : Nat) : Int)).f0.toList = true := fun j hj => (hino.nm (j + 1) hj).ord j rfl
    have e1 : wrap64 ((i : Int) + 1) = ((i + 1 : Nat) : Int) := by rw [w64 (by omega) (by omega)]; omega
    cases hd : (inoAt l n).f0 with
    | false =>
      refine ⟨(0, 4), Ev.step (fun _ => impl_Names_walk.l0.eq_2 ..) (ev_pos (by omega) (ev_pos (by omega) (ev_pos (by omega) (ev_pos (by omega) (ev_pos (by omega) (ev_neg ?_ (ev_ret rfl))))))), Ev.step (fun _ => spec_l13Walk.l0.eq_2 ..) (ev_pos (by omega) (ev_pos (by omega) (ev_pos (by omega) (ev_pos (by omega) (ev_pos (by omega) (ev_neg ?_ (ev_ret rfl))))))), fun h => by cases h⟩
      · show ¬ (inoAt l n).f0 = true
        rw [hd]; simp
      · show ¬ (inoAt l n).f0 = true
        rw [hd]; simp
    | true =>
      have hfi : ∀ x, impl_Inode_find.f (inoAt l n).f0 (inoAt l n).f1 (inoAt l n).f2 x = some ((findN (inoAt l n).f2 x : Int), hasN (inoAt l n).f2 x) := fun x => by
        unfold impl_Inode_find.f
        rw [if_pos (by omega)]
      have hx8 := l8At_is (by omega) hs (rdOf ByteArray.empty a (i : Int))
      have hxf := hfi (rdOf ByteArray.empty a (i : Int))
      cases hh : hasN (inoAt l n).f2 (rdOf ByteArray.empty a (i : Int)) with
      | false =>
        rw [hh] at hx8 hxf
        exact ⟨(0, 2), Ev.step (fun _ => impl_Names_walk.l0.eq_2 ..) (ev_pos (by omega) (ev_pos (by omega) (ev_pos (by omega) (ev_pos (by omega) (ev_pos (by omega) (ev_pos hd (ev_bindc hxf (ev_neg (by simp) (ev_ret rfl)))))))))
          , Ev.step (fun _ => spec_l13Walk.l0.eq_2 ..) (ev_pos (by omega) (ev_pos (by omega) (ev_pos (by omega) (ev_pos (by omega) (ev_pos (by omega) (ev_pos hd (Ev.bind hx8 (ev_neg (by simp) (ev_ret rfl)))))))))
          , fun h => by cases h⟩
      | true =>
        rw [hh] at hx8 hxf
        have hm : findN (inoAt l n).f2 (rdOf ByteArray.empty a (i : Int)) < (inoAt l n).f2.length := by
          unfold hasN at hh
          exact of_decide_eq_true (Bool.and_eq_true_iff.1 hh).1
        generalize findN (inoAt l n).f2 (rdOf ByteArray.empty a (i : Int)) = m at hx8 hxf hm
        have hr := (hino.nm m hm).rng
        obtain ⟨n2, hn2⟩ : ∃ n2 : Nat, (rd_T60 (inoAt l n).f2 (m : Int)).f1 = (n2 : Int) := ⟨(rd_T60 (inoAt l n).f2 (m : Int)).f1.toNat, by omega⟩
        obtain ⟨r, r1, r2, r3⟩ := ih (i + 1) n2 (by omega) (by omega)
        refine ⟨r, Ev.step (fun _ => impl_Names_walk.l0.eq_2 ..) (ev_pos (by omega) (ev_pos (by omega) (ev_pos (by omega) (ev_pos (by omega) (ev_pos (by omega) (ev_pos hd (ev_bindc hxf (ev_pos rfl (ev_pos (by dsimp only; omega) (ev_pos ?_ ?_))))))))))
          , Ev.step (fun _ => spec_l13Walk.l0.eq_2 ..) (ev_pos (by omega) (ev_pos (by omega) (ev_pos (by omega) (ev_pos (by omega) (ev_pos (by omega) (ev_pos hd (Ev.bind hx8 (ev_pos rfl (ev_pos (by dsimp only; omega) (ev_pos ?_ ?_))))))))))
          , r3⟩
        · show (m : Int) < ((inoAt l n).f2.length : Int)
          omega
        · show Ev (fun k => impl_Names_walk.l0 k (rd_T60 (inoAt l n).f2 (m : Int)).f1 a (a.length : Int) (wrap64 ((i : Int) + 1)) l) r
          rw [hn2, e1]; exact r1
        · show (m : Int) < ((inoAt l n).f2.length : Int)
          omega
        · show Ev (fun k => spec_l13Walk.l0 k (rd_T60 (inoAt l n).f2 (m : Int)).f1 a (a.length : Int) (wrap64 ((i : Int) + 1)) l) r
          rw [hn2, e1]; exact r2
theorem walk_both {l : List IN} (hg : GoodS l) (a : List ByteArray) (ha : a.length ≤ 1000) :
    ∃ r : Int × Int, Ev (fun k => impl_Names_walk.f k l a) r ∧ Ev (fun k => spec_l13Walk.f k l a) r ∧ (r.2 = 0 → 0 ≤ r.1 ∧ r.1 < (l.length : Int)) := walk_l hg a ha a.length 0 0 (by omega) hg.n1
end Go.Proofs.YthljjgolloiamaaDoor.ZNam
/-! Both sides take a path apart alike. -/
namespace Go.Proofs.YthljjgolloiamaaDoor.ZNam
open Go.RowKit Go.Proofs.YthljjgolloiamaaDoor.PNam Go.Proofs.YthljjgolloiamaaDoorW.PrintWords Go.Proofs.YthljjgolloiamaaDoorW.PrintLast Go.Proofs.YthljjgolloiamaaDoorW.PrintMore Go.Proofs.YthljjgolloiamaaDoor.E
set_option linter.unusedSimpArgs false
set_option linter.unusedVariables false
def mkB (A : List UInt8) : ByteArray := ⟨A.toArray⟩
theorem mkB_l (A : List UInt8) : (mkB A).data.toList = A := by simp [mkB]
theorem mkB_t (A : List UInt8) : (mkB A).toList = A := by rw [ByteArray.toList_eq, mkB_l]
theorem mkB_size (A : List UInt8) : (mkB A).size = A.length := by simp [mkB, ByteArray.size]
theorem mkB_of {s : ByteArray} {A : List UInt8} (h : s.data.toList = A) : s = mkB A := by
  subst h
  cases s
  simp [mkB]
theorem mkB_ext (L : List UInt8) (a b : Nat) : (mkB L).extract a b = mkB ((L.drop a).take (b - a)) := by
  refine mkB_of ?_
  rw [ByteArray.data_extract, Array.toList_extract, mkB_l]
theorem bt_mkB (L : List UInt8) {i : Nat} (h : i < L.length) : bt (mkB L) (i : Int) = (L[i].toNat : Int) := by
  unfold bt
  rw [dif_pos (by rw [Int.toNat_natCast, mkB_size]; exact h)]
  simp [mkB, ByteArray.getElem_eq_getElem_data]
theorem parts_no {M : List UInt8} (h : (47 : UInt8) ∉ M) : parts (mkB M) = [mkB M] := by
  have hc : Lib.countB (mkB M) slash = 0 := by
    show Lib.count (mkB M).data.toList [47] = 0
    rw [Lib.count_one, mkB_l]
    exact List.count_eq_zero.2 h
  unfold parts
  rw [hc]
  rfl
theorem idx_at : ∀ (A B : List UInt8), (47 : UInt8) ∉ A → Lib.indexByte (A ++ 47 :: B) 47 = (A.length : Int)
  | [], B, _ => rfl
  | a :: A, B, h => by
    have h1 : (a == 47) = false := beq_eq_false_iff_ne.2 (fun e => h (by rw [e]; exact List.mem_cons_self ..))
    have ih := idx_at A B (fun h2 => h (List.mem_cons_of_mem _ h2))
    rw [List.cons_append, Lib.indexByte, h1, ih]
    have h2 : (((A.length : Nat) : Int) == -1) = false := beq_eq_false_iff_ne.2 (by omega)
    rw [h2]
    simp
theorem parts_yes {A B : List UInt8} (h : (47 : UInt8) ∉ A) : parts (mkB (A ++ 47 :: B)) = mkB A :: parts (mkB B) := by
  have hi : Lib.indexB (mkB (A ++ 47 :: B)) slash = (A.length : Int) := by
    show Lib.index (mkB (A ++ 47 :: B)).data.toList [47] = _
    rw [Lib.index_one, mkB_l, idx_at A B h]
  have hc := Lib.countB_hit (mkB (A ++ 47 :: B)) slash A.length (by decide) hi
  have e1 : (mkB (A ++ 47 :: B)).extract 0 (A.length + 0) = mkB A := by rw [mkB_ext]; simp
  have e2 : (mkB (A ++ 47 :: B)).extract (A.length + slash.size) (mkB (A ++ 47 :: B)).size = mkB B := by
    rw [mkB_ext, mkB_size]
    congr 1
    have : slash.size = 1 := rfl
    rw [this]
    have e3 : (A ++ 47 :: B).drop (A.length + 1) = B := by
      rw [List.drop_append]; simp
    rw [e3]
    exact List.take_of_length_le (by simp; omega)
  rw [e2] at hc
  unfold parts
  rw [hc, Nat.add_comm 1, Lib.splitB, hi]
  rw [if_neg (by rw [beq_iff_eq]; omega), Int.toNat_natCast, e1, e2]
theorem parts_pos (s : ByteArray) : 1 ≤ (parts s).length := by rw [parts_len]; omega
/-- What is made of the names ahead and of those that are left. -/
def resP (out T : List ByteArray) : List ByteArray × Bool := if out.length + T.length ≤ 8 ∧ T.all okName = true then (out ++ T, true) else ([], false)
theorem path_l : ∀ (n : Nat) (M : List UInt8) (out : List ByteArray), M.length ≤ n → M.length < 4294967296 → out.length ≤ 8 → Ev (fun k => spec_l13Path.l0 k (mkB (47 :: M)) out) (resP out (parts (mkB M))) := by
  intro n
  induction n with
  | zero =>
    intro M out hM _ ho
    obtain rfl : M = [] := List.eq_nil_of_length_eq_zero (by omega)
    have hT : parts (mkB []) = [mkB []] := parts_no (by simp)
    have hok : okName (mkB []) = false := by rfl
    have hr : resP out (parts (mkB [])) = ([], false) := by
      unfold resP
      rw [hT, if_neg]
      intro h
      have h2 := h.2
      simp [hok] at h2
    rw [hr]
    refine Ev.step (fun _ => spec_l13Path.l0.eq_2 ..) (ev_neg (by rw [mkB_t]; simp) (ev_pos (by rw [mkB_size]; simp) (ev_pos (bt_mkB [47] (i := 0) (by simp)) (Ev.step (fun _ => spec_l13Path.j1.eq_2 ..) ?_))))
    by_cases h8 : out.length = 8
    · exact ev_pos (beq_iff_eq.2 (by omega)) (ev_ret rfl)
    · refine ev_neg (by rw [beq_iff_eq]; omega) (Ev.step (fun _ => spec_l13Path.l1.eq_2 ..) (ev_neg (by rw [mkB_size]; simp) (ev_pos (by omega) (ev_pos (by rw [mkB_size]; simp) (Ev.bind (a := false) ?_ (ev_neg (by simp) (ev_ret rfl)))))))
      have h1 := l8Name_is (mkB []) (by rw [mkB_size]; simp)
      rw [hok] at h1
      have e : (mkB [47]).extract 1 ((1 : Int)).toNat = mkB [] := by rw [mkB_ext]; rfl
      rw [e]
      exact h1
  | succ n ih =>
    intro M out hM hM32 ho
    refine Ev.step (fun _ => spec_l13Path.l0.eq_2 ..) (ev_neg (by rw [mkB_t]; simp) (ev_pos (by rw [mkB_size, List.length_cons]; omega) (ev_pos (bt_mkB (47 :: M) (i := 0) (by simp)) (Ev.step (fun _ => spec_l13Path.j1.eq_2 ..) ?_))))
    by_cases h8 : out.length = 8
    · refine ev_pos (beq_iff_eq.2 (by omega)) (ev_ret ?_)
      unfold resP
      rw [if_neg (by have := parts_pos (mkB M); omega)]
    · refine ev_neg (by rw [beq_iff_eq]; omega) ?_
      -- the name in front
      obtain ⟨A, R, hA, hMA, hR⟩ : ∃ A R, (47 : UInt8) ∉ A ∧ M = A ++ R ∧ (R = [] ∨ ∃ B, R = 47 :: B) := by
        by_cases h47 : (47 : UInt8) ∈ M
        · obtain ⟨A, B, h1, h2⟩ := List.eq_append_cons_of_mem h47
          exact ⟨A, 47 :: B, h2, h1, Or.inr ⟨B, rfl⟩⟩
        · exact ⟨M, [], h47, by simp, Or.inl rfl⟩
      have hAM : A.length ≤ M.length := by rw [hMA, List.length_append]; omega
      have hAR : M.length = A.length + R.length := by rw [hMA, List.length_append]
      have hname : (mkB (47 :: M)).extract 1 (((1 + A.length : Nat) : Int)).toNat = mkB A := by
        rw [mkB_ext, Int.toNat_natCast, hMA]; simp
      have hrest : (mkB (47 :: M)).extract (((1 + A.length : Nat) : Int)).toNat (mkB (47 :: M)).size = mkB R := by
        rw [mkB_ext, Int.toNat_natCast, mkB_size, hMA, Nat.add_comm 1 A.length, List.drop_succ_cons, List.drop_append]
        congr 1
        simp
      have h8n := l8Name_is (mkB A) (by rw [mkB_size]; omega)
      have base : Ev (fun k => spec_l13Path.l1 k (mkB (47 :: M)) out ((1 + A.length : Nat) : Int)) (resP out (parts (mkB M))) := by
        rcases hR with rfl | ⟨B, rfl⟩
        · have hT : parts (mkB M) = [mkB A] := by rw [hMA, List.append_nil]; exact parts_no hA
          refine Ev.step (fun _ => spec_l13Path.l1.eq_2 ..) (ev_neg (by rw [mkB_size, List.length_cons, hAR]; simp; omega) (ev_pos (by omega) (ev_pos (by rw [mkB_size, List.length_cons, hAR]; simp; omega) ?_)))
          rw [hname, hrest, hT]
          refine Ev.bind h8n ?_
          cases hok : okName (mkB A) with
          | false =>
            refine ev_neg (by simp) (ev_ret ?_)
            unfold resP
            rw [if_neg (by simp [hok])]
          | true =>
            refine ev_pos rfl (ev_pos (by omega) (ev_pos (by omega) (Ev.step (fun _ => spec_l13Path.l0.eq_2 ..) (ev_pos (mkB_t []) (ev_ret ?_)))))
            unfold resP
            rw [if_pos ⟨by simp; omega, by simp [hok]⟩]
            congr 1
            exact decide_eq_true (by simp)
        · have hT : parts (mkB M) = mkB A :: parts (mkB B) := by rw [hMA]; exact parts_yes hA
          rw [List.length_cons] at hAR
          have hb47 : bt (mkB (47 :: M)) ((1 + A.length : Nat) : Int) = 47 := by
            rw [bt_mkB _ (by rw [List.length_cons]; omega)]
            have : (47 :: M)[1 + A.length]'(by rw [List.length_cons]; omega) = (47 : UInt8) := by
              subst hMA
              simp [Nat.add_comm 1]
            rw [this]; rfl
          refine Ev.step (fun _ => spec_l13Path.l1.eq_2 ..) (ev_pos (by rw [mkB_size, List.length_cons]; omega) (ev_pos (by omega) (ev_pos hb47 (ev_pos (by omega) (ev_pos (by rw [mkB_size, List.length_cons]; omega) ?_)))))
          rw [hname, hrest, hT]
          refine Ev.bind h8n ?_
          cases hok : okName (mkB A) with
          | false =>
            refine ev_neg (by simp) (ev_ret ?_)
            unfold resP
            rw [if_neg (by simp [hok])]
          | true =>
            refine ev_pos rfl (ev_pos (by omega) ?_)
            have h1 := ih B (out ++ [mkB A]) (by omega) (by omega) (by simp; omega)
            have e : resP (out ++ [mkB A]) (parts (mkB B)) = resP out (mkB A :: parts (mkB B)) := by
              unfold resP
              rw [List.length_append, List.length_cons, List.length_cons, List.length_nil, List.all_cons, hok, Bool.true_and]
              by_cases hq : out.length + (0 + 1) + (parts (mkB B)).length ≤ 8 ∧ (parts (mkB B)).all okName = true
              · rw [if_pos hq, if_pos ⟨by omega, hq.2⟩, List.append_assoc]; rfl
              · rw [if_neg hq, if_neg (fun h => hq ⟨by omega, h.2⟩)]
            rw [← e]
            exact h1
      have scan : ∀ (f p : Nat), p + f = A.length → Ev (fun k => spec_l13Path.l1 k (mkB (47 :: M)) out ((1 + p : Nat) : Int)) (resP out (parts (mkB M))) := by
        intro f
        induction f with
        | zero => intro p hp; obtain rfl : p = A.length := by omega
                  exact base
        | succ f ihf =>
          intro p hp
          have hb : bt (mkB (47 :: M)) ((1 + p : Nat) : Int) ≠ 47 := by
            rw [bt_mkB _ (by rw [List.length_cons]; omega)]
            have hpa : p < A.length := by omega
            have : (47 :: M)[1 + p]'(by rw [List.length_cons]; omega) = A[p] := by
              subst hMA
              simp [Nat.add_comm 1, List.getElem_append_left hpa]
            rw [this]
            intro h
            apply hA
            have h2 : A[p] = (47 : UInt8) := UInt8.toNat_inj.1 (by
              have h3 : ((47 : UInt8).toNat : Int) = 47 := rfl
              omega)
            rw [← h2]
            exact List.getElem_mem hpa
          refine Ev.step (fun _ => spec_l13Path.l1.eq_2 ..) (ev_pos (by rw [mkB_size, List.length_cons]; omega) (ev_pos (by omega) (ev_neg hb ?_)))
          have e : wrap64 (((1 + p : Nat) : Int) + 1) = ((1 + (p + 1) : Nat) : Int) := by rw [w64 (by omega) (by omega)]; omega
          rw [e]
          exact ihf (p + 1) (by omega)
      exact scan A.length 0 (by omega)
theorem path_is (s : ByteArray) (hs : s.size < 4294967281) : Ev (fun k => spec_l13Path.f k s) (pathI s) := by
  unfold spec_l13Path.f
  by_cases h0 : s.toList = [47]
  · refine ev_pos h0 (ev_ret ?_)
    unfold pathI
    rw [if_pos h0]
  · refine ev_neg h0 ?_
    obtain ⟨L, hL⟩ : ∃ L, s = mkB L := ⟨_, mkB_of rfl⟩
    subst hL
    rw [mkB_size] at hs
    rw [mkB_t] at h0
    have hp : pathI (mkB L) = if ((parts (mkB L)).headD ⟨#[]⟩).toList = [] ∧ 2 ≤ (parts (mkB L)).length ∧ (parts (mkB L)).length ≤ 9 ∧ (parts (mkB L)).tail.all okName = true then ((parts (mkB L)).tail, true) else ([], false) := by
      unfold pathI
      rw [if_neg (by rw [mkB_t]; exact h0)]
    rw [hp]
    cases L with
    | nil =>
      rw [parts_no (by simp), if_neg (by simp)]
      exact Ev.step (fun _ => spec_l13Path.l0.eq_2 ..) (ev_pos (mkB_t []) (ev_ret rfl))
    | cons b M =>
      by_cases hb : b = 47
      · subst hb
        have hT : parts (mkB (47 :: M)) = mkB [] :: parts (mkB M) := parts_yes (A := []) (by simp)
        rw [hT]
        have h1 := path_l M.length M [] (Nat.le_refl _) (by rw [List.length_cons] at hs; omega) (by simp)
        have e : resP [] (parts (mkB M)) = if ((mkB [] :: parts (mkB M)).headD ⟨#[]⟩).toList = [] ∧ 2 ≤ (mkB [] :: parts (mkB M)).length ∧ (mkB [] :: parts (mkB M)).length ≤ 9 ∧ (mkB [] :: parts (mkB M)).tail.all okName = true then ((mkB [] :: parts (mkB M)).tail, true) else ([], false) := by
          unfold resP
          have hpos := parts_pos (mkB M)
          rw [List.headD_cons, List.tail_cons, List.length_cons, List.length_nil, List.nil_append]
          by_cases hq : 0 + (parts (mkB M)).length ≤ 8 ∧ (parts (mkB M)).all okName = true
          · rw [if_pos hq, if_pos ⟨mkB_t [], by omega, by omega, hq.2⟩]
          · rw [if_neg hq, if_neg (fun h => hq ⟨by omega, h.2.2.2⟩)]
        rw [← e]
        exact h1
      · have hne : ((parts (mkB (b :: M))).headD ⟨#[]⟩).toList ≠ [] := by
          by_cases h47 : (47 : UInt8) ∈ (b :: M)
          · obtain ⟨A, B, h1, h2⟩ := List.eq_append_cons_of_mem h47
            rw [h1, parts_yes h2, List.headD_cons, mkB_t]
            intro hA
            rw [hA, List.nil_append] at h1
            injection h1 with h3 _
            exact hb h3
          · rw [parts_no h47, List.headD_cons, mkB_t]
            simp
        rw [if_neg (fun h => hne h.1)]
        refine Ev.step (fun _ => spec_l13Path.l0.eq_2 ..) (ev_neg (by rw [mkB_t]; simp) (ev_pos (by rw [mkB_size, List.length_cons]; omega) (ev_neg ?_ (Ev.step (fun _ => spec_l13Path.j1.eq_2 ..) (ev_pos rfl (ev_ret rfl))))))
        have hx : bt (mkB (b :: M)) ((0 : Nat) : Int) = (b.toNat : Int) := bt_mkB (b :: M) (i := 0) (by simp)
        show ¬ bt (mkB (b :: M)) ((0 : Nat) : Int) = 47
        rw [hx]
        intro h
        apply hb
        refine UInt8.toNat_inj.1 ?_
        have h3 : ((47 : UInt8).toNat : Int) = 47 := rfl
        omega
theorem path_len (s : ByteArray) : (pathI s).1.length ≤ 1000 := by
  unfold pathI
  split
  · simp
  · split
    · rename_i h
      rw [List.length_tail]
      omega
    · simp
end Go.Proofs.YthljjgolloiamaaDoor.ZNam
/-! Both sides of WalkPath come to the same. -/
namespace Go.Proofs.YthljjgolloiamaaDoor.ZNam
open Go.RowKit Go.Proofs.YthljjgolloiamaaDoor.PNam Go.Proofs.YthljjgolloiamaaDoorW.PrintWords Go.Proofs.YthljjgolloiamaaDoorW.PrintLast Go.Proofs.YthljjgolloiamaaDoorW.PrintMore Go.Proofs.YthljjgolloiamaaDoor.E
set_option linter.unusedSimpArgs false
set_option linter.unusedVariables false
/-- Both sides come to the same inode. -/
theorem walkPath_both (l : List IN) (hsz : szOk l = true) (a : ByteArray) (ha : a.size < 4294967281) :
    ∃ r : Int × Int, Ev (fun k => spec_WalkPath.f k l a) r ∧ Ev (fun k => impl_WalkPath.f k l a) r ∧ (r.2 = 0 → 0 ≤ r.1 ∧ r.1 < (l.length : Int)) := by
  have hp := path_is a ha
  have hpl := path_len a
  have hni : impl_namesIn.f a = some (pathI a) := by unfold impl_namesIn.f; rw [if_pos ha]
  have hgs : spec_GoodNames.f l = some (goodN l) := by unfold spec_GoodNames.f; rw [if_pos hsz]
  have hgi : impl_GoodNames.f l = some (goodN l) := rfl
  unfold spec_WalkPath.f impl_WalkPath.f
  generalize pathI a = p at hp hpl hni
  obtain ⟨L, ok⟩ := p
  cases hg : goodN l with
  | false =>
    rw [hg] at hgs hgi
    refine ⟨(0, 1), Ev.bind hp (ev_bindc hgs (ev_neg (by simp) (ev_ret rfl))), ev_bindc hni ?_, fun h => by cases h⟩
    cases ok with
    | false => exact ev_neg (by simp) (ev_ret rfl)
    | true => exact ev_pos rfl (ev_bindc hgi (ev_neg (by simp) (ev_ret rfl)))
  | true =>
    have hG := good_iff.1 (goodN_iff.1 hg)
    rw [hg] at hgs hgi
    cases ok with
    | false => exact ⟨(0, 1), Ev.bind hp (ev_bindc hgs (ev_pos rfl (ev_neg (by simp) (ev_ret rfl)))), ev_bindc hni (ev_neg (by simp) (ev_ret rfl)), fun h => by cases h⟩
    | true =>
      obtain ⟨r, r1, r2, r3⟩ := walk_both hG L hpl
      exact ⟨r, Ev.bind hp (ev_bindc hgs (ev_pos rfl (ev_pos rfl (Ev.bind r2 (ev_ret rfl))))), ev_bindc hni (ev_pos rfl (ev_bindc hgi (ev_pos rfl (Ev.bind r1 (ev_ret rfl))))), r3⟩
end Go.Proofs.YthljjgolloiamaaDoor.ZNam
/-! Marks of the names' laws: what is marked is held. -/
namespace Go.Proofs.YthljjgolloiamaaDoor.ZNam
open Go.RowKit Go.Proofs.YthljjgolloiamaaDoor.PNam Go.Proofs.YthljjgolloiamaaDoorW.PrintWords Go.Proofs.YthljjgolloiamaaDoorW.PrintLast Go.Proofs.YthljjgolloiamaaDoorW.PrintMore Go.Proofs.YthljjgolloiamaaDoor.E
set_option linter.unusedSimpArgs false
set_option linter.unusedVariables false
theorem str_size (xs : List Int) : (strOfNums xs).size = xs.length := by
  simp [strOfNums, ByteArray.size]
theorem mt_l : ∀ (f : Nat) (x : Int) (s : ByteArray), 0 ≤ x → x ≤ 100000000000000 → x < 2 ^ f → s.size + f ≤ 1000 → ∃ v, Ev (fun k => laws_markText.l0 k x s) v := by
  intro f
  induction f with
  | zero =>
    intro x s h0 hm h1 h2
    refine ⟨_, Ev.step (fun _ => laws_markText.l0.eq_2 ..) (ev_neg (by simp at h1; omega) (ev_pos (by omega) (ev_ret rfl)))⟩
  | succ f ih =>
    intro x s h0 hm h1 h2
    by_cases h : x > 0
    · have hp : (2 : Int) ^ (f + 1) = 2 * 2 ^ f := by rw [Int.pow_succ]; omega
      have hx : x / 10 < 2 ^ f := by omega
      have e : wrap64 (Int.tdiv x 10) = x / 10 := by
        rw [tdiv_pos h0]
        exact w64 (by omega) (by omega)
      obtain ⟨v, hv⟩ := ih (x / 10) (strOfNums ([(wrap64 (48 + (Int.tmod x 10))) % 256] : List Int) ++ s) (by omega) (by omega) hx (by rw [ByteArray.size_append, str_size]; simp; omega)
      refine ⟨v, Ev.step (fun _ => laws_markText.l0.eq_2 ..) (ev_pos h (ev_some (ev_pos ?_ ?_)))⟩
      · rw [str_size]; simp; omega
      · rw [e]; exact hv
    · exact ⟨_, Ev.step (fun _ => laws_markText.l0.eq_2 ..) (ev_neg h (ev_pos (by omega) (ev_ret rfl)))⟩
theorem mt (m : Int) (h0 : 0 ≤ m) (h1 : m < 100000000000000) : ∃ v, Ev (fun k => laws_markText.f k m) v := by
  obtain ⟨v, hv⟩ := mt_l 64 m ⟨#[]⟩ h0 (by omega) (by simp; omega) (by simp [ByteArray.size])
  by_cases h : m ≤ 0
  · exact ⟨_, by unfold laws_markText.f; exact ev_pos h (ev_ret rfl)⟩
  · exact ⟨v, by unfold laws_markText.f; exact ev_neg h hv⟩
theorem rd_nm (xs : List NL) (i : Int) : rd_T60 xs i = xs.getD i.toNat z60 := rfl
theorem mhName_l (f : Nat) : ∀ (l : List NL) (m i : Int), 0 ≤ i → i + f = l.length → (l.length : Int) ≤ 10000000000 → 0 ≤ m → m + 2 * f ≤ 10000000000000 →
    ∃ l', l'.length = l.length ∧ (∀ j : Nat, j < i → l'[j]? = l[j]?) ∧ Ev (fun k => laws_markNameS.l0 k l m i) (m + 2 * f, l') ∧ Ev (fun k => laws_heldNameS.l0 k l' m i) (m + 2 * f) := by
  induction f with
  | zero =>
    intro l m i h0 h1 hL h2 h3
    refine ⟨l, rfl, fun _ _ => rfl, ?_, ?_⟩
    · exact Ev.step (fun _ => laws_markNameS.l0.eq_2 ..) (ev_neg (by omega) (ev_ret (by simp)))
    · exact Ev.step (fun _ => laws_heldNameS.l0.eq_2 ..) (ev_neg (by omega) (ev_ret (by simp)))
  | succ f ih =>
    intro l m i h0 h1 hL h2 h3
    obtain ⟨v, hv⟩ := mt m h2 (by omega)
    have e1 : wrap64 (m + 1) = m + 1 := w64 (by omega) (by omega)
    have e2 : wrap64 (m + 1 + 1) = m + 2 := by rw [w64 (by omega) (by omega)]; omega
    have e3 : wrap64 (i + 1) = i + 1 := w64 (by omega) (by omega)
    obtain ⟨l', hl, hk, hm, hh⟩ := ih (l.set i.toNat ⟨v, m + 1⟩) (m + 2) (i + 1) (by omega) (by simp; omega) (by simp; omega) (by omega) (by omega)
    have e : m + 2 + 2 * (f : Int) = m + 2 * ((f + 1 : Nat) : Int) := by omega
    rw [e] at hm hh
    refine ⟨l', by simpa using hl, ?_, ?_, ?_⟩
    · intro j hj
      rw [hk j (by omega), List.getElem?_set_ne (by omega)]
    · refine Ev.step (fun _ => laws_markNameS.l0.eq_2 ..) (ev_pos (by omega) (Ev.bind hv (ev_pos h0 (ev_some ?_))))
      have er : (rd_T60 (l.set i.toNat ⟨v, (rd_T60 l i).f1⟩) i).f0 = v := by
        rw [rd_nm, List.getD_eq_getElem?_getD, List.getElem?_set_self (by omega)]
        rfl
      rw [er, e1, e2, e3, List.set_set]
      exact hm
    · have er : rd_T60 l' i = ⟨v, m + 1⟩ := by
        rw [rd_nm, List.getD_eq_getElem?_getD, hk i.toNat (by omega), List.getElem?_set_self (by omega)]
        rfl
      refine Ev.step (fun _ => laws_heldNameS.l0.eq_2 ..) (ev_pos (by simp at hl; omega) (ev_pos h0 (Ev.bind hv ?_)))
      rw [er, e1, e2, e3]
      exact ev_pos rfl (ev_pos rfl hh)
theorem mhName (l : List NL) (m : Int) (h0 : 0 ≤ m) (h1 : m ≤ 5000000000000) (h2 : (l.length : Int) ≤ 10000000) :
    ∃ l', l'.length = l.length ∧ Ev (fun k => laws_markNameS.f k l m) (m + 2 * l.length, l') ∧ Ev (fun k => laws_heldNameS.f k l' m) (m + 2 * l.length) := by
  obtain ⟨l', hl, _, hm, hh⟩ := mhName_l l.length l m 0 (by omega) (by omega) (by omega) h0 (by omega)
  exact ⟨l', hl, hm, hh⟩
theorem mkI_l (n : Nat) (hn : (n : Int) ≤ 1048576) (f : Nat) : ∀ (l : List IN) (m i : Int), l.length = n → (∀ x ∈ l, (x.f2.length : Int) ≤ 1048576) → 0 ≤ i → i + f = n → 0 ≤ m → m + f * 2097200 ≤ 5000000000000 →
    ∃ l' m', m ≤ m' ∧ Ev (fun k => markIM k n f i m l) (m', l') := by
  induction f with
  | zero =>
    intro l m i hl hk h0 h1 h2 h3
    exact ⟨l, m, by omega, ev_neg (by omega) (ev_ret rfl)⟩
  | succ f ih =>
    intro l m i hl hk h0 h1 h2 h3
    have hil : i.toNat < l.length := by omega
    have er : rd_T76 l i = l[i.toNat] := by
      rw [rd_in, List.getD_eq_getElem?_getD, List.getElem?_eq_getElem hil]
      rfl
    have hx := hk _ (List.getElem_mem hil)
    rw [← er] at hx
    have e1 : wrap64 (m + 1) = m + 1 := w64 (by omega) (by omega)
    have e2 : wrap64 (m + 1 + 1) = m + 2 := by rw [w64 (by omega) (by omega)]; omega
    obtain ⟨q, hq, hq1, _⟩ := mhName (rd_T76 l i).f2 (m + 2) (by omega) (by omega) (by omega)
    obtain ⟨l', m', hm1, hm⟩ := ih (l.set i.toNat ⟨Int.tmod m 3 == 0, m + 1, q⟩) (m + 2 + 2 * (rd_T76 l i).f2.length) (i + 1) (by simpa using hl) (fun x hx2 => by
      rcases List.mem_or_eq_of_mem_set hx2 with h4 | h4
      · exact hk x h4
      · subst h4
        show (q.length : Int) ≤ 1048576
        omega) (by omega) (by omega) (by omega) (by omega)
    refine ⟨l', m', by omega, ev_pos (by omega) ?_⟩
    rw [e1, e2]
    exact Ev.bind hq1 hm
theorem mkNames (l : List IN) (h0 : (l.length : Int) ≤ 1048576) (hk : ∀ x ∈ l, (x.f2.length : Int) ≤ 1048576) : ∃ m l', 0 ≤ m ∧ Ev (fun k => laws_markNames.f k l 1) (m, l') := by
  obtain ⟨l', m', hm1, hm⟩ := mkI_l l.length h0 l.length l 1 0 rfl hk (by omega) (by omega) (by omega) (by omega)
  exact ⟨m', l', by omega, hm⟩
theorem listDir_both (l : List IN) (hsz : szOk l = true) (hk : ∀ x ∈ l, (x.f2.length : Int) ≤ 1048576) (a : ByteArray) (ha : a.size < 4294967281) :
    ∃ (ws : List NL) (c : Int), (ws.length : Int) ≤ 1048576 ∧ Ev (fun k => spec_ListDir.f k l a) (ws, c) ∧ Ev (fun k => impl_ListDir.f k l a) (ws, c) := by
  obtain ⟨r, r1, r2, r3⟩ := walkPath_both l hsz a ha
  unfold spec_ListDir.f impl_ListDir.f
  by_cases h : r.2 = 0
  · obtain ⟨h1, h2⟩ := r3 h
    have hx : ((rd_T76 l r.1).f2.length : Int) ≤ 1048576 := by
      have hil : r.1.toNat < l.length := by omega
      have er : rd_T76 l r.1 = l[r.1.toNat] := by
        rw [rd_in, List.getD_eq_getElem?_getD, List.getElem?_eq_getElem hil]
        rfl
      rw [er]
      exact hk _ (List.getElem_mem hil)
    cases hd : (rd_T76 l r.1).f0 with
    | false =>
      exact ⟨[], 4, by simp, Ev.bind r1 (ev_pos h (ev_pos h1 (ev_pos h2 (ev_neg (by rw [hd]; simp) (ev_ret rfl))))), Ev.bind r2 (ev_pos h (ev_pos h1 (ev_pos h2 (ev_neg (by rw [hd]; simp) (ev_ret rfl)))))⟩
    | true =>
      have hc : impl_Name.f (rd_T76 l r.1).f2 = some (rd_T76 l r.1).f2 := by
        unfold impl_Name.f
        rw [if_pos (by omega)]
      exact ⟨(rd_T76 l r.1).f2, 0, hx, Ev.bind r1 (ev_pos h (ev_pos h1 (ev_pos h2 (ev_pos hd (ev_some (ev_pos (by simp; omega) (ev_ret rfl))))))), Ev.bind r2 (ev_pos h (ev_pos h1 (ev_pos h2 (ev_pos hd (ev_bindc hc (ev_ret rfl))))))⟩
  · exact ⟨[], r.2, by simp, Ev.bind r1 (ev_neg h (ev_ret rfl)), Ev.bind r2 (ev_neg h (ev_ret rfl))⟩
theorem listDir_law (l : List LI) (a : ByteArray) (hm : l.length ≤ 9223372036854775807) (hw : ∀ v ∈ l, v.f2.length ≤ 9223372036854775807 ∧ ∀ x ∈ v.f2, x.f0.size ≤ 9223372036854775807) : ∃ k, laws_FnExactListDir.ok k l a := by
  by_cases ha : (a.size : Int) > 1048576
  · exact ⟨0, .inl ha⟩
  obtain ⟨r, hr, ⟨K1, e1⟩⟩ := szNames l hm hw
  by_cases hn : r < 0
  · exact ⟨K1, .inr ⟨ha, .inl ⟨r, e1 _ (Nat.le_refl _), hn⟩⟩⟩
  · obtain ⟨_, _, hs⟩ := hr.resolve_left hn
    have hk : ∀ x ∈ l.map cI, (x.f2.length : Int) ≤ 1048576 := fun x hx => by
      obtain ⟨v, hv, rfl⟩ := List.mem_map.1 hx
      have := (hs.2 v hv).1
      show (((v.f2.map cN).length : Nat) : Int) ≤ 1048576
      rw [List.length_map]; exact this
    have hlen : ((l.map cI).length : Int) ≤ 1048576 := by rw [List.length_map]; exact hs.1
    obtain ⟨ws, c, hwl, ⟨K2, e2⟩, ⟨K3, e3⟩⟩ := listDir_both (l.map cI) (szOk_map l hs) hk a (by omega)
    obtain ⟨K4, e4⟩ := toNames l hs
    obtain ⟨K5, e5⟩ := eqNameS ws (by omega)
    obtain ⟨K6, e6⟩ := eqNames l hs
    obtain ⟨m, l', hm0, ⟨K7, e7⟩⟩ := mkNames (l.map cI) hlen hk
    obtain ⟨ws', _, ⟨K8, e8⟩, ⟨K9, e9⟩⟩ := mhName ws 1 (by omega) (by omega) (by omega)
    exact ⟨K1 + K2 + K3 + K4 + K5 + K6 + K7 + K8 + K9, .inr ⟨ha, .inr ⟨r, _, ws, c, m, l', _, ws', e1 _ (by omega), hn, e4 _ (by omega), e2 _ (by omega), e3 _ (by omega), e5 _ (by omega), e6 _ (by omega), e7 _ (by omega), by omega, e8 _ (by omega), e9 _ (by omega), by omega⟩⟩⟩
end Go.Proofs.YthljjgolloiamaaDoor.ZNam
namespace Go.Proofs.YthljjgolloiamaaDoor
open Go.RowKit
theorem Pure.FnExactListDir (l : List ZNam.LI) (a : ByteArray) (hw : (l.length ≤ 9223372036854775807 ∧ ∀ y0 ∈ l, (True) ∧ ((Lit.int .i64 y0.f1).wf = true) ∧ (y0.f2.length ≤ 9223372036854775807 ∧ ∀ y1 ∈ y0.f2, (y1.f0.size ≤ 9223372036854775807) ∧ ((Lit.int .i64 y1.f1).wf = true)))) (_ha : a.size ≤ 140737488351232) :
    ∃ k, PNam.laws_FnExactListDir.ok k l a :=
  ZNam.listDir_law l a hw.1 (fun v hv => ⟨(hw.2 v hv).2.2.1, fun x hx => ((hw.2 v hv).2.2.2 x hx).1⟩)
end Go.Proofs.YthljjgolloiamaaDoor
