import Derived.Test.YthljjgolloiamaaDoorWMore
import Derived.ChangeArms
import Derived.Deep.Slices
/-! What comes in, laid open: a value that can be read as data is told by its kind. -/
namespace Go.Proofs.YthljjgolloiamaaDoor.O
open Go.ChangeShapes Go.WideShapes Go.Deep Go.RowKit Go.Proofs.YthljjgolloiamaaDoorW.PrintWords
set_option linter.unusedSimpArgs false
set_option linter.unusedVariables false

section
variable {H : Type} {enc : TypeId × Value → H} {P : Program} {w : World} {base : Nat} {spare : Nat → Bool} {held : Bool}

def Opens (enc : TypeId × Value → H) (P : Program) (w : World) (base : Nat) (spare : Nat → Bool) (held : Bool) {α : Type} (d : Kd α) (t : TypeId) (wf : α → Prop) : Prop :=
  ∀ fuel cs x, DataW.trod enc P w base spare held fuel t cs = some x → ∃ a, d.K w a cs ∧ wf a
theorem opens_int {t : TypeId} {k : IntKind} (ht : P.underlying t = some (.int k)) : Opens enc P w base spare held (Kd.int k) t (fun n => (Lit.int k n).wf = true) := by
  intro fuel cs x h
  obtain ⟨n, hc, _, hw⟩ := DataW.trod_int ht h
  exact ⟨n, hc, hw⟩
theorem opens_string {t : TypeId} (ht : P.underlying t = some .string) : Opens enc P w base spare held Kd.string t (fun s => s.size ≤ 9223372036854775807) := by
  intro fuel cs x h
  obtain ⟨s, hc, _, hw⟩ := DataW.trod_string ht h
  exact ⟨s, hc, by simpa only [maxLen] using hw⟩
theorem opens_bool {t : TypeId} (ht : P.underlying t = some .bool) : Opens enc P w base spare held Kd.bool t (fun _ => True) := by
  intro fuel cs x h
  obtain ⟨b, hc, _⟩ := DataW.trod_bool ht h
  exact ⟨b, hc, trivial⟩
theorem opens_slice {α : Type} {d : Kd α} {t e : TypeId} {wf : α → Prop} (e' : Nat) (ht : P.underlying t = some (.slice e)) (hC : P.cellsOf e = d.sz) (he : Opens enc P w base spare held d e wf) :
    Opens enc P w base spare held (Kd.slice e' d) t (fun l => l.length ≤ 9223372036854775807 ∧ ∀ x ∈ l, wf x) := by
  intro fuel cs x h
  rcases open_slice ht h with ⟨rfl, _⟩ | ⟨a, len, cap, m, n, D, Pl, rfl, hb, hl, hm, hmm, _, hi⟩
  · exact ⟨[], ⟨none, 0, rfl, Nat.le_refl _, rfl, by simp, fun h => absurd h (by simp)⟩, by simp, by simp⟩
  · have hle : len ≤ m := by rw [hmm]; split <;> omega
    have hmx : cap ≤ 9223372036854775807 := by simpa only [maxLen] using hm
    have key : ∀ i : Fin len, ∃ y, (∃ c : List Value, c.length = d.sz ∧ d.K w y c ∧ ∀ j u, c[j]? = some u → w.cell? (a.add (i.1 * d.sz + j)) = some u) ∧ wf y := by
      intro i
      have := i.2
      obtain ⟨cs', hcs, ht'⟩ := hi i.1 (by omega)
      obtain ⟨y, hK, hw⟩ := he _ _ _ ht'
      rw [hC] at hcs
      obtain ⟨_, hlen, hcell⟩ := World.cells?_some hcs
      refine ⟨y, ⟨cs', hlen, hK, fun j u hj => ?_⟩, hw⟩
      have h1 := hcell j (by have := (List.getElem?_eq_some_iff.1 hj).1; omega)
      rw [← Go.Deep.add_add, h1, hj]
    refine ⟨List.ofFn fun i => (key i).choose, ⟨some a, cap, by rw [List.length_ofFn], by rw [List.length_ofFn]; exact hl, by rw [List.length_ofFn], by rw [List.length_ofFn]; omega, fun _ => ⟨a, rfl, fun j p hj => ?_⟩⟩, by rw [List.length_ofFn]; omega, fun y hy => ?_⟩
    · have hjl := (List.getElem?_eq_some_iff.1 hj).1
      rw [List.length_ofFn] at hjl
      rw [List.getElem?_ofFn, dif_pos hjl] at hj
      obtain rfl := Option.some.inj hj
      exact (key ⟨j, hjl⟩).choose_spec.1
    · obtain ⟨i, rfl⟩ := List.mem_ofFn.1 hy
      exact (key i).choose_spec.2
/-- The fields of a struct from a place on. -/
def OpensS (enc : TypeId × Value → H) (P : Program) (w : World) (base : Nat) (spare : Nat → Bool) (held : Bool) {α : Type} (d : Kd α) (fs : List Field) (off : Nat) (wf : α → Prop) : Prop :=
  ∀ n (cs : List Value), cs.length = off + d.sz → (∀ f ∈ fs, ∃ y, DataW.trod enc P w base spare held n f.type ((cs.drop f.offset).take (P.cellsOf f.type)) = some y) → ∃ a, d.K w a (cs.drop off) ∧ wf a
theorem openss_one {α : Type} {d : Kd α} {f : Field} {off : Nat} {wf : α → Prop} (ho : f.offset = off) (hC : P.cellsOf f.type = d.sz) (h : Opens enc P w base spare held d f.type wf) : OpensS enc P w base spare held d [f] off wf := by
  intro n cs hl hf
  obtain ⟨y, hy⟩ := hf f (by simp)
  rw [ho, hC, List.take_of_length_le (by rw [List.length_drop]; omega)] at hy
  exact h _ _ _ hy
theorem openss_cons {α β : Type} {d : Kd α} {d' : Kd β} {f : Field} {fs : List Field} {off : Nat} {wf : α → Prop} {wf' : β → Prop} (ho : f.offset = off) (hC : P.cellsOf f.type = d.sz) (h : Opens enc P w base spare held d f.type wf)
    (h' : OpensS enc P w base spare held d' fs (off + d.sz) wf') : OpensS enc P w base spare held (Kd.pair d d') (f :: fs) off (fun x => wf x.1 ∧ wf' x.2) := by
  intro n cs hl hf
  have hs : (Kd.pair d d').sz = d.sz + d'.sz := rfl
  rw [hs] at hl
  obtain ⟨y, hy⟩ := hf f (by simp)
  rw [ho, hC] at hy
  obtain ⟨a, ha, hw⟩ := h _ _ _ hy
  obtain ⟨b, hb, hw'⟩ := h' n cs (by omega) (fun g hg => hf g (by simp [hg]))
  refine ⟨(a, b), ⟨(cs.drop off).take d.sz, cs.drop (off + d.sz), ?_, ha, hb⟩, hw, hw'⟩
  rw [← List.drop_drop, List.take_append_drop]
theorem opens_struct {α : Type} {d : Kd α} {t : TypeId} {fs : Array Field} {wf : α → Prop} (ht : P.underlying t = some (.struct fs)) (hC : P.cellsOf t = d.sz) (h : OpensS enc P w base spare held d fs.toList 0 wf) : Opens enc P w base spare held d t wf := by
  intro fuel cs x hx
  obtain ⟨xs, n, _, _, hl, hlen, hf⟩ := DataW.trod_struct ht hx
  refine h n cs (by omega) (fun f hfm => ?_)
  obtain ⟨i, hi, he⟩ := List.getElem_of_mem hfm
  have hi' : i < fs.size := by simpa using hi
  have h1 : fs[i]? = some f := by rw [Array.getElem?_eq_getElem hi']; rw [← he]; simp
  rw [hf i f h1, List.getElem?_eq_getElem (by omega)]
  exact ⟨_, rfl⟩
theorem opens_iso {α β : Type} {d : Kd α} {t : TypeId} {wf : α → Prop} (f : β → α) (g : α → β) (hfg : ∀ a, f (g a) = a) (h : Opens enc P w base spare held d t wf) : Opens enc P w base spare held (Kd.iso d f) t (fun x => wf (f x)) := by
  intro fuel cs x hx
  obtain ⟨a, ha, hw⟩ := h fuel cs x hx
  refine ⟨g a, ?_, ?_⟩
  · show d.K w (f (g a)) cs
    rw [hfg]; exact ha
  · show wf (f (g a))
    rw [hfg]; exact hw
theorem opens_mono {α : Type} {d : Kd α} {t : TypeId} {wf wf' : α → Prop} (h : Opens enc P w base spare held d t wf) (hw : ∀ a, wf a → wf' a) : Opens enc P w base spare held d t wf' := by
  intro fuel cs x hx
  obtain ⟨a, ha, h1⟩ := h fuel cs x hx
  exact ⟨a, ha, hw a h1⟩
/-- A slice that came in as an argument. -/
theorem slice_arg {α : Type} {d : Kd α} {t e' : Nat} {v : Value} {dd : DataW H} {ps : List MemPlace} {wf : List α → Prop} (h : Opens enc P w base spare held (Kd.slice e' d) t wf) (ht : ∃ a len cap, v = .slice a len cap) (hd : DataW.Trod enc P w base spare held t v dd ps) :
    ∃ (l : List α) (A : Option Addr) (c : Nat), v = .slice A l.length c ∧ l.length ≤ c ∧ d.C w A l.length l ∧ wf l := by
  obtain ⟨a, len, cap, rfl⟩ := ht
  obtain ⟨fuel, hf⟩ := hd
  obtain ⟨l, ⟨A, c, hc, hl, hr⟩, hw⟩ := h _ _ _ hf
  exact ⟨l, A, c, by simpa [Value.cells] using hc, hl, hr, hw⟩
end
end Go.Proofs.YthljjgolloiamaaDoor.O
