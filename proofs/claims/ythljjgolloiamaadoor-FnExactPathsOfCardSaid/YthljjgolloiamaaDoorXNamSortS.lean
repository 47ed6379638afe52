import Derived.Test.YthljjgolloiamaaDoorEv
import Derived.Test.YthljjgolloiamaaDoorSortS
import Derived.Test.YthljjgolloiamaaDoorYNamx0
/-! slices.Sort over texts of the call's own, by the library's contract. -/
namespace Go.Proofs.YthljjgolloiamaaDoor.PNam
open Go.RowKit Go.Shelf Go.Proofs.YthljjgolloiamaaDoorW.PrintWords Go.Proofs.YthljjgolloiamaaDoorW.PrintLast Go.Proofs.YthljjgolloiamaaDoorW.PrintMore Go.Proofs.YthljjgolloiamaaDoor.E
set_option linter.unusedSimpArgs false
set_option linter.unusedVariables false
/-- What the library's sort makes of texts. -/
def sortL (l : List ByteArray) : List (List UInt8) := (l.map fun s => s.data.toList).mergeSort fun x y => decide (x ≤ y)
def sortB (l : List ByteArray) : List ByteArray := (sortL l).map fun s => ⟨s.toArray⟩
theorem sortL_len (l : List ByteArray) : (sortL l).length = l.length := by simp [sortL, List.length_mergeSort]
theorem sortB_len (l : List ByteArray) : (sortB l).length = l.length := by simp [sortB, sortL_len]
theorem heap_mapBlock (w : World) (g : Nat) (f : Array Value → Array Value) (k : Nat) (h : k ≠ g) : (Sort.mapBlock w g f).heap[k]? = w.heap[k]? := by
  unfold Sort.mapBlock
  simp [Array.getElem?_modify, Ne.symm h]
theorem heap_mapBlock_self (w : World) (g : Nat) (f : Array Value → Array Value) {c : Array Value} {e : TypeId} (h : w.heap[g]? = some (.cells c e (0, 0))) : (Sort.mapBlock w g f).heap[g]? = some (.cells (f c) e (0, 0)) := by
  unfold Sort.mapBlock
  simp [Array.getElem?_modify, h, Sort.onCells]
set_option maxHeartbeats 2000000 in
theorem sort_own {W : World} {base g n cap : Nat} {ok : Nat → Prop} {L : List ByteArray} (h : Kd.R Kd.string 9 W base ok (.slice (some ⟨g, 0, none⟩) n cap) L) (hL : L.length ≤ 4000000000000000000) :
    Calls Tryd.prog 53 #[.slice (some ⟨g, 0, none⟩) n cap] W fun e w' => e = .returned (.tuple #[]) ∧ Kd.R Kd.string 9 w' base ok (.slice (some ⟨g, 0, none⟩) n cap) (sortB L) ∧ Below base W w' := by
  have hn := (Kd.R_reads' h).1
  obtain ⟨hl, ho⟩ := Kd.own_of_R h
  rcases ho with ⟨e, _⟩ | ⟨g', cap', cur, e, hge, hh, hc1, hc2, hc3, hc4⟩
  · cases e
  injection e with e1 e2 e3
  injection e1 with e1
  injection e1 with e1
  subst e1 e3
  have hok := h.1
  have hblk : g < W.heap.size := by
    refine Nat.lt_of_not_le fun hle => ?_
    rw [Array.getElem?_eq_none hle] at hh
    cases hh
  have key := Any.slices_Sort_string Tryd.lays190 g 0 cap (L.map fun s => s.data.toList) W (fun j hj => by
    have hj' : j < L.length := by simpa using hj
    have := Kd.R_celln (d := ByteArray.empty) h (j : Int) (by omega) (by omega)
    rw [Int.toNat_natCast] at this
    rw [Nat.zero_add]
    refine ⟨this.1.trans ?_, this.2⟩
    unfold rdOf
    rw [List.getD_eq_getElem?_getD, Int.toNat_natCast, List.getElem?_eq_getElem hj']
    simp [hj', Go.Proofs.encStr]) hblk (by simp; omega)
  rw [List.length_map, ← hn] at key
  refine key.mono fun e w' ⟨he, q, os, hw⟩ => ⟨he, ?_⟩
  have hw2 : w' = Sort.grow (Sort.putRow Go.Proofs.encStr (Sort.ahead W q) g 0 (sortL L).toArray) os := hw
  clear hw
  have hX := sortL_len L
  have hsB : sortB L = (sortL L).map fun s => ⟨s.toArray⟩ := rfl
  have hBl := sortB_len L
  rw [hsB] at hBl ⊢
  generalize sortL L = X at hw2 hX hBl ⊢
  subst hw2
  have hg : (Sort.grow (Sort.putRow Go.Proofs.encStr (Sort.ahead W q) g 0 X.toArray) os).heap[g]? = some (.cells (Sort.putCells Go.Proofs.encStr 0 X.toArray cur) 9 (0, 0)) := by
    have h1 : (Sort.putRow Go.Proofs.encStr (Sort.ahead W q) g 0 X.toArray).heap[g]? = some (.cells (Sort.putCells Go.Proofs.encStr 0 X.toArray cur) 9 (0, 0)) := heap_mapBlock_self (Sort.ahead W q) g _ hh
    show ((Sort.putRow Go.Proofs.encStr (Sort.ahead W q) g 0 X.toArray).heap ++ os)[g]? = _
    rw [Array.getElem?_append_left (by simp [Sort.putRow, Sort.mapBlock, Sort.ahead]; exact hblk)]
    exact h1
  refine ⟨Kd.R_of_own ⟨by simp [encs, hX, hn], .inr ⟨g, cap, _, by rw [hBl, ← hn], hge, hg, by omega, hc2, by simp [Sort.putCells]; omega, ?_⟩⟩ (fun k hk => hok k hk), ?_⟩
  · apply List.ext_getElem?
    intro j
    rw [hBl, Nat.mul_one]
    by_cases hj : j < L.length
    · have hjc : j < cur.size := by omega
      have hjx : j < X.length := by omega
      rw [List.getElem?_take_of_lt hj]
      unfold Sort.putCells encs
      rw [Array.getElem?_toList, Array.getElem?_mapIdx, Array.getElem?_eq_getElem hjc, List.getElem?_map, List.getElem?_map, List.getElem?_eq_getElem hjx]
      simp only [Option.map_some]
      rw [if_pos (by simp; omega), Nat.sub_zero]
      rw [getElem!_pos _ j (by simpa using hjx), List.getElem_toArray]
    · rw [List.getElem?_eq_none (by simp; omega), List.getElem?_eq_none (by simp [encs, hX]; omega)]
  · refine ⟨rfl, rfl, rfl, ?_, fun k hk => ?_⟩
    · simp [Sort.grow, Sort.putRow, Sort.mapBlock, Sort.ahead]
    · show ((Sort.putRow Go.Proofs.encStr (Sort.ahead W q) g 0 X.toArray).heap ++ os)[k]? = _
      rw [Array.getElem?_append_left (by simp [Sort.putRow, Sort.mapBlock, Sort.ahead]; omega)]
      exact heap_mapBlock (Sort.ahead W q) g _ k (by omega)
end Go.Proofs.YthljjgolloiamaaDoor.PNam
