import Derived.Test.YtacfalpgmibfnaaXCowRow
import Derived.Test.YtacfalpgmibfnaaShelf
/-! slices.Delete of one element of a row of whole numbers of the call's own, by the library's contract. -/
namespace Go.Proofs.Ytacfalpgmibfnaa.PCow
open Go.RowKit Go.Proofs.YtacfalpgmibfnaaW.PrintWords Go.Proofs.YtacfalpgmibfnaaW.PrintLast Go.Proofs.YtacfalpgmibfnaaW.PrintMore Go.Proofs.Ytacfalpgmibfnaa.E
set_option linter.unusedSimpArgs false
set_option linter.unusedVariables false
theorem heap_mapBlock (w : World) (g : Nat) (f : Array Value → Array Value) (k : Nat) (h : k ≠ g) : (Sort.mapBlock w g f).heap[k]? = w.heap[k]? := by
  unfold Sort.mapBlock
  simp [Array.getElem?_modify, Ne.symm h]
theorem heap_mapBlock_self (w : World) (g : Nat) (f : Array Value → Array Value) {c : Array Value} {e : TypeId} (h : w.heap[g]? = some (.cells c e (0, 0))) : (Sort.mapBlock w g f).heap[g]? = some (.cells (f c) e (0, 0)) := by
  unfold Sort.mapBlock
  simp [Array.getElem?_modify, h, Sort.onCells]
theorem delete_own {W : World} {base g n cap : Nat} {ok : Nat → Prop} {R : List Int} (h : IR W base ok (.slice (some ⟨g, 0, none⟩) n cap) R) (i : Nat) (hi : i < n) :
    Calls Try.prog 72 #[.slice (some ⟨g, 0, none⟩) n cap, .int .i64 (i : Int), .int .i64 ((i : Int) + 1)] W fun e w' => e = .returned (.slice (some ⟨g, 0, none⟩) (n - 1) cap) ∧ IR w' base ok (.slice (some ⟨g, 0, none⟩) (n - 1) cap) (R.eraseIdx i) ∧ W.grownBy w' (some g) := by
  have hn := (Kd.R_reads' h).1
  obtain ⟨hl, ho⟩ := Kd.own_of_R h
  rcases ho with ⟨e, _⟩ | ⟨g', cap', cur, e, hge, hh, hc1, hc2, hc3, hc4⟩
  · cases e
  injection e with e1 e2 e3
  injection e1 with e1
  injection e1 with e1
  subst e1 e3
  have hok := h.1
  have key := Try.slices_Delete_int g 0 cap i (i + 1) R W (fun j hj => by
    have hj' : j < R.length := by simpa using hj
    have := Kd.R_celln (d := (0 : Int)) h (j : Int) (by omega) (by omega)
    rw [Int.toNat_natCast] at this
    rw [Nat.zero_add]
    refine ⟨this.1.trans ?_, this.2⟩
    unfold rdOf
    rw [List.getD_eq_getElem?_getD, Int.toNat_natCast, List.getElem?_eq_getElem hj']
    simp [hj']) (by omega) (by have := hc2; simpa [maxLen] using this) (by omega) (by omega)
  rw [show R.length - (i + 1 - i) = n - 1 by omega, ← hn] at key
  refine key.mono fun e w' ⟨he, q, hw⟩ => ⟨he, ?_, ?_⟩
  · subst hw
    have hg : (Sort.putRow (Value.int .i64) (Sort.ahead W q) g 0 (R.take i ++ R.drop (i + 1) ++ List.replicate (i + 1 - i) 0).toArray).heap[g]? = some (.cells (Sort.putCells (Value.int .i64) 0 (R.take i ++ R.drop (i + 1) ++ List.replicate (i + 1 - i) 0).toArray cur) 3 (0, 0)) := heap_mapBlock_self (Sort.ahead W q) g _ hh
    have hel : (R.eraseIdx i).length = n - 1 := by rw [List.length_eraseIdx]; split <;> omega
    refine Kd.R_of_own ⟨by simp [encs, hel], .inr ⟨g, cap, _, by rw [hel], hge, hg, by omega, hc2, by simp [Sort.putCells]; omega, ?_⟩⟩ (fun k hk => hok k hk)
    rw [hel]
    apply List.ext_getElem?
    intro j
    by_cases hj : j < n - 1
    · have hjc : j < cur.size := by omega
      have hds : (R.take i ++ R.drop (i + 1) ++ List.replicate (i + 1 - i) (0 : Int)).length = n := by simp; omega
      rw [List.getElem?_take_of_lt (by omega)]
      unfold Sort.putCells encs
      rw [Array.getElem?_toList, Array.getElem?_mapIdx, Array.getElem?_eq_getElem hjc, List.getElem?_map, List.eraseIdx_eq_take_drop_succ]
      have hjl : j < (R.take i ++ R.drop (i + 1)).length := by simp; omega
      simp only [Option.map_some]
      rw [if_pos (by simp; omega), List.getElem?_eq_getElem hjl]
      simp only [Nat.sub_zero, Option.map_some, Option.some.injEq]
      congr 1
      rw [getElem!_pos _ j (by simp; omega), List.getElem_toArray, List.getElem_append_left hjl]
    · rw [List.getElem?_eq_none (by simp; omega), List.getElem?_eq_none (by simp [encs, hel]; omega)]
  · subst hw
    refine ⟨rfl, rfl, rfl, by simp [Sort.putRow, Sort.mapBlock, Sort.ahead], fun k _ hk => heap_mapBlock (Sort.ahead W q) g _ k (fun e => hk (by rw [e]))⟩
end Go.Proofs.Ytacfalpgmibfnaa.PCow
