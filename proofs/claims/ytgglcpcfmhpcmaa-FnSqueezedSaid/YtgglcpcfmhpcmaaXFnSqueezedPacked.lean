import Derived.Test.YtgglcpcfmhpcmaaYFnSqueezedx2
import Derived.Test.YtgglcpcfmhpcmaaBld
import Derived.Test.YtgglcpcfmhpcmaaEv
/-! packed: a builder is filled token by token. -/
namespace Go.Proofs.Ytgglcpcfmhpcmaa.PFnSqueezed
open Go.RowKit Go.Proofs.YtgglcpcfmhpcmaaW.PrintWords Go.Proofs.YtgglcpcfmhpcmaaW.PrintLast Go.Proofs.YtgglcpcfmhpcmaaW.PrintMore Go.Proofs.Ytgglcpcfmhpcmaa.E
set_option linter.unusedSimpArgs false
set_option linter.unusedVariables false

def pk (t : S56) : List UInt8 :=
  if t.f0.size = 0 then [UInt8.ofNat ((wrap64 (wrap64 (64 + t.f2) - 3)) % 256).toNat, UInt8.ofNat (t.f1 % 256).toNat] else UInt8.ofNat (((t.f0.size : Int) - 1) % 256).toNat :: t.f0.data.toList
def packL (l : List S56) : List UInt8 := l.flatMap pk
theorem packL_take (l : List S56) (k : Nat) (h : k < l.length) : packL (l.take (k + 1)) = packL (l.take k) ++ pk (l[k]) := by
  unfold packL
  rw [List.take_succ_eq_append_getElem h, List.flatMap_append]
  simp
theorem packL_take_len (l : List S56) (k : Nat) : (packL (l.take k)).length ≤ (packL l).length := by
  unfold packL
  conv => rhs; rw [← List.take_append_drop k l, List.flatMap_append, List.length_append]
  exact Nat.le_add_right _ _
theorem bcell {W w1 : World} (hb : Below W.heap.size W w1) : (∀ b o, b < W.heap.size → w1.cell? ⟨b, o, none⟩ = W.cell? ⟨b, o, none⟩) ∧ (∀ b o, b < W.heap.size → w1.frozen? ⟨b, o, none⟩ = W.frozen? ⟨b, o, none⟩) :=
  ⟨fun b o h => hb.cell (p := ⟨b, o, none⟩) h, fun b o h => hb.frozen (p := ⟨b, o, none⟩) h⟩
theorem rowF_step {w w' : World} {B : Nat} {e : TypeId} {size n : Nat} {v : Value} {xs : List Value} (h : w.ownsRowF B e size v n xs) (hb : Below w.heap.size w w') : w'.ownsRowF B e size v n xs := by
  have hl := h.lt
  refine ⟨h.1, ?_⟩
  rcases h.2 with h2 | ⟨g, cap, cur, fz, rfl, hbg, hg, r⟩
  · exact .inl h2
  · exact .inr ⟨g, cap, cur, fz, rfl, hbg, (hb.block g (hl g (by simp [Value.ownBlock])).2).trans hg, r⟩
theorem at_lt {T e : TypeId} {B b : Nat} {p : Value} {bs : List Value} {w : World} (h : Lib.BuilderAtF T e B b p bs w) : b < w.heap.size := by
  obtain ⟨hB, v, hv, _⟩ := h
  rcases Nat.lt_or_ge b w.heap.size with h' | h'
  · exact h'
  · simp [Array.getElem?_eq_none h'] at hv
theorem is_lt {T e : TypeId} {B b : Nat} {bs : List Value} {w : World} (h : Lib.IsBuilderF T e B b bs w) : b < w.heap.size := by
  rcases h with h | h <;> exact at_lt h
theorem at_step {T e : TypeId} {B b : Nat} {p : Value} {bs : List Value} {w w' : World} (h : Lib.BuilderAtF T e B b p bs w) (hb : Below w.heap.size w w') : Lib.BuilderAtF T e B b p bs w' := by
  have hlt := at_lt h
  obtain ⟨hB, v, hv, ho, hn⟩ := h
  exact ⟨hB, v, (hb.block b hlt).trans hv, rowF_step ho hb, hn⟩
theorem is_step {T e : TypeId} {B b : Nat} {bs : List Value} {w w' : World} (h : Lib.IsBuilderF T e B b bs w) (hb : Below w.heap.size w w') : Lib.IsBuilderF T e B b bs w' := by
  rcases h with h | h
  · exact .inl (at_step h hb)
  · exact .inr (at_step h hb)
theorem kept_blk {w w' : World} {e t : TypeId} {b k : Nat} {cs : Array Value} {fz : Nat × Nat} (h : Lib.OthersKept e (some b) w w') (hk : w.heap[k]? = some (.cells cs t fz)) (hne : k ≠ b) (ht : t ≠ e) : w'.heap[k]? = some (.cells cs t fz) :=
  h k _ hk (fun h => hne (Option.some.inj h)) (fun c f h => ht (by injection h))
theorem byteCells_snoc (l : List UInt8) (c : Int) (h0 : 0 ≤ c) (h1 : c < 256) : Lib.byteCells l ++ [Value.int .u8 c] = Lib.byteCells (l ++ [UInt8.ofNat c.toNat]) := by
  have : ((UInt8.ofNat c.toNat).toNat : Int) = c := by
    rw [UInt8.toNat_ofNat', Nat.mod_eq_of_lt (by omega)]
    omega
  unfold Lib.byteCells
  rw [List.map_append, List.map_cons, List.map_nil, this]
theorem byteCells_str (l : List UInt8) (s : ByteArray) : Lib.byteCells l ++ Lib.strCells s = Lib.byteCells (l ++ s.data.toList) := by
  simp [Lib.byteCells, Lib.strCells]

set_option maxHeartbeats 4000000 in
set_option maxRecDepth 100000 in
theorem impl_packed.calls0 (A0 : Option Addr) (c0 : Nat) (l0 : List S56) (w : World) (hr0 : Kd.C k56 w A0 l0.length l0) (hc0 : l0.length ≤ c0) (hb : (packL l0).length ≤ 140737488355328) :
    Calls Try.prog 60 #[.slice A0 l0.length c0] w fun e w' => e = .returned (.string ⟨(packL l0).toArray⟩) ∧ Below w.heap.size w w' := by
  have HR0 := Aside0.mk hr0
  have HLB := Aside0.mk hb
  have hn : l0.length ≤ 9223372036854775807 := hr0.2.1
  clear hr0 hb
  go_enter Try.func60, Try.ntmps60
  go_wp2
  go_loopw [8] (fun i wr => ∃ k : Nat, k ≤ l0.length ∧ i = .int .i64 k ∧ Aside0 (Lib.IsBuilderF 77 5 w.heap.size w.heap.size (Lib.byteCells (packL (l0.take k))) wr) ∧ Aside0 (Below w.heap.size w wr)) (fun i _ => l0.length - (intOf i).toNat)
  case atStart =>
    refine ⟨0, Nat.zero_le _, rfl, ⟨.inl ⟨Nat.le_refl _, .slice none 0 0, heap_alloc_new w _, World.ownsRowF_nil _ _ _ _, by simp [Value.ownBlock]⟩⟩, ⟨(Below.refl _ _).alloc (Nat.le_refl _) _⟩⟩
  case round =>
    obtain ⟨k, hk, rfl, HI, HB⟩ := hrel
    by_cases hlt : k < l0.length
    · obtain ⟨ad, e, hx0, hx1, hx2⟩ := at_T56 HR0.out (k : Int) (by omega) (by omega)
      cases e
      simp only [Int.toNat_natCast] at hx0 hx1 hx2
      replace hx0 := (HB.out.cell (World.block_lt_of_cell? w _ hx0)).trans hx0
      replace hx1 := (HB.out.cell (World.block_lt_of_cell? w _ hx1)).trans hx1
      replace hx2 := (HB.out.cell (World.block_lt_of_cell? w _ hx2)).trans hx2
      have hwr : w.heap.size ≤ wr.heap.size := HB.out.size
      have er : rd_T56 l0 k = l0[k] := by
        unfold rd_T56
        rw [List.getD_eq_getElem?_getD, Int.toNat_natCast, List.getElem?_eq_getElem hlt]
        rfl
      have hpk := Aside0.mk (show packL (l0.take (k + 1)) = packL (l0.take k) ++ pk (rd_T56 l0 k) from by rw [er]; exact packL_take l0 k hlt)
      clear er
      by_cases hz : (rd_T56 l0 k).f0.size = 0
      · have HZ := Aside0.mk hz
        clear hz
        have HL : Aside0 (impl_Token_isLiteral.f (rd_T56 l0 k).f0 (rd_T56 l0 k).f1 (rd_T56 l0 k).f2 = some false) := ⟨by
          unfold impl_Token_isLiteral.f
          rw [ba_nil.2 HZ.out]; rfl⟩
        have hP := Aside0.mk (show pk (rd_T56 l0 k) = [UInt8.ofNat ((wrap64 (wrap64 (64 + (rd_T56 l0 k).f2) - 3)) % 256).toNat, UInt8.ofNat ((rd_T56 l0 k).f1 % 256).toNat] from if_pos HZ.out)
        go_wp2_with (go_at_call 67; refine (impl_Token_isLiteral.calls _ _ _ false _ HL.out).mono ?_)
        rintro e w1 ⟨rfl, hb1⟩
        have hB1 := Aside0.mk (show Below wr.heap.size wr w1 from ((Below.refl _ _).alloc (Nat.le_refl _) _).trans (hb1.mono (by simp)))
        have hX := Aside0.mk (show w1.heap[wr.heap.size]? = some (.cells #[.string (rd_T56 l0 k).f0, .int .i64 (rd_T56 l0 k).f1, .int .i64 (rd_T56 l0 k).f2] 56 (0, 0)) from (hb1.block wr.heap.size (by simp)).trans (heap_alloc_new wr _))
        have HI1 := Aside0.mk (is_step HI.out hB1.out)
        have HB1 := Aside0.mk (HB.out.trans (hB1.out.mono hwr))
        have hxb : w.heap.size < wr.heap.size := is_lt HI.out
        have hL := Aside0.mk (show (packL (l0.take k)).length + (pk (rd_T56 l0 k)).length ≤ 140737488355328 from by rw [← List.length_append, ← hpk.out]; exact Nat.le_trans (packL_take_len l0 (k + 1)) HLB.out)
        clear hb1
        have d0 : w1.cell? ⟨wr.heap.size, 0, none⟩ = some (.string (rd_T56 l0 k).f0) := by rw [Lib.cell_of_heap hX.out]; rfl
        have d1 : w1.cell? ⟨wr.heap.size, 1, none⟩ = some (.int .i64 (rd_T56 l0 k).f1) := by rw [Lib.cell_of_heap hX.out]; rfl
        have d2 : w1.cell? ⟨wr.heap.size, 2, none⟩ = some (.int .i64 (rd_T56 l0 k).f2) := by rw [Lib.cell_of_heap hX.out]; rfl
        go_wp2_with (go_at_call 72; refine (Bld.writeByte w.heap.size w.heap.size _ _ _ HI1.out (by have h := hL.out; rw [hP.out] at h; simp only [Lib.byteCells_length, List.length_cons, List.length_nil] at h ⊢; omega) HB1.out.size).mono ?_)
        rintro e w2 ⟨rfl, h2, hb2, hk2⟩
        rw [byteCells_snoc _ _ (by omega) (by omega)] at h2
        have H2 := Aside0.mk (show Lib.IsBuilderF 77 5 w.heap.size w.heap.size _ w2 from .inr h2)
        have hX2 := Aside0.mk (kept_blk hk2 hX.out (by omega) (by decide))
        have HB2 := Aside0.mk (HB1.out.trans hb2)
        clear h2 hb2 hk2
        have e1 : w2.cell? ⟨wr.heap.size, 1, none⟩ = some (.int .i64 (rd_T56 l0 k).f1) := by rw [Lib.cell_of_heap hX2.out]; rfl
        go_wp2_with (go_at_call 72; refine (Bld.writeByte w.heap.size w.heap.size _ _ _ H2.out (by have h := hL.out; rw [hP.out] at h; simp only [Lib.byteCells_length, List.length_cons, List.length_nil, List.length_append] at h ⊢; omega) HB2.out.size).mono ?_)
        rintro e w3 ⟨rfl, h3, hb3, hk3⟩
        rw [byteCells_snoc _ _ (by omega) (by omega)] at h3
        have H3 := Aside0.mk (show Lib.IsBuilderF 77 5 w.heap.size w.heap.size (Lib.byteCells (packL (l0.take (k + 1)))) w3 from by
          rw [hpk.out, hP.out]
          refine .inr ?_
          simpa only [List.append_assoc, List.cons_append, List.nil_append] using h3)
        have HB3 := Aside0.mk (HB2.out.trans hb3)
        clear h3 hb3 hk3
        go_wp2
        go_roundw
        case rel => exact ⟨k + 1, by omega, by go_num, H3, HB3⟩
        case measure => simp [intOf]; omega
      · have HZ := Aside0.mk hz
        have hz1 : 1 ≤ (rd_T56 l0 k).f0.size := by omega
        clear hz
        have HL : Aside0 (impl_Token_isLiteral.f (rd_T56 l0 k).f0 (rd_T56 l0 k).f1 (rd_T56 l0 k).f2 = some true) := ⟨by
          unfold impl_Token_isLiteral.f
          have : (rd_T56 l0 k).f0.toList ≠ [] := fun e => HZ.out (ba_nil.1 e)
          simp [this]⟩
        have hP := Aside0.mk (show pk (rd_T56 l0 k) = UInt8.ofNat ((((rd_T56 l0 k).f0.size : Int) - 1) % 256).toNat :: (rd_T56 l0 k).f0.data.toList from if_neg HZ.out)
        go_wp2_with (go_at_call 67; refine (impl_Token_isLiteral.calls _ _ _ true _ HL.out).mono ?_)
        rintro e w1 ⟨rfl, hb1⟩
        have hB1 := Aside0.mk (show Below wr.heap.size wr w1 from ((Below.refl _ _).alloc (Nat.le_refl _) _).trans (hb1.mono (by simp)))
        have hX := Aside0.mk (show w1.heap[wr.heap.size]? = some (.cells #[.string (rd_T56 l0 k).f0, .int .i64 (rd_T56 l0 k).f1, .int .i64 (rd_T56 l0 k).f2] 56 (0, 0)) from (hb1.block wr.heap.size (by simp)).trans (heap_alloc_new wr _))
        have HI1 := Aside0.mk (is_step HI.out hB1.out)
        have HB1 := Aside0.mk (HB.out.trans (hB1.out.mono hwr))
        have hxb : w.heap.size < wr.heap.size := is_lt HI.out
        have hL := Aside0.mk (show (packL (l0.take k)).length + (pk (rd_T56 l0 k)).length ≤ 140737488355328 from by rw [← List.length_append, ← hpk.out]; exact Nat.le_trans (packL_take_len l0 (k + 1)) HLB.out)
        clear hb1
        have d0 : w1.cell? ⟨wr.heap.size, 0, none⟩ = some (.string (rd_T56 l0 k).f0) := by rw [Lib.cell_of_heap hX.out]; rfl
        have d1 : w1.cell? ⟨wr.heap.size, 1, none⟩ = some (.int .i64 (rd_T56 l0 k).f1) := by rw [Lib.cell_of_heap hX.out]; rfl
        have d2 : w1.cell? ⟨wr.heap.size, 2, none⟩ = some (.int .i64 (rd_T56 l0 k).f2) := by rw [Lib.cell_of_heap hX.out]; rfl
        have hs47 : (rd_T56 l0 k).f0.size ≤ 140737488355328 := by
          have h := hL.out
          rw [hP.out] at h
          simp only [List.length_cons, Array.length_toList] at h
          have : (rd_T56 l0 k).f0.data.size = (rd_T56 l0 k).f0.size := rfl
          omega
        go_wp2_with (go_at_call 72; refine (Bld.writeByte w.heap.size w.heap.size _ _ _ HI1.out (by have h := hL.out; rw [hP.out] at h; simp only [Lib.byteCells_length, List.length_cons, List.length_nil] at h ⊢; omega) HB1.out.size).mono ?_)
        rintro e w2 ⟨rfl, h2, hb2, hk2⟩
        rw [byteCells_snoc _ _ (by omega) (by omega)] at h2
        have H2 := Aside0.mk (show Lib.IsBuilderF 77 5 w.heap.size w.heap.size _ w2 from .inr h2)
        have hX2 := Aside0.mk (kept_blk hk2 hX.out (by omega) (by decide))
        have HB2 := Aside0.mk (HB1.out.trans hb2)
        clear h2 hb2 hk2
        have e0 : w2.cell? ⟨wr.heap.size, 0, none⟩ = some (.string (rd_T56 l0 k).f0) := by rw [Lib.cell_of_heap hX2.out]; rfl
        go_wp2_with (go_at_call 73; refine (Bld.writeString w.heap.size w.heap.size _ _ _ H2.out (by have h := hL.out; rw [hP.out] at h; simp only [Lib.byteCells_length, List.length_cons, List.length_nil, List.length_append, Array.length_toList] at h ⊢; have : (rd_T56 l0 k).f0.data.size = (rd_T56 l0 k).f0.size := rfl; omega) HB2.out.size).mono ?_)
        rintro e w3 ⟨rfl, h3, hb3, hk3⟩
        rw [byteCells_str] at h3
        have H3 := Aside0.mk (show Lib.IsBuilderF 77 5 w.heap.size w.heap.size (Lib.byteCells (packL (l0.take (k + 1)))) w3 from by
          rw [hpk.out, hP.out]
          refine .inr ?_
          simpa only [List.append_assoc, List.cons_append, List.nil_append] using h3)
        have HB3 := Aside0.mk (HB2.out.trans hb3)
        clear h3 hb3 hk3
        go_wp2
        go_roundw
        case rel => exact ⟨k + 1, by omega, by go_num, H3, HB3⟩
        case measure => simp [intOf]; omega
    · go_wp2_with (go_at_call 74; refine (Try.Builder_String_any_f w.heap.size w.heap.size (packL (l0.take k)) _ HI.out HB.out.size).mono ?_)
      rintro e w1 ⟨rfl, _, hb1⟩
      go_wp2
      go_ret
      have : k = l0.length := by omega
      subst this
      rw [List.take_length]
      exact ⟨rfl, HB.out.trans hb1⟩
def impl_packed.f (l0 : List S56) : Option ByteArray := if (packL l0).length ≤ 140737488355328 then some ⟨(packL l0).toArray⟩ else none
theorem impl_packed.calls (A0 : Option Addr) (c0 : Nat) (l0 : List S56) (r : ByteArray) (w : World) (hr0 : Kd.C k56 w A0 l0.length l0) (hc0 : l0.length ≤ c0) (h : impl_packed.f l0 = some r) :
    Calls Try.prog 60 #[.slice A0 l0.length c0] w fun e w' => e = .returned (.string r) ∧ Below w.heap.size w w' := by
  unfold impl_packed.f at h
  by_cases hb : (packL l0).length ≤ 140737488355328
  · rw [if_pos hb] at h
    obtain rfl := Option.some.inj h
    exact impl_packed.calls0 A0 c0 l0 w hr0 hc0 hb
  · rw [if_neg hb] at h
    cases h
end Go.Proofs.Ytgglcpcfmhpcmaa.PFnSqueezed
