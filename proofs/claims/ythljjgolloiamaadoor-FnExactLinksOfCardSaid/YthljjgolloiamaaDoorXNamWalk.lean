import Derived.Test.YthljjgolloiamaaDoorXNamNamesIn
import Derived.Test.YthljjgolloiamaaDoorXNamGoodI
import Derived.Test.YthljjgolloiamaaDoorYNamimplNameswalk
/-! impl.WalkPath, walked. -/
namespace Go.Proofs.YthljjgolloiamaaDoor.PNam
open Go.RowKit Go.Shelf Go.Proofs.YthljjgolloiamaaDoorW.PrintWords Go.Proofs.YthljjgolloiamaaDoorW.PrintLast Go.Proofs.YthljjgolloiamaaDoorW.PrintMore Go.Proofs.YthljjgolloiamaaDoor.E Go.Proofs.YthljjgolloiamaaDoor.ZNam
set_option linter.unusedSimpArgs false
set_option linter.unusedVariables false
noncomputable def impl_WalkPath.f (k : Nat) (l0 : List S76) (a1 : ByteArray) : Option (Int × Int) :=
  (impl_namesIn.f a1).bind fun b => if b.2 = true then (impl_GoodNames.f l0).bind fun t => if t = true then (impl_Names_walk.f k l0 b.1).bind fun x => some (x.1, x.2) else some (0, 1) else some (0, 1)
theorem impl_WalkPath.mono : ∀ a0 a1 k, LeO (impl_WalkPath.f k a0 a1) (impl_WalkPath.f (k + 1) a0 a1) := by
  intro a0 a1 k
  unfold impl_WalkPath.f
  repeat' first
    | (with_reducible exact impl_Names_walk.mono _ _ _)
    | (with_reducible exact LeO.refl _)
    | (with_reducible refine LeO.ite ?_ ?_)
    | (with_reducible refine LeO.bind ?_ (fun _ => ?_))
set_option maxHeartbeats 8000000 in
set_option maxRecDepth 100000 in
theorem impl_WalkPath.calls (k : Nat) (A0 : Option Addr) (c0 : Nat) (l0 : List S76) (a1 : ByteArray) (r1 r2 : Int) (w : World) (hr0 : Kd.C k76 w A0 l0.length l0) (hc0 : l0.length ≤ c0) (h : impl_WalkPath.f k l0 a1 = some (r1, r2)) :
    Calls Tryd.prog 43 #[.agg #[.slice A0 l0.length c0], .string a1] w fun e w' => e = .returned (.tuple #[.int .i64 r1, .int .i64 r2]) ∧ Below w.heap.size w w' := by
  unfold impl_WalkPath.f impl_namesIn.f at h
  by_cases hs : a1.size < 4294967281
  case neg => rw [if_neg hs] at h; cases h
  rw [if_pos hs, Option.bind_some] at h
  obtain ⟨W1, hW1⟩ : ∃ W, w.alloc (.cells #[.slice A0 l0.length c0] 30) = W := ⟨_, rfl⟩
  have X1 := Aside0.mk (show W1.heap[w.heap.size]? = some (.cells #[.slice A0 l0.length c0] 30 (0, 0)) by rw [← hW1]; exact heap_alloc_new w _)
  have hb1 : Below w.heap.size w W1 := by rw [← hW1]; exact below_alloc (Below.refl _ _) _
  have B1 := Aside0.mk hb1
  have HR := Aside0.mk (Kd.C_below hr0 hb1)
  have HC := Aside0.mk hc0
  have TT := Aside0.mk (namesIn_calls a1 hs W1)
  have huN := Tryd.underlying30
  clear hb1 hr0 hc0 hs
  generalize pathI a1 = p at TT h
  obtain ⟨L, ok⟩ := p
  simp only at TT h
  cases ok with
  | false =>
    rw [if_neg (by simp)] at h
    obtain ⟨rfl, rfl⟩ := Prod.mk.inj (Option.some.inj h)
    clear h
    go_enter Tryd.func43, Tryd.ntmps43
    go_wp2_with (go_at_call 88; refine TT.out.mono ?_; (rintro e w2 ⟨A, c, rfl, hk, hlc, hb⟩); (replace B1 := Aside0.mk (below_step B1.out hb)); clear hk hlc hb)
    go_ret2
    exact ⟨rfl, B1.out⟩
  | true =>
    rw [if_pos rfl] at h
    obtain ⟨t, ht, h⟩ := Option.bind_eq_some_iff.1 h
    have HG := Aside0.mk ht
    cases t with
    | false =>
      rw [if_neg (by simp)] at h
      obtain ⟨rfl, rfl⟩ := Prod.mk.inj (Option.some.inj h)
      clear h ht
      go_enter Tryd.func43, Tryd.ntmps43
      go_wp2_with (first | (go_at_call 88; refine TT.out.mono ?_; (rintro e w2 ⟨A, c, rfl, hk, hlc, hb⟩); (replace B1 := Aside0.mk (below_step B1.out hb)); (replace X1 := Aside0.mk (blk_below X1.out hb)); (replace HR := Aside0.mk (Kd.C_below HR.out hb)); (have d0 : w2.cell? ⟨w.heap.size, 0, none⟩ = some (.slice A0 l0.length c0) := (blk_cell X1.out 0).trans rfl); clear hk hlc hb) | (go_at_call 51; refine (impl_GoodNames.calls A0 c0 l0 false _ HR.out HC.out HG.out).mono ?_; (rintro e w3 ⟨rfl, hb⟩); (replace B1 := Aside0.mk (below_step B1.out hb)); clear hb d0))
      go_ret2
      exact ⟨rfl, B1.out⟩
    | true =>
      rw [if_pos rfl] at h
      obtain ⟨⟨x1, x2⟩, hx, h⟩ := Option.bind_eq_some_iff.1 h
      obtain ⟨rfl, rfl⟩ := Prod.mk.inj (Option.some.inj h)
      have HX := Aside0.mk hx
      clear h ht hx
      go_enter Tryd.func43, Tryd.ntmps43
      go_wp2_with (first | (go_at_call 88; refine TT.out.mono ?_; (rintro e w2 ⟨A, c, rfl, hk, hlc, hb⟩); (replace B1 := Aside0.mk (below_step B1.out hb)); (replace X1 := Aside0.mk (blk_below X1.out hb)); (replace HR := Aside0.mk (Kd.C_below HR.out hb)); (have HK := Aside0.mk hk); (have HL := Aside0.mk hlc); (have d0 : w2.cell? ⟨w.heap.size, 0, none⟩ = some (.slice A0 l0.length c0) := (blk_cell X1.out 0).trans rfl); clear hk hlc hb) | (go_at_call 51; refine (impl_GoodNames.calls A0 c0 l0 true _ HR.out HC.out HG.out).mono ?_; (rintro e w3 ⟨rfl, hb⟩); (replace B1 := Aside0.mk (below_step B1.out hb)); (replace X1 := Aside0.mk (blk_below X1.out hb)); (replace HR := Aside0.mk (Kd.C_below HR.out hb)); (replace HK := Aside0.mk (Kd.C_below HK.out hb)); clear d0; (have d0 : w3.cell? ⟨w.heap.size, 0, none⟩ = some (.slice A0 l0.length c0) := (blk_cell X1.out 0).trans rfl); clear hb) | (go_at_call 89; refine (impl_Names_walk.calls k A0 c0 l0 A c L x1 x2 _ HR.out HC.out HK.out HL.out HX.out).mono ?_; (rintro e w4 ⟨rfl, hb⟩); (replace B1 := Aside0.mk (below_step B1.out hb)); clear hb d0))
      go_ret2
      exact ⟨rfl, B1.out⟩
end Go.Proofs.YthljjgolloiamaaDoor.PNam
