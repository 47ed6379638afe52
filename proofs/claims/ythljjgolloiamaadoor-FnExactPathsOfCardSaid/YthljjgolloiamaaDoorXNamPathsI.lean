import Derived.Test.YthljjgolloiamaaDoorXNamGoodS
import Derived.Test.YthljjgolloiamaaDoorXNamSortS
import Derived.Test.YthljjgolloiamaaDoorYNamimplNamespathsBelow
/-! impl.PathsOf, walked. -/
namespace Go.Proofs.YthljjgolloiamaaDoor.PNam
open Go.RowKit Go.Proofs.YthljjgolloiamaaDoorW.PrintWords Go.Proofs.YthljjgolloiamaaDoorW.PrintLast Go.Proofs.YthljjgolloiamaaDoorW.PrintMore Go.Proofs.YthljjgolloiamaaDoor.E
set_option linter.unusedSimpArgs false
set_option linter.unusedVariables false
theorem R_some0 {W : World} {base n c : Nat} {A : Option Addr} {ok : Nat → Prop} {l : List ByteArray} (h : Kd.R Kd.string 9 W base ok (.slice A n c) l) (hl : 0 < l.length) : ∃ g, A = some ⟨g, 0, none⟩ := by
  have hn := (Kd.R_reads' h).1
  obtain ⟨_, ho⟩ := Kd.own_of_R h
  rcases ho with ⟨e, _⟩ | ⟨g', cap', cur, e, _⟩
  · injection e with _ e2 _
    omega
  · injection e with e1 _ _
    exact ⟨g', e1⟩
noncomputable def impl_PathsOf.f (k : Nat) (l : List IN) : Option (List ByteArray × Bool) :=
  if goodN l = true then (impl_Names_pathsBelow.f k l 0 (⟨#[]⟩ : ByteArray) [(⟨#[47]⟩ : ByteArray)]).bind fun r => if 0 < r.length ∧ r.length ≤ 4000000000000000000 then some (sortB r, true) else none else some ([], false)
set_option maxHeartbeats 4000000 in
set_option maxRecDepth 100000 in
theorem impl_PathsOf.calls (k : Nat) (A : Option Addr) (c : Nat) (l : List IN) (r1 : List ByteArray) (r2 : Bool) (w : World) (hr : Kd.C k76 w A l.length l) (hc : l.length ≤ c) (h : impl_PathsOf.f k l = some (r1, r2)) :
    Calls Tryd.prog 20 #[.agg #[.slice A l.length c]] w fun e w' => ∃ v0 : Value, e = .returned (.tuple #[v0, .bool r2]) ∧ Kd.R Kd.string 9 w' w.heap.size (fun _ => True) v0 r1 ∧ Below w.heap.size w w' := by
  have huN := Tryd.underlying30
  have HR := Aside0.mk hr
  have HC := Aside0.mk hc
  unfold impl_PathsOf.f at h
  obtain ⟨W1, hW1⟩ : ∃ W, w.alloc (.cells #[.slice A l.length c] 30) = W := ⟨_, rfl⟩
  have X1 := Aside0.mk (show W1.heap[w.heap.size]? = some (.cells #[.slice A l.length c] 30 (0, 0)) by rw [← hW1]; exact heap_alloc_new w _)
  have B1 := Aside0.mk (show Below w.heap.size w W1 by rw [← hW1]; exact below_alloc (Below.refl _ _) _)
  have x1 : W1.cell? ⟨w.heap.size, 0, none⟩ = some (.slice A l.length c) := (blk_cell X1.out 0).trans rfl
  have TG := Aside0.mk (fun g (hg : goodN l = g) => impl_GoodNames.calls A c l g W1 (Kd.C_below hr B1.out) hc (by rw [← hg]; rfl))
  clear hr hc
  cases hg : goodN l with
  | false =>
    rw [hg, if_neg (by simp)] at h
    obtain ⟨rfl, rfl⟩ := Prod.mk.inj (Option.some.inj h)
    replace TG := Aside0.mk (TG.out false hg)
    clear h hg
    go_enter Tryd.func20, Tryd.ntmps20
    go_wp2_with (go_at_call 51; refine TG.out.mono ?_; (first | rintro e w2 rfl hb | rintro e w2 ⟨rfl, hb⟩); (have B2 := Aside0.mk (below_step B1.out hb)); clear hb)
    go_ret2
    exact ⟨_, rfl, Kd.R_nil _ _ _ _ _, B2.out⟩
  | true =>
    rw [hg, if_pos rfl] at h
    replace TG := Aside0.mk (TG.out true hg)
    clear hg
    obtain ⟨p, hp, h⟩ := Option.bind_eq_some_iff.1 h
    by_cases hn : 0 < p.length ∧ p.length ≤ 4000000000000000000
    · rw [if_pos hn] at h
      obtain ⟨rfl, rfl⟩ := Prod.mk.inj (Option.some.inj h)
      have HN := Aside0.mk hn
      have HP := Aside0.mk hp
      clear h hn hp
      go_enter Tryd.func20, Tryd.ntmps20
      go_wp2_with (first
        | (go_at_call 51; refine TG.out.mono ?_; (first | rintro e w2 rfl hb | rintro e w2 ⟨rfl, hb⟩); (have B2 := Aside0.mk (below_step B1.out hb)); (have x2 : w2.cell? ⟨w.heap.size, 0, none⟩ = some (.slice A l.length c) := (blk_cell (blk_below X1.out hb) 0).trans rfl); clear hb)
        | ((with_reducible refine gate_dst (N := 9) rfl ?_); refine Kd.R_lit Kd.string w.heap.size 9 ?hg (N := 9) ?hd (xs := ([⟨#[47]⟩] : List ByteArray)) (inner := [.string ⟨#[47]⟩]) (ok := fun _ => True) (okp := fun _ => True) ?hr ?hp (fun _ hk => hk) trivial B2.out B2.out.size (by simp) ?_; (case hd => rfl); (case hg => rfl); (case hr => first | (go_simp; done) | (go_simp; rfl)); (case hp => exact (Reps.one (show Kd.M Kd.string _ _ _ (⟨#[47]⟩ : ByteArray) [.string (⟨#[47]⟩ : ByteArray)] from rfl) (Reps.none _ _))); intro v1 w3 ho1 hb1 hg_ hnew_; clear hg_ hnew_; have TP := Aside0.mk (impl_Names_pathsBelow.calls k A c l 0 ⟨#[]⟩ (fun k_ => w.heap.size ≤ k_) v1 [⟨#[47]⟩] p w w3 hb1 (Kd.C_kept_came heap_inode HR.out hb1 (fun _ h_ => h_)) HC.out (Kd.R_mono (Kd.R_bound ho1) (fun k_ h_ => h_.2.1)) HP.out); clear ho1 hb1)
        | (go_at_call 52; refine TP.out.mono ?_; (first | rintro e w4 ⟨v4, rfl, ho4, hb4, hk4⟩ | skip); obtain ⟨A4, c4, rfl⟩ := Kd.R_slice ho4; obtain ⟨g4, rfl⟩ := R_some0 ho4 HN.out.1; have HB4 := Aside0.mk hb4; have TS := Aside0.mk (sort_own (Kd.R_mono ho4 (fun _ _ => trivial)) HN.out.2); clear ho4 hb4 hk4)
        | (go_at_call 53; refine TS.out.mono ?_; (first | rintro e w5 rfl ho5 hb5 | rintro e w5 ⟨rfl, ho5, hb5⟩); have HO5 := Aside0.mk ho5; have HB5 := Aside0.mk (Below.trans HB4.out hb5); clear ho5 hb5))
      go_ret2
      exact ⟨_, rfl, HO5.out, HB5.out⟩
    · rw [if_neg hn] at h
      cases h
end Go.Proofs.YthljjgolloiamaaDoor.PNam
