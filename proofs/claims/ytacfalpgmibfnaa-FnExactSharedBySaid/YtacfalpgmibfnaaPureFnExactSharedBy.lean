import Derived.Test.YtacfalpgmibfnaaZCowMarked
import Derived.Test.YtacfalpgmibfnaaZCowLaw
import Derived.Test.YtacfalpgmibfnaaYCowlawsFnExactSharedBy
namespace Go.Proofs.Ytacfalpgmibfnaa.Pure
open Go.RowKit Go.Proofs.Ytacfalpgmibfnaa.PCow Go.Proofs.YtacfalpgmibfnaaW.PrintWords Go.Proofs.YtacfalpgmibfnaaW.PrintLast Go.Proofs.Ytacfalpgmibfnaa.E Go.Proofs.Ytacfalpgmibfnaa.ZCow
set_option linter.unusedSimpArgs false
set_option linter.unusedVariables false
theorem core_FnExactSharedBy (l0 : List LC) (l1 : List Int) (a b c : Int) (hm0 : l0.length ≤ 9223372036854775807) (hw0 : ∀ x ∈ l0, x.f1.size ≤ 9223372036854775807 ∧ x.f2.length ≤ 9223372036854775807) (hm1 : l1.length ≤ 9223372036854775807) : ∃ k, laws_FnExactSharedBy.f k l0 l1 a b c = some true := by
  refine Ev.rounds (r := true) ?_
  unfold laws_FnExactSharedBy.f
  obtain ⟨r, hp, hr⟩ := szCow l0 l1 a hm0 hw0 hm1
  by_cases hn : r < 0
  · exact Ev.bind hr (ev_pos hn (ev_ret rfl))
  · have hs := hp.resolve_left hn
    have hs0 := hs.1.1
    have hs1 := hs.2
    obtain ⟨p, hb1, hb2⟩ := shared_both (l0.map cC) l1 a b c
    refine Ev.bind hr (ev_neg hn (Ev.bind (toCow l0 l1 a hs) (Ev.bind hb1 (Ev.bind (toCow l0 l1 a hs) (Ev.bind hb2 (ev_pos rfl (Ev.step (fun _ => laws_FnExactSharedBy.j0.eq_2 ..) (ev_neg (by simp) (Ev.bind (toCow l0 l1 a hs) (Ev.bind (eqCow (l0.map cC) l1 a (by simp; omega) (by omega) (fun x hx => by
      obtain ⟨y, hy, rfl⟩ := List.mem_map.1 hx
      have := hs.1.2 y hy
      show (y.f2.length : Int) ≤ 100000000000
      omega)) (ev_true rfl (ev_ret rfl))))))))))))
theorem FnExactSharedBy (l0 : List LC) (l1 : List Int) (a b c : Int) (h : (l0.length ≤ 9223372036854775807 ∧ ∀ y ∈ l0, ((Lit.int .i64 y.f0).wf = true) ∧ (y.f1.size ≤ 9223372036854775807) ∧ (y.f2.length ≤ 9223372036854775807 ∧ ∀ y_1 ∈ y.f2, (Lit.int .i64 y_1).wf = true)) ∧ (l1.length ≤ 9223372036854775807 ∧ ∀ y ∈ l1, (Lit.int .i64 y).wf = true) ∧ ((Lit.int .i64 a).wf = true)) (_hb : (Lit.int .i64 b).wf = true) (_hc : (Lit.int .i64 c).wf = true) : ∃ k, laws_FnExactSharedBy.f k l0 l1 a b c = some true :=
  core_FnExactSharedBy l0 l1 a b c h.1.1 (fun x hx => ⟨(h.1.2 x hx).2.1, (h.1.2 x hx).2.2.1⟩) h.2.1.1
end Go.Proofs.Ytacfalpgmibfnaa.Pure
