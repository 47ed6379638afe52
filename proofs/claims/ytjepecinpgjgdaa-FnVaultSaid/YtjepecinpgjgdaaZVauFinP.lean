import Derived.Test.YtjepecinpgjgdaaXVauRow
import Derived.Test.YtjepecinpgjgdaaYVauspecl15Own
import Derived.Test.YtjepecinpgjgdaaXVauPut
import Derived.Test.YtjepecinpgjgdaaYVauspecPutText
import Derived.Test.YtjepecinpgjgdaaZVauGoodEv
import Derived.Test.YtjepecinpgjgdaaZVauPieces
/-! The reference's own vault is the vault. -/
namespace Go.Proofs.Ytjepecinpgjgdaa.ZVau
open Go.RowKit Go.Proofs.Ytjepecinpgjgdaa.PVau Go.Proofs.YtjepecinpgjgdaaW.PrintWords Go.Proofs.YtjepecinpgjgdaaW.PrintLast Go.Proofs.YtjepecinpgjgdaaW.PrintMore Go.Proofs.Ytjepecinpgjgdaa.E
set_option linter.unusedSimpArgs false
set_option linter.unusedVariables false
theorem own_l (ps : List KL) (fs : List FL) (hf : fs.length ≤ 1048576) (hw : ∀ x ∈ fs, x.f0.length ≤ 1048576) : ∀ (f i : Nat), i + f = fs.length → Ev (fun k => spec_l15Own.l0 k (fs.take i) fs (fs.length : Int) (i : Int) ps fs) (ps, fs) := by
 intro f
 induction f with
 | zero =>
  intro i h
  rw [List.take_of_length_le (by omega)]
  exact Ev.step (fun _ => spec_l15Own.l0.eq_2 ..) (ev_neg (by omega) (ev_ret rfl))
 | succ f ih =>
  intro i h
  have hi : i < fs.length := by omega
  have er : rd_T87 fs (i : Int) = fs[i] := by
   rw [rd_fl, Int.toNat_natCast, List.getD_eq_getElem?_getD, List.getElem?_eq_getElem hi]
   rfl
  have hx := hw _ (List.getElem_mem hi)
  refine Ev.step (fun _ => spec_l15Own.l0.eq_2 ..) (ev_pos (by omega) (ev_pos (by omega) (ev_pos (by omega) (ev_some (ev_pos ?_ (ev_pos ?_ ?_))))))
  ·rw [er]; simp; omega
  ·rw [List.length_take]; omega
  ·rw [er, w64 (x := (i : Int) + 1) (by omega) (by omega)]
   have e : fs.take i ++ [(⟨[] ++ fs[i].f0⟩ : FL)] = fs.take (i + 1) := by rw [List.take_succ_eq_append_getElem hi]; rfl
   rw [e]
   exact ih (i + 1) (by omega)
theorem own_ev (ps : List KL) (fs : List FL) (hp : ps.length ≤ 1048576) (hf : fs.length ≤ 1048576) (hw : ∀ x ∈ fs, x.f0.length ≤ 1048576) : Ev (fun k => spec_l15Own.f k ps fs) (ps, fs) := by
 unfold spec_l15Own.f
 exact ev_some (ev_pos (by simp; omega) (own_l ps fs hf hw fs.length 0 (by omega)))
end Go.Proofs.Ytjepecinpgjgdaa.ZVau
/-! PutText: the program's and the reference's are one. -/
namespace Go.Proofs.Ytjepecinpgjgdaa.ZVau
open Go.RowKit Go.Proofs.Ytjepecinpgjgdaa.PVau Go.Proofs.YtjepecinpgjgdaaW.PrintWords Go.Proofs.YtjepecinpgjgdaaW.PrintLast Go.Proofs.YtjepecinpgjgdaaW.PrintMore Go.Proofs.Ytjepecinpgjgdaa.E
set_option linter.unusedSimpArgs false
set_option linter.unusedVariables false
theorem l15At_l (t : ByteArray) (ps : List KL) (hl : ps.length ≤ 1048576) : ∀ (f i : Nat), i + f = ps.length → Ev (fun k => spec_l15At.l0 k t ps (ps.length : Int) (i : Int)) (idxFrom t (ps.drop i) i) := by
 intro f
 induction f with
 | zero =>
  intro i h
  rw [List.drop_of_length_le (by omega)]
  exact Ev.step (fun _ => spec_l15At.l0.eq_2 ..) (ev_neg (by omega) (ev_ret rfl))
 | succ f ih =>
  intro i h
  have hi : i < ps.length := by omega
  have hd : ps.drop i = ps[i] :: ps.drop (i + 1) := List.drop_eq_getElem_cons hi
  have er : rd_T89 ps (i : Int) = ps[i] := rd_nat hi
  rw [hd]
  unfold idxFrom
  refine Ev.step (fun _ => spec_l15At.l0.eq_2 ..) (ev_pos (by omega) (ev_pos (by omega) (ev_pos (by omega) ?_)))
  rw [er]
  by_cases he : ps[i].f0.toList = t.toList
  ·rw [if_pos he]
   exact ev_pos he (ev_ret rfl)
  ·rw [if_neg he]
   refine ev_neg he ?_
   rw [w64 (x := (i : Int) + 1) (by omega) (by omega)]
   exact ih (i + 1) (by omega)
theorem l15At_idx (t : ByteArray) (ps : List KL) (hl : ps.length ≤ 1048576) : Ev (fun k => spec_l15At.f k ps t) (idxK ps t) := l15At_l t ps hl ps.length 0 (by omega)
/-- What PutText hands back, once a vault is good and a text is short. -/
def finP (T : List ByteArray) (ps : List KL) (fs : List FL) (o : List Int) : List KL × List FL × Bool :=
 if good (putL T ps o).1 (fs ++ [⟨(putL T ps o).2⟩]) = true then ((putL T ps o).1, fs ++ [⟨(putL T ps o).2⟩], true) else ([], [], false)
theorem put_l (T : List ByteArray) (fs : List FL) (hT : T.length ≤ 1000) (hf : fs.length ≤ 1000) (hw : ∀ x ∈ fs, x.f0.length ≤ 1048576) : ∀ (f i : Nat) (ps : List KL) (o : List Int), i + f = T.length → ps.length ≤ 100 + i → o.length ≤ i →
  Ev (fun k => spec_PutText.l0 k T (T.length : Int) (i : Int) ps fs o) (finP (T.drop i) ps fs o) := by
 intro f
 induction f with
 | zero =>
  intro i ps o h hp ho
  rw [List.drop_of_length_le (by omega)]
  refine Ev.step (fun _ => spec_PutText.l0.eq_2 ..) (ev_neg (by omega) (ev_pos (by omega) (ev_some (Ev.bind (spec_good ps (fs ++ [⟨o⟩]) (by omega) (by simp; omega) (fun x hx => ?_)) ?_))))
  ·rcases List.mem_append.1 hx with h1 | h1
   ·have := hw x h1; omega
   ·rw [List.mem_singleton.1 h1]; show (o.length : Int) ≤ 1048576; omega
  ·show Ev (fun _ => if good ps (fs ++ [⟨o⟩]) = true then some (ps, fs ++ [⟨o⟩], true) else some ([], [], false)) (if good ps (fs ++ [⟨o⟩]) = true then (ps, fs ++ [⟨o⟩], true) else ([], [], false))
   by_cases hg : good ps (fs ++ [⟨o⟩]) = true
   ·rw [if_pos hg, if_pos hg]
    exact ev_ret rfl
   ·rw [if_neg hg, if_neg hg]
    exact ev_ret rfl
 | succ f ih =>
  intro i ps o h hp ho
  have hi : i < T.length := by omega
  have hd : T.drop i = T[i] :: T.drop (i + 1) := List.drop_eq_getElem_cons hi
  have er : rdOf ByteArray.empty T (i : Int) = T[i] := by
   unfold rdOf
   rw [Int.toNat_natCast, List.getD_eq_getElem?_getD, List.getElem?_eq_getElem hi]
   rfl
  have hfin : finP (T.drop i) ps fs o = finP (T.drop (i + 1)) (putK ps T[i]).1 fs (o ++ [(putK ps T[i]).2]) := by
   rw [hd]; rfl
  have hlen := putK_len ps T[i]
  rw [hfin]
  have hn := ih (i + 1) (putK ps T[i]).1 (o ++ [(putK ps T[i]).2]) (by omega) (by omega) (by simp; omega)
  refine Ev.step (fun _ => spec_PutText.l0.eq_2 ..) (ev_pos (by omega) (ev_pos (by omega) (ev_pos (by omega) ?_)))
  rw [er]
  refine Ev.bind (l15At_idx T[i] ps (by omega)) ?_
  rcases idxK_lt ps T[i] with hk | ⟨hk0, hk1⟩
  ·have hpk : putK ps T[i] = (ps ++ [⟨T[i], 1⟩], (ps.length : Int)) := by unfold putK; rw [hk]; rfl
   rw [hpk] at hn
   have hr : rd_T89 (ps ++ [(⟨T[i], 0⟩ : KL)]) (ps.length : Int) = ⟨T[i], 0⟩ := by
    rw [rd_nat (by simp)]; simp
   have hs : (ps ++ [(⟨T[i], 0⟩ : KL)]).set ps.length ⟨T[i], 1⟩ = ps ++ [⟨T[i], 1⟩] := by
    rw [List.set_append_right _ _ (Nat.le_refl _)]; simp
   refine ev_pos (by omega) (ev_pos (by omega) (ev_some (ev_pos (by omega) (ev_pos (by simp; omega) (ev_pos (by omega) ?_)))))
   rw [hr, w64 (x := (i : Int) + 1) (by omega) (by omega), Int.toNat_natCast, w64 (x := (0 : Int) + 1) (by omega) (by omega)]
   show Ev (fun k => spec_PutText.l0 k T (T.length : Int) ((i : Int) + 1) ((ps ++ [(⟨T[i], 0⟩ : KL)]).set ps.length ⟨T[i], 1⟩) fs (o ++ [(ps.length : Int)])) _
   rw [hs, hpk]
   exact hn
  ·have hpk : putK ps T[i] = (ps.set (idxK ps T[i]).toNat ⟨(rd_T89 ps (idxK ps T[i])).f0, wrap64 ((rd_T89 ps (idxK ps T[i])).f1 + 1)⟩, idxK ps T[i]) := by unfold putK; rw [if_neg (by omega)]
   rw [hpk] at hn
   refine ev_neg (by omega) (ev_pos hk0 (ev_pos hk1 (ev_pos (by omega) ?_)))
   rw [w64 (x := (i : Int) + 1) (by omega) (by omega), hpk]
   exact hn
theorem put_both (ps : List KL) (fs : List FL) (s : ByteArray) (hp : ps.length ≤ 1048576) (hf : fs.length ≤ 1048576) (hw : ∀ x ∈ fs, x.f0.length ≤ 1048576) :
  ∃ C R b, ((C.length : Int) ≤ 1048576 ∧ (R.length : Int) ≤ 1048576 ∧ ∀ x ∈ R, x.f0.length ≤ 1048576) ∧ Ev (fun k => spec_PutText.f k ps fs s) (C, R, b) ∧ Ev (fun k => impl_PutText.f k ps fs s) (C, R, b) := by
 have hg := spec_good ps fs (by omega) (by omega) (fun x hx => by have := hw x hx; omega)
 by_cases hs : (s.size : Int) > 400
 ·refine ⟨[], [], false, ⟨by simp, by simp, fun x hx => by cases hx⟩, ?_, ?_⟩
  ·unfold spec_PutText.f
   refine Ev.bind hg ?_
   cases good ps fs with
   | true =>
    refine ev_true rfl (Ev.step (fun _ => spec_PutText.j0.eq_2 ..) (ev_pos (decide_eq_true hs) (ev_ret rfl)))
   | false =>
    refine ev_false rfl (Ev.step (fun _ => spec_PutText.j0.eq_2 ..) (ev_pos rfl (ev_ret rfl)))
  ·unfold impl_PutText.f
   refine Ev.bind (a := ([], false)) ?_ (ev_false rfl (ev_ret rfl))
   unfold impl_PiecesOf.f
   refine Ev.bind (a := ([], false)) ?_ (ev_false rfl (ev_ret rfl))
   unfold impl_CutsOf.f
   exact ev_pos hs (ev_ret rfl)
 ·have hpi := impl_piecesOf s (by omega) hs
  have hps := spec_pieces s (by omega)
  have hpl := pieces_len s
  cases hgg : good ps fs with
  | false =>
   rw [hgg] at hg
   refine ⟨[], [], false, ⟨by simp, by simp, fun x hx => by cases hx⟩, ?_, ?_⟩
   ·unfold spec_PutText.f
    exact Ev.bind hg (ev_false rfl (Ev.step (fun _ => spec_PutText.j0.eq_2 ..) (ev_pos rfl (ev_ret rfl))))
   ·unfold impl_PutText.f
    exact Ev.bind hpi (ev_true rfl (ev_pos (by show (pieces s).length ≤ 1000; omega) (ev_neg (by rw [hgg]; decide) (ev_ret rfl))))
  | true =>
   rw [hgg] at hg
   obtain ⟨g1, g2, g3⟩ := good_small hgg
   refine ⟨(finP (pieces s) ps fs []).1, (finP (pieces s) ps fs []).2.1, (finP (pieces s) ps fs []).2.2, ?_, ?_, ?_⟩
   ·unfold finP
    split
    ·rename_i h
     obtain ⟨a1, a2, a3⟩ := good_small h
     exact ⟨by show ((putL (pieces s) ps []).1.length : Int) ≤ 1048576; omega, by show ((fs ++ [(⟨(putL (pieces s) ps []).2⟩ : FL)]).length : Int) ≤ 1048576; omega, fun x hx => by have := a3 x hx; omega⟩
    ·exact ⟨by simp, by simp, fun x hx => by cases hx⟩
   ·unfold spec_PutText.f
    refine Ev.bind hg (ev_true rfl (Ev.step (fun _ => spec_PutText.j0.eq_2 ..) (ev_neg (by simpa using hs) (Ev.bind (own_ev ps fs hp hf hw) (Ev.bind hps ?_)))))
    exact put_l (pieces s) fs (by omega) (by omega) hw (pieces s).length 0 ps [] (by omega) (by omega) (by simp)
   ·unfold impl_PutText.f
    refine Ev.bind hpi (ev_true rfl (ev_pos (by show (pieces s).length ≤ 1000; omega) (ev_pos hgg ?_)))
    show Ev (fun _ => if good (putL (pieces s) ps []).1 (fs ++ [⟨(putL (pieces s) ps []).2⟩]) = true then some ((putL (pieces s) ps []).1, fs ++ [⟨(putL (pieces s) ps []).2⟩], true) else some ([], [], false)) (finP (pieces s) ps fs [])
    unfold finP
    by_cases h : good (putL (pieces s) ps []).1 (fs ++ [⟨(putL (pieces s) ps []).2⟩]) = true
    ·rw [if_pos h, if_pos h]
     exact ev_ret rfl
    ·rw [if_neg h, if_neg h]
     exact ev_ret rfl
end Go.Proofs.Ytjepecinpgjgdaa.ZVau
/-! PutText of the reference: what it hands back, and how large that is. -/
namespace Go.Proofs.Ytjepecinpgjgdaa.ZVau
open Go.RowKit Go.Proofs.Ytjepecinpgjgdaa.PVau Go.Proofs.YtjepecinpgjgdaaW.PrintWords Go.Proofs.YtjepecinpgjgdaaW.PrintLast Go.Proofs.YtjepecinpgjgdaaW.PrintMore Go.Proofs.Ytjepecinpgjgdaa.E
set_option linter.unusedSimpArgs false
set_option linter.unusedVariables false
/-- What PutText hands back. -/
def putF (ps : List KL) (fs : List FL) (s : ByteArray) : List KL × List FL × Bool :=
 if (s.size : Int) > 400 then ([], [], false) else if good ps fs = true then finP (pieces s) ps fs [] else ([], [], false)
theorem putF_size (ps : List KL) (fs : List FL) (s : ByteArray) : (putF ps fs s).1.length ≤ 100 ∧ (putF ps fs s).2.1.length ≤ 20 ∧ ∀ x ∈ (putF ps fs s).2.1, x.f0.length ≤ 200 := by
 unfold putF
 split
 ·exact ⟨by simp, by simp, fun x hx => by cases hx⟩
 ·split
  ·unfold finP
   split
   ·rename_i h
    exact good_small h
   ·exact ⟨by simp, by simp, fun x hx => by cases hx⟩
  ·exact ⟨by simp, by simp, fun x hx => by cases hx⟩
theorem spec_put (ps : List KL) (fs : List FL) (s : ByteArray) (hp : ps.length ≤ 1048576) (hf : fs.length ≤ 1048576) (hw : ∀ x ∈ fs, x.f0.length ≤ 1048576) : Ev (fun k => spec_PutText.f k ps fs s) (putF ps fs s) := by
 have hg := spec_good ps fs (by omega) (by omega) (fun x hx => by have := hw x hx; omega)
 unfold spec_PutText.f putF
 by_cases hs : (s.size : Int) > 400
 ·rw [if_pos hs]
  refine Ev.bind hg ?_
  cases good ps fs with
  | true => exact ev_true rfl (Ev.step (fun _ => spec_PutText.j0.eq_2 ..) (ev_pos (decide_eq_true hs) (ev_ret rfl)))
  | false => exact ev_false rfl (Ev.step (fun _ => spec_PutText.j0.eq_2 ..) (ev_pos rfl (ev_ret rfl)))
 ·rw [if_neg hs]
  have hps := spec_pieces s (by omega)
  have hpl := pieces_len s
  cases hgg : good ps fs with
  | false =>
   rw [hgg] at hg
   rw [if_neg (by decide)]
   exact Ev.bind hg (ev_false rfl (Ev.step (fun _ => spec_PutText.j0.eq_2 ..) (ev_pos rfl (ev_ret rfl))))
  | true =>
   rw [hgg] at hg
   rw [if_pos rfl]
   obtain ⟨g1, g2, g3⟩ := good_small hgg
   refine Ev.bind hg (ev_true rfl (Ev.step (fun _ => spec_PutText.j0.eq_2 ..) (ev_neg (by simpa using hs) (Ev.bind (own_ev ps fs hp hf hw) (Ev.bind hps ?_)))))
   exact put_l (pieces s) fs (by omega) (by omega) hw (pieces s).length 0 ps [] (by omega) (by omega) (by simp)
theorem impl_put (ps : List KL) (fs : List FL) (s : ByteArray) (hs8 : s.size ≤ 9223372036854775807) : Ev (fun k => impl_PutText.f k ps fs s) (putF ps fs s) := by
 unfold impl_PutText.f putF
 by_cases hs : (s.size : Int) > 400
 ·rw [if_pos hs]
  refine Ev.bind (a := ([], false)) ?_ (ev_false rfl (ev_ret rfl))
  unfold impl_PiecesOf.f
  refine Ev.bind (a := ([], false)) ?_ (ev_false rfl (ev_ret rfl))
  unfold impl_CutsOf.f
  exact ev_pos hs (ev_ret rfl)
 ·rw [if_neg hs]
  have hpi := impl_piecesOf s (by omega) hs
  have hpl := pieces_len s
  refine Ev.bind hpi (ev_true rfl (ev_pos (by show (pieces s).length ≤ 1000; omega) ?_))
  cases hgg : good ps fs with
  | false => exact ev_neg (by decide) (ev_ret rfl)
  | true =>
   refine ev_pos rfl ?_
   rw [if_pos rfl]
   show Ev (fun _ => if good (putL (pieces s) ps []).1 (fs ++ [⟨(putL (pieces s) ps []).2⟩]) = true then some ((putL (pieces s) ps []).1, fs ++ [⟨(putL (pieces s) ps []).2⟩], true) else some ([], [], false)) (finP (pieces s) ps fs [])
   unfold finP
   by_cases h : good (putL (pieces s) ps []).1 (fs ++ [⟨(putL (pieces s) ps []).2⟩]) = true
   ·rw [if_pos h, if_pos h]
    exact ev_ret rfl
   ·rw [if_neg h, if_neg h]
    exact ev_ret rfl
end Go.Proofs.Ytjepecinpgjgdaa.ZVau
