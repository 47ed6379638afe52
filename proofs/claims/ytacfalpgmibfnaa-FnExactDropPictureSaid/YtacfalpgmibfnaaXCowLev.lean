import Derived.Test.YtacfalpgmibfnaaEv
import Derived.Test.YtacfalpgmibfnaaYCowx0
import Derived.Test.YtacfalpgmibfnaaYCowsmall
import Derived.Test.YtacfalpgmibfnaaEv
/-! A cell that is read beside a row that is written: it stands where it stood. -/
namespace Go.Proofs.Ytacfalpgmibfnaa.PCow
open Go.RowKit Go.Proofs.YtacfalpgmibfnaaW.PrintWords Go.Proofs.YtacfalpgmibfnaaW.PrintLast Go.Proofs.YtacfalpgmibfnaaW.PrintMore Go.Proofs.Ytacfalpgmibfnaa.E
set_option linter.unusedSimpArgs false
set_option linter.unusedVariables false
theorem away {α : Type} {d : Kd α} {w : World} {P : Nat → Prop} {A : Option Addr} {n : Nat} {xs : List α} (hs : 0 < d.sz) (h : ∀ W_, Kept w W_ (fun k_ => P k_) → d.C W_ A n xs) (hn : 0 < n) {ad : Addr} (hA : A = some ad) : ¬ P ad.block ∧ ad.block < w.heap.size := by
  have key : ∀ W_, Kept w W_ (fun k_ => P k_) → ∃ u, W_.cell? (ad.add 0) = some u := by
    intro W hk
    obtain ⟨hl, _, hc⟩ := h W hk
    obtain ⟨ad', e, hc⟩ := hc hn
    rw [hA] at e
    cases e
    obtain ⟨x, hx⟩ : ∃ x, xs[0]? = some x := ⟨_, List.getElem?_eq_getElem (by omega)⟩
    obtain ⟨c, hc1, hc2, hc3⟩ := hc 0 x hx
    obtain ⟨u, hu⟩ : ∃ u, c[0]? = some u := ⟨_, List.getElem?_eq_getElem (by omega)⟩
    have := hc3 0 u hu
    exact ⟨u, by simpa using this⟩
  obtain ⟨u0, h0⟩ := key w (Kept.refl _ _)
  have hlt : ad.block < w.heap.size := by
    have := World.block_lt_of_cell? w _ h0
    rwa [add_block] at this
  refine ⟨fun hP => ?_, hlt⟩
  obtain ⟨u, hu⟩ := key { w with heap := w.heap.setIfInBounds ad.block (.map #[] 0) } ⟨by simp, fun i hi hn => by
    have hne : ad.block ≠ i := fun e => hn (e ▸ hP)
    simp [Array.getElem?_setIfInBounds, hne]⟩
  unfold World.cell? at hu
  rw [add_block] at hu
  simp [Array.getElem?_setIfInBounds, hlt] at hu
theorem cell_at {w : World} {P : Nat → Prop} {A : Option Addr} {xs : List S68} (h : ∀ W_, Kept w W_ (fun k_ => P k_) → Kd.C k68 W_ A xs.length xs) (i : Int) (h0 : 0 ≤ i) (h1 : i < xs.length) :
    ∃ ad A2 c2, A = some ad ∧ (rd_T68 xs i).f2.length ≤ c2 ∧ ∀ W_, Kept w W_ (fun k_ => P k_) → W_.cell? (ad.add (i.toNat * 3)) = some (.int .i64 (rd_T68 xs i).f0) ∧ W_.cell? ⟨(ad.add (i.toNat * 3)).block, (ad.add (i.toNat * 3)).off + 1, none⟩ = some (.string (rd_T68 xs i).f1) ∧ W_.cell? ⟨(ad.add (i.toNat * 3)).block, (ad.add (i.toNat * 3)).off + 2, none⟩ = some (.slice A2 (rd_T68 xs i).f2.length c2) ∧ (Kd.int .i64).C W_ A2 (rd_T68 xs i).f2.length (rd_T68 xs i).f2 := by
  obtain ⟨ad, A2, c2, e, a0, a1, a2, hl, _⟩ := at_T68 (h w (Kept.refl _ _)) i h0 (by omega)
  obtain ⟨hP, hlt⟩ := away (d := k68) (by decide) h (by omega) e
  refine ⟨ad, A2, c2, e, hl, fun W hk => ?_⟩
  obtain ⟨ad', A2', c2', e', b0, b1, b2, _, hC⟩ := at_T68 (h W hk) i h0 (by omega)
  rw [e] at e'
  cases e'
  have e2 := cell_kept a2 hk (show ¬ P (ad.add (i.toNat * 3)).block by rw [add_block]; exact hP)
  rw [b2] at e2
  injection e2 with e2
  injection e2 with e3 e4 e5
  subst e3
  subst e5
  exact ⟨b0, b1, b2, hC⟩
end Go.Proofs.Ytacfalpgmibfnaa.PCow

/-! l14Deep of the reference: cells are looked at below a cell, a row of numbers is written; walked by hand. -/
namespace Go.Proofs.Ytacfalpgmibfnaa.PCow
open Go.RowKit Go.Proofs.YtacfalpgmibfnaaW.PrintWords Go.Proofs.YtacfalpgmibfnaaW.PrintLast Go.Proofs.YtacfalpgmibfnaaW.PrintMore Go.Proofs.Ytacfalpgmibfnaa.E
set_option linter.unusedSimpArgs false
set_option linter.unusedVariables false
/-- What is done with each of a list of references, one after the other. -/
def loopK (F : Int → List Int → Option (Bool × List Int)) : List Int → List Int → Option (Bool × List Int)
  | [], s => some (true, s)
  | q :: r, s => (F q s).bind fun t => if t.1 = true then loopK F r t.2 else some (false, t.2)
def okLeaf (x : S68) : Bool := if x.f2.length = 0 then decide (1 ≤ (x.f1.size : Int) ∧ (x.f1.size : Int) ≤ 8) else false
def someKid (ks : List Int) : Bool := ks.any fun k => decide (k ≥ 0)
def okNode (x : S68) : Bool := if someKid x.f2 = true then (if (x.f2.length : Int) = 4 then decide (x.f1.size = 0) else false) else false
def deepM (C : List S68) : Nat → Int → List Int → Option (Bool × List Int)
  | 0, _, _ => none
  | lev + 1, k, seen =>
    if k = -1 then some (true, seen)
    else if 0 ≤ k ∧ k ≤ (C.length : Int) - 1 then
      if k < (seen.length : Int) then
        let s1 := seen.set k.toNat (wrap64 (rd seen k + 1))
        if wrap64 (rd seen k + 1) > 1 then some (true, s1)
        else if lev = 0 then some (okLeaf (rd_T68 C k), s1)
        else (loopK (deepM C lev) (rd_T68 C k).f2 s1).bind fun t => if t.1 = true then some (okNode (rd_T68 C k), t.2) else some (false, t.2)
      else none
    else some (false, seen)
theorem someKid_take (ks : List Int) (k : Nat) (h : k < ks.length) : someKid (ks.take (k + 1)) = (someKid (ks.take k) || decide (rd ks (k : Int) ≥ 0)) := by
  have er : rd ks (k : Int) = ks[k] := by
    unfold rd
    rw [List.getD_eq_getElem?_getD, Int.toNat_natCast, List.getElem?_eq_getElem h]
    rfl
  unfold someKid
  rw [List.take_succ_eq_append_getElem h, List.any_append, er]
  simp
theorem rowR {α : Type} {enc : α → Value} {h1 : ∀ x, (enc x).oneCell' = true} {e base : Nat} {ok ok' : Nat → Prop} {w : World} {v : Value} {xs : List α} (h : (Kd.scalar enc h1).R e w base ok v xs) (hok : ∀ k, v.ownBlock = some k → ok' k) : (Kd.scalar enc h1).R e w base ok' v xs := Kd.R_of_own (Kd.own_of_R h) hok
set_option maxHeartbeats 2000000 in
set_option maxRecDepth 100000 in
theorem deep_calls (C : List S68) : ∀ (lev : Nat) (A0 : Option Addr) (c0 : Nat) (A1 : Option Addr) (c1 : Nat) (l1 : List Int) (a2 k : Int) (P : Nat → Prop) (u : Value) (seen : List Int) (r1 : Bool) (r2 : List Int) (w0 w : World) (hB : Below w0.heap.size w0 w)
    (hr0 : ∀ W_, Kept w W_ (fun k_ => P k_) → Kd.C k68 W_ A0 C.length C) (hc0 : C.length ≤ c0) (hu : (Kd.int .i64).R 3 w w0.heap.size (fun _ => True) u seen) (hP : ∀ k, u.ownBlock = some k → P k ∧ k < w.heap.size) (hlev : lev ≤ 3) (h : deepM C lev k seen = some (r1, r2)),
    Calls Try.prog 54 #[.agg #[.slice A0 C.length c0, .slice A1 l1.length c1, .int .i64 a2], .int .i64 k, .int .i64 lev, u] w fun e w' => e = .returned (.bool r1) ∧ (Kd.int .i64).R 3 w' w0.heap.size (fun _ => True) u r2 ∧ Below w0.heap.size w0 w' ∧ Kept w w' (fun k_ => P k_) := by
  intro lev
  induction lev with
  | zero => intro A0 c0 A1 c1 l1 a2 k P u seen r1 r2 w0 w hB hr0 hc0 hu hP hlev h; cases h
  | succ lev ih =>
    intro A0 c0 A1 c1 l1 a2 k P u seen r1 r2 w0 w hB hr0 hc0 hu hP hlev h
    have hu25 := Try.underlying25
    have hu68 := Try.underlying68
    have hn0 : C.length ≤ 9223372036854775807 := (hr0 w (Kept.refl _ _)).2.1
    have HR := Aside0.mk hr0
    have HU := Aside0.mk hu
    have HP := Aside0.mk hP
    have HB := Aside0.mk hB
    have HS := Aside0.mk hB.size
    have IH := Aside0.mk ih
    have HL := Aside0.mk hlev
    simp only [deepM] at h
    clear hr0 hu hP hB ih hlev
    by_cases hk1 : k = -1
    · subst hk1
      rw [if_pos rfl] at h
      simp only [Option.some.injEq, Prod.mk.injEq] at h
      obtain ⟨rfl, rfl⟩ := h
      go_enter Try.func54, Try.ntmps54
      go_wp2
      go_ret
      exact ⟨rfl, Kd.R_alloc HU.out _, HB.out.alloc HS.out _, (Kept.refl _ _).alloc _⟩
    rw [if_neg hk1] at h
    have hk1' : (k == -1) = false := beq_eq_false_iff_ne.2 hk1
    clear hk1
    obtain ⟨W1, hW1⟩ : ∃ W, w.alloc (.cells #[.slice A0 C.length c0, .slice A1 l1.length c1, .int .i64 a2] 25) = W := ⟨_, rfl⟩
    have X1 := Aside0.mk (show W1.heap[w.heap.size]? = some (.cells #[.slice A0 C.length c0, .slice A1 l1.length c1, .int .i64 a2] 25 (0, 0)) by rw [← hW1]; exact heap_alloc_new w _)
    have B1 := Aside0.mk (show Below w0.heap.size w0 W1 by rw [← hW1]; exact HB.out.alloc HS.out _)
    have K1 := Aside0.mk (show Kept w W1 (fun k_ => P k_) by rw [← hW1]; exact (Kept.refl _ _).alloc _)
    have U1 := Aside0.mk (show (Kd.int .i64).R 3 W1 w0.heap.size (fun _ => True) u seen by rw [← hW1]; exact Kd.R_alloc HU.out _)
    by_cases hin : 0 ≤ k ∧ k ≤ (C.length : Int) - 1
    · rw [if_pos hin] at h
      have hw := Aside0.mk (show spec_l1In.f k 0 ((C.length : Int) - 1) = some true by
        unfold spec_l1In.f
        rw [if_pos (by omega)]
        simp; omega)
      by_cases hks : k < (seen.length : Int)
      · rw [if_pos hks] at h
        obtain ⟨g, cap, hv, hg1, hg2, cs, hgc⟩ := Kd.R_form U1.out (by omega)
        subst hv
        obtain ⟨ad, A2, c2, hA0, hlen, hcell⟩ := cell_at HR.out k hin.1 (by omega)
        subst hA0
        have hcell' := Aside0.mk hcell
        have hgP := HP.out g rfl
        obtain ⟨x, hx⟩ : ∃ x, rd_T68 C k = x := ⟨_, rfl⟩
        obtain ⟨v, hv⟩ : ∃ v, wrap64 (rd seen k + 1) = v := ⟨_, rfl⟩
        rw [hx] at hcell' hlen h
        rw [hv] at h
        have HV := Aside0.mk hv
        have hx2 : x.f2.length ≤ 9223372036854775807 := (hcell'.out w (Kept.refl _ _)).2.2.2.2.1
        have p1 : (0 ≤ k) = True := eq_true hin.1
        have p2 : (k < (C.length : Int)) = True := eq_true (by omega)
        have p3 : (k < (seen.length : Int)) = True := eq_true hks
        -- the world behind the first store
        have S2 : ∀ nd, Aside0 (((W1.drewN nd).setCell ⟨g, k.toNat, none⟩ (.int .i64 v)).heap[w.heap.size]? = some (.cells #[.slice (some ad) C.length c0, .slice A1 l1.length c1, .int .i64 a2] 25 (0, 0)) ∧ Below w0.heap.size w0 ((W1.drewN nd).setCell ⟨g, k.toNat, none⟩ (.int .i64 v)) ∧ Kept w ((W1.drewN nd).setCell ⟨g, k.toNat, none⟩ (.int .i64 v)) (fun k_ => P k_) ∧ (Kd.int .i64).R 3 ((W1.drewN nd).setCell ⟨g, k.toNat, none⟩ (.int .i64 v)) w0.heap.size (fun _ => True) (.slice (some ⟨g, 0, none⟩) seen.length cap) (seen.set k.toNat v)) := fun nd =>
          ⟨blk_far (blk_drewN X1.out nd) (p := ⟨g, k.toNat, none⟩) (by show w.heap.size ≠ g; omega) _, below_set (pw_below_drewN B1.out nd) hg1, (K1.out.drewN nd).setCell (.inl hgP.1) _, Kd.R_putn (Kd.R_drewN U1.out nd) k _⟩
        have q1 : W1.cell? ⟨g, k.toNat, none⟩ = some (.int .i64 (rd seen k)) := (Kd.R_celln (d := (0 : Int)) U1.out k hin.1 hks).1
        have qf1 : W1.frozen? ⟨g, k.toNat, none⟩ = false := (Kd.R_celln (d := (0 : Int)) U1.out k hin.1 hks).2
        have e0 : W1.cell? ⟨w.heap.size, 0, none⟩ = some (.slice (some ad) C.length c0) := (blk_cell X1.out _).trans rfl
        have hcv : rd (seen.set k.toNat v) k = v := by
          unfold rd
          rw [List.getD_eq_getElem?_getD, List.getElem?_set_self (by omega)]
          rfl
        have T2 : ∀ nd, Aside0 (∃ w2, (W1.drewN nd).setCell ⟨g, k.toNat, none⟩ (.int .i64 v) = w2 ∧ w2.heap[w.heap.size]? = some (.cells #[.slice (some ad) C.length c0, .slice A1 l1.length c1, .int .i64 a2] 25 (0, 0)) ∧ Below w0.heap.size w0 w2 ∧ Kept w w2 (fun k_ => P k_) ∧ (Kd.int .i64).R 3 w2 w0.heap.size (fun _ => True) (.slice (some ⟨g, 0, none⟩) seen.length cap) (seen.set k.toNat v) ∧ w2.cell? ⟨g, k.toNat, none⟩ = some (.int .i64 v)) := fun nd => ⟨_, rfl, (S2 nd).out.1, (S2 nd).out.2.1, (S2 nd).out.2.2.1, (S2 nd).out.2.2.2, by
          have := (Kd.R_celln (d := (0 : Int)) (S2 nd).out.2.2.2 k hin.1 hks).1
          rw [show rdOf (0 : Int) (seen.set k.toNat v) k = v from hcv] at this
          exact this⟩
        clear S2 hcv
        clear hin hks hx
        go_enter Try.func54, Try.ntmps54
        go_wp2_with (go_at_call 44; refine (spec_l1In.calls k 0 ((C.length : Int) - 1) true _ hw.out).mono ?_)
        (first | rintro e w' rfl ⟨⟨nd, rfl⟩⟩ | rintro e w' ⟨rfl, ⟨⟨nd, rfl⟩⟩⟩)
        obtain ⟨w2, hw2, hX2, hB2, hK2, hU2, cv2⟩ := (T2 nd).out
        have X2 := Aside0.mk hX2
        have B2 := Aside0.mk hB2
        have K2 := Aside0.mk hK2
        have U2 := Aside0.mk hU2
        clear T2 hX2 hB2 hK2 hU2 X1 B1 K1 U1 HU HB
        by_cases hgt : v > 1
        · rw [if_pos hgt] at h
          simp only [Option.some.injEq, Prod.mk.injEq] at h
          obtain ⟨rfl, rfl⟩ := h
          have hgt' : decide (1 < v) = true := decide_eq_true hgt
          clear hgt
          go_wp2
          go_ret
          exact ⟨rfl, U2.out, B2.out, K2.out⟩
        · rw [if_neg hgt] at h
          have hgt' : decide (1 < v) = false := decide_eq_false hgt
          clear hgt
          have e0' : w2.cell? ⟨w.heap.size, 0, none⟩ = some (.slice (some ad) C.length c0) := (blk_cell X2.out _).trans rfl
          obtain ⟨hx0, hx1, hx2', hxC⟩ := hcell'.out w2 K2.out
          have HXC := Aside0.mk hxC
          clear hxC
          by_cases hl0 : lev = 0
          · subst hl0
            rw [if_pos rfl] at h
            simp only [Option.some.injEq, Prod.mk.injEq] at h
            obtain ⟨h, rfl⟩ := h
            by_cases hk0 : x.f2.length = 0
            · have hr1 := Aside0.mk (show spec_l1In.f (x.f1.size : Int) 1 8 = some r1 by
                rw [← h]
                unfold okLeaf spec_l1In.f
                rw [if_pos hk0]
                by_cases h1 : (x.f1.size : Int) ≥ 1
                · rw [if_pos h1]; simp; omega
                · rw [if_neg h1]; simp; omega)
              have hkz : ((x.f2.length : Int) == 0) = true := by simp [hk0]
              have hkz' : ((x.f2.length : Int) = 0) = True := eq_true (by omega)
              clear h hk0
              go_wp2_with (go_at_call 44; refine (spec_l1In.calls (x.f1.size : Int) 1 8 r1 _ hr1.out).mono ?_)
              (first | rintro e w' rfl ⟨⟨nd2, rfl⟩⟩ | rintro e w' ⟨rfl, ⟨⟨nd2, rfl⟩⟩⟩)
              go_wp2
              go_ret
              exact ⟨rfl, Kd.R_drewN (Kd.R_alloc U2.out _) nd2, pw_below_drewN (B2.out.alloc B2.out.size _) nd2, (K2.out.alloc _).drewN nd2⟩
            · have hkz : ((x.f2.length : Int) == 0) = false := beq_eq_false_iff_ne.2 (by omega)
              have hkz' : ((x.f2.length : Int) = 0) = False := eq_false (by omega)
              obtain rfl : r1 = false := by rw [← h]; unfold okLeaf; rw [if_neg hk0]
              clear h hk0
              go_wp2
              go_ret
              exact ⟨rfl, Kd.R_alloc U2.out _, B2.out.alloc B2.out.size _, K2.out.alloc _⟩
          · rw [if_neg hl0] at h
            have hl1 : ((lev : Int) + 1 == 1) = false := beq_eq_false_iff_ne.2 (by omega)
            have hl1' : ((lev : Int) + 1 = 1) = False := eq_false (by omega)
            have hl2 : ((lev : Int) = 0) = False := eq_false (by omega)
            have hgs := Aside0.mk (show g < w.heap.size from hgP.2)
            have hgp := Aside0.mk hgP.1
            obtain ⟨⟨b, s'⟩, hloop, hres⟩ := Option.bind_eq_some_iff.1 h
            have HLp := Aside0.mk hloop
            have HRs := Aside0.mk (show (if b = true then some (okNode x, s') else some (false, s')) = some (r1, r2) from hres)
            have hszw := Aside0.mk (show w.heap.size < w2.heap.size from blk_lt X2.out)
            clear h hloop hres hl0 hgP
            go_wp2
            obtain ⟨yb, hyb⟩ : ∃ yb, w2.heap.size = yb := ⟨_, rfl⟩
            have hyw := Aside0.mk (show w.heap.size < yb by rw [← hyb]; exact hszw.out)
            obtain ⟨w3, hw3⟩ : ∃ W, w2.alloc (.cells #[.int .i64 x.f0, .string x.f1, .slice A2 x.f2.length c2] 68) = W := ⟨_, rfl⟩
            have X3 := Aside0.mk (show w3.heap[w.heap.size]? = some (.cells #[.slice (some ad) C.length c0, .slice A1 l1.length c1, .int .i64 a2] 25 (0, 0)) by rw [← hw3]; exact blk_alloc X2.out _)
            have Y3 := Aside0.mk (show w3.heap[yb]? = some (.cells #[.int .i64 x.f0, .string x.f1, .slice A2 x.f2.length c2] 68 (0, 0)) by rw [← hw3, ← hyb]; exact heap_alloc_new w2 _)
            have B3 := Aside0.mk (show Below w0.heap.size w0 w3 by rw [← hw3]; exact B2.out.alloc B2.out.size _)
            have K3 := Aside0.mk (show Kept w w3 (fun k_ => P k_) by rw [← hw3]; exact K2.out.alloc _)
            have U3 := Aside0.mk (show (Kd.int .i64).R 3 w3 w0.heap.size (fun _ => True) (.slice (some ⟨g, 0, none⟩) seen.length cap) (seen.set k.toNat v) by rw [← hw3]; exact Kd.R_alloc U2.out _)
            rw [hw3, hyb]
            clear hv hw3 hyb hw2 hszw X2 B2 K2 U2 cv2 e0' e0 hx0 hx1 hx2' HXC q1 qf1
            go_loopw [10, 53] (fun vs vi wr => ∃ (q : Nat) (s : List Int), q ≤ x.f2.length ∧ vi = .int .i64 q ∧ vs = .bool (someKid (x.f2.take q)) ∧ Aside0 (loopK (deepM C lev) (x.f2.drop q) s = some (b, s')) ∧ Aside0 ((Kd.int .i64).R 3 wr w0.heap.size (fun _ => True) (.slice (some ⟨g, 0, none⟩) seen.length cap) s) ∧ Aside0 (wr.heap[w.heap.size]? = some (.cells #[.slice (some ad) C.length c0, .slice A1 l1.length c1, .int .i64 a2] 25 (0, 0))) ∧ Aside0 (wr.heap[yb]? = some (.cells #[.int .i64 x.f0, .string x.f1, .slice A2 x.f2.length c2] 68 (0, 0))) ∧ Aside0 (Below w0.heap.size w0 wr) ∧ Aside0 (Kept w wr (fun k_ => P k_))) (fun _ vi _ => x.f2.length - (intOf vi).toNat)
            case atStart => exact ⟨0, _, Nat.zero_le _, rfl, rfl, ⟨by rw [List.drop_zero]; exact HLp.out⟩, U3, X3, Y3, B3, K3⟩
            case round =>
              clear X3 Y3 B3 K3 U3 HLp
              obtain ⟨q, s, hq, rfl, rfl, HLq, U3, X3, Y3, B3, K3⟩ := hrel
              have e0 : wr.cell? ⟨w.heap.size, 0, none⟩ = some (.slice (some ad) C.length c0) := (blk_cell X3.out _).trans rfl
              have e1 : wr.cell? ⟨w.heap.size, 1, none⟩ = some (.slice A1 l1.length c1) := (blk_cell X3.out _).trans rfl
              have e2 : wr.cell? ⟨w.heap.size, 2, none⟩ = some (.int .i64 a2) := (blk_cell X3.out _).trans rfl
              have y1 : wr.cell? ⟨yb, 1, none⟩ = some (.string x.f1) := (blk_cell Y3.out _).trans rfl
              have y2 : wr.cell? ⟨yb, 2, none⟩ = some (.slice A2 x.f2.length c2) := (blk_cell Y3.out _).trans rfl
              by_cases hql : q < x.f2.length
              · obtain ⟨ad2, e3, hy⟩ := Kd.at_int (hcell'.out wr K3.out).2.2.2 (q : Int) (by omega) (by omega)
                subst e3
                simp only [Int.toNat_natCast] at hy
                obtain ⟨z, hz⟩ : ∃ z, rd x.f2 (q : Int) = z := ⟨_, rfl⟩
                have hsk := someKid_take x.f2 q hql
                rw [hz] at hy hsk
                have hd : x.f2.drop q = z :: x.f2.drop (q + 1) := by
                  rw [List.drop_eq_getElem_cons hql, ← hz]
                  congr 1
                  unfold rd
                  rw [List.getD_eq_getElem?_getD, Int.toNat_natCast, List.getElem?_eq_getElem hql]
                  rfl
                obtain ⟨⟨b1, s1⟩, h1, h2⟩ := Option.bind_eq_some_iff.1 (show (deepM C lev z s).bind (fun t => if t.1 = true then loopK (deepM C lev) (x.f2.drop (q + 1)) t.2 else some (false, t.2)) = some (b, s') by
                  have := HLq.out
                  rw [hd] at this
                  exact this)
                have H1 := Aside0.mk h1
                have H2 := Aside0.mk (show (if b1 = true then loopK (deepM C lev) (x.f2.drop (q + 1)) s1 else some (false, s1)) = some (b, s') from h2)
                have hqq : ((q : Int) < (x.f2.length : Int)) = True := eq_true (by omega)
                have hwl : wrap64 (lev : Int) = (lev : Int) := w64 (by have := HL.out; omega) (by have := HL.out; omega)
                have hcall := Aside0.mk (IH.out (some ad) c0 A1 c1 l1 a2 z (fun k_ => P k_ ∧ k_ < w.heap.size) _ s b1 s1 w0 wr B3.out (fun W hk => HR.out W (K3.out.then_ hk (fun _ h3 => .inl h3.1))) hc0 U3.out (fun j hj => by
                  have : g = j := by simpa [Value.ownBlock] using hj
                  subst this
                  exact ⟨⟨hgp.out, hgs.out⟩, by have := K3.out.1; have := hgs.out; omega⟩) (by have := HL.out; omega) h1)
                clear h1 h2 hd hz HLq
                rcases (show (someKid (x.f2.take q) = true ∧ someKid (x.f2.take (q + 1)) = true) ∨ (someKid (x.f2.take q) = false ∧ decide (0 ≤ z) = true ∧ someKid (x.f2.take (q + 1)) = true) ∨ (someKid (x.f2.take q) = false ∧ decide (0 ≤ z) = false ∧ someKid (x.f2.take (q + 1)) = false) by
                  cases hb1 : someKid (x.f2.take q) with
                  | true => exact .inl ⟨rfl, by rw [hsk, hb1]; rfl⟩
                  | false =>
                    by_cases hz0 : 0 ≤ z
                    · exact .inr (.inl ⟨rfl, decide_eq_true hz0, by rw [hsk, hb1]; simp; omega⟩)
                    · exact .inr (.inr ⟨rfl, decide_eq_false hz0, by rw [hsk, hb1]; simp; omega⟩)) with ⟨hb, hb'⟩ | ⟨hb, hz0, hb'⟩ | ⟨hb, hz0, hb'⟩
                all_goals
                  have HBB := Aside0.mk hb'
                  clear hb' hsk
                  go_wp2_with (go_at_call 54; (with_reducible refine hcall.out.mono ?_))
                  (first | rintro e w4 rfl hU4 hB4 hK4 | rintro e w4 ⟨rfl, hU4, hB4, hK4⟩)
                  have X4 := Aside0.mk (blk_kept X3.out hK4 (fun h3 => by have := h3.2; omega))
                  have Y4 := Aside0.mk (blk_kept Y3.out hK4 (fun h3 => by have := h3.2; have := hyw.out; omega))
                  have K4 := Aside0.mk (K3.out.then_ hK4 (fun _ h3 => .inl h3.1))
                  have U4 := Aside0.mk hU4
                  have B4 := Aside0.mk hB4
                  clear hU4 hB4 hK4 e0 e1 e2 y1 y2 hcall
                  cases b1 with
                  | true =>
                    have H3 := Aside0.mk (show loopK (deepM C lev) (x.f2.drop (q + 1)) s1 = some (b, s') from H2.out)
                    go_wp2
                    go_roundw
                    case rel => exact ⟨q + 1, s1, hql, by go_num, by rw [HBB.out], H3, U4, X4, Y4, B4, K4⟩
                    case measure => simp [intOf]; omega
                  | false =>
                    have H3 : some (false, s1) = some (b, s') := H2.out
                    simp only [Option.some.injEq, Prod.mk.injEq] at H3
                    obtain ⟨rfl, rfl⟩ := H3
                    have H4 : some (false, s1) = some (r1, r2) := HRs.out
                    simp only [Option.some.injEq, Prod.mk.injEq] at H4
                    obtain ⟨rfl, rfl⟩ := H4
                    clear HRs H1 H2 HBB
                    go_wp2
                    go_ret
                    exact ⟨rfl, U4.out, B4.out, K4.out⟩
              · have hqq : ((q : Int) < (x.f2.length : Int)) = False := eq_false (by omega)
                have h3 := HLq.out
                rw [List.drop_of_length_le (by omega)] at h3
                simp only [loopK, Option.some.injEq, Prod.mk.injEq] at h3
                obtain ⟨rfl, rfl⟩ := h3
                have h4 : some (okNode x, s) = some (r1, r2) := HRs.out
                simp only [Option.some.injEq, Prod.mk.injEq] at h4
                obtain ⟨h4, rfl⟩ := h4
                have hsk : someKid (x.f2.take q) = someKid x.f2 := by rw [List.take_of_length_le (by omega)]
                rw [hsk]
                unfold okNode at h4
                clear hql hq HLq HRs hsk
                cases hb : someKid x.f2 with
                | false =>
                  rw [hb, if_neg (by simp)] at h4
                  subst h4
                  go_wp2
                  go_ret
                  exact ⟨rfl, U3.out, B3.out, K3.out⟩
                | true =>
                  rw [hb, if_pos rfl] at h4
                  by_cases h5 : (x.f2.length : Int) = 4
                  · rw [if_pos h5] at h4
                    have h5' : ((x.f2.length : Int) == 4) = true := by simpa using h5
                    have h5'' : ((x.f2.length : Int) = 4) = True := eq_true h5
                    clear h5
                    by_cases h6 : x.f1.size = 0
                    · have h7 : (x.f1.toList = []) = True := eq_true (ba_nil.2 h6)
                      have h8 : x.f1.toList.isEmpty = true := by rw [ba_nil.2 h6]; rfl
                      obtain rfl : r1 = true := by rw [← h4]; simpa using h6
                      clear h6 h4
                      go_wp2
                      go_ret
                      exact ⟨rfl, U3.out, B3.out, K3.out⟩
                    · have h7 : (x.f1.toList = []) = False := eq_false (fun h9 => h6 (ba_nil.1 h9))
                      have h8 : x.f1.toList.isEmpty = false := by
                        cases h9 : x.f1.toList with
                        | nil => exact absurd (ba_nil.1 h9) h6
                        | cons a b => rfl
                      obtain rfl : r1 = false := by rw [← h4]; simpa using h6
                      clear h6 h4
                      go_wp2
                      go_ret
                      exact ⟨rfl, U3.out, B3.out, K3.out⟩
                  · rw [if_neg h5] at h4
                    have h5' : ((x.f2.length : Int) == 4) = false := beq_eq_false_iff_ne.2 h5
                    have h5'' : ((x.f2.length : Int) = 4) = False := eq_false h5
                    subst h4
                    clear h5
                    go_wp2
                    go_ret
                    exact ⟨rfl, U3.out, B3.out, K3.out⟩
      · exact absurd (show none = some (r1, r2) by rw [if_neg hks] at h; exact h) (by simp)
    · rw [if_neg hin] at h
      simp only [Option.some.injEq, Prod.mk.injEq] at h
      obtain ⟨rfl, rfl⟩ := h
      have hw := Aside0.mk (show spec_l1In.f k 0 ((C.length : Int) - 1) = some false by
        unfold spec_l1In.f
        split
        · simp; omega
        · rfl)
      have e0 : W1.cell? ⟨w.heap.size, 0, none⟩ = some (.slice A0 C.length c0) := (blk_cell X1.out _).trans rfl
      clear hin
      go_enter Try.func54, Try.ntmps54
      go_wp2_with (go_at_call 44; refine (spec_l1In.calls k 0 ((C.length : Int) - 1) false _ hw.out).mono ?_)
      (first | rintro e w' rfl ⟨⟨nd, rfl⟩⟩ | rintro e w' ⟨rfl, ⟨⟨nd, rfl⟩⟩⟩)
      go_wp2
      go_ret
      exact ⟨rfl, Kd.R_drewN U1.out nd, pw_below_drewN B1.out nd, K1.out.drewN nd⟩
end Go.Proofs.Ytacfalpgmibfnaa.PCow

/-! l14Levels of the reference: cells are looked at below a cell, a row of numbers is written; walked by hand. -/
namespace Go.Proofs.Ytacfalpgmibfnaa.PCow
open Go.RowKit Go.Proofs.YtacfalpgmibfnaaW.PrintWords Go.Proofs.YtacfalpgmibfnaaW.PrintLast Go.Proofs.YtacfalpgmibfnaaW.PrintMore Go.Proofs.Ytacfalpgmibfnaa.E
set_option linter.unusedSimpArgs false
set_option linter.unusedVariables false
def levM (C : List S68) : Nat → Int → List Int → Option (Bool × List Int)
  | 0, k, at_ => if k = -1 then some (true, at_) else if 0 ≤ k ∧ k < (at_.length : Int) then (if rd at_ k = 0 then some (true, at_) else some (false, at_)) else none
  | lev + 1, k, at_ => if k = -1 then some (true, at_) else if 0 ≤ k ∧ k < (at_.length : Int) then (if rd at_ k = 0 then (if k < (C.length : Int) then loopK (levM C lev) (rd_T68 C k).f2 (at_.set k.toNat ((lev : Int) + 1)) else none) else if rd at_ k = (lev : Int) + 1 then some (true, at_) else some (false, at_)) else none
set_option maxHeartbeats 2000000 in
set_option maxRecDepth 100000 in
theorem lev_calls (C : List S68) : ∀ (lev : Nat) (A0 : Option Addr) (c0 : Nat) (A1 : Option Addr) (c1 : Nat) (l1 : List Int) (a2 k : Int) (P : Nat → Prop) (u : Value) (seen : List Int) (r1 : Bool) (r2 : List Int) (w0 w : World) (hB : Below w0.heap.size w0 w)
    (hr0 : ∀ W_, Kept w W_ (fun k_ => P k_) → Kd.C k68 W_ A0 C.length C) (hc0 : C.length ≤ c0) (hu : (Kd.int .i64).R 3 w w0.heap.size (fun _ => True) u seen) (hP : ∀ k, u.ownBlock = some k → P k ∧ k < w.heap.size) (hlev : lev ≤ 3) (h : levM C lev k seen = some (r1, r2)),
    Calls Try.prog 55 #[.agg #[.slice A0 C.length c0, .slice A1 l1.length c1, .int .i64 a2], .int .i64 k, .int .i64 lev, u] w fun e w' => e = .returned (.bool r1) ∧ (Kd.int .i64).R 3 w' w0.heap.size (fun _ => True) u r2 ∧ Below w0.heap.size w0 w' ∧ Kept w w' (fun k_ => P k_) := by
  intro lev
  induction lev with
  | zero =>
    intro A0 c0 A1 c1 l1 a2 k P u seen r1 r2 w0 w hB hr0 hc0 hu hP hlev h
    have hu25 := Try.underlying25
    have HU := Aside0.mk hu
    have HB := Aside0.mk hB
    simp only [levM] at h
    clear hr0 hu hP hB
    by_cases hk1 : k = -1
    · subst hk1
      rw [if_pos rfl] at h
      simp only [Option.some.injEq, Prod.mk.injEq] at h
      obtain ⟨rfl, rfl⟩ := h
      go_enter Try.func55, Try.ntmps55
      go_wp2
      go_ret
      exact ⟨rfl, Kd.R_alloc HU.out _, HB.out.alloc HB.out.size _, (Kept.refl _ _).alloc _⟩
    rw [if_neg hk1] at h
    have hk1' : (k == -1) = false := beq_eq_false_iff_ne.2 hk1
    clear hk1
    by_cases hin : 0 ≤ k ∧ k < (seen.length : Int)
    · rw [if_pos hin] at h
      obtain ⟨g, cap, hv, hg1, hg2, cs, hgc⟩ := Kd.R_form HU.out (by omega)
      subst hv
      have q1 : w.cell? ⟨g, k.toNat, none⟩ = some (.int .i64 (rd seen k)) := (Kd.R_celln (d := (0 : Int)) HU.out k hin.1 hin.2).1
      have p1 : (0 ≤ k) = True := eq_true hin.1
      have p3 : (k < (seen.length : Int)) = True := eq_true hin.2
      have HG := Aside0.mk (show g < w.heap.size from hg2)
      clear hg2 hin hgc
      have q2 : (w.alloc (.cells #[.slice A0 C.length c0, .slice A1 l1.length c1, .int .i64 a2] 25)).cell? ⟨g, k.toNat, none⟩ = some (.int .i64 (rd seen k)) := pw_cell_below (below_alloc (Below.refl _ _) _) q1
      by_cases hz : rd seen k = 0
      · rw [if_pos hz] at h
        simp only [Option.some.injEq, Prod.mk.injEq] at h
        obtain ⟨rfl, rfl⟩ := h
        rw [hz] at q1 q2
        clear hz
        go_enter Try.func55, Try.ntmps55
        go_wp2
        go_ret
        exact ⟨rfl, Kd.R_alloc HU.out _, HB.out.alloc HB.out.size _, (Kept.refl _ _).alloc _⟩
      · rw [if_neg hz] at h
        simp only [Option.some.injEq, Prod.mk.injEq] at h
        obtain ⟨rfl, rfl⟩ := h
        have hz1 : (rd seen k == 0) = false := beq_eq_false_iff_ne.2 hz
        have hz2 : (rd seen k != 0) = true := bne_iff_ne.2 hz
        have hz3 : (rd seen k = 0) = False := eq_false hz
        clear hz
        go_enter Try.func55, Try.ntmps55
        go_wp2
        go_ret
        exact ⟨rfl, Kd.R_alloc HU.out _, HB.out.alloc HB.out.size _, (Kept.refl _ _).alloc _⟩
    · rw [if_neg hin] at h
      cases h
  | succ lev ih =>
    intro A0 c0 A1 c1 l1 a2 k P u seen r1 r2 w0 w hB hr0 hc0 hu hP hlev h
    have hu25 := Try.underlying25
    have hu68 := Try.underlying68
    have hn0 : C.length ≤ 9223372036854775807 := (hr0 w (Kept.refl _ _)).2.1
    have HR := Aside0.mk hr0
    have HU := Aside0.mk hu
    have HP := Aside0.mk hP
    have HB := Aside0.mk hB
    have HS := Aside0.mk hB.size
    have IH := Aside0.mk ih
    have HL := Aside0.mk hlev
    simp only [levM] at h
    clear hr0 hu hP hB ih hlev
    by_cases hk1 : k = -1
    · subst hk1
      rw [if_pos rfl] at h
      simp only [Option.some.injEq, Prod.mk.injEq] at h
      obtain ⟨rfl, rfl⟩ := h
      go_enter Try.func55, Try.ntmps55
      go_wp2
      go_ret
      exact ⟨rfl, Kd.R_alloc HU.out _, HB.out.alloc HS.out _, (Kept.refl _ _).alloc _⟩
    rw [if_neg hk1] at h
    have hk1' : (k == -1) = false := beq_eq_false_iff_ne.2 hk1
    clear hk1
    by_cases hin : 0 ≤ k ∧ k < (seen.length : Int)
    · rw [if_pos hin] at h
      obtain ⟨W1, hW1⟩ : ∃ W, w.alloc (.cells #[.slice A0 C.length c0, .slice A1 l1.length c1, .int .i64 a2] 25) = W := ⟨_, rfl⟩
      have X1 := Aside0.mk (show W1.heap[w.heap.size]? = some (.cells #[.slice A0 C.length c0, .slice A1 l1.length c1, .int .i64 a2] 25 (0, 0)) by rw [← hW1]; exact heap_alloc_new w _)
      have B1 := Aside0.mk (show Below w0.heap.size w0 W1 by rw [← hW1]; exact HB.out.alloc HS.out _)
      have K1 := Aside0.mk (show Kept w W1 (fun k_ => P k_) by rw [← hW1]; exact (Kept.refl _ _).alloc _)
      have U1 := Aside0.mk (show (Kd.int .i64).R 3 W1 w0.heap.size (fun _ => True) u seen by rw [← hW1]; exact Kd.R_alloc HU.out _)
      obtain ⟨g, cap, hv, hg1, hg2, cs, hgc⟩ := Kd.R_form U1.out (by omega)
      subst hv
      have hgP := HP.out g rfl
      have p1 : (0 ≤ k) = True := eq_true hin.1
      have p3 : (k < (seen.length : Int)) = True := eq_true hin.2
      have q1 : W1.cell? ⟨g, k.toNat, none⟩ = some (.int .i64 (rd seen k)) := (Kd.R_celln (d := (0 : Int)) U1.out k hin.1 hin.2).1
      have qf1 : W1.frozen? ⟨g, k.toNat, none⟩ = false := (Kd.R_celln (d := (0 : Int)) U1.out k hin.1 hin.2).2
      by_cases hz : rd seen k = 0
      · rw [if_pos hz] at h
        by_cases hC : k < (C.length : Int)
        · rw [if_pos hC] at h
          obtain ⟨ad, A2, c2, hA0, hlen, hcell⟩ := cell_at HR.out k hin.1 hC
          subst hA0
          have hcell' := Aside0.mk hcell
          clear hcell
          obtain ⟨x, hx⟩ : ∃ x, rd_T68 C k = x := ⟨_, rfl⟩
          rw [hx] at hcell' hlen h
          have hx2 : x.f2.length ≤ 9223372036854775807 := (hcell'.out w (Kept.refl _ _)).2.2.2.2.1
          have p2 : (k < (C.length : Int)) = True := eq_true hC
          have hl2 : ((0 : Int) = (lev : Int) + 1) = False := eq_false (by omega)
          have hl3 : ((0 : Int) == (lev : Int) + 1) = false := beq_eq_false_iff_ne.2 (by omega)
          have hgs := Aside0.mk (show g < w.heap.size from hgP.2)
          have hgp := Aside0.mk hgP.1
          obtain ⟨w2, hw2, hX2, hB2, hK2, hU2⟩ : ∃ w2, W1.setCell ⟨g, k.toNat, none⟩ (.int .i64 ((lev : Int) + 1)) = w2 ∧ w2.heap[w.heap.size]? = some (.cells #[.slice (some ad) C.length c0, .slice A1 l1.length c1, .int .i64 a2] 25 (0, 0)) ∧ Below w0.heap.size w0 w2 ∧ Kept w w2 (fun k_ => P k_) ∧ (Kd.int .i64).R 3 w2 w0.heap.size (fun _ => True) (.slice (some ⟨g, 0, none⟩) seen.length cap) (seen.set k.toNat ((lev : Int) + 1)) :=
            ⟨_, rfl, blk_far X1.out (p := ⟨g, k.toNat, none⟩) (by show w.heap.size ≠ g; omega) _, below_set B1.out hg1, K1.out.setCell (.inl hgP.1) _, Kd.R_putn U1.out k _⟩
          have X2 := Aside0.mk hX2
          have B2 := Aside0.mk hB2
          have K2 := Aside0.mk hK2
          have U2 := Aside0.mk hU2
          have HLp := Aside0.mk h
          rw [hz] at q1
          have e0' : w2.cell? ⟨w.heap.size, 0, none⟩ = some (.slice (some ad) C.length c0) := (blk_cell X2.out _).trans rfl
          obtain ⟨hx0, hx1, hx2', _⟩ := hcell'.out w2 K2.out
          clear hz hC hin hx hX2 hB2 hK2 hU2 h hgP X1 B1 K1 U1 HU HB
          go_enter Try.func55, Try.ntmps55
          go_wp2
          clear hW1 hw2 e0' hx0 hx1 hx2' q1 qf1
          go_loopw [43] (fun vi wr => ∃ (q : Nat) (s : List Int), q ≤ x.f2.length ∧ vi = .int .i64 q ∧ Aside0 (loopK (levM C lev) (x.f2.drop q) s = some (r1, r2)) ∧ Aside0 ((Kd.int .i64).R 3 wr w0.heap.size (fun _ => True) (.slice (some ⟨g, 0, none⟩) seen.length cap) s) ∧ Aside0 (wr.heap[w.heap.size]? = some (.cells #[.slice (some ad) C.length c0, .slice A1 l1.length c1, .int .i64 a2] 25 (0, 0))) ∧ Aside0 (Below w0.heap.size w0 wr) ∧ Aside0 (Kept w wr (fun k_ => P k_))) (fun vi _ => x.f2.length - (intOf vi).toNat)
          case atStart => exact ⟨0, _, Nat.zero_le _, rfl, ⟨by rw [List.drop_zero]; exact HLp.out⟩, U2, X2, B2, K2⟩
          case round =>
            clear X2 B2 K2 U2 HLp
            obtain ⟨q, s, hq, rfl, HLq, U3, X3, B3, K3⟩ := hrel
            have e0 : wr.cell? ⟨w.heap.size, 0, none⟩ = some (.slice (some ad) C.length c0) := (blk_cell X3.out _).trans rfl
            have e1 : wr.cell? ⟨w.heap.size, 1, none⟩ = some (.slice A1 l1.length c1) := (blk_cell X3.out _).trans rfl
            have e2 : wr.cell? ⟨w.heap.size, 2, none⟩ = some (.int .i64 a2) := (blk_cell X3.out _).trans rfl
            by_cases hql : q < x.f2.length
            · obtain ⟨ad2, e3, hy⟩ := Kd.at_int (hcell'.out wr K3.out).2.2.2 (q : Int) (by omega) (by omega)
              subst e3
              simp only [Int.toNat_natCast] at hy
              obtain ⟨z, hz⟩ : ∃ z, rd x.f2 (q : Int) = z := ⟨_, rfl⟩
              rw [hz] at hy
              have hd : x.f2.drop q = z :: x.f2.drop (q + 1) := by
                rw [List.drop_eq_getElem_cons hql, ← hz]
                congr 1
                unfold rd
                rw [List.getD_eq_getElem?_getD, Int.toNat_natCast, List.getElem?_eq_getElem hql]
                rfl
              obtain ⟨⟨b1, s1⟩, h1, h2⟩ := Option.bind_eq_some_iff.1 (show (levM C lev z s).bind (fun t => if t.1 = true then loopK (levM C lev) (x.f2.drop (q + 1)) t.2 else some (false, t.2)) = some (r1, r2) by
                have := HLq.out
                rw [hd] at this
                exact this)
              have H2 := Aside0.mk (show (if b1 = true then loopK (levM C lev) (x.f2.drop (q + 1)) s1 else some (false, s1)) = some (r1, r2) from h2)
              have hqq : ((q : Int) < (x.f2.length : Int)) = True := eq_true (by omega)
              have hwl : wrap64 (lev : Int) = (lev : Int) := w64 (by have := HL.out; omega) (by have := HL.out; omega)
              have hcall := Aside0.mk (IH.out (some ad) c0 A1 c1 l1 a2 z (fun k_ => P k_ ∧ k_ < w.heap.size) _ s b1 s1 w0 wr B3.out (fun W hk => HR.out W (K3.out.then_ hk (fun _ h3 => .inl h3.1))) hc0 U3.out (fun j hj => by
                have : g = j := by simpa [Value.ownBlock] using hj
                subst this
                exact ⟨⟨hgp.out, hgs.out⟩, by have := K3.out.1; have := hgs.out; omega⟩) (by have := HL.out; omega) h1)
              clear h1 h2 hd hz HLq
              go_wp2_with (go_at_call 55; (with_reducible refine hcall.out.mono ?_))
              (first | rintro e w4 rfl hU4 hB4 hK4 | rintro e w4 ⟨rfl, hU4, hB4, hK4⟩)
              have X4 := Aside0.mk (blk_kept X3.out hK4 (fun h3 => by have := h3.2; omega))
              have K4 := Aside0.mk (K3.out.then_ hK4 (fun _ h3 => .inl h3.1))
              have U4 := Aside0.mk hU4
              have B4 := Aside0.mk hB4
              clear hU4 hB4 hK4 e0 e1 e2 hcall
              cases b1 with
              | true =>
                have H3 := Aside0.mk (show loopK (levM C lev) (x.f2.drop (q + 1)) s1 = some (r1, r2) from H2.out)
                go_wp2
                go_roundw
                case rel => exact ⟨q + 1, s1, hql, by go_num, H3, U4, X4, B4, K4⟩
                case measure => simp [intOf]; omega
              | false =>
                have H3 : some (false, s1) = some (r1, r2) := H2.out
                simp only [Option.some.injEq, Prod.mk.injEq] at H3
                obtain ⟨rfl, rfl⟩ := H3
                clear H2
                go_wp2
                go_ret
                exact ⟨rfl, U4.out, B4.out, K4.out⟩
            · have hqq : ((q : Int) < (x.f2.length : Int)) = False := eq_false (by omega)
              have h3 := HLq.out
              rw [List.drop_of_length_le (by omega)] at h3
              simp only [loopK, Option.some.injEq, Prod.mk.injEq] at h3
              obtain ⟨rfl, rfl⟩ := h3
              clear hql hq HLq
              go_wp2
              go_ret
              exact ⟨rfl, U3.out, B3.out, K3.out⟩
        · rw [if_neg hC] at h
          cases h
      · rw [if_neg hz] at h
        have hz1 : (rd seen k == 0) = false := beq_eq_false_iff_ne.2 hz
        have hz2 : (rd seen k != 0) = true := bne_iff_ne.2 hz
        have hz3 : (rd seen k = 0) = False := eq_false hz
        by_cases he : rd seen k = (lev : Int) + 1
        · rw [if_pos he] at h
          simp only [Option.some.injEq, Prod.mk.injEq] at h
          obtain ⟨rfl, rfl⟩ := h
          rw [he] at q1
          have hl2 : ((lev : Int) + 1 = 0) = False := eq_false (by omega)
          have hl3 : ((lev : Int) + 1 == 0) = false := beq_eq_false_iff_ne.2 (by omega)
          have hl4 : ((lev : Int) + 1 != 0) = true := bne_iff_ne.2 (by omega)
          clear hz he hin hz1 hz2 hz3
          go_enter Try.func55, Try.ntmps55
          go_wp2
          go_ret
          exact ⟨rfl, U1.out, B1.out, K1.out⟩
        · rw [if_neg he] at h
          simp only [Option.some.injEq, Prod.mk.injEq] at h
          obtain ⟨rfl, rfl⟩ := h
          have he1 : (rd seen k == (lev : Int) + 1) = false := beq_eq_false_iff_ne.2 he
          have he2 : (rd seen k != (lev : Int) + 1) = true := bne_iff_ne.2 he
          have he3 : (rd seen k = (lev : Int) + 1) = False := eq_false he
          clear hz he hin
          go_enter Try.func55, Try.ntmps55
          go_wp2
          go_ret
          exact ⟨rfl, U1.out, B1.out, K1.out⟩
    · rw [if_neg hin] at h
      cases h
theorem row_ok {e base : Nat} {w : World} {v : Value} {xs : List Int} {ok : Nat → Prop} (h : (Kd.int .i64).R e w base (fun _ => True) v xs) (hok : ∀ k, v.ownBlock = some k → ok k) : (Kd.int .i64).R e w base ok v xs := Kd.R_of_own (Kd.own_of_R h) hok
def spec_l14Deep.f (l0_0 : List S68) (l0_1 : List Int) (a0_2 : Int) (a1 : Int) (a2 : Int) (l3 : List Int) : Option (Bool × List Int) := if 0 ≤ a2 ∧ a2 ≤ 3 then deepM l0_0 a2.toNat a1 l3 else none
theorem spec_l14Deep.calls (A0_0 : Option Addr) (c0_0 : Nat) (l0_0 : List (S68)) (A0_1 : Option Addr) (c0_1 : Nat) (l0_1 : List Int) (a0_2 : Int) (a1 : Int) (a2 : Int) (P3_ : Nat → Prop) (u9000_ : Value) (l3 : List Int) (r1 : Bool) (r2 : List Int) (w0 w : World) (hB : Below w0.heap.size w0 w) (hr0_0 : ∀ W_, Kept w W_ (fun k_ => P3_ k_) → Kd.C k68 W_ A0_0 l0_0.length l0_0) (hc0_0 : l0_0.length ≤ c0_0) (hr0_1 : ∀ W_, Kept w W_ (fun k_ => P3_ k_) → Kd.C (Kd.int .i64) W_ A0_1 l0_1.length l0_1) (hc0_1 : l0_1.length ≤ c0_1) (ho3 : Kd.R (Kd.int .i64) 3 w w0.heap.size P3_ u9000_ l3) (h : spec_l14Deep.f l0_0 l0_1 a0_2 a1 a2 l3 = some (r1, r2)) :
    Calls Try.prog 54 #[.agg #[.slice A0_0 l0_0.length c0_0, .slice A0_1 l0_1.length c0_1, .int .i64 a0_2], .int .i64 a1, .int .i64 a2, u9000_] w fun e w' => e = .returned (.bool r1) ∧ Kd.R (Kd.int .i64) 3 w' w0.heap.size (fun k_ => (P3_ k_ ∨ w.heap.size ≤ k_)) u9000_ r2 ∧ Below w0.heap.size w0 w' ∧ Kept w w' (fun k_ => P3_ k_) := by
  unfold spec_l14Deep.f at h
  split at h
  · rename_i hl
    have e : a2 = ((a2.toNat : Nat) : Int) := by omega
    have h1 := deep_calls l0_0 a2.toNat A0_0 c0_0 A0_1 c0_1 l0_1 a0_2 a1 P3_ u9000_ l3 r1 r2 w0 w hB hr0_0 hc0_0 (Kd.R_mono ho3 (fun _ _ => trivial)) (fun k hk => ⟨ho3.1 k hk, Kd.R_lt ho3 k hk⟩) (by omega) h
    rw [← e] at h1
    exact h1.mono fun e w' ⟨he, hR, hB', hK⟩ => ⟨he, row_ok hR (fun k hk => .inl (ho3.1 k hk)), hB', hK⟩
  · cases h
def spec_l14Levels.f (l0_0 : List S68) (l0_1 : List Int) (a0_2 : Int) (a1 : Int) (a2 : Int) (l3 : List Int) : Option (Bool × List Int) := if 0 ≤ a2 ∧ a2 ≤ 3 then levM l0_0 a2.toNat a1 l3 else none
theorem spec_l14Levels.calls (A0_0 : Option Addr) (c0_0 : Nat) (l0_0 : List (S68)) (A0_1 : Option Addr) (c0_1 : Nat) (l0_1 : List Int) (a0_2 : Int) (a1 : Int) (a2 : Int) (P3_ : Nat → Prop) (u9000_ : Value) (l3 : List Int) (r1 : Bool) (r2 : List Int) (w0 w : World) (hB : Below w0.heap.size w0 w) (hr0_0 : ∀ W_, Kept w W_ (fun k_ => P3_ k_) → Kd.C k68 W_ A0_0 l0_0.length l0_0) (hc0_0 : l0_0.length ≤ c0_0) (hr0_1 : ∀ W_, Kept w W_ (fun k_ => P3_ k_) → Kd.C (Kd.int .i64) W_ A0_1 l0_1.length l0_1) (hc0_1 : l0_1.length ≤ c0_1) (ho3 : Kd.R (Kd.int .i64) 3 w w0.heap.size P3_ u9000_ l3) (h : spec_l14Levels.f l0_0 l0_1 a0_2 a1 a2 l3 = some (r1, r2)) :
    Calls Try.prog 55 #[.agg #[.slice A0_0 l0_0.length c0_0, .slice A0_1 l0_1.length c0_1, .int .i64 a0_2], .int .i64 a1, .int .i64 a2, u9000_] w fun e w' => e = .returned (.bool r1) ∧ Kd.R (Kd.int .i64) 3 w' w0.heap.size (fun k_ => (P3_ k_ ∨ w.heap.size ≤ k_)) u9000_ r2 ∧ Below w0.heap.size w0 w' ∧ Kept w w' (fun k_ => P3_ k_) := by
  unfold spec_l14Levels.f at h
  split at h
  · rename_i hl
    have e : a2 = ((a2.toNat : Nat) : Int) := by omega
    have h1 := lev_calls l0_0 a2.toNat A0_0 c0_0 A0_1 c0_1 l0_1 a0_2 a1 P3_ u9000_ l3 r1 r2 w0 w hB hr0_0 hc0_0 (Kd.R_mono ho3 (fun _ _ => trivial)) (fun k hk => ⟨ho3.1 k hk, Kd.R_lt ho3 k hk⟩) (by omega) h
    rw [← e] at h1
    exact h1.mono fun e w' ⟨he, hR, hB', hK⟩ => ⟨he, row_ok hR (fun k hk => .inl (ho3.1 k hk)), hB', hK⟩
  · cases h
end Go.Proofs.Ytacfalpgmibfnaa.PCow
