-- told by a program of mine (wip/lawwalk.py)
import Derived.Test.YtjepecinpgjgdaaXVauLawKit
import Derived.Test.YtjepecinpgjgdaaYVaulawsE
import Derived.Test.YtjepecinpgjgdaaYVaulawsS
import Derived.Test.YtjepecinpgjgdaaYVauspecNewVault
import Derived.Test.YtjepecinpgjgdaaYVauimplNewVault
/-! FnExactNewVault: the law, walked. -/
namespace Go.Proofs.Ytjepecinpgjgdaa.PVau
open Go.RowKit Go.Proofs.YtjepecinpgjgdaaW.PrintWords Go.Proofs.YtjepecinpgjgdaaW.PrintLast Go.Proofs.YtjepecinpgjgdaaW.PrintMore Go.Proofs.Ytjepecinpgjgdaa.E
set_option linter.unusedSimpArgs false
set_option linter.unusedVariables false
def laws_FnExactNewVault.ok (k : Nat) (l0 : List ByteArray) : Prop :=
  (∃ s, laws_szStringS.f k l0 1048576 = some s ∧ s < 0) ∨
  ∃ s T C1 R1 wb k1 T2 m C3 R3, laws_szStringS.f k l0 1048576 = some s ∧ ¬ s < 0 ∧ laws_toStringS.f k l0 = some T ∧ spec_NewVault.f k T = some (C1, R1, wb) ∧ impl_NewVault.f k T = some (C1, R1, wb) ∧ laws_eqVault.f k C1 R1 C1 R1 = some true ∧
    laws_eqStringS.f k T T = some true ∧ laws_markStringS.f k T 1 = some (k1, T2) ∧ ¬ k1 < 0 ∧ laws_markVault.f k C1 R1 1 = some (m, C3, R3) ∧ laws_heldVault.f k C3 R3 1 = some m ∧ ¬ m < 0
set_option maxHeartbeats 16000000 in
set_option maxRecDepth 100000 in
theorem laws_FnExactNewVault.calls (k : Nat) (A0 : Option Addr) (c0 : Nat) (l0 : List ByteArray) (_r : Bool) (w : World) (hr0 : Kd.C Kd.string w A0 l0.length l0) (hc0 : l0.length ≤ c0) (h : laws_FnExactNewVault.ok k l0) :
    Calls Try.prog 11 #[.slice A0 l0.length c0] w fun e w' => e = .returned (.bool true) ∧ Below w.heap.size w w' := by
  have hu25 := Try.underlying51
  have HR0 := Aside0.mk hr0
  have HC0 := Aside0.mk hc0
  clear hr0 hc0
  rcases h with ⟨s, h1, h2⟩ | ⟨s, T, C1, R1, wb, k1, T2, m, C3, R3, h1, h2, h3, h4, h5, h6, h7, h8, h9, h10, h11, h12⟩
  · have H1 := Aside0.mk h1
    have c1 : decide (s < 0) = true := decide_eq_true h2
    have c2 : (s < 0) = True := eq_true h2
    clear h1 h2
    have B := Aside0.mk (Below.refl w.heap.size w)
    go_enter Try.func11, Try.ntmps11
    have TT := Aside0.mk (laws_szStringS.calls k A0 c0 l0 1048576 s w (Kd.C_below HR0.out B.out) HC0.out H1.out)
    go_wp2_with (go_at_call 46; refine TT.out.mono ?_)
    (first | rintro e w2 rfl hd | rintro e w2 ⟨rfl, hd⟩)
    clear TT
    have hb := hd.below
    replace B := Aside0.mk (below_step B.out hb)
    go_wp2
    go_ret
    exact ⟨rfl, B.out⟩
  · have c1 : decide (s < 0) = false := decide_eq_false h2
    have c2 : (s < 0) = False := eq_false h2
    have c3 : decide (k1 < 0) = false := decide_eq_false h9
    have c4 : (k1 < 0) = False := eq_false h9
    have c5 : decide (m < 0) = false := decide_eq_false h12
    have c6 : (m < 0) = False := eq_false h12
    have H1 := Aside0.mk h1
    have H3 := Aside0.mk h3
    have H4 := Aside0.mk h4
    have H5 := Aside0.mk h5
    have H6 := Aside0.mk h6
    have H7 := Aside0.mk h7
    have H8 := Aside0.mk h8
    have H10 := Aside0.mk h10
    have H11 := Aside0.mk h11
    clear h1 h2 h3 h4 h5 h6 h7 h8 h9 h10 h11 h12
    have B := Aside0.mk (Below.refl w.heap.size w)
    go_enter Try.func11, Try.ntmps11
    have TT := Aside0.mk (laws_szStringS.calls k A0 c0 l0 1048576 s w (Kd.C_below HR0.out B.out) HC0.out H1.out)
    go_wp2_with (go_at_call 46; refine TT.out.mono ?_)
    (first | rintro e w2 rfl hd | rintro e w2 ⟨rfl, hd⟩)
    clear TT
    have hb := hd.below
    have LS1 := Aside0.mk (show w.heap.size ≤ w2.heap.size from hb.size)
    replace B := Aside0.mk (below_step B.out hb)
    clear hb hd
    have TT := Aside0.mk (laws_toStringS.calls k A0 c0 l0 T w2 (Kd.C_below HR0.out B.out) HC0.out H3.out)
    go_wp2_with (go_at_call 48; refine TT.out.mono ?_)
    (first | rintro e w3 t0 rfl hr hb | rintro e w3 ⟨t0, rfl, hr, hb⟩)
    clear TT
    have LS2 := Aside0.mk (show w2.heap.size ≤ w3.heap.size from hb.size)
    replace B := Aside0.mk (below_step B.out hb)
    obtain ⟨tA0, tc0, rfl⟩ := Kd.R_slice hr
    have tR := Aside0.mk (R_iv hr)
    clear hb hr
    have TT := Aside0.mk (spec_NewVault.calls k _ _ T C1 R1 wb w3 (Kd.R_reads' tR.out).2.2 (Kd.R_reads' tR.out).2.1 H4.out)
    go_wp2_with (go_at_call 47; refine TT.out.mono ?_)
    (first | rintro e w4 u0 u1 rfl hr hs hb | rintro e w4 ⟨u0, u1, rfl, hr, hs, hb⟩)
    clear TT
    have LS3 := Aside0.mk (show w3.heap.size ≤ w4.heap.size from hb.size)
    replace B := Aside0.mk (below_step B.out hb)
    replace tR := Aside0.mk (Kd.R_below tR.out hb)
    obtain ⟨uA0, uc0, rfl⟩ := Kd.R_slice hr
    obtain ⟨uA1, uc1, rfl⟩ := Kd.S_slice hs
    have uS := Aside0.mk (Kd.S_apart' (S_iv hs) (Kd.R_typed hr) (by decide))
    have uR := Aside0.mk (R_iv hr)
    clear hb hr hs
    clear tR
    obtain ⟨V1, hV1⟩ : ∃ W, w4.alloc (.cells #[.slice uA0 C1.length uc0, .slice uA1 R1.length uc1] 51 (0, 0)) = W := ⟨_, rfl⟩
    have hb : Below w4.heap.size w4 V1 := by rw [← hV1]; exact below_alloc (Below.refl _ _) _
    have LE1 := Aside0.mk (show V1.heap.size = w4.heap.size + 1 by rw [← hV1]; simp)
    replace B := Aside0.mk (below_step B.out hb)
    replace uS := Aside0.mk (Kd.S_below uS.out hb)
    replace uR := Aside0.mk (Kd.R_below uR.out hb)
    have XW := Aside0.mk (show V1.heap[w4.heap.size]? = some (.cells #[.slice uA0 C1.length uc0, .slice uA1 R1.length uc1] 51 (0, 0)) by rw [← hV1]; exact heap_alloc_new w4 _)
    clear hb
    have TT := Aside0.mk (laws_toStringS.calls k A0 c0 l0 T V1 (Kd.C_below HR0.out B.out) HC0.out H3.out)
    go_wp2_with (go_at_call 48; refine TT.out.mono ?_)
    (first | rintro e w5 x0 rfl hr hb | rintro e w5 ⟨x0, rfl, hr, hb⟩)
    clear TT
    have LS4 := Aside0.mk (show V1.heap.size ≤ w5.heap.size from hb.size)
    replace B := Aside0.mk (below_step B.out hb)
    replace uS := Aside0.mk (Kd.S_below uS.out hb)
    replace uR := Aside0.mk (Kd.R_below uR.out hb)
    replace XW := Aside0.mk (blk_below XW.out hb)
    obtain ⟨xA0, xc0, rfl⟩ := Kd.R_slice hr
    have xR := Aside0.mk (R_iv hr)
    clear hb hr
    clear hV1
    have TT := Aside0.mk (impl_NewVault.calls k _ _ T C1 R1 wb w5 (Kd.R_reads' xR.out).2.2 (Kd.R_reads' xR.out).2.1 H5.out)
    go_wp2_with (go_at_call 49; refine TT.out.mono ?_)
    (first | rintro e w6 g0 g1 rfl hr hs hb | rintro e w6 ⟨g0, g1, rfl, hr, hs, hb⟩)
    clear TT
    have LS5 := Aside0.mk (show w5.heap.size ≤ w6.heap.size from hb.size)
    replace B := Aside0.mk (below_step B.out hb)
    replace uS := Aside0.mk (Kd.S_below uS.out hb)
    replace uR := Aside0.mk (Kd.R_below uR.out hb)
    replace XW := Aside0.mk (blk_below XW.out hb)
    replace xR := Aside0.mk (Kd.R_below xR.out hb)
    obtain ⟨gA0, gc0, rfl⟩ := Kd.R_slice hr
    obtain ⟨gA1, gc1, rfl⟩ := Kd.S_slice hs
    have gS := Aside0.mk (Kd.S_apart' (S_iv hs) (Kd.R_typed hr) (by decide))
    have gR := Aside0.mk (R_iv hr)
    clear hb hr hs
    obtain ⟨V2, hV2⟩ : ∃ W, w6.alloc (.cells #[.slice gA0 C1.length gc0, .slice gA1 R1.length gc1] 51 (0, 0)) = W := ⟨_, rfl⟩
    have hb : Below w6.heap.size w6 V2 := by rw [← hV2]; exact below_alloc (Below.refl _ _) _
    have LE2 := Aside0.mk (show V2.heap.size = w6.heap.size + 1 by rw [← hV2]; simp)
    replace B := Aside0.mk (below_step B.out hb)
    replace uS := Aside0.mk (Kd.S_below uS.out hb)
    replace uR := Aside0.mk (Kd.R_below uR.out hb)
    replace XW := Aside0.mk (blk_below XW.out hb)
    replace xR := Aside0.mk (Kd.R_below xR.out hb)
    replace gS := Aside0.mk (Kd.S_below gS.out hb)
    replace gR := Aside0.mk (Kd.R_below gR.out hb)
    have XG := Aside0.mk (show V2.heap[w6.heap.size]? = some (.cells #[.slice gA0 C1.length gc0, .slice gA1 R1.length gc1] 51 (0, 0)) by rw [← hV2]; exact heap_alloc_new w6 _)
    clear hb
    have dXW_0 : V2.cell? ⟨w4.heap.size, 0, none⟩ = some (.slice uA0 C1.length uc0) := (blk_cell XW.out 0).trans rfl
    have dXW_1 : V2.cell? ⟨w4.heap.size, 1, none⟩ = some (.slice uA1 R1.length uc1) := (blk_cell XW.out 1).trans rfl
    have dXG_0 : V2.cell? ⟨w6.heap.size, 0, none⟩ = some (.slice gA0 C1.length gc0) := (blk_cell XG.out 0).trans rfl
    have dXG_1 : V2.cell? ⟨w6.heap.size, 1, none⟩ = some (.slice gA1 R1.length gc1) := (blk_cell XG.out 1).trans rfl
    have TT := Aside0.mk (laws_eqVault.calls k _ _ C1 _ _ R1 _ _ C1 _ _ R1 true V2 (Kd.R_reads' gR.out).2.2 (Kd.R_reads' gR.out).2.1 (Kd.S_reads' gS.out).2.2 (Kd.S_reads' gS.out).2.1 (Kd.R_reads' uR.out).2.2 (Kd.R_reads' uR.out).2.1 (Kd.S_reads' uS.out).2.2 (Kd.S_reads' uS.out).2.1 H6.out)
    go_wp2_with (go_at_call 37; refine TT.out.mono ?_)
    (first | rintro e w7 rfl hb | rintro e w7 ⟨rfl, hb⟩)
    clear TT
    clear dXW_0 dXW_1 dXG_0 dXG_1
    clear hV2
    have LS6 := Aside0.mk (show V2.heap.size ≤ w7.heap.size from hb.size)
    replace B := Aside0.mk (below_step B.out hb)
    replace uS := Aside0.mk (Kd.S_below uS.out hb)
    replace uR := Aside0.mk (Kd.R_below uR.out hb)
    replace XW := Aside0.mk (blk_below XW.out hb)
    replace xR := Aside0.mk (Kd.R_below xR.out hb)
    replace gS := Aside0.mk (Kd.S_below gS.out hb)
    replace gR := Aside0.mk (Kd.R_below gR.out hb)
    replace XG := Aside0.mk (blk_below XG.out hb)
    clear hb
    have TT := Aside0.mk (laws_toStringS.calls k A0 c0 l0 T w7 (Kd.C_below HR0.out B.out) HC0.out H3.out)
    go_wp2_with (go_at_call 48; refine TT.out.mono ?_)
    (first | rintro e w8 y0 rfl hr hb | rintro e w8 ⟨y0, rfl, hr, hb⟩)
    clear TT
    have LS7 := Aside0.mk (show w7.heap.size ≤ w8.heap.size from hb.size)
    replace B := Aside0.mk (below_step B.out hb)
    replace uS := Aside0.mk (Kd.S_below uS.out hb)
    replace uR := Aside0.mk (Kd.R_below uR.out hb)
    replace XW := Aside0.mk (blk_below XW.out hb)
    replace xR := Aside0.mk (Kd.R_below xR.out hb)
    replace gS := Aside0.mk (Kd.S_below gS.out hb)
    replace gR := Aside0.mk (Kd.R_below gR.out hb)
    replace XG := Aside0.mk (blk_below XG.out hb)
    obtain ⟨yA0, yc0, rfl⟩ := Kd.R_slice hr
    have yR := Aside0.mk (R_iv hr)
    clear hb hr
    have TT := Aside0.mk (laws_eqStringS.calls k _ _ T _ _ T true w8 (Kd.R_reads' xR.out).2.2 (Kd.R_reads' xR.out).2.1 (Kd.R_reads' yR.out).2.2 (Kd.R_reads' yR.out).2.1 H7.out)
    go_wp2_with (go_at_call 26; refine TT.out.mono ?_)
    (first | rintro e w9 rfl hd | rintro e w9 ⟨rfl, hd⟩)
    clear TT
    have hb := hd.below
    clear yR
    have LS8 := Aside0.mk (show w8.heap.size ≤ w9.heap.size from hb.size)
    replace B := Aside0.mk (below_step B.out hb)
    replace uS := Aside0.mk (Kd.S_below uS.out hb)
    replace uR := Aside0.mk (Kd.R_below uR.out hb)
    replace XW := Aside0.mk (blk_below XW.out hb)
    replace xR := Aside0.mk (Kd.R_below xR.out hb)
    replace gS := Aside0.mk (Kd.S_below gS.out hb)
    replace gR := Aside0.mk (Kd.R_below gR.out hb)
    replace XG := Aside0.mk (blk_below XG.out hb)
    clear hb hd
    have TT := Aside0.mk (laws_markStringS.calls k (fun k_ => V1.heap.size ≤ k_ ∧ k_ < w5.heap.size) _ T 1 k1 T2 w w9 B.out (Kd.R_lower xR.out (by have := LS1.out; have := LS2.out; have := LS3.out; have := LE1.out; have := LS4.out; have := LS5.out; have := LE2.out; have := LS6.out; have := LS7.out; have := LS8.out; omega)) H8.out)
    go_wp2_with (go_at_call 27; refine TT.out.mono ?_)
    (first | rintro e w10 rfl ho0 hB2 hk | rintro e w10 ⟨rfl, ho0, hB2, hk⟩)
    clear TT
    have LKw10 := Aside0.mk (show w9.heap.size ≤ w10.heap.size from hk.1)
    replace B := Aside0.mk hB2
    clear xR
    replace uS := Aside0.mk (Kd.S_kept uS.out hk (fun k_ hk_ h_ => by have := h_.1; have := h_.2; have := LS1.out; have := LS2.out; have := LS3.out; have := LE1.out; have := LS4.out; have := LS5.out; have := LE2.out; have := LS6.out; have := LS7.out; have := LS8.out; have := LKw10.out; omega))
    replace uR := Aside0.mk (Kd.R_kept uR.out hk (fun k_ hk_ h_ => by have := h_.1; have := h_.2; have := LS1.out; have := LS2.out; have := LS3.out; have := LE1.out; have := LS4.out; have := LS5.out; have := LE2.out; have := LS6.out; have := LS7.out; have := LS8.out; have := LKw10.out; omega))
    replace XW := Aside0.mk (blk_kept XW.out hk (fun h_ => by have := h_.1; have := h_.2; have := LS1.out; have := LS2.out; have := LS3.out; have := LE1.out; have := LS4.out; have := LS5.out; have := LE2.out; have := LS6.out; have := LS7.out; have := LS8.out; have := LKw10.out; omega))
    replace gS := Aside0.mk (Kd.S_kept gS.out hk (fun k_ hk_ h_ => by have := h_.1; have := h_.2; have := LS1.out; have := LS2.out; have := LS3.out; have := LE1.out; have := LS4.out; have := LS5.out; have := LE2.out; have := LS6.out; have := LS7.out; have := LS8.out; have := LKw10.out; omega))
    replace gR := Aside0.mk (Kd.R_kept gR.out hk (fun k_ hk_ h_ => by have := h_.1; have := h_.2; have := LS1.out; have := LS2.out; have := LS3.out; have := LE1.out; have := LS4.out; have := LS5.out; have := LE2.out; have := LS6.out; have := LS7.out; have := LS8.out; have := LKw10.out; omega))
    replace XG := Aside0.mk (blk_kept XG.out hk (fun h_ => by have := h_.1; have := h_.2; have := LS1.out; have := LS2.out; have := LS3.out; have := LE1.out; have := LS4.out; have := LS5.out; have := LE2.out; have := LS6.out; have := LS7.out; have := LS8.out; have := LKw10.out; omega))
    clear ho0 hB2 hk
    have dXW_0 : w10.cell? ⟨w4.heap.size, 0, none⟩ = some (.slice uA0 C1.length uc0) := (blk_cell XW.out 0).trans rfl
    have dXW_1 : w10.cell? ⟨w4.heap.size, 1, none⟩ = some (.slice uA1 R1.length uc1) := (blk_cell XW.out 1).trans rfl
    have dXG_0 : w10.cell? ⟨w6.heap.size, 0, none⟩ = some (.slice gA0 C1.length gc0) := (blk_cell XG.out 0).trans rfl
    have dXG_1 : w10.cell? ⟨w6.heap.size, 1, none⟩ = some (.slice gA1 R1.length gc1) := (blk_cell XG.out 1).trans rfl
    have TT := Aside0.mk (laws_eqVault.calls k _ _ C1 _ _ R1 _ _ C1 _ _ R1 true w10 (Kd.R_reads' gR.out).2.2 (Kd.R_reads' gR.out).2.1 (Kd.S_reads' gS.out).2.2 (Kd.S_reads' gS.out).2.1 (Kd.R_reads' uR.out).2.2 (Kd.R_reads' uR.out).2.1 (Kd.S_reads' uS.out).2.2 (Kd.S_reads' uS.out).2.1 H6.out)
    go_wp2_with (go_at_call 37; refine TT.out.mono ?_)
    (first | rintro e w11 rfl hb | rintro e w11 ⟨rfl, hb⟩)
    clear TT
    clear dXW_0 dXW_1 dXG_0 dXG_1
    have LS9 := Aside0.mk (show w10.heap.size ≤ w11.heap.size from hb.size)
    replace B := Aside0.mk (below_step B.out hb)
    replace uS := Aside0.mk (Kd.S_below uS.out hb)
    replace uR := Aside0.mk (Kd.R_below uR.out hb)
    replace XW := Aside0.mk (blk_below XW.out hb)
    replace gS := Aside0.mk (Kd.S_below gS.out hb)
    replace gR := Aside0.mk (Kd.R_below gR.out hb)
    replace XG := Aside0.mk (blk_below XG.out hb)
    clear hb
    have hp1 := Aside0.mk (show ∀ k_, some k_ = (Value.slice gA0 C1.length gc0).ownBlock → w5.heap.size ≤ k_ ∧ k_ < w6.heap.size from fun k_ h_ => gR.out.1 k_ h_.symm)
    have dXG_0 : w11.cell? ⟨w6.heap.size, 0, none⟩ = some (.slice gA0 C1.length gc0) := (blk_cell XG.out 0).trans rfl
    have dXG_1 : w11.cell? ⟨w6.heap.size, 1, none⟩ = some (.slice gA1 R1.length gc1) := (blk_cell XG.out 1).trans rfl
    have TT := Aside0.mk (laws_markVault.calls k (fun k_ => some k_ = (Value.slice gA0 C1.length gc0).ownBlock) (fun k_ => (w5.heap.size ≤ k_ ∧ k_ < w6.heap.size) ∧ some k_ ≠ (Value.slice gA0 C1.length gc0).ownBlock) _ _ C1 R1 1 m C3 R3 w w11 B.out (Kd.R_lower (Kd.R_mono (Kd.R_tight rfl gR.out) (fun k_ h_ => h_)) (by have := LS1.out; have := LS2.out; have := LS3.out; have := LE1.out; have := LS4.out; have := LS5.out; have := LE2.out; have := LS6.out; have := LS7.out; have := LS8.out; have := LKw10.out; have := LS9.out; omega)) (Kd.S_lower (Kd.S_mono gS.out (fun k_ h_ => ⟨⟨h_.1.2.1, h_.1.2.2⟩, h_.2⟩)) (by have := LS1.out; have := LS2.out; have := LS3.out; have := LE1.out; have := LS4.out; have := LS5.out; have := LE2.out; have := LS6.out; have := LS7.out; have := LS8.out; have := LKw10.out; have := LS9.out; omega)) (fun k_ h_ h2_ => h2_.2 h_) H10.out)
    go_wp2_with (go_at_call 44; refine TT.out.mono ?_)
    (first | rintro e w12 rfl ho0 ho1 hB2 hk | rintro e w12 ⟨rfl, ho0, ho1, hB2, hk⟩)
    clear TT
    clear dXG_0 dXG_1
    have LKw12 := Aside0.mk (show w11.heap.size ≤ w12.heap.size from hk.1)
    replace B := Aside0.mk hB2
    have hk : Kept w11 w12 (fun k_ => w5.heap.size ≤ k_ ∧ k_ < w6.heap.size) := hk.mono (fun k_ h_ => h_.elim (fun h_ => hp1.out k_ h_) (fun h_ => h_.1))
    replace uS := Aside0.mk (Kd.S_kept uS.out hk (fun k_ hk_ h_ => by have := h_.1; have := h_.2; have := LS1.out; have := LS2.out; have := LS3.out; have := LE1.out; have := LS4.out; have := LS5.out; have := LE2.out; have := LS6.out; have := LS7.out; have := LS8.out; have := LKw10.out; have := LS9.out; have := LKw12.out; omega))
    replace uR := Aside0.mk (Kd.R_kept uR.out hk (fun k_ hk_ h_ => by have := h_.1; have := h_.2; have := LS1.out; have := LS2.out; have := LS3.out; have := LE1.out; have := LS4.out; have := LS5.out; have := LE2.out; have := LS6.out; have := LS7.out; have := LS8.out; have := LKw10.out; have := LS9.out; have := LKw12.out; omega))
    replace XW := Aside0.mk (blk_kept XW.out hk (fun h_ => by have := h_.1; have := h_.2; have := LS1.out; have := LS2.out; have := LS3.out; have := LE1.out; have := LS4.out; have := LS5.out; have := LE2.out; have := LS6.out; have := LS7.out; have := LS8.out; have := LKw10.out; have := LS9.out; have := LKw12.out; omega))
    replace XG := Aside0.mk (blk_kept XG.out hk (fun h_ => by have := h_.1; have := h_.2; have := LS1.out; have := LS2.out; have := LS3.out; have := LE1.out; have := LS4.out; have := LS5.out; have := LE2.out; have := LS6.out; have := LS7.out; have := LS8.out; have := LKw10.out; have := LS9.out; have := LKw12.out; omega))
    clear hB2 hk hp1
    replace gR := Aside0.mk ho0
    replace gS := Aside0.mk ho1
    clear ho0 ho1
    have dXG_0 : w12.cell? ⟨w6.heap.size, 0, none⟩ = some (.slice gA0 C1.length gc0) := (blk_cell XG.out 0).trans rfl
    have dXG_1 : w12.cell? ⟨w6.heap.size, 1, none⟩ = some (.slice gA1 R1.length gc1) := (blk_cell XG.out 1).trans rfl
    have TT := Aside0.mk (held_vault (Kd.R_reads' gR.out) (Kd.S_reads' gS.out) H11.out)
    go_wp2_with (go_at_call 45; refine TT.out.mono ?_)
    (first | rintro e w13 rfl hb | rintro e w13 ⟨rfl, hb⟩)
    clear TT
    clear dXG_0 dXG_1
    have LS10 := Aside0.mk (show w12.heap.size ≤ w13.heap.size from hb.size)
    replace B := Aside0.mk (below_step B.out hb)
    replace uS := Aside0.mk (Kd.S_below uS.out hb)
    replace uR := Aside0.mk (Kd.R_below uR.out hb)
    replace XW := Aside0.mk (blk_below XW.out hb)
    replace gS := Aside0.mk (Kd.S_below gS.out hb)
    replace gR := Aside0.mk (Kd.R_below gR.out hb)
    replace XG := Aside0.mk (blk_below XG.out hb)
    clear hb
    have hmm : (m == m) = true := beq_self_eq_true m
    have hmn : (m != m) = false := by simp
    have TT := Aside0.mk (laws_toStringS.calls k A0 c0 l0 T w13 (Kd.C_below HR0.out B.out) HC0.out H3.out)
    go_wp2_with (go_at_call 48; refine TT.out.mono ?_)
    (first | rintro e w14 z0 rfl hr hb | rintro e w14 ⟨z0, rfl, hr, hb⟩)
    clear TT
    have LS11 := Aside0.mk (show w13.heap.size ≤ w14.heap.size from hb.size)
    replace B := Aside0.mk (below_step B.out hb)
    replace uS := Aside0.mk (Kd.S_below uS.out hb)
    replace uR := Aside0.mk (Kd.R_below uR.out hb)
    replace XW := Aside0.mk (blk_below XW.out hb)
    replace gS := Aside0.mk (Kd.S_below gS.out hb)
    replace gR := Aside0.mk (Kd.R_below gR.out hb)
    replace XG := Aside0.mk (blk_below XG.out hb)
    obtain ⟨zA0, zc0, rfl⟩ := Kd.R_slice hr
    have zR := Aside0.mk (R_iv hr)
    clear hb hr
    have TT := Aside0.mk (impl_NewVault.calls k _ _ T C1 R1 wb w14 (Kd.R_reads' zR.out).2.2 (Kd.R_reads' zR.out).2.1 H5.out)
    go_wp2_with (go_at_call 49; refine TT.out.mono ?_)
    (first | rintro e w15 h0 h1 rfl hr hs hb | rintro e w15 ⟨h0, h1, rfl, hr, hs, hb⟩)
    clear TT
    have LS12 := Aside0.mk (show w14.heap.size ≤ w15.heap.size from hb.size)
    replace B := Aside0.mk (below_step B.out hb)
    replace uS := Aside0.mk (Kd.S_below uS.out hb)
    replace uR := Aside0.mk (Kd.R_below uR.out hb)
    replace XW := Aside0.mk (blk_below XW.out hb)
    replace gS := Aside0.mk (Kd.S_below gS.out hb)
    replace gR := Aside0.mk (Kd.R_below gR.out hb)
    replace XG := Aside0.mk (blk_below XG.out hb)
    replace zR := Aside0.mk (Kd.R_below zR.out hb)
    obtain ⟨hA0, hc0, rfl⟩ := Kd.R_slice hr
    obtain ⟨hA1, hc1, rfl⟩ := Kd.S_slice hs
    have hS := Aside0.mk (Kd.S_apart' (S_iv hs) (Kd.R_typed hr) (by decide))
    have hR := Aside0.mk (R_iv hr)
    clear hb hr hs
    clear zR
    obtain ⟨V3, hV3⟩ : ∃ W, w15.alloc (.cells #[.slice hA0 C1.length hc0, .slice hA1 R1.length hc1] 51 (0, 0)) = W := ⟨_, rfl⟩
    have hb : Below w15.heap.size w15 V3 := by rw [← hV3]; exact below_alloc (Below.refl _ _) _
    have LE3 := Aside0.mk (show V3.heap.size = w15.heap.size + 1 by rw [← hV3]; simp)
    replace B := Aside0.mk (below_step B.out hb)
    replace uS := Aside0.mk (Kd.S_below uS.out hb)
    replace uR := Aside0.mk (Kd.R_below uR.out hb)
    replace XW := Aside0.mk (blk_below XW.out hb)
    replace gS := Aside0.mk (Kd.S_below gS.out hb)
    replace gR := Aside0.mk (Kd.R_below gR.out hb)
    replace XG := Aside0.mk (blk_below XG.out hb)
    replace hS := Aside0.mk (Kd.S_below hS.out hb)
    replace hR := Aside0.mk (Kd.R_below hR.out hb)
    have XH := Aside0.mk (show V3.heap[w15.heap.size]? = some (.cells #[.slice hA0 C1.length hc0, .slice hA1 R1.length hc1] 51 (0, 0)) by rw [← hV3]; exact heap_alloc_new w15 _)
    clear hb
    have dXW_0 : V3.cell? ⟨w4.heap.size, 0, none⟩ = some (.slice uA0 C1.length uc0) := (blk_cell XW.out 0).trans rfl
    have dXW_1 : V3.cell? ⟨w4.heap.size, 1, none⟩ = some (.slice uA1 R1.length uc1) := (blk_cell XW.out 1).trans rfl
    have dXH_0 : V3.cell? ⟨w15.heap.size, 0, none⟩ = some (.slice hA0 C1.length hc0) := (blk_cell XH.out 0).trans rfl
    have dXH_1 : V3.cell? ⟨w15.heap.size, 1, none⟩ = some (.slice hA1 R1.length hc1) := (blk_cell XH.out 1).trans rfl
    have TT := Aside0.mk (laws_eqVault.calls k _ _ C1 _ _ R1 _ _ C1 _ _ R1 true V3 (Kd.R_reads' hR.out).2.2 (Kd.R_reads' hR.out).2.1 (Kd.S_reads' hS.out).2.2 (Kd.S_reads' hS.out).2.1 (Kd.R_reads' uR.out).2.2 (Kd.R_reads' uR.out).2.1 (Kd.S_reads' uS.out).2.2 (Kd.S_reads' uS.out).2.1 H6.out)
    go_wp2_with (go_at_call 37; refine TT.out.mono ?_)
    (first | rintro e w16 rfl hb | rintro e w16 ⟨rfl, hb⟩)
    clear TT
    clear dXW_0 dXW_1 dXH_0 dXH_1
    clear hV3
    have LS13 := Aside0.mk (show V3.heap.size ≤ w16.heap.size from hb.size)
    replace B := Aside0.mk (below_step B.out hb)
    replace uS := Aside0.mk (Kd.S_below uS.out hb)
    replace uR := Aside0.mk (Kd.R_below uR.out hb)
    replace XW := Aside0.mk (blk_below XW.out hb)
    replace gS := Aside0.mk (Kd.S_below gS.out hb)
    replace gR := Aside0.mk (Kd.R_below gR.out hb)
    replace XG := Aside0.mk (blk_below XG.out hb)
    replace hS := Aside0.mk (Kd.S_below hS.out hb)
    replace hR := Aside0.mk (Kd.R_below hR.out hb)
    replace XH := Aside0.mk (blk_below XH.out hb)
    clear hb
    have dXG_0 : w16.cell? ⟨w6.heap.size, 0, none⟩ = some (.slice gA0 C1.length gc0) := (blk_cell XG.out 0).trans rfl
    have dXG_1 : w16.cell? ⟨w6.heap.size, 1, none⟩ = some (.slice gA1 R1.length gc1) := (blk_cell XG.out 1).trans rfl
    have TT := Aside0.mk (held_vault (Kd.R_reads' gR.out) (Kd.S_reads' gS.out) H11.out)
    go_wp2_with (go_at_call 45; refine TT.out.mono ?_)
    (first | rintro e w17 rfl hb | rintro e w17 ⟨rfl, hb⟩)
    clear TT
    clear dXG_0 dXG_1
    have LS14 := Aside0.mk (show w16.heap.size ≤ w17.heap.size from hb.size)
    replace B := Aside0.mk (below_step B.out hb)
    replace uS := Aside0.mk (Kd.S_below uS.out hb)
    replace uR := Aside0.mk (Kd.R_below uR.out hb)
    replace XW := Aside0.mk (blk_below XW.out hb)
    replace gS := Aside0.mk (Kd.S_below gS.out hb)
    replace gR := Aside0.mk (Kd.R_below gR.out hb)
    replace XG := Aside0.mk (blk_below XG.out hb)
    replace hS := Aside0.mk (Kd.S_below hS.out hb)
    replace hR := Aside0.mk (Kd.R_below hR.out hb)
    replace XH := Aside0.mk (blk_below XH.out hb)
    clear hb
    go_wp2
    go_ret
    exact ⟨rfl, B.out⟩
end Go.Proofs.Ytjepecinpgjgdaa.PVau
