import Derived.Test.YtjepecinpgjgdaaYVaucuts
import Derived.Test.YtjepecinpgjgdaaYVaucutsI
import Derived.Test.YtjepecinpgjgdaaEv
/-! The rolled hash of a text: the program's and the reference's are one. -/
namespace Go.Proofs.Ytjepecinpgjgdaa.ZVau
open Go.RowKit Go.Proofs.Ytjepecinpgjgdaa.PVau Go.Proofs.YtjepecinpgjgdaaW.PrintWords Go.Proofs.YtjepecinpgjgdaaW.PrintLast Go.Proofs.YtjepecinpgjgdaaW.PrintMore Go.Proofs.Ytjepecinpgjgdaa.E
set_option linter.unusedSimpArgs false
set_option linter.unusedVariables false

def hash (s : ByteArray) : Nat → Int → Int → Int
 | 0, h, _ => h
 | f + 1, h, i => hash s f ((31 * h + bt s i) % 4093) (i + 1)
def hsh (s : ByteArray) : Int := hash s s.size 0 0
theorem hash_bd (s : ByteArray) : ∀ (f : Nat) (h i : Int), 0 ≤ h → h < 4093 → 0 ≤ hash s f h i ∧ hash s f h i < 4093 := by
 intro f
 induction f with
 | zero => intro h i h0 h1; exact ⟨h0, h1⟩
 | succ f ih => intro h i h0 h1; exact ih _ _ (by omega) (by omega)
theorem hsh_bd (s : ByteArray) : 0 ≤ hsh s ∧ hsh s < 4093 := hash_bd s s.size 0 0 (by omega) (by omega)
theorem hash_w (s : ByteArray) (h i : Int) (h0 : 0 ≤ h) (h1 : h < 4093) : Int.tmod (wrap64 (wrap64 (31 * h) + wrap64 (bt s i))) 4093 = (31 * h + bt s i) % 4093 := by
 have b0 := bt_nonneg s i
 have b1 := bt_lt s i
 rw [w64 (x := 31 * h) (by omega) (by omega), w64 (x := bt s i) (by omega) (by omega), w64 (x := 31 * h + bt s i) (by omega) (by omega), tmod_pos (by omega)]
theorem spec_hash_l (s : ByteArray) (hs : s.size ≤ 140737488351232) : ∀ (f : Nat) (h i : Int), 0 ≤ h → h < 4093 → 0 ≤ i → i + f = s.size → Ev (fun k => spec_l15Hash.l0 k s h i) (hash s f h i) := by
 intro f
 induction f with
 | zero =>
  intro h i _ _ h0 h1
  refine Ev.step (fun _ => spec_l15Hash.l0.eq_2 ..) ?_
  exact ev_neg (by omega) (ev_ret rfl)
 | succ f ih =>
  intro h i ha hb h0 h1
  refine Ev.step (fun _ => spec_l15Hash.l0.eq_2 ..) ?_
  refine ev_pos (by omega) (ev_pos h0 ?_)
  rw [w64 (x := i + 1) (by omega) (by omega), hash_w s h i ha hb]
  exact ih _ _ (by omega) (by omega) (by omega) (by omega)
theorem impl_hash_l (s : ByteArray) (hs : s.size ≤ 140737488351232) : ∀ (f : Nat) (h i : Int), 0 ≤ h → h < 4093 → 0 ≤ i → i + f = s.size → Ev (fun k => impl_rolled.l0 k s h s.size i) (hash s f h i) := by
 intro f
 induction f with
 | zero =>
  intro h i _ _ h0 h1
  refine Ev.step (fun _ => impl_rolled.l0.eq_2 ..) ?_
  exact ev_neg (by omega) (ev_ret rfl)
 | succ f ih =>
  intro h i ha hb h0 h1
  refine Ev.step (fun _ => impl_rolled.l0.eq_2 ..) ?_
  refine ev_pos (by omega) (ev_pos h0 (ev_pos (by omega) ?_))
  rw [w64 (x := i + 1) (by omega) (by omega), hash_w s h i ha hb]
  exact ih _ _ (by omega) (by omega) (by omega) (by omega)
theorem spec_hash (s : ByteArray) (hs : s.size ≤ 140737488351232) : Ev (fun k => spec_l15Hash.f k s) (hsh s) := by
 unfold spec_l15Hash.f hsh
 exact spec_hash_l s hs _ _ _ (by omega) (by omega) (by omega) (by omega)
theorem impl_hash (s : ByteArray) (hs : s.size ≤ 140737488351232) : Ev (fun k => impl_rolled.f k s) (hsh s) := by
 unfold impl_rolled.f hsh
 exact impl_hash_l s hs _ _ _ (by omega) (by omega) (by omega) (by omega)
end Go.Proofs.Ytjepecinpgjgdaa.ZVau
