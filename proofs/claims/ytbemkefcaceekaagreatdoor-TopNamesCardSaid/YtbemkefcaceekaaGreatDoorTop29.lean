/- Top29: the run's states. -/
import Derived.Test.YtbemkefcaceekaaGreatDoorTop28
set_option linter.unusedVariables false
set_option linter.unusedSimpArgs false
set_option maxRecDepth 100000
namespace Go.Proofs.YtbemkefcaceekaaGreatDoor
open Go.RowKit Go.Lib Go.Shelf Go.Proofs.YtbemkefcaceekaaGreatDoorW.PrintWords Go.Proofs.YtbemkefcaceekaaGreatDoorW.PrintLast

def d1 : Dt := ⟨0, 1⟩
def d2 : Dt := ⟨0, 2⟩
def c1 : Cl := ⟨5, ⟨#[]⟩, annT, ⟨0, 0⟩, ⟨0, 0⟩, 0⟩
def c2 : Cl := ⟨1, vaseT, ⟨#[]⟩, ⟨0, 0⟩, ⟨0, 0⟩, 0⟩
def c3 : Cl := ⟨2, ⟨#[]⟩, annT, ⟨0, 1⟩, ⟨0, 0⟩, 5⟩
def c4 : Cl := ⟨7, ⟨#[]⟩, ⟨#[]⟩, ⟨0, 1⟩, ⟨0, 0⟩, 0⟩
def R0 : V7 := fun _ => 0
def R1 : V7 := upd R0 0 (R0 0 + 1)
def R2 : V7 := upd R1 0 (R1 0 + 1)
def s1 : Stp := mkS H0 c1 ⟨0, 1⟩
def H1 (g cap : Nat) : Hse := { H0 with red := .slice (some ⟨g, 0, none⟩) (H0.nred + 1) cap, nred := H0.nred + 1, users := H0.users ++ [(annT, Value.bool true, H0.uc)], uc := H0.uc + 1 }
def s2 (g cap : Nat) : Stp := mkS (H1 g cap) c2 ⟨0, 1⟩
def H2 (g cap : Nat) : Hse := { H1 g cap with have' := upd (H1 g cap).have' 0 (0 + 1), blue := (H1 g cap).blue ++ [((s2 g cap).dot, (s2 g cap).V, (H1 g cap).bc)], bc := (H1 g cap).bc + 1 }
def s3 (g cap : Nat) : Stp := mkS (H2 g cap) c3 ⟨0, 2⟩
def H3 (g cap : Nat) : Hse := { H2 g cap with have' := upd (H2 g cap).have' 0 (1 + 1), blue := (H2 g cap).blue ++ [((s3 g cap).dot, (s3 g cap).V, (H2 g cap).bc)], bc := (H2 g cap).bc + 1 }
def s4 (g cap : Nat) : Stp := mkS (H3 g cap) c4 ⟨0, 2⟩
def H4 (g cap g' cap' : Nat) : Hse := { H3 g cap with red := .slice (some ⟨g', 0, none⟩) ((H3 g cap).nred + 1) cap', nred := (H3 g cap).nred + 1, closed := (H3 g cap).closed ++ [((s4 g cap).auc, outV d2 (s3 g cap).user (s3 g cap).amount, (H3 g cap).cc)], cc := (H3 g cap).cc + 1 }
def St (i : Nat) (H : Hse) (R : V7) : Prop :=
  match i with
  | 0 => H = H0 ∧ R = R0
  | 1 => ∃ g cap, H = H1 g cap ∧ R = R1
  | 2 => ∃ g cap, H = H2 g cap ∧ R = R1
  | 3 => ∃ g cap, H = H3 g cap ∧ R = R1
  | _ => ∃ g cap g' cap', H = H4 g cap g' cap' ∧ R = R2
theorem ok1 : Okay s1 := ⟨by decide, by decide, by kernel_rfl, by kernel_rfl, by decide, by decide, Or.inl (by kernel_rfl), _, _, _, _, _, _, fun w => needs_5 w, Or.inr ⟨rfl, rfl⟩, Or.inl ⟨rfl, by decide, ann_good⟩, Or.inr ⟨rfl, rfl⟩, Or.inr ⟨rfl, rfl⟩, Or.inr ⟨rfl, rfl⟩, Or.inr ⟨rfl, rfl⟩⟩
theorem ok2 (g cap : Nat) : Okay (s2 g cap) := ⟨by show (1 : Int) ≤ 1; decide, by show (1 : Int) ≤ 7; decide, by kernel_rfl, by kernel_rfl, by show (0 : Int) ≤ ((0 + 1 : Nat) : Int); decide, by show ((0 + 1 : Nat) : Int) ≤ 1000; decide, Or.inr ⟨by intro h; exact absurd h (by show ¬ (5 : Int) ≤ 1; decide), rfl, by kernel_rfl⟩, _, _, _, _, _, _, fun w => needs_1 w, Or.inl ⟨rfl, by show vaseT.size ≤ _; decide, vase_good⟩, Or.inr ⟨rfl, rfl⟩, Or.inr ⟨rfl, rfl⟩, Or.inr ⟨rfl, rfl⟩, Or.inr ⟨rfl, rfl⟩, Or.inr ⟨rfl, rfl⟩⟩
theorem ok3 (g cap : Nat) : Okay (s3 g cap) := ⟨by show (1 : Int) ≤ 2; decide, by show (2 : Int) ≤ 7; decide, by kernel_rfl, by kernel_rfl, by show (0 : Int) ≤ ((0 + 1 : Nat) : Int); decide, by show ((0 + 1 : Nat) : Int) ≤ 1000; decide, Or.inr ⟨by intro h; exact absurd h (by show ¬ (5 : Int) ≤ 2; decide), rfl, by kernel_rfl⟩, _, _, _, _, _, _, fun w => needs_2 w, Or.inr ⟨rfl, rfl⟩, Or.inl ⟨rfl, by show annT.size ≤ _; decide, ann_good⟩, Or.inl ⟨rfl, by kernel_rfl⟩, Or.inr ⟨rfl, rfl⟩, Or.inl ⟨rfl, by show (1 : Int) ≤ 5; decide, by show (5 : Int) ≤ _; decide⟩, Or.inr ⟨rfl, rfl⟩⟩
theorem ok4 (g cap : Nat) : Okay (s4 g cap) := ⟨by show (1 : Int) ≤ 7; decide, by show (7 : Int) ≤ 7; decide, by kernel_rfl, by kernel_rfl, by show (0 : Int) ≤ ((0 + 1 : Nat) : Int); decide, by show ((0 + 1 : Nat) : Int) ≤ 1000; decide, Or.inl (by kernel_rfl), _, _, _, _, _, _, fun w => needs_7 w, Or.inr ⟨rfl, rfl⟩, Or.inr ⟨rfl, rfl⟩, Or.inl ⟨rfl, by kernel_rfl⟩, Or.inr ⟨rfl, rfl⟩, Or.inr ⟨rfl, rfl⟩, Or.inr ⟨rfl, rfl⟩⟩
theorem MadeAt.thru {W W' : World} {v : Value} {r : Int} {c : Cl} (h : MadeAt W v r c) (x : Thru W W') : MadeAt W' v r c := by
  obtain ⟨p, q, h1, h2, h3⟩ := h
  exact ⟨p, q, h1, x _ _ h2 (by simp), x _ _ h3 (by simp)⟩
theorem WinAt.thru {W W' : World} {v : Value} {r n : Int} (h : WinAt W v r n) (x : Thru W W') : WinAt W' v r n := by
  obtain ⟨p, h1, h2⟩ := h
  exact ⟨p, h1, x _ _ h2 (by simp)⟩
def Fs (i : Nat) (W : World) (v : Value) : Prop :=
  match i with
  | 0 => MadeAt W v 0 c1
  | 1 => MadeAt W v 0 c2
  | 2 => MadeAt W v 0 c3
  | 3 => MadeAt W v 0 c4
  | _ => WinAt W v 0 1
theorem fs_func (i : Nat) (W : World) (v : Value) (h : Fs i W v) : ∃ fn caps, v = .func fn #[] caps := by
  unfold Fs at h
  split at h
  all_goals first | (obtain ⟨p, q, rfl, -⟩ := h; exact ⟨_, _, rfl⟩) | (obtain ⟨p, rfl, -⟩ := h; exact ⟨_, _, rfl⟩)
theorem fs_keep (i : Nat) (W W' : World) (v : Value) (h : Fs i W v) (x : Thru W W') : Fs i W' v := by
  unfold Fs at h ⊢
  split at h
  all_goals first | exact MadeAt.thru h x | exact WinAt.thru h x
theorem line0 (mx : Int) : Line ln0 ps0 (Fs 0) mx := ⟨ln0_parts, by decide, by decide, fun W blk c hm hrow hc hbig => read_register W blk 0 c 0 mx ⟨#[48]⟩ annT 0 sp0 hm hrow hc hbig, fs_func 0, fs_keep 0⟩
theorem line1 (mx : Int) : Line ln1 ps1 (Fs 1) mx := ⟨ln1_parts, by decide, by decide, fun W blk c hm hrow hc hbig => read_open W blk 0 c 0 mx ⟨#[48]⟩ vaseT 0 sp0 hm hrow hc hbig, fs_func 1, fs_keep 1⟩
theorem line2 (mx : Int) : Line ln2 ps2 (Fs 2) mx := ⟨ln2_parts, by decide, by decide, fun W blk c hm hrow hc hbig => read_bid W blk 0 c 0 mx ⟨#[48]⟩ 0 sp0 ⟨#[48, 46, 49]⟩ ⟨#[48]⟩ ⟨#[49]⟩ 0 1 (by decide +kernel) cut01 sp0 sp1 annT ⟨#[53]⟩ 5 sp5 hm hrow hc hbig, fs_func 2, fs_keep 2⟩
theorem line3 (mx : Int) : Line ln3 ps3 (Fs 3) mx := ⟨ln3_parts, by decide, by decide, fun W blk c hm hrow hc hbig => read_close W blk 0 c 0 mx ⟨#[48]⟩ 0 sp0 ⟨#[48, 46, 49]⟩ ⟨#[48]⟩ ⟨#[49]⟩ 0 1 (by decide +kernel) cut01 sp0 sp1 hm hrow hc hbig, fs_func 3, fs_keep 3⟩
theorem line4 (mx : Int) : Line ln4 ps4 (Fs 4) mx := ⟨ln4_parts, by decide, by decide, fun W blk c hm hrow hc hbig => read_winner W blk 0 c 0 mx ⟨#[48, 46, 49]⟩ ⟨#[48]⟩ ⟨#[49]⟩ 0 1 (by decide +kernel) cut01 sp0 sp1 hm hrow hc hbig, fs_func 4, fs_keep 4⟩
theorem lines_all (mx : Int) : ∀ i x, lns[i]? = some x → Line x (pss i) (Fs i) mx := by
  intro i x h
  match i, h with
  | 0, h => obtain rfl : ln0 = x := by simpa [lns] using h
            exact line0 mx
  | 1, h => obtain rfl : ln1 = x := by simpa [lns] using h
            exact line1 mx
  | 2, h => obtain rfl : ln2 = x := by simpa [lns] using h
            exact line2 mx
  | 3, h => obtain rfl : ln3 = x := by simpa [lns] using h
            exact line3 mx
  | 4, h => obtain rfl : ln4 = x := by simpa [lns] using h
            exact line4 mx
  | (n + 5), h => simp [lns] at h
end Go.Proofs.YtbemkefcaceekaaGreatDoor
