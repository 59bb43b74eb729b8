/- Top30: the run's steps. -/
import Derived.Test.YtbemkefcaceekaaGreatDoorTop29
set_option linter.unusedVariables false
set_option linter.unusedSimpArgs false
set_option maxRecDepth 100000
namespace Go.Proofs.YtbemkefcaceekaaGreatDoor
open Go.RowKit Go.Lib Go.Shelf Go.Proofs.YtbemkefcaceekaaGreatDoorW.PrintWords Go.Proofs.YtbemkefcaceekaaGreatDoorW.PrintLast

theorem step0 (w0 W : World) (base bm um dm cm hb sb : Nat) (H : Hse) (R : V7) (v : Value) (ht : Tabs w0) (hv : Fs 0 W v) (hS : Sh w0 W base bm um dm cm hb sb H R) (hP : St 0 H R) : Plays v W sb (fun e w' => e = .returned (.string (tells 0)) ∧ (∃ H' R', Sh w0 w' base bm um dm cm hb sb H' R' ∧ St 1 H' R') ∧ Kept W w') := by
  obtain ⟨rfl, rfl⟩ := hP
  obtain ⟨p, q, rfl, hp, hq⟩ := hv
  refine Or.inl ⟨p, q, rfl, ?_⟩
  refine made_red w0 W base bm um dm cm hb sb H0 R0 hS p q c1 hp hq 1 (Lib.hid rfl) (by decide) (by decide) (by decide) (by decide) (by kernel_rfl) (tells 0) (fun w' => ∃ H' R', Sh w0 w' base bm um dm cm hb sb H' R' ∧ St 1 H' R') ?_ ?_
  · intro W1 h1
    exact make_ok W1 base bm um dm cm hb H0 c1 ⟨0, 1⟩ h1.hat (ht.ext h1.ext) ok1 (fun W2 x => ref_reg W2 hb s1 rfl (fun W3 y => user_none W3 base bm um dm cm hb H0 s1 (h1.hat.ext (x.trans y)) rfl (by decide) (ht.ext (h1.ext.trans (x.trans y))))) (by decide)
  · intro W1 h1
    refine (take_red w0 W1 base bm um dm cm hb sb H0 R0 h1 s1 1 (by decide) rfl rfl (by kernel_rfl) (fun g cap => H1 g cap) um (Or.inl rfl) (by decide) (by decide) (fun W2 h2 => ?_)).mono ?_
    · exact do_reg W2 w0 base bm um dm cm hb H0 s1 h2.hat h2.bs h2.ext ht ⟨h2.lo hb (by simp), h2.lob⟩ ok1 rfl (by kernel_rfl) (by decide) (by decide) (by decide) annT ann_fold rfl
    · rintro e w' ⟨rfl, ⟨g, cap, h'⟩, k⟩
      exact ⟨rfl, ⟨_, _, h', g, cap, rfl, rfl⟩, k⟩
theorem step1 (w0 W : World) (base bm um dm cm hb sb : Nat) (H : Hse) (R : V7) (v : Value) (ht : Tabs w0) (hv : Fs 1 W v) (hS : Sh w0 W base bm um dm cm hb sb H R) (hP : St 1 H R) : Plays v W sb (fun e w' => e = .returned (.string (tells 1)) ∧ (∃ H' R', Sh w0 w' base bm um dm cm hb sb H' R' ∧ St 2 H' R') ∧ Kept W w') := by
  obtain ⟨g, cap, rfl, rfl⟩ := hP
  obtain ⟨p, q, rfl, hp, hq⟩ := hv
  refine Or.inl ⟨p, q, rfl, ?_⟩
  refine made_blue w0 W base bm um dm cm hb sb (H1 g cap) R1 hS p q c2 hp hq 1 (Lib.hid rfl) (by show (0 : Int) ≤ 0; decide) (by show (0 : Int) ≤ 1000; decide) (by kernel_rfl) (tells 1) (fun w' => ∃ H' R', Sh w0 w' base bm um dm cm hb sb H' R' ∧ St 2 H' R') ?_ ?_
  · intro W1 h1
    exact make_ok W1 base bm um dm cm hb (H1 g cap) c2 ⟨0, 1⟩ h1.hat (ht.ext h1.ext) (ok2 g cap) (fun W2 x => ref_open W2 hb (s2 g cap) rfl) (by decide)
  · intro W1 h1
    refine (take_blue w0 W1 base bm um dm cm hb sb (H1 g cap) (H2 g cap) R1 h1 (s2 g cap) 1 (by decide) rfl rfl (by kernel_rfl) (fun W2 h2 => ?_)).mono ?_
    · exact blue_ok W2 base bm um dm cm hb (H1 g cap) (s2 g cap) 0 h2.hat (ht.ext h2.ext) (ok2 g cap) (by kernel_rfl) rfl rfl rfl (by decide) (by decide) (by kernel_rfl) (by show ((0 + 1 : Nat) : Int) ≤ ((0 + 1 : Nat) : Int); decide) (by show 0 + 1 ≤ 1000; decide) rfl
    · rintro e w' ⟨rfl, h', k⟩
      exact ⟨rfl, ⟨_, _, h', g, cap, rfl, rfl⟩, k⟩
theorem step2 (w0 W : World) (base bm um dm cm hb sb : Nat) (H : Hse) (R : V7) (v : Value) (ht : Tabs w0) (hv : Fs 2 W v) (hS : Sh w0 W base bm um dm cm hb sb H R) (hP : St 2 H R) : Plays v W sb (fun e w' => e = .returned (.string (tells 2)) ∧ (∃ H' R', Sh w0 w' base bm um dm cm hb sb H' R' ∧ St 3 H' R') ∧ Kept W w') := by
  obtain ⟨g, cap, rfl, rfl⟩ := hP
  obtain ⟨p, q, rfl, hp, hq⟩ := hv
  refine Or.inl ⟨p, q, rfl, ?_⟩
  refine made_blue w0 W base bm um dm cm hb sb (H2 g cap) R1 hS p q c3 hp hq 2 (Lib.hid (by kernel_rfl)) (by show (0 : Int) ≤ 1; decide) (by show (1 : Int) ≤ 1000; decide) (by kernel_rfl) (tells 2) (fun w' => ∃ H' R', Sh w0 w' base bm um dm cm hb sb H' R' ∧ St 3 H' R') ?_ ?_
  · intro W1 h1
    exact make_ok W1 base bm um dm cm hb (H2 g cap) c3 ⟨0, 2⟩ h1.hat (ht.ext h1.ext) (ok3 g cap) (fun W2 x => ref_bid W2 hb (s3 g cap) rfl (aucs_one W2 base bm um dm cm hb (H2 g cap) (h1.hat.ext x) ⟨0, 1⟩ (s2 g cap) rfl rfl rfl rfl)
      (fun W3 y => user_one W3 base bm um dm cm hb (H2 g cap) (s3 g cap) (.bool true) (h1.hat.ext (x.trans y)) rfl rfl (by show annT.size ≤ _; decide) ann_fold (ht.ext (h1.ext.trans (x.trans y))))) (by decide)
  · intro W1 h1
    refine (take_blue w0 W1 base bm um dm cm hb sb (H2 g cap) (H3 g cap) R1 h1 (s3 g cap) 2 (by decide) rfl rfl (by kernel_rfl) (fun W2 h2 => ?_)).mono ?_
    · exact blue_ok W2 base bm um dm cm hb (H2 g cap) (s3 g cap) 1 h2.hat (ht.ext h2.ext) (ok3 g cap) (by kernel_rfl) rfl rfl (by kernel_rfl) (by decide) (by decide) (by kernel_rfl) (by show ((0 + 1 : Nat) : Int) ≤ ((0 + 1 : Nat) : Int); decide) (by show 0 + 1 ≤ 1000; decide) (by kernel_rfl)
    · rintro e w' ⟨rfl, h', k⟩
      exact ⟨rfl, ⟨_, _, h', g, cap, rfl, rfl⟩, k⟩
theorem step3 (w0 W : World) (base bm um dm cm hb sb : Nat) (H : Hse) (R : V7) (v : Value) (ht : Tabs w0) (hv : Fs 3 W v) (hS : Sh w0 W base bm um dm cm hb sb H R) (hP : St 3 H R) : Plays v W sb (fun e w' => e = .returned (.string (tells 3)) ∧ (∃ H' R', Sh w0 w' base bm um dm cm hb sb H' R' ∧ St 4 H' R') ∧ Kept W w') := by
  obtain ⟨g, cap, rfl, rfl⟩ := hP
  obtain ⟨p, q, rfl, hp, hq⟩ := hv
  refine Or.inl ⟨p, q, rfl, ?_⟩
  refine made_red w0 W base bm um dm cm hb sb (H3 g cap) R1 hS p q c4 hp hq 2 (Lib.hid (by kernel_rfl)) (by show (0 : Int) ≤ 1; decide) (by show (1 : Int) ≤ 1000; decide) (by show (0 : Int) ≤ 2; decide) (by show (2 : Int) ≤ 1000; decide) (by kernel_rfl) (tells 3) (fun w' => ∃ H' R', Sh w0 w' base bm um dm cm hb sb H' R' ∧ St 4 H' R') ?_ ?_
  · intro W1 h1
    exact make_ok W1 base bm um dm cm hb (H3 g cap) c4 ⟨0, 2⟩ h1.hat (ht.ext h1.ext) (ok4 g cap) (fun W2 x => ref_close W2 hb (s4 g cap) rfl (aucs_two W2 base bm um dm cm hb (H3 g cap) (h1.hat.ext x) ⟨0, 1⟩ ⟨0, 2⟩ (s2 g cap) (s3 g cap) rfl rfl rfl rfl rfl)) (by decide)
  · intro W1 h1
    refine (take_red w0 W1 base bm um dm cm hb sb (H3 g cap) R1 h1 (s4 g cap) 2 (by decide) rfl rfl (by kernel_rfl) (fun g' cap' => H4 g cap g' cap') cm (Or.inr rfl) (by show (0 : Int) ≤ 1; decide) (by show (1 : Int) ≤ 1000; decide) (fun W2 h2 => ?_)).mono ?_
    · exact do_close W2 w0 base bm um dm cm hb (H3 g cap) (s4 g cap) h2.hat h2.bs h2.ext ht ⟨h2.lo hb (by simp), h2.lob⟩ (ok4 g cap) rfl (by kernel_rfl) (by show ((0 + 1 : Nat) : Int) ≤ ((0 + 1 : Nat) : Int); decide) (by show 0 + 1 ≤ 1000; decide) (by show (ByteArray.mk #[]).size ≤ 1048576; decide)
        ⟨0, 1⟩ ⟨0, 2⟩ (s2 g cap) (s3 g cap) 0 0 1 annT rfl rfl rfl rfl rfl (by kernel_rfl) (by kernel_rfl) (by kernel_rfl) (by kernel_rfl) (by kernel_rfl) (by show annT.size ≤ _; decide) ann_fold (by kernel_rfl) rfl
    · rintro e w' ⟨rfl, ⟨g', cap', h'⟩, k⟩
      exact ⟨rfl, ⟨_, _, h', g, cap, g', cap', rfl, rfl⟩, k⟩
theorem step4 (w0 W : World) (base bm um dm cm hb sb : Nat) (H : Hse) (R : V7) (v : Value) (ht : Tabs w0) (hv : Fs 4 W v) (hS : Sh w0 W base bm um dm cm hb sb H R) (hP : St 4 H R) : Plays v W sb (fun e w' => e = .returned (.string (tells 4)) ∧ (∃ H' R', Sh w0 w' base bm um dm cm hb sb H' R' ∧ St 5 H' R') ∧ Kept W w') := by
  obtain ⟨g, cap, g', cap', rfl, rfl⟩ := hP
  obtain ⟨p, rfl, hp⟩ := hv
  refine Or.inr ⟨p, rfl, ?_⟩
  refine (winner1_any w0 W base bm um dm cm hb sb (H4 g cap g' cap') R2 hS p ⟨0, 1⟩ hp 2 5 0 annT (by kernel_rfl) (by decide) (by decide) (by decide) (by decide)).mono ?_
  rintro e w' ⟨rfl, h', k⟩
  exact ⟨rfl, ⟨_, _, h', g, cap, g', cap', rfl, rfl⟩, k⟩
theorem steps_all (w0 W : World) (base bm um dm cm hb sb : Nat) (H : Hse) (R : V7) (i : Nat) (v : Value) (hi : i < lns.length) (ht : Tabs w0) (hv : Fs i W v) (hS : Sh w0 W base bm um dm cm hb sb H R) (hP : St i H R) :
    Plays v W sb (fun e w' => e = .returned (.string (tells i)) ∧ (∃ H' R', Sh w0 w' base bm um dm cm hb sb H' R' ∧ St (i + 1) H' R') ∧ Kept W w') := by
  match i, hi, hv, hP with
  | 0, _, hv, hP => exact step0 w0 W base bm um dm cm hb sb H R v ht hv hS hP
  | 1, _, hv, hP => exact step1 w0 W base bm um dm cm hb sb H R v ht hv hS hP
  | 2, _, hv, hP => exact step2 w0 W base bm um dm cm hb sb H R v ht hv hS hP
  | 3, _, hv, hP => exact step3 w0 W base bm um dm cm hb sb H R v ht hv hS hP
  | 4, _, hv, hP => exact step4 w0 W base bm um dm cm hb sb H R v ht hv hS hP
  | (n + 5), hi, _, _ => exact absurd hi (by show ¬ n + 5 < 5; omega)
end Go.Proofs.YtbemkefcaceekaaGreatDoor
