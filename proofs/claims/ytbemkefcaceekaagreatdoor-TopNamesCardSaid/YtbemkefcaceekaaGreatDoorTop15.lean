/- Top15: why a step is refused: it is not. -/
import Derived.Test.YtbemkefcaceekaaGreatDoorTop14
set_option linter.unusedVariables false
set_option linter.unusedSimpArgs false
set_option maxRecDepth 100000
namespace Go.Proofs.YtbemkefcaceekaaGreatDoor
open Go.RowKit Go.Lib Go.Shelf Go.Proofs.YtbemkefcaceekaaGreatDoorW.PrintWords Go.Proofs.YtbemkefcaceekaaGreatDoorW.PrintLast

/-- The maker's step is not refused. -/
def Unref (w : World) (hb : Nat) (s : Stp) : Prop := ∀ W, Ext w W → Calls Tryz.prog 66 #[.agg (mkL hb s).toArray] W fun e w' => e = .returned (.int .i64 0) ∧ Ext W w'
set_option maxHeartbeats 4000000 in
theorem ref_reg (w : World) (hb : Nat) (s : Stp) (hk : s.kind = 5) (hu : ∀ W, Ext w W → Calls Tryz.prog 104 #[.agg (mkL hb s).toArray] W fun e w' => e = .returned (.int .i64 4) ∧ Ext W w') :
    Calls Tryz.prog 66 #[.agg (mkL hb s).toArray] w fun e w' => e = .returned (.int .i64 0) ∧ Ext w w' := by
  obtain ⟨gb, Hg⟩ : ∃ h, Hid (w.heap.size = h) := ⟨_, Lib.hid rfl⟩
  obtain ⟨w1, H1⟩ : ∃ x, Hid (w.alloc (.cells (mkL hb s).toArray 111) = x) := ⟨_, Lib.hid rfl⟩
  have hx1 : Ext w w1 := by rw [← H1.out]; exact (Ext.refl w).alloc _
  have hR : w1.rangeAt gb 0 (mkL hb s) := by rw [← H1.out, ← Hg.out]; exact rangeAt_new w _ _
  obtain ⟨d0, d1, d2, d3, d4⟩ := mk_cells hR
  have HR := Lib.hid hR
  rw [hk] at d1
  have hh := Hg.out
  have q1 := H1.out
  clear hR hk
  go_enter Tryz.func66, Tryz.ntmps66
  go_wp2_with ((with_reducible refine gate_dst (N := 30) rfl ?_); refine halt ?_)
  refine unhalt (wpList_load_mid rfl 111 _ rfl gb 0 rfl (mkL hb s) _ (HR.out) Tryz.underlying111 rfl (by kernel_rfl) ?_)
  try clear hh q1
  go_wp2_with fail
  refine (hu _ hx1).mono ?_
  rintro e w2 ⟨rfl, x2⟩
  go_wp2
  go_ret
  exact ⟨rfl, hx1.trans x2⟩
set_option maxHeartbeats 4000000 in
theorem ref_open (w : World) (hb : Nat) (s : Stp) (hk : s.kind = 1)  :
    Calls Tryz.prog 66 #[.agg (mkL hb s).toArray] w fun e w' => e = .returned (.int .i64 0) ∧ Ext w w' := by
  obtain ⟨gb, Hg⟩ : ∃ h, Hid (w.heap.size = h) := ⟨_, Lib.hid rfl⟩
  obtain ⟨w1, H1⟩ : ∃ x, Hid (w.alloc (.cells (mkL hb s).toArray 111) = x) := ⟨_, Lib.hid rfl⟩
  have hx1 : Ext w w1 := by rw [← H1.out]; exact (Ext.refl w).alloc _
  have hR : w1.rangeAt gb 0 (mkL hb s) := by rw [← H1.out, ← Hg.out]; exact rangeAt_new w _ _
  obtain ⟨d0, d1, d2, d3, d4⟩ := mk_cells hR
  have HR := Lib.hid hR
  rw [hk] at d1
  have hh := Hg.out
  have q1 := H1.out
  clear hR hk
  go_enter Tryz.func66, Tryz.ntmps66
  go_wp2
  go_ret
  exact ⟨rfl, hx1⟩
set_option maxHeartbeats 4000000 in
theorem ref_close (w : World) (hb : Nat) (s : Stp) (hk : s.kind = 7) (ha : Aucs w hb s.auc) :
    Calls Tryz.prog 66 #[.agg (mkL hb s).toArray] w fun e w' => e = .returned (.int .i64 0) ∧ Ext w w' := by
  obtain ⟨gb, Hg⟩ : ∃ h, Hid (w.heap.size = h) := ⟨_, Lib.hid rfl⟩
  obtain ⟨w1, H1⟩ : ∃ x, Hid (w.alloc (.cells (mkL hb s).toArray 111) = x) := ⟨_, Lib.hid rfl⟩
  have hx1 : Ext w w1 := by rw [← H1.out]; exact (Ext.refl w).alloc _
  have hR : w1.rangeAt gb 0 (mkL hb s) := by rw [← H1.out, ← Hg.out]; exact rangeAt_new w _ _
  obtain ⟨d0, d1, d2, d3, d4⟩ := mk_cells hR
  have HR := Lib.hid hR
  rw [hk] at d1
  have hh := Hg.out
  have q1 := H1.out
  clear hR hk
  go_enter Tryz.func66, Tryz.ntmps66
  go_wp2_with ((with_reducible refine gate_dst (N := 52) rfl ?_); refine halt ?_)
  refine unhalt (wpList_load_mid rfl 111 _ rfl gb 0 rfl (mkL hb s) _ (HR.out) Tryz.underlying111 rfl (by kernel_rfl) ?_)
  try clear hh q1
  have ka := fun W h => auction_ok W hb s s.auc h
  unfold dotv at ka
  go_wp2_with fail
  refine (ka _ (ha.ext hx1)).mono ?_
  rintro e w2 ⟨rfl, x2⟩
  go_wp2
  go_ret
  exact ⟨rfl, hx1.trans x2⟩
set_option maxHeartbeats 4000000 in
theorem ref_bid (w : World) (hb : Nat) (s : Stp) (hk : s.kind = 2) (ha : Aucs w hb s.auc) (hu : ∀ W, Ext w W → Calls Tryz.prog 104 #[.agg (mkL hb s).toArray] W fun e w' => e = .returned (.int .i64 0) ∧ Ext W w') :
    Calls Tryz.prog 66 #[.agg (mkL hb s).toArray] w fun e w' => e = .returned (.int .i64 0) ∧ Ext w w' := by
  obtain ⟨gb, Hg⟩ : ∃ h, Hid (w.heap.size = h) := ⟨_, Lib.hid rfl⟩
  obtain ⟨w1, H1⟩ : ∃ x, Hid (w.alloc (.cells (mkL hb s).toArray 111) = x) := ⟨_, Lib.hid rfl⟩
  have hx1 : Ext w w1 := by rw [← H1.out]; exact (Ext.refl w).alloc _
  have hR : w1.rangeAt gb 0 (mkL hb s) := by rw [← H1.out, ← Hg.out]; exact rangeAt_new w _ _
  obtain ⟨d0, d1, d2, d3, d4⟩ := mk_cells hR
  have HR := Lib.hid hR
  rw [hk] at d1
  have hh := Hg.out
  have q1 := H1.out
  clear hR hk
  go_enter Tryz.func66, Tryz.ntmps66
  go_wp2_with ((with_reducible refine gate_dst (N := 10) rfl ?_); refine halt ?_)
  refine unhalt (wpList_load_mid rfl 111 _ rfl gb 0 rfl (mkL hb s) _ (HR.out) Tryz.underlying111 rfl (by kernel_rfl) ?_)
  try clear hh q1
  have ka := fun W h => auction_ok W hb s s.auc h
  unfold dotv at ka
  go_wp2_with fail
  refine (ka _ (ha.ext hx1)).mono ?_
  rintro e w2 ⟨rfl, x2⟩
  go_wp2_with ((with_reducible refine gate_dst (N := 18) rfl ?_); refine halt ?_)
  refine unhalt (wpList_load_mid rfl 111 _ rfl gb 0 rfl (mkL hb s) _ (rangeAt_ext HR.out x2) Tryz.underlying111 rfl (by kernel_rfl) ?_)
  go_wp2_with fail
  refine (hu _ (hx1.trans x2)).mono ?_
  rintro e w3 ⟨rfl, x3⟩
  go_wp2
  go_ret
  exact ⟨rfl, (hx1.trans x2).trans x3⟩
end Go.Proofs.YtbemkefcaceekaaGreatDoor
