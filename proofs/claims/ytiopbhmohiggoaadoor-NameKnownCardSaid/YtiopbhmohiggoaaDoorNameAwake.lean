/- awake: what the document tells of two letters. -/
import Derived.Test.YtiopbhmohiggoaaDoorName2
import Derived.Test.YtiopbhmohiggoaaDoorName3
set_option linter.unusedVariables false
namespace Go.Proofs.YtiopbhmohiggoaaDoor
open Go.RowKit Go.Lib Go.Shelf Go.Proofs.YtiopbhmohiggoaaDoorW.PrintWords
set_option maxHeartbeats 4000000
set_option maxRecDepth 100000

theorem c_len : (CH ⟨#[97, 195, 169]⟩).length = 2 := by kernel_rfl
theorem c_fold : foldL (CH ⟨#[65, 98]⟩) = [97, 98] := by kernel_rfl
theorem c_good : goodL (CH ⟨#[97, 110, 110, 45, 50]⟩) = true := by kernel_rfl
theorem c_bad : goodL (CH ⟨#[50]⟩) = false := by kernel_rfl
theorem c_cmp : cmpL (zr ⟨#[97]⟩) (zr ⟨#[98]⟩) = -1 := by kernel_rfl

theorem a_len (w : World) : Calls Tryd.prog 11 #[.string ⟨#[97, 195, 169]⟩] w fun e w' => e = .returned (.int .i64 2) ∧ Ext w w' := by
  refine (len_any _ w (by decide)).mono ?_
  rintro e w' ⟨rfl, x⟩
  exact ⟨by rw [c_len]; rfl, x⟩
theorem a_fold (w : World) (ht : Tabs w) : Calls Tryd.prog 12 #[.string ⟨#[65, 98]⟩] w fun e w' => e = .returned (.string ⟨#[97, 98]⟩) ∧ Ext w w' := by
  refine (fold_any _ w (by decide) ht).mono ?_
  rintro e w' ⟨rfl, x⟩
  exact ⟨by rw [c_fold], x⟩
theorem a_good (w : World) (ht : Tabs w) : Calls Tryd.prog 13 #[.string ⟨#[97, 110, 110, 45, 50]⟩] w fun e w' => e = .returned (.bool true) ∧ Ext w w' := by
  refine (good_any _ w (by decide) ht).mono ?_
  rintro e w' ⟨rfl, x⟩
  exact ⟨by rw [c_good], x⟩
theorem a_bad (w : World) (ht : Tabs w) : Calls Tryd.prog 13 #[.string ⟨#[50]⟩] w fun e w' => e = .returned (.bool false) ∧ Ext w w' := by
  refine (good_any _ w (by decide) ht).mono ?_
  rintro e w' ⟨rfl, x⟩
  exact ⟨by rw [c_bad], x⟩
theorem a_cmp (w : World) : Calls Tryd.prog 10 #[.string ⟨#[97]⟩, .string ⟨#[98]⟩] w fun e w' => e = .returned (.int .i64 (-1)) ∧ Ext w w' := by
  refine (cmp_any _ _ w (by decide) (by decide)).mono ?_
  rintro e w' ⟨rfl, x⟩
  exact ⟨by rw [c_cmp], x⟩

theorem awake_any (w : World) (ht : Tabs w) : Calls Tryd.prog 9 #[] w fun e w' => e = .returned (.bool true) ∧ Ext w w' := by
  go_enter Tryd.func9, Tryd.ntmps9
  go_wp2_with (go_at_call 11; refine (a_len _).mono ?_)
  rintro e w1 ⟨rfl, x1⟩
  go_wp2_with (go_at_call 12; refine (a_fold _ (ht.ext x1)).mono ?_)
  rintro e w2 ⟨rfl, x2⟩
  have y2 := x1.trans x2
  go_wp2_with (go_at_call 13; refine (a_good _ (ht.ext y2)).mono ?_)
  rintro e w3 ⟨rfl, x3⟩
  have y3 := y2.trans x3
  go_wp2_with (go_at_call 13; refine (a_bad _ (ht.ext y3)).mono ?_)
  rintro e w4 ⟨rfl, x4⟩
  have y4 := y3.trans x4
  go_wp2_with (go_at_call 10; refine (a_cmp _).mono ?_)
  rintro e w5 ⟨rfl, x5⟩
  have y5 := y4.trans x5
  go_wp2
  go_ret
  exact ⟨rfl, y5⟩
end Go.Proofs.YtiopbhmohiggoaaDoor
