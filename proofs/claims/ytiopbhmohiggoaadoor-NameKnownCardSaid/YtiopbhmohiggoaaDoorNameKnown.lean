/- NameKnown: the walk. -/
import Derived.Test.YtiopbhmohiggoaaDoorNameSays
set_option linter.unusedVariables false
namespace Go.Proofs.YtiopbhmohiggoaaDoor
open Go.RowKit Go.Lib Go.Shelf Go.Proofs.YtiopbhmohiggoaaDoorW.PrintWords
set_option maxHeartbeats 4000000
set_option maxRecDepth 100000

theorem nk0_c : goodL (CH ⟨#[]⟩) = false := by kernel_rfl
theorem nk0 (w : World) (ht : Tabs w) : Calls Tryd.prog 13 #[.string ⟨#[]⟩] w fun e w' => e = .returned (.bool false) ∧ Ext w w' := by
  refine (good_any _ w (by decide) ht).mono ?_
  rintro e w' ⟨rfl, x⟩
  exact ⟨by rw [nk0_c], x⟩
theorem nk1_c : goodL (CH ⟨#[195, 169, 217, 163]⟩) = true := by kernel_rfl
theorem nk1 (w : World) (ht : Tabs w) : Calls Tryd.prog 13 #[.string ⟨#[195, 169, 217, 163]⟩] w fun e w' => e = .returned (.bool true) ∧ Ext w w' := by
  refine (good_any _ w (by decide) ht).mono ?_
  rintro e w' ⟨rfl, x⟩
  exact ⟨by rw [nk1_c], x⟩
theorem nk2_c : goodL (CH ⟨#[97, 32, 98]⟩) = false := by kernel_rfl
theorem nk2 (w : World) (ht : Tabs w) : Calls Tryd.prog 13 #[.string ⟨#[97, 32, 98]⟩] w fun e w' => e = .returned (.bool false) ∧ Ext w w' := by
  refine (good_any _ w (by decide) ht).mono ?_
  rintro e w' ⟨rfl, x⟩
  exact ⟨by rw [nk2_c], x⟩
theorem nk3_c : goodL (CH ⟨#[97, 255]⟩) = false := by kernel_rfl
theorem nk3 (w : World) (ht : Tabs w) : Calls Tryd.prog 13 #[.string ⟨#[97, 255]⟩] w fun e w' => e = .returned (.bool false) ∧ Ext w w' := by
  refine (good_any _ w (by decide) ht).mono ?_
  rintro e w' ⟨rfl, x⟩
  exact ⟨by rw [nk3_c], x⟩
theorem nk4_c : goodL (CH ⟨#[97, 239, 191, 189]⟩) = false := by kernel_rfl
theorem nk4 (w : World) (ht : Tabs w) : Calls Tryd.prog 13 #[.string ⟨#[97, 239, 191, 189]⟩] w fun e w' => e = .returned (.bool false) ∧ Ext w w' := by
  refine (good_any _ w (by decide) ht).mono ?_
  rintro e w' ⟨rfl, x⟩
  exact ⟨by rw [nk4_c], x⟩
theorem nk5_c : goodL (CH ⟨#[97, 98, 99, 100, 101, 102, 103, 104, 105, 106, 107, 108, 109, 110, 111, 112, 113, 114, 115, 116]⟩) = true := by kernel_rfl
theorem nk5 (w : World) (ht : Tabs w) : Calls Tryd.prog 13 #[.string ⟨#[97, 98, 99, 100, 101, 102, 103, 104, 105, 106, 107, 108, 109, 110, 111, 112, 113, 114, 115, 116]⟩] w fun e w' => e = .returned (.bool true) ∧ Ext w w' := by
  refine (good_any _ w (by decide) ht).mono ?_
  rintro e w' ⟨rfl, x⟩
  exact ⟨by rw [nk5_c], x⟩
theorem nk6_c : goodL (CH ⟨#[97, 98, 99, 100, 101, 102, 103, 104, 105, 106, 107, 108, 109, 110, 111, 112, 113, 114, 115, 116, 117]⟩) = false := by kernel_rfl
theorem nk6 (w : World) (ht : Tabs w) : Calls Tryd.prog 13 #[.string ⟨#[97, 98, 99, 100, 101, 102, 103, 104, 105, 106, 107, 108, 109, 110, 111, 112, 113, 114, 115, 116, 117]⟩] w fun e w' => e = .returned (.bool false) ∧ Ext w w' := by
  refine (good_any _ w (by decide) ht).mono ?_
  rintro e w' ⟨rfl, x⟩
  exact ⟨by rw [nk6_c], x⟩
theorem nk7_c : (CH ⟨#[255, 254]⟩).length = 2 := by kernel_rfl
theorem nk7 (w : World) : Calls Tryd.prog 11 #[.string ⟨#[255, 254]⟩] w fun e w' => e = .returned (.int .i64 2) ∧ Ext w w' := by
  refine (len_any _ w (by decide)).mono ?_
  rintro e w' ⟨rfl, x⟩
  exact ⟨by rw [nk7_c]; rfl, x⟩
theorem nk8_c : foldL (CH ⟨#[255]⟩) = [239, 191, 189] := by kernel_rfl
theorem nk8 (w : World) (ht : Tabs w) : Calls Tryd.prog 12 #[.string ⟨#[255]⟩] w fun e w' => e = .returned (.string ⟨#[239, 191, 189]⟩) ∧ Ext w w' := by
  refine (fold_any _ w (by decide) ht).mono ?_
  rintro e w' ⟨rfl, x⟩
  exact ⟨by rw [nk8_c], x⟩
theorem nk9_c : cutL ⟨#[97, 195, 169, 98]⟩ (2) = [97, 195, 169] := by kernel_rfl
theorem nk9 (w : World) : Calls Tryd.prog 14 #[.string ⟨#[97, 195, 169, 98]⟩, .int .i64 (2)] w fun e w' => e = .returned (.string ⟨#[97, 195, 169]⟩) ∧ Ext w w' := by
  refine (cut_any _ _ w (by decide)).mono ?_
  rintro e w' ⟨⟨r, rfl, h⟩, x⟩
  rw [nk9_c] at h
  obtain rfl : r = ⟨#[97, 195, 169]⟩ := bytes_ext h
  exact ⟨rfl, x⟩
theorem nk10_c : cutL ⟨#[97, 98]⟩ (-1) = [] := by kernel_rfl
theorem nk10 (w : World) : Calls Tryd.prog 14 #[.string ⟨#[97, 98]⟩, .int .i64 (-1)] w fun e w' => e = .returned (.string ⟨#[]⟩) ∧ Ext w w' := by
  refine (cut_any _ _ w (by decide)).mono ?_
  rintro e w' ⟨⟨r, rfl, h⟩, x⟩
  rw [nk10_c] at h
  obtain rfl : r = ⟨#[]⟩ := bytes_ext h
  exact ⟨rfl, x⟩
theorem nk11_c : cutL ⟨#[97, 98]⟩ (9) = [97, 98] := by kernel_rfl
theorem nk11 (w : World) : Calls Tryd.prog 14 #[.string ⟨#[97, 98]⟩, .int .i64 (9)] w fun e w' => e = .returned (.string ⟨#[97, 98]⟩) ∧ Ext w w' := by
  refine (cut_any _ _ w (by decide)).mono ?_
  rintro e w' ⟨⟨r, rfl, h⟩, x⟩
  rw [nk11_c] at h
  obtain rfl : r = ⟨#[97, 98]⟩ := bytes_ext h
  exact ⟨rfl, x⟩
theorem nk12_c : cmpL (zr ⟨#[97, 98]⟩) (zr ⟨#[97]⟩) = 1 := by kernel_rfl
theorem nk12 (w : World) : Calls Tryd.prog 10 #[.string ⟨#[97, 98]⟩, .string ⟨#[97]⟩] w fun e w' => e = .returned (.int .i64 1) ∧ Ext w w' := by
  refine (cmp_any _ _ w (by decide) (by decide)).mono ?_
  rintro e w' ⟨rfl, x⟩
  exact ⟨by rw [nk12_c], x⟩
theorem nk13_c : cmpL (zr ⟨#[255]⟩) (zr ⟨#[239, 191, 189]⟩) = 0 := by kernel_rfl
theorem nk13 (w : World) : Calls Tryd.prog 10 #[.string ⟨#[255]⟩, .string ⟨#[239, 191, 189]⟩] w fun e w' => e = .returned (.int .i64 0) ∧ Ext w w' := by
  refine (cmp_any _ _ w (by decide) (by decide)).mono ?_
  rintro e w' ⟨rfl, x⟩
  exact ⟨by rw [nk13_c], x⟩
theorem ns1_c : splitC 44 [] (CH ⟨#[97, 44, 44, 98]⟩) = [[97], [], [98]] := by kernel_rfl
theorem ns1 (w : World) : Calls Tryd.prog 15 #[.string ⟨#[97, 44, 44, 98]⟩, .int .i32 44] w fun e w' => ∃ v, e = .returned v ∧ So w' w.heap.size v [⟨#[97]⟩, ⟨#[]⟩, ⟨#[98]⟩] ∧ Ext w w' := by
  refine (split_any _ _ w (by decide)).mono ?_
  rintro e w' ⟨v, L, rfl, h, hl, x⟩
  rw [ns1_c] at hl
  obtain rfl : L = [⟨#[97]⟩, ⟨#[]⟩, ⟨#[98]⟩] := same_texts hl
  exact ⟨v, rfl, h, x⟩
theorem ns2_c : splitC 44 [] (CH ⟨#[]⟩) = [[]] := by kernel_rfl
theorem ns2 (w : World) : Calls Tryd.prog 15 #[.string ⟨#[]⟩, .int .i32 44] w fun e w' => ∃ v, e = .returned v ∧ So w' w.heap.size v [⟨#[]⟩] ∧ Ext w w' := by
  refine (split_any _ _ w (by decide)).mono ?_
  rintro e w' ⟨v, L, rfl, h, hl, x⟩
  rw [ns2_c] at hl
  obtain rfl : L = [⟨#[]⟩] := same_texts hl
  exact ⟨v, rfl, h, x⟩
theorem known_any (w : World) (ht : Tabs w) : Calls Tryd.prog 6 #[] w fun e w' => e = .returned (.bool true) ∧ Ext w w' := by
  go_enter Tryd.func6, Tryd.ntmps6
  go_wp2_with (go_at_call 9; refine (awake_any _ ht).mono ?_)
  rintro e w1 ⟨rfl, x1⟩
  go_wp2_with (go_at_call 15; refine (ns1 _).mono ?_)
  rintro e w2 ⟨v, rfl, h1, x2⟩
  obtain ⟨A1, c1, rfl, hc1, -⟩ := h1.shape
  obtain ⟨g1, rfl, k0⟩ := h1.at 0 _ rfl
  obtain ⟨g, e1, k1⟩ := h1.at 1 _ rfl
  injection e1 with e1; injection e1 with e1 _ _; subst e1
  obtain ⟨g, e2, k2⟩ := h1.at 2 _ rfl
  injection e2 with e2; injection e2 with e2 _ _; subst e2
  go_wp2_with (go_at_call 15; refine (ns2 _).mono ?_)
  rintro e w3 ⟨v, rfl, h2, x3⟩
  obtain ⟨A2, c2, rfl, hc2, -⟩ := h2.shape
  obtain ⟨g2, rfl, m0⟩ := h2.at 0 _ rfl
  have z0 := x1.trans (x2.trans x3)
  have zz0 := x3
  have mm0 := Ext.refl w3
  clear h1 h2
  go_wp2_with (go_at_call 13; refine (nk0 _ (ht.ext z0)).mono ?_)
  rintro e v0 ⟨rfl, y0⟩
  have z1 := z0.trans y0
  have mm1 := mm0.trans y0
  go_wp2_with (go_at_call 13; refine (nk1 _ (ht.ext z1)).mono ?_)
  rintro e v1 ⟨rfl, y1⟩
  have z2 := z1.trans y1
  have mm2 := mm1.trans y1
  go_wp2_with (go_at_call 13; refine (nk2 _ (ht.ext z2)).mono ?_)
  rintro e v2 ⟨rfl, y2⟩
  have z3 := z2.trans y2
  have mm3 := mm2.trans y2
  go_wp2_with (go_at_call 13; refine (nk3 _ (ht.ext z3)).mono ?_)
  rintro e v3 ⟨rfl, y3⟩
  have z4 := z3.trans y3
  have mm4 := mm3.trans y3
  go_wp2_with (go_at_call 13; refine (nk4 _ (ht.ext z4)).mono ?_)
  rintro e v4 ⟨rfl, y4⟩
  have z5 := z4.trans y4
  have mm5 := mm4.trans y4
  go_wp2_with (go_at_call 13; refine (nk5 _ (ht.ext z5)).mono ?_)
  rintro e v5 ⟨rfl, y5⟩
  have z6 := z5.trans y5
  have mm6 := mm5.trans y5
  go_wp2_with (go_at_call 13; refine (nk6 _ (ht.ext z6)).mono ?_)
  rintro e v6 ⟨rfl, y6⟩
  have z7 := z6.trans y6
  have mm7 := mm6.trans y6
  go_wp2_with (go_at_call 11; refine (nk7 _).mono ?_)
  rintro e v7 ⟨rfl, y7⟩
  have z8 := z7.trans y7
  have mm8 := mm7.trans y7
  go_wp2_with (go_at_call 12; refine (nk8 _ (ht.ext z8)).mono ?_)
  rintro e v8 ⟨rfl, y8⟩
  have z9 := z8.trans y8
  have mm9 := mm8.trans y8
  go_wp2_with (go_at_call 14; refine (nk9 _).mono ?_)
  rintro e v9 ⟨rfl, y9⟩
  have z10 := z9.trans y9
  have mm10 := mm9.trans y9
  go_wp2_with (go_at_call 14; refine (nk10 _).mono ?_)
  rintro e v10 ⟨rfl, y10⟩
  have z11 := z10.trans y10
  have mm11 := mm10.trans y10
  go_wp2_with (go_at_call 14; refine (nk11 _).mono ?_)
  rintro e v11 ⟨rfl, y11⟩
  have z12 := z11.trans y11
  have mm12 := mm11.trans y11
  go_wp2_with (go_at_call 10; refine (nk12 _).mono ?_)
  rintro e v12 ⟨rfl, y12⟩
  have z13 := z12.trans y12
  have mm13 := mm12.trans y12
  go_wp2_with (go_at_call 10; refine (nk13 _).mono ?_)
  rintro e v13 ⟨rfl, y13⟩
  have z14 := z13.trans y13
  have mm14 := mm13.trans y13
  have a0 := (x3.trans mm14).cell k0
  have a1 := (x3.trans mm14).cell k1
  have a2 := (x3.trans mm14).cell k2
  have b0 := mm14.cell m0
  simp only [List.length_cons, List.length_nil] at hc1 hc2
  go_wp2
  go_ret
  exact ⟨rfl, z14⟩
end Go.Proofs.YtiopbhmohiggoaaDoor
