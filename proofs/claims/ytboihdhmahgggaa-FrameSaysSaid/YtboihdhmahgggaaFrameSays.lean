/- FrameSays: the walk. -/
import Derived.Test.YtboihdhmahgggaaFrameRest
import Derived.Test.YtboihdhmahgggaaRefFScan
set_option linter.unusedVariables false
set_option linter.unusedSimpArgs false
set_option maxRecDepth 100000
namespace Go.Proofs.Ytboihdhmahgggaa
open Go.RowKit Go.Proofs.YtboihdhmahgggaaW.PrintWords Go.Proofs.YtboihdhmahgggaaW.PrintLast CrcPure

theorem reff_ok (A1 A2 : Option Addr) (n1 c1 n2 c2 : Nat) (b r : List UInt8) (w : World) (h1 : Bs w A1 b) (h2 : Bs w A2 r) (hn1 : n1 = b.length) (hn2 : n2 = r.length) (hc2 : n2 ≤ c2) (hm1 : n1 ≤ 140737488200000) (hr : r.length ≤ 65536) :
    Calls Try.prog 19 #[.slice A1 n1 c1, .slice A2 n2 c2] w fun e w' => ∃ A c, e = .returned (.tuple #[.slice A (b.length + (9 + r.length)) c, .bool true]) ∧ b.length + (9 + r.length) ≤ c ∧ Bs w' A (b ++ fr r) ∧ Ext w w' := by
  refine (refframe_any A1 A2 n1 c1 n2 c2 b r w h1 h2 hn1 hn2 hc2 hm1).mono ?_
  rintro e w' ⟨x, rfl, ho, hx⟩
  have hl : (b ++ fr r).length = b.length + (9 + r.length) := by rw [List.length_append, fr_length]
  rw [show fput b r = b ++ fr r from if_neg (by omega)] at ho
  rw [decide_eq_true hr]
  obtain ⟨A, c, rfl, hc, hB⟩ := ho.reads
  rw [hl] at hc ⊢
  exact ⟨A, c, rfl, hc, hB, hx⟩

set_option maxHeartbeats 3200000 in
theorem fsays_any (A1 A2 : Option Addr) (c1 c2 : Nat) (b r : List UInt8) (w : World) (h1 : Bs w A1 b) (h2 : Bs w A2 r) (hc1 : b.length ≤ c1) (hc2 : r.length ≤ c2) :
    Calls Try.prog 9 #[.slice A1 b.length c1, .slice A2 r.length c2] w fun e w' => e = .returned (.bool true) ∧ Ext w w' := by
  go_enter Try.func9, Try.ntmps9
  go_wp2_with fail
  refine (awake3_any _).mono ?_
  rintro e w1 ⟨rfl, hx1⟩
  by_cases q1 : 400 < b.length
  · go_wp2
    all_goals go_ret
    all_goals exact ⟨rfl, hx1⟩
  by_cases q2 : 200 < r.length
  · go_wp2
    all_goals go_ret
    all_goals exact ⟨rfl, hx1⟩
  obtain ⟨F, HF⟩ : ∃ F, Hid (b ++ fr r = F) := ⟨_, Lib.hid rfl⟩
  obtain ⟨m, Hm⟩ : ∃ m, Hid (b.length + (9 + r.length) = m) := ⟨_, Lib.hid rfl⟩
  have hFl : m = F.length := by rw [← HF.out, List.length_append, fr_length, Hm.out]
  have HFl := Lib.hid hFl
  clear hFl
  go_wp2_with fail
  refine (put_ok A1 A2 b.length c1 r.length c2 b r w1 (h1.ext hx1) (h2.ext hx1) rfl rfl hc2 (by omega) (by omega)).mono ?_
  rintro e w2 ⟨A3, c3, rfl, hl3, hB3, _, hx2⟩
  rw [HF.out] at hB3
  rw [Hm.out] at hl3 ⊢
  have hX2 := hx1.trans hx2
  go_wp2_with fail
  refine (reff_ok A1 A2 b.length c1 r.length c2 b r w2 (h1.ext hX2) (h2.ext hX2) rfl rfl hc2 (by omega) (by omega)).mono ?_
  rintro e w3 ⟨A4, c4, rfl, hl4, hB4, hx3⟩
  rw [HF.out] at hB4
  rw [Hm.out] at hl4 ⊢
  have hX3 := hX2.trans hx3
  obtain ⟨q, Hq⟩ : ∃ q, Hid (fget b = q) := ⟨_, Lib.hid rfl⟩
  go_wp2_with fail
  refine (fget_any A1 b.length c1 b w3 (h1.ext hX3) rfl hc1 (by omega)).mono ?_
  rintro e w4 ⟨x5, y5, rfl, hox, hoy, hx4⟩
  rw [Hq.out] at hox hoy ⊢
  obtain ⟨A5, c5, rfl, hl5, hB5⟩ := hox.reads
  obtain ⟨A6, c6, rfl, hl6, hB6⟩ := hoy.reads
  clear hox hoy
  have hX4 := hX3.trans hx4
  go_wp2_with fail
  refine (rfget_any A1 b.length c1 b w4 (h1.ext hX4) rfl hc1 (by omega)).mono ?_
  rintro e w5 ⟨x7, y7, rfl, hox, hoy, hx5⟩
  rw [Hq.out] at hox hoy ⊢
  obtain ⟨A7, c7, rfl, hl7, hB7⟩ := hox
  obtain ⟨A8, c8, rfl, hl8, hB8⟩ := hoy
  have hX5 := hX4.trans hx5
  have hB7 := hB7 w h1
  have hB8 := hB8 w h1
  obtain ⟨s, Hs⟩ : ∃ s, Hid (fscan b.length b = s) := ⟨_, Lib.hid rfl⟩
  go_wp2_with fail
  refine (fscan_any A1 b.length c1 b w5 (h1.ext hX5) rfl hc1 (by omega)).mono ?_
  rintro e w6 ⟨v9, rfl, hx6, l9, ho9, hl9⟩
  rw [Hs.out] at hl9 ⊢
  obtain ⟨A9, c9, rfl, hc9, hB9⟩ := ho9.reads
  clear ho9
  have hX6 := hX5.trans hx6
  go_wp2_with fail
  refine (rfscan_any A1 b.length c1 b w6 (h1.ext hX6) rfl hc1 (by omega)).mono ?_
  rintro e w7 ⟨v10, rfl, hx7, l10, ho10, hl10⟩
  rw [Hs.out] at hl10 ⊢
  obtain ⟨A10, c10, rfl, hc10, hB10⟩ := ho10.reads
  clear ho10
  have hX7 := hX6.trans hx7
  rw [hl9] at hB9
  rw [hl10] at hB10
  have hln9 : l9.length = s.1.length := by rw [← hl9, List.length_map]
  have hln10 : l10.length = s.1.length := by rw [← hl10, List.length_map]
  rw [hln9, hln10]
  clear hl9 hl10 hc9 hc10 hln9 hln10
  have hsame := same_any A9 A10 s.1.length c9 s.1.length c10 s.1 s.1 w7 (hB9.ext hx7) hB10 rfl rfl
  rw [decide_eq_true rfl] at hsame
  have hv3 := (hB3.ext (hx3.trans (hx4.trans (hx5.trans (hx6.trans hx7))))).string m c3 HFl.out
  have hv4 := (hB4.ext (hx4.trans (hx5.trans (hx6.trans hx7)))).string m c4 HFl.out
  have hv5 := (hB5.ext (hx5.trans (hx6.trans hx7))).string q.1.length c5 rfl
  have hv6 := (hB6.ext (hx5.trans (hx6.trans hx7))).string q.2.1.length c6 rfl
  have hv7 := (hB7.ext hX7).string q.1.length c7 rfl
  have hv8 := (hB8.ext hX7).string q.2.1.length c8 rfl
  have hS := Str_toList
  go_wp2_with fail
  refine hsame.mono ?_
  rintro e w8 ⟨rfl, hx8⟩
  go_wp2
  go_ret
  exact ⟨rfl, hX7.trans hx8⟩

end Go.Proofs.Ytboihdhmahgggaa
